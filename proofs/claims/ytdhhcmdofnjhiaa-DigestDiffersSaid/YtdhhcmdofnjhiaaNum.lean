/- What the functions of num and of the reference of layer 1 compute, over this translation. Condition of each: the lists have at most 2^40 elements. -/
import Derived.Test.YtdhhcmdofnjhiaaProg
import Derived.Test.YtdhhcmdofnjhiaaShelf
import Derived.Test.YtdhhcmdofnjhiaaData
import Derived.Test.YtdhhcmdofnjhiaaNumL
import Derived.Lib.OwnBridge
import Derived.Deep.QuietTactic
import Derived.BigQuiet
import Derived.Sort.OwnSortedInts
namespace Go.Proofs.Ytdhhcmdofnjhiaa
open Go.RowKit

theorem Try.infoInt : (Try.prog.info? 3).map (fun i => (i.zero, i.size, i.bytes)) = some (some (.int .i64 0), 1, 8) := by kernel_rfl
theorem Try.appInts : AppInfo Try.prog 24 3 1 8 := appInfo_mk _ Try.underlying24 Try.infoInt rfl (by decide)

theorem Try.ulInts : Try.prog.underlying 24 = some (.slice (Try.prog.elem 24)) := by kernel_rfl
theorem Try.szInts : ∀ w, (sizeOf (Try.prog.elem 24)).run Try.prog w = .ok 1 w := fun _ => by kernel_rfl

/-- The call gives back a slice of its own that reads as l; below block B nothing has changed. -/
def GivesInts (B : Nat) (w : World) (l : List Int) (e : Ending) (w' : World) : Prop :=
  ∃ v, e = .returned v ∧ w'.ownsRow B 3 1 v l.length (l.map (.int .i64)) ∧ Below w.heap.size w w'

theorem SlR.icells {w : World} {b o c : Nat} {s : Option Nat} {l : List Int} (h : Ints w (.slice (some ⟨b, o, s⟩) l.length c) l) (hl : 0 < l.length) :
    s = none ∧ ∀ j, j < l.length → w.cell? ⟨b, o + j, none⟩ = some (.int .i64 (l.getD j 0)) := by
  obtain ⟨a, c', e, h1, h2, h3, h4⟩ := h
  simp only [Value.slice.injEq] at e
  obtain ⟨rfl, -, rfl⟩ := e
  refine ⟨?_, fun j hj => ?_⟩
  · obtain ⟨b', o', cs, e1, -⟩ := h4 0 hl
    simp at e1; exact e1.2.2
  · obtain ⟨b', o', cs, e1, e2, e3, e4, e5⟩ := h4 j hj
    simp at e1
    obtain ⟨rfl, rfl, -⟩ := e1
    have := e4 0 (by omega)
    have e5' : cs = #[.int .i64 l[j]] := e5
    subst e5'
    simp at this
    rw [this]
    simp [List.getD, hj]

theorem clone_any (v : Value) (l : List Int) (w : World) (h : Ints w v l) (hn : l.length ≤ 1099511627776) :
    Calls Try.prog 50 #[v] w (GivesInts w.heap.size w l) := by
  have h0 := h
  obtain ⟨a, c, rfl, h1, h2, h3, h4⟩ := h
  rcases a with _ | ⟨b, o, s⟩
  · have hc := h3 rfl
    have hl : l = [] := List.eq_nil_of_length_eq_zero (by omega)
    subst hl
    refine (Try.slices_Clone_int_nil _ _ _).mono ?_
    rintro e w' ⟨rfl, h⟩; subst h
    exact ⟨_, rfl, World.ownsRow_nil _ _ _ _, Below.refl _ _⟩
  · cases hl : l with
    | nil =>
      subst hl
      refine (Try.slices_Clone_int_zero _ _ _).mono ?_
      rintro e w' ⟨v', rfl, h5, -, h6⟩
      exact ⟨_, rfl, h5, h6⟩
    | cons x r =>
      rw [← hl]
      obtain ⟨rfl, hc⟩ := SlR.icells h0 (by rw [hl]; simp)
      refine (Try.slices_Clone_int b o l.length c l w (Nat.le_refl _) (by omega) hc).mono ?_
      rintro e w' ⟨v', rfl, h5, -, h6⟩
      rw [List.take_length] at h5
      exact ⟨_, rfl, h5, h6⟩

/-- slices.Sort of a row of the call's own. -/
def SortsTo (base : Nat) (v : Value) (w : World) (l : List Int) (e : Ending) (w' : World) : Prop :=
  e = .returned (.tuple #[]) ∧ w'.ownsRow base 3 1 v l.length (l.map (.int .i64)) ∧ ∀ B W, B ≤ base → Below B W w → Below B W w'

theorem sort_own (base : Nat) (v : Value) (l : List Int) (w : World) (h : w.ownsRow base 3 1 v l.length (l.map (.int .i64))) (hb : base ≤ w.heap.size) (hn : l.length ≤ 1099511627776) :
    Calls Try.prog 53 #[v] w (SortsTo base v w (l.mergeSort fun x y => decide (x ≤ y))) := by
  rcases h.2 with ⟨rfl, h0⟩ | ⟨g, cap, cur, rfl, hbase, hg, hnc, hcm, hcs, htake⟩
  · have hl : l = [] := List.eq_nil_of_length_eq_zero h0
    subst hl
    refine (Try.slices_Sort_int_none _ _ _).mono ?_
    rintro e w' ⟨rfl, h⟩; subst h
    exact ⟨rfl, by simpa using World.ownsRow_nil _ _ _ _, fun B W _ hb => hb⟩
  · have hs : (l.mergeSort fun x y => decide (x ≤ y)).length = l.length := List.length_mergeSort _
    refine (Try.slices_Sort_int g 0 cap l w (holds_of_blockI hg (by simpa using htake)) (Array.getElem?_eq_some_iff.1 hg).1 (by omega)).mono ?_
    rintro e w' ⟨rfl, n, os, rfl⟩
    refine ⟨rfl, ?_, ?_⟩
    · rw [hs]; exact ownsRow_sortedI (os := os) (n := n) hs hbase hg hnc hcm hcs
    · intro B W hB hbl
      exact hbl.grown (grownBy_sortedI _) (by omega) (fun k hk => by cases hk; omega)

/-- slices.Compact of a row of the call's own. -/
def CompactsTo (base : Nat) (w : World) (l : List Int) (e : Ending) (w' : World) : Prop :=
  ∃ v, e = .returned v ∧ w'.ownsRow base 3 1 v l.length (l.map (.int .i64)) ∧ ∀ B W, B ≤ base → Below B W w → Below B W w'

theorem compact_own (base : Nat) (v : Value) (l : List Int) (w : World) (h : w.ownsRow base 3 1 v l.length (l.map (.int .i64))) (hn : l.length ≤ 1099511627776) :
    Calls Try.prog 54 #[v] w (CompactsTo base w (Lib.compact l)) := by
  rcases h.2 with ⟨rfl, h0⟩ | ⟨g, cap, cur, rfl, hbase, hg, hnc, hcm, hcs, htake⟩
  · have hl : l = [] := List.eq_nil_of_length_eq_zero h0
    subst hl
    refine (Try.slices_Compact_int_empty _ _ _).mono ?_
    rintro e w' ⟨rfl, h⟩; subst h
    exact ⟨_, rfl, World.ownsRow_nil _ _ _ _, fun B W _ hb => hb⟩
  · refine (Try.slices_Compact_int g 0 cap l w (holds_of_blockI hg (by simpa using htake)) (by omega) hnc).mono ?_
    rintro e w' ⟨rfl, q, rfl⟩
    have hle := Lib.compact_length_le l
    have hy : (Lib.compact l ++ List.replicate (l.length - (Lib.compact l).length) 0).length = l.length := by simp; omega
    refine ⟨_, rfl, ?_, ?_⟩
    · have := Lib.ownsRow_putRow (q := q) h hy hle
      rw [List.take_left' rfl] at this
      exact this
    · intro B W hB hbl
      exact Lib.below_putRow hbl (by omega)

set_option maxHeartbeats 400000 in
theorem num_Sorted (v : Value) (l : List Int) (w : World) (h : Ints w v l) (hn : l.length ≤ 1099511627776) :
    Calls Try.prog 49 #[v] w (GivesInts w.heap.size w (sortU l)) := by
  go_enter Try.func49, Try.ntmps49
  go_wp2_with fail
  refine (clone_any v l w h hn).mono ?_
  rintro e w1 ⟨v1, rfl, hown1, hb1⟩
  go_wp2_with fail
  refine (sort_own w.heap.size v1 l w1 hown1 hb1.size hn).mono ?_
  rintro e w2 ⟨rfl, hown2, hb2⟩
  have hb2' := hb2 _ _ (Nat.le_refl _) hb1
  clear hb2 hb1 hown1
  go_wp2_with fail
  refine (compact_own w.heap.size v1 _ w2 hown2 (by rw [List.length_mergeSort]; exact hn)).mono ?_
  rintro e w3 ⟨v3, rfl, hown3, hb3⟩
  have hb3' := hb3 _ _ (Nat.le_refl _) hb2'
  clear hb3 hb2' hown2
  rw [compact_sort] at hown3
  go_wp2
  go_ret
  exact ⟨v3, rfl, hown3, hb3'⟩

/-- The call gives back a Bool and changes nothing. -/
def GivesBool (b : Bool) (w : World) (e : Ending) (w' : World) : Prop := e = .returned (.bool b) ∧ w = w'
/-- The call gives back a Bool; it may have drawn. -/
def GivesBoolN (b : Bool) (w : World) (e : Ending) (w' : World) : Prop := e = .returned (.bool b) ∧ ∃ n, w' = w.drewN n
/-- The call gives back a slice that reads as l. -/
def GivesIntsR (w : World) (l : List Int) (e : Ending) (w' : World) : Prop := ∃ v, e = .returned v ∧ Ints w' v l ∧ Below w.heap.size w w'

theorem GivesInts.read {w : World} {l : List Int} {e : Ending} {w' : World} (h : GivesInts w.heap.size w l e w') : GivesIntsR w l e w' := by
  obtain ⟨v, rfl, h1, h2⟩ := h; exact ⟨v, rfl, ints_of_owns h1, h2⟩

theorem has_take_succ (l : List Int) (x : Int) (k : Nat) (hk : k < l.length) (h : hasB (l.take k) x = false) (h2 : (l[k] == x) = false) :
    hasB (l.take (k+1)) x = false := by
  rw [hasB_false] at h ⊢
  rw [List.take_succ_eq_append_getElem hk]
  simp only [List.mem_append, List.mem_singleton, not_or]
  exact ⟨h, fun e => by rw [e] at h2; simp at h2⟩

theorem has_hit (l : List Int) (x : Int) (k : Nat) (hk : k < l.length) (h : (l[k] == x) = true) : hasB l x = true := by
  rw [hasB_iff]; simp at h; rw [← h]; exact List.getElem_mem hk

set_option maxHeartbeats 400000 in
theorem r01_Has (v : Value) (l : List Int) (x : Int) (w : World) (h : Ints w v l) :
    Calls Try.prog 52 #[v, .int .i64 x] w (GivesBool (hasB l x) w) := by
  have h0 := h
  obtain ⟨a, c, rfl, h1, h2, -, -⟩ := h
  unfold maxLen at h2
  have hl : l.length ≤ 9223372036854775807 := by omega
  clear h1 h2
  go_enter Try.func52, Try.ntmps52
  go_wp2
  go_loop [5] (fun i => ∃ k : Nat, k ≤ l.length ∧ i = .int .i64 k ∧ hasB (l.take k) x = false) (fun i => l.length - (intOf i).toNat)
  case atStart => exact ⟨0, Nat.zero_le _, rfl, by simp [hasB]⟩
  case round =>
    obtain ⟨k, hk, rfl, hno⟩ := hrel
    have HN := Lib.hid hno; clear hno
    by_cases hlt : k < l.length
    · obtain ⟨b, o, rfl, hcell⟩ := h0.ielem hlt
      go_wp2
      · have hit : (l[k] == x) = true := by assumption
        go_ret
        exact ⟨by rw [has_hit l x k hlt hit]; rfl, rfl⟩
      · have hit : (l[k] == x) = false := by assumption
        go_round
        case rel => exact ⟨k + 1, by omega, by go_num, has_take_succ l x k hlt HN.out hit⟩
        case measure => simp [intOf]; omega
    · have hkn : k = l.length := by omega
      subst hkn
      have HN' := HN.out
      rw [List.take_length] at HN'
      have HN2 := Lib.hid HN'; clear HN'
      go_wp2
      go_ret
      exact ⟨by rw [HN2.out]; rfl, rfl⟩

theorem takeWhile_take (l : List Int) (x : Int) (k : Nat) (hk : k ≤ l.length) (h : ∀ j, (hj : j < k) → l[j]'(by omega) < x) (h2 : ∀ hlt : k < l.length, ¬ l[k] < x) :
    l.takeWhile (decide <| · < x) = l.take k ∧ l.dropWhile (decide <| · < x) = l.drop k := by
  induction l generalizing k with
  | nil => simp at hk; subst hk; exact ⟨rfl, rfl⟩
  | cons a r ih =>
    cases k with
    | zero =>
      have := h2 (by simp)
      simp at this
      rw [List.takeWhile_cons_of_neg (by simpa using this), List.dropWhile_cons_of_neg (by simpa using this)]
      exact ⟨rfl, rfl⟩
    | succ k =>
      have ha := h 0 (by omega)
      simp at ha
      rw [List.takeWhile_cons_of_pos (by simpa using ha), List.dropWhile_cons_of_pos (by simpa using ha)]
      have := ih k (by simp at hk; omega) (fun j hj => by have := h (j + 1) (by omega); simpa using this) (fun hlt => by have := h2 (by simp; omega); simpa using this)
      simp [this.1, this.2]

set_option maxRecDepth 100000 in
set_option maxHeartbeats 800000 in
theorem r01_Put (v : Value) (l : List Int) (x : Int) (w : World) (h : Ints w v l) (hn : l.length ≤ 1099511627776) :
    Calls Try.prog 37 #[v, .int .i64 x] w (GivesIntsR w (put l x)) := by
  have h0 := h
  obtain ⟨a, c, rfl, h1, h2, -, -⟩ := h
  by_cases hc : hasB l x = true
  · have HC := Lib.hid hc
    have hc' : put l x = l := by unfold put; rw [if_pos hc]
    have HP := Lib.hid hc'; clear hc hc' h1 h2
    go_enter Try.func37, Try.ntmps37
    go_wp2_with fail
    refine (r01_Has _ l x w h0).mono ?_
    rintro e w' ⟨rfl, rfl⟩
    rw [HC.out]
    go_wp2
    go_ret
    exact ⟨_, rfl, by rw [HP.out]; exact h0, Below.refl _ _⟩
  · have hc0 : hasB l x = false := by simpa using hc
    have HC := Lib.hid hc0
    have hc' : put l x = l.takeWhile (decide <| · < x) ++ x :: l.dropWhile (decide <| · < x) := by unfold put; rw [if_neg hc]
    have HP := Lib.hid hc'; clear hc hc' hc0
    go_enter Try.func37, Try.ntmps37
    go_wp2_with fail
    refine (r01_Has _ l x w h0).mono ?_
    rintro e w' ⟨rfl, rfl⟩
    rw [HC.out]
    go_wp2
    go_loop [5] (fun i => ∃ k : Nat, k ≤ l.length ∧ i = .int .i64 k ∧ ∀ j, (hj : j < l.length) → j < k → l[j] < x) (fun i => l.length - (intOf i).toNat)
    case atStart => exact ⟨0, Nat.zero_le _, rfl, fun j _ hj => by omega⟩
    case round =>
      obtain ⟨k, hk, rfl, hlow⟩ := hrel
      have HL := Lib.hid hlow; clear hlow
      by_cases hcond : ∃ hlt : k < l.length, l[k] < x
      · obtain ⟨hlt, hx⟩ := hcond
        obtain ⟨b, o, rfl, hcell⟩ := h0.ielem hlt
        go_wp2
        go_round
        case rel =>
          refine ⟨k + 1, by omega, by go_num, fun j hj hjk => ?_⟩
          by_cases e : j = k
          · subst e; exact hx
          · exact HL.out j hj (by omega)
        case measure => simp [intOf]; omega
      · have hput : put l x = l.take k ++ x :: l.drop k := by
          have := takeWhile_take l x k hk (fun j hj => HL.out j (by omega) hj) (fun hlt hx => hcond ⟨hlt, hx⟩)
          rw [HP.out, this.1, this.2]
        have HP2 := Lib.hid hput; clear hput
        have hown0 : (w.alloc (.cells #[] 3)).ownsRow w.heap.size 3 1 (.slice (some ⟨w.heap.size, 0, none⟩) 0 0) 0 [] := World.ownsRow_made w #[] 0 (Nat.le_refl _) (by simp [maxLen]) rfl
        have hb0 : Below w.heap.size w (w.alloc (.cells #[] 3)) := (Below.refl _ _).alloc (Nat.le_refl _) _
        have hI0 : Ints (w.alloc (.cells #[] 3)) (.slice a l.length c) l := h0.below IntC.mono hb0
        have fin : ∀ e W', (∃ v, e = .returned v ∧ W'.ownsRow w.heap.size 3 1 v (0 + k + 1 + (l.length - k)) ([] ++ (l.take k).map (.int .i64) ++ [.int .i64 x] ++ (l.drop k).map (.int .i64)) ∧ Below w.heap.size w W') → GivesIntsR w (put l x) e W' := by
          rintro e W' ⟨v, rfl, h5, h6⟩
          refine ⟨v, rfl, ?_, h6⟩
          rw [HP2.out]
          refine ints_of_owns (n := 0 + k + 1 + (l.length - k)) (base := w.heap.size) (e := 3) ?_
          simpa using h5
        have FIN := Lib.hid fin; clear fin
        by_cases hlt : k < l.length
        all_goals
          try (obtain ⟨b, o, rfl, hcell⟩ := h0.ielem hlt)
          try (have hge : ¬ l[k] < x := fun hx => hcond ⟨hlt, hx⟩)
          clear hcond
          have HI := Lib.hid hI0; clear hI0
          have HO := Lib.hid hown0; clear hown0
          go_wp2_with (first
            | (refine wpList_cut_hi rfl 24 _ _ rfl 1 Try.ulInts Try.szInts IntC l _ l.length c rfl HI.out k rfl (by omega) (by omega) ?_; intro v1 hv1; rw [Int.toNat_natCast] at hv1; have HV1 := Lib.hid hv1; clear hv1)
            | (refine wpList_app_src rfl (.tmp 25) (.tmp 28) 24 rfl w.heap.size 3 1 8 Try.appInts _ 0 [] rfl HO.out v1 rfl k ((l.take k).map (.int .i64)) (by have := SlR.isrc HV1.out; simpa [Nat.min_eq_left hk] using this) (by omega) (by omega) (by simp) ?_; intro v2 w2 hown2 hbel2 _; have HO2 := Lib.hid hown2; have hb2 := hbel2 _ _ (Nat.le_refl _) hb0; clear hown2 hbel2)
            | (refine wpList_app1 rfl (.tmp 30) (.tmp 32) 24 rfl w.heap.size 3 8 Try.appInts _ (0 + k) _ rfl w2 (.int .i64 x) rfl HO2.out _ rfl rfl rfl (by omega) (by omega) hb2.size ?_; intro v3 w3 hown3 hbel3 _; have HO3 := Lib.hid hown3; have hb3 := hbel3 _ _ (Nat.le_refl _) hb2; clear hown3 hbel3)
            | (refine wpList_cut_lo rfl 24 _ _ rfl 1 Try.ulInts Try.szInts IntC l _ l.length c rfl (h0.below IntC.mono hb3) k rfl (by omega) (by omega) ?_; intro v4 hv4; rw [Int.toNat_natCast] at hv4; have HV4 := Lib.hid hv4; clear hv4)
            | (refine wpList_app_src rfl (.tmp 34) (.tmp 37) 24 rfl w.heap.size 3 1 8 Try.appInts _ (0 + k + 1) _ rfl HO3.out v4 rfl (l.length - k) ((l.drop k).map (.int .i64)) (by have := SlR.isrc HV4.out; simpa using this) (by omega) (by omega) hb3.size ?_; intro v5 w5 hown5 hbel5 _; have HO5 := Lib.hid hown5; have hb5 := hbel5 _ _ (Nat.le_refl _) hb3; clear hown5 hbel5))
          go_ret
          exact FIN.out _ _ ⟨_, rfl, HO5.out, hb5⟩

/-- The first k put into acc. -/
def putsTo (acc l : List Int) (k : Nat) : List Int := (l.take k).foldl put acc
theorem putsTo_succ (acc l : List Int) (k : Nat) (hk : k < l.length) : putsTo acc l (k + 1) = put (putsTo acc l k) l[k] := by
  unfold putsTo; rw [List.take_succ_eq_append_getElem hk, List.foldl_append]; rfl
theorem put_length (l : List Int) (x : Int) : (put l x).length ≤ l.length + 1 := by
  unfold put
  split
  · omega
  · have := congrArg List.length (List.takeWhile_append_dropWhile (p := (decide <| · < x)) (l := l))
    simp only [List.length_append, List.length_cons] at this ⊢; omega
theorem putsTo_length (acc l : List Int) (k : Nat) : (putsTo acc l k).length ≤ acc.length + k := by
  have : ∀ (l acc : List Int), (l.foldl put acc).length ≤ acc.length + l.length := by
    intro l
    induction l with
    | nil => intro acc; simp
    | cons a r ih => intro acc; have h1 := ih (put acc a); have h2 := put_length acc a; simp only [List.foldl_cons, List.length_cons]; omega
  have h := this (l.take k) acc
  have h2 : (l.take k).length ≤ k := List.length_take_le _ _
  unfold putsTo; omega

set_option maxHeartbeats 400000 in
theorem r01_Sorted (v : Value) (l : List Int) (w : World) (h : Ints w v l) (hn : l.length ≤ 549755813888) :
    Calls Try.prog 36 #[v] w (GivesIntsR w (sortU l)) := by
  have h0 := h
  obtain ⟨a, c, rfl, -, -, -, -⟩ := h
  go_enter Try.func36, Try.ntmps36
  go_wp2
  go_loopw [3, 4] (fun v i wr => ∃ k : Nat, k ≤ l.length ∧ i = .int .i64 k ∧ Ints wr v (putsTo [] l k) ∧ Below w.heap.size w wr) (fun _ i _ => l.length - (intOf i).toNat)
  case atStart =>
    refine ⟨0, Nat.zero_le _, rfl, ?_, (Below.refl _ _).alloc (Nat.le_refl _) _⟩
    exact ints_of_owns (l := []) (World.ownsRow_made w #[] 0 (Nat.le_refl _) (by simp [maxLen]) rfl)
  case round =>
    obtain ⟨k, hk, rfl, hi, hb⟩ := hrel
    have hlen := putsTo_length [] l k
    simp only [List.length_nil] at hlen
    by_cases hlt : k < l.length
    · have hI := h0.below IntC.mono hb
      obtain ⟨b, o, rfl, hcell⟩ := hI.ielem hlt
      have HI := Lib.hid hI; clear hI
      have HV := Lib.hid hi; clear hi
      have HS := Lib.hid (putsTo_succ [] l k hlt)
      go_wp2_with fail
      refine (r01_Put _ _ _ _ HV.out (by omega)).mono ?_
      rintro e w1 ⟨v1, rfl, h1, hb1⟩
      have hb2 := hb.trans (hb1.mono hb.size)
      have HV1 := Lib.hid h1; clear h1 hb1
      go_wp2
      go_roundw
      case rel => exact ⟨k + 1, by omega, by go_num, by rw [HS.out]; exact HV1.out, hb2⟩
      case measure => simp [intOf]; omega
    · have hkn : k = l.length := by omega
      subst hkn
      have HV := Lib.hid hi; clear hi
      go_wp2
      go_ret
      exact ⟨_, rfl, by have := HV.out; unfold putsTo at this; rw [List.take_length] at this; exact this, hb⟩

set_option maxHeartbeats 400000 in
theorem r01_Union (v v2 : Value) (l l2 : List Int) (w : World) (h : Ints w v l) (h2 : Ints w v2 l2) (hn : l.length ≤ 274877906944) (hn2 : l2.length ≤ 274877906944) :
    Calls Try.prog 20 #[v, v2] w (GivesIntsR w (unionU l l2)) := by
  have h0 := h2
  obtain ⟨a, c, rfl, -, -, -, -⟩ := h2
  go_enter Try.func20, Try.ntmps20
  go_wp2_with fail
  refine (r01_Sorted _ _ _ h (by omega)).mono ?_
  rintro e w1 ⟨v1, rfl, h1, hb1⟩
  have HV := Lib.hid h1; clear h1
  go_wp2
  go_loopw [5, 6] (fun v i wr => ∃ k : Nat, k ≤ l2.length ∧ i = .int .i64 k ∧ Ints wr v (putsTo (sortU l) l2 k) ∧ Below w.heap.size w wr) (fun _ i _ => l2.length - (intOf i).toNat)
  case atStart => exact ⟨0, Nat.zero_le _, rfl, HV.out, hb1⟩
  case round =>
    obtain ⟨k, hk, rfl, hi, hb⟩ := hrel
    have hlen := putsTo_length (sortU l) l2 k
    have hsl : (sortU l).length ≤ 0 + l.length := by have := putsTo_length [] l l.length; unfold putsTo at this; rw [List.take_length] at this; exact this
    by_cases hlt : k < l2.length
    · have hI := h0.below IntC.mono hb
      obtain ⟨b, o, rfl, hcell⟩ := hI.ielem hlt
      have HI := Lib.hid hI; clear hI
      have HV := Lib.hid hi; clear hi
      have HS := Lib.hid (putsTo_succ (sortU l) l2 k hlt)
      go_wp2_with fail
      refine (r01_Put _ _ _ _ HV.out (by omega)).mono ?_
      rintro e w1 ⟨v1, rfl, h1, hb1⟩
      have hb2 := hb.trans (hb1.mono hb.size)
      have HV1 := Lib.hid h1; clear h1 hb1
      go_wp2
      go_roundw
      case rel => exact ⟨k + 1, by omega, by go_num, by rw [HS.out]; exact HV1.out, hb2⟩
      case measure => simp [intOf]; omega
    · have hkn : k = l2.length := by omega
      subst hkn
      have HV := Lib.hid hi; clear hi
      go_wp2
      go_ret
      exact ⟨_, rfl, by have := HV.out; unfold putsTo at this; rw [List.take_length] at this; exact this, hb⟩

/-- The first k of l that are not in b. -/
def minusTo (l b : List Int) (k : Nat) : List Int := (l.take k).filter (fun x => !hasB b x)
theorem minusTo_yes (l b : List Int) (k : Nat) (hk : k < l.length) (h : hasB b l[k] = false) : minusTo l b (k + 1) = minusTo l b k ++ [l[k]] := by
  unfold minusTo; rw [List.take_succ_eq_append_getElem hk, List.filter_append]; simp [h]
theorem minusTo_no (l b : List Int) (k : Nat) (hk : k < l.length) (h : hasB b l[k] = true) : minusTo l b (k + 1) = minusTo l b k := by
  unfold minusTo; rw [List.take_succ_eq_append_getElem hk, List.filter_append]; simp [h]
theorem minusTo_length (l b : List Int) (k : Nat) : (minusTo l b k).length ≤ k := by
  unfold minusTo
  have h1 := List.length_filter_le (fun x => !hasB b x) (l.take k)
  have h2 : (l.take k).length ≤ k := List.length_take_le _ _
  omega
/-- A row of the call's own that reads as l. -/
def OwnInts (base : Nat) (w : World) (v : Value) (l : List Int) : Prop := w.ownsRow base 3 1 v l.length (l.map (.int .i64))
theorem OwnInts.snoc {base : Nat} {w : World} {v : Value} {l : List Int} {x : Int} (h : w.ownsRow base 3 1 v (l.length + 1) (l.map (.int .i64) ++ [.int .i64 x])) : OwnInts base w v (l ++ [x]) := by
  unfold OwnInts; simpa using h

set_option maxRecDepth 100000 in
set_option maxHeartbeats 400000 in
theorem r01_Minus (v v2 : Value) (l l2 : List Int) (w : World) (h : Ints w v l) (h2 : Ints w v2 l2) (hn : l.length ≤ 274877906944) :
    Calls Try.prog 34 #[v, v2] w (GivesInts w.heap.size w (minusU l l2)) := by
  have hsl : (sortU l).length ≤ 0 + l.length := by have := putsTo_length [] l l.length; unfold putsTo at this; rw [List.take_length] at this; exact this
  have hmu : minusU l l2 = minusTo (sortU l) l2 (sortU l).length := by unfold minusU minusTo; rw [List.take_length]
  have HM := Lib.hid hmu; clear hmu
  go_enter Try.func34, Try.ntmps34
  go_wp2_with fail
  refine (r01_Sorted _ _ _ h (by omega)).mono ?_
  rintro e w1 ⟨v1, rfl, h1, hb1⟩
  generalize hS : sortU l = S at *
  clear hS
  have h10 := h1
  obtain ⟨a, c, rfl, -, -, -, -⟩ := h1
  go_wp2
  go_loopw [6, 7] (fun v i wr => ∃ k : Nat, k ≤ S.length ∧ i = .int .i64 k ∧ OwnInts w1.heap.size wr v (minusTo S l2 k) ∧ Below w1.heap.size w1 wr) (fun _ i _ => S.length - (intOf i).toNat)
  case atStart =>
    refine ⟨0, Nat.zero_le _, rfl, ?_, (Below.refl _ _).alloc (Nat.le_refl _) _⟩
    exact World.ownsRow_made w1 #[] 0 (Nat.le_refl _) (by simp [maxLen]) rfl
  case round =>
    obtain ⟨k, hk, rfl, hown, hb⟩ := hrel
    have hlen := minusTo_length S l2 k
    have HO := Lib.hid hown; clear hown
    by_cases hlt : k < S.length
    · have hI := h10.below IntC.mono hb
      obtain ⟨b, o, rfl, hcell⟩ := hI.ielem hlt
      have HI := Lib.hid hI; clear hI
      go_wp2_with fail
      refine (r01_Has _ _ _ _ ((h2.below IntC.mono hb1).below IntC.mono hb)).mono ?_
      rintro e w2 ⟨rfl, rfl⟩
      by_cases hh : hasB l2 S[k] = true
      · have HS := Lib.hid (minusTo_no S l2 k hlt hh)
        rw [hh]
        go_wp2
        go_roundw
        case rel => exact ⟨k + 1, by omega, by go_num, by rw [HS.out]; exact HO.out, hb⟩
        case measure => simp [intOf]; omega
      · have hh' : hasB l2 S[k] = false := by simpa using hh
        have HS := Lib.hid (minusTo_yes S l2 k hlt hh')
        rw [hh']
        clear hh hh'
        go_wp2_with (first
          | (refine wpList_app1 rfl _ _ 24 rfl w1.heap.size 3 8 Try.appInts _ _ _ rfl wr (.int .i64 S[k]) rfl HO.out _ rfl rfl rfl (by omega) (by omega) hb.size ?_; intro v3 w3 hown3 hbel3 _; have HO3 := Lib.hid (OwnInts.snoc hown3); have hb3 := hbel3 _ _ (Nat.le_refl _) hb; clear hown3 hbel3))
        go_roundw
        case rel => exact ⟨k + 1, by omega, by go_num, by rw [HS.out]; exact HO3.out, hb3⟩
        case measure => simp [intOf]; omega
    · have hkn : k = S.length := by omega
      subst hkn
      go_wp2
      go_ret
      refine ⟨_, rfl, ?_, hb1.trans (hb.mono hb1.size)⟩
      have := HO.out
      rw [HM.out]
      exact ownsRow_lower this hb1.size

set_option maxRecDepth 100000 in
set_option maxHeartbeats 400000 in
theorem num_Union (v v2 : Value) (l l2 : List Int) (w : World) (h : Ints w v l) (h2 : Ints w v2 l2) (hn : l.length ≤ 274877906944) (hn2 : l2.length ≤ 274877906944) :
    Calls Try.prog 32 #[v, v2] w (GivesInts w.heap.size w (unionU l l2)) := by
  have HU := Lib.hid (unionU_eq l l2)
  go_enter Try.func32, Try.ntmps32
  go_wp2_with fail
  refine (clone_any v l w h (by omega)).mono ?_
  rintro e w1 ⟨v1, rfl, hown1, hb1⟩
  have HO1 := Lib.hid hown1; clear hown1
  go_wp2_with (first
    | (refine wpList_app_src rfl _ _ 24 rfl w.heap.size 3 1 8 Try.appInts _ l.length _ rfl HO1.out v2 rfl l2.length (l2.map (.int .i64)) (h2.below IntC.mono hb1).isrc (by omega) (by omega) hb1.size ?_; intro v3 w3 hown3 hbel3 _; have HO3 := Lib.hid hown3; have hb3 := hbel3 _ _ (Nat.le_refl _) hb1; clear hown3 hbel3)
    | (go_at_call 49; refine (num_Sorted _ (l ++ l2) _ (ints_of_owns (n := l.length + l2.length) (by rw [List.map_append]; exact HO3.out)) (by rw [List.length_append]; omega)).mono ?_; rintro e w4 ⟨v4, rfl, hown4, hb4⟩; have HO4 := Lib.hid hown4; clear hown4; have hb5 := hb3.trans (hb4.mono hb3.size)))
  go_ret
  refine ⟨_, rfl, ?_, hb5⟩
  rw [HU.out]; exact ownsRow_lower HO4.out hb3.size

theorem search_any (v : Value) (l : List Int) (x : Int) (w : World) (h : Ints w v l) (hi : Inc l) (hn : l.length ≤ 274877906944) :
    Calls Try.prog 51 #[v, .int .i64 x] w fun e w' => ∃ i : Int, e = .returned (.tuple #[.int .i64 i, .bool (hasB l x)]) ∧ Below w.heap.size w w' := by
  have h0 := h
  obtain ⟨a, c, rfl, h1, h2, h3, h4⟩ := h
  cases hl : l with
  | nil =>
    refine (Try.slices_BinarySearch_int_empty _ _ _ _).mono ?_
    rintro e w' ⟨rfl, h⟩; subst h
    exact ⟨0, rfl, Below.refl _ _⟩
  | cons y r =>
    rw [← hl]
    rcases a with _ | ⟨b, o, s⟩
    · have := h3 rfl; rw [hl] at h1; simp at h1; omega
    · obtain ⟨rfl, hc⟩ := h0.icells (by rw [hl]; simp)
      refine (Try.slices_BinarySearch_int b o l.length c l x w (Nat.le_refl _) (by omega) hc (by rw [List.take_length]; exact hi.imp (by intro a b h; omega))).mono ?_
      rintro e w' ⟨rfl, q, rfl⟩
      rw [List.take_length]
      exact ⟨_, rfl, below_drewN (Below.refl _ _) q⟩

set_option maxRecDepth 100000 in
set_option maxHeartbeats 400000 in
theorem num_Minus (v v2 : Value) (l l2 : List Int) (w : World) (h : Ints w v l) (h2 : Ints w v2 l2) (hn : l.length ≤ 274877906944) (hn2 : l2.length ≤ 274877906944) :
    Calls Try.prog 33 #[v, v2] w (GivesInts w.heap.size w (minusU l l2)) := by
  have hsl : (sortU l).length ≤ 0 + l.length := by have := putsTo_length [] l l.length; unfold putsTo at this; rw [List.take_length] at this; exact this
  have hsl2 : (sortU l2).length ≤ 0 + l2.length := by have := putsTo_length [] l2 l2.length; unfold putsTo at this; rw [List.take_length] at this; exact this
  have hmu : minusU l l2 = minusTo (sortU l) (sortU l2) (sortU l).length := by
    unfold minusU minusTo
    rw [List.take_length]
    congr 1
    funext x
    congr 1
    by_cases hx : x ∈ l2
    · rw [hasB_iff.2 hx, hasB_iff.2 (mem_sortU.2 hx)]
    · rw [hasB_false.2 hx, hasB_false.2 (fun h => hx (mem_sortU.1 h))]
  have HM := Lib.hid hmu; clear hmu
  go_enter Try.func33, Try.ntmps33
  go_wp2_with fail
  refine (num_Sorted _ _ _ h2 (by omega)).mono ?_
  rintro e w1 ⟨v1, rfl, h1, hb1⟩
  have hI1 := ints_of_owns h1
  have HI1 := Lib.hid hI1; clear h1 hI1
  go_wp2_with fail
  refine (num_Sorted _ _ _ (h.below IntC.mono hb1) (by omega)).mono ?_
  rintro e w2 ⟨v2', rfl, h2', hb2⟩
  have hI2 := ints_of_owns h2'
  have hS1 : Ints w2 v1 (sortU l2) := HI1.out.below IntC.mono hb2
  have hinc := inc_sortU l2
  clear h2'
  generalize sortU l = S at *
  generalize sortU l2 = S2 at *
  have h10 := hI2
  obtain ⟨a, c, rfl, -, -, -, -⟩ := hI2
  go_wp2
  go_loopw [6, 16] (fun v i wr => ∃ k : Nat, k ≤ S.length ∧ i = .int .i64 k ∧ OwnInts w2.heap.size wr v (minusTo S S2 k) ∧ Below w2.heap.size w2 wr) (fun _ i _ => S.length - (intOf i).toNat)
  case atStart => exact ⟨0, Nat.zero_le _, rfl, World.ownsRow_nil _ _ _ _, Below.refl _ _⟩
  case round =>
    obtain ⟨k, hk, rfl, hown, hb⟩ := hrel
    have hlen := minusTo_length S S2 k
    have HO := Lib.hid hown; clear hown
    by_cases hlt : k < S.length
    · have hI := h10.below IntC.mono hb
      obtain ⟨b, o, rfl, hcell⟩ := hI.ielem hlt
      have HI := Lib.hid hI; clear hI
      go_wp2_with fail
      refine (search_any _ _ _ _ (hS1.below IntC.mono hb) hinc (by omega)).mono ?_
      rintro e w3 ⟨ix, rfl, hb3⟩
      have hb4 := hb.trans (hb3.mono hb.size)
      have HO3 := Lib.hid (ownsRow_stay HO.out hb3)
      have h3sz := hb4.size
      clear hb3
      by_cases hh : hasB S2 S[k] = true
      · have HS := Lib.hid (minusTo_no S S2 k hlt hh)
        rw [hh]
        go_wp2
        go_roundw
        case rel => exact ⟨k + 1, by omega, by go_num, by rw [HS.out]; exact HO3.out, hb4⟩
        case measure => simp [intOf]; omega
      · have hh' : hasB S2 S[k] = false := by simpa using hh
        have HS := Lib.hid (minusTo_yes S S2 k hlt hh')
        rw [hh']
        clear hh hh'
        go_wp2_with (first
          | (refine wpList_app1 rfl _ _ 24 rfl w2.heap.size 3 8 Try.appInts _ _ _ rfl w3 (.int .i64 S[k]) rfl HO3.out _ rfl rfl rfl (by omega) (by omega) hb4.size ?_; intro v5 w5 hown5 hbel5 _; have HO5 := Lib.hid (OwnInts.snoc hown5); have hb5 := hbel5 _ _ (Nat.le_refl _) hb4; clear hown5 hbel5))
        go_roundw
        case rel => exact ⟨k + 1, by omega, by go_num, by rw [HS.out]; exact HO5.out, hb5⟩
        case measure => simp [intOf]; omega
    · have hkn : k = S.length := by omega
      subst hkn
      go_wp2
      go_ret
      refine ⟨_, rfl, ?_, (hb1.trans (hb2.mono hb1.size)).trans (hb.mono (Nat.le_trans hb1.size hb2.size))⟩
      have := HO.out
      rw [HM.out]
      exact ownsRow_lower this (Nat.le_trans hb1.size hb2.size)

def sameB (a b : List Int) : Bool := decide (a = b)

theorem same_miss (a b : List Int) (k : Nat) (h1 : k < a.length) (h2 : k < b.length) (h : (a[k] != b[k]) = true) : sameB a b = false := by
  unfold sameB; rw [decide_eq_false_iff_not]; rintro rfl; simp at h
theorem same_hit (a b : List Int) (hl : a.length = b.length) (h : ∀ j, (h1 : j < a.length) → (h2 : j < b.length) → a[j] = b[j]) : sameB a b = true := by
  unfold sameB; rw [decide_eq_true_eq]; exact List.ext_getElem hl fun i h1 h2 => h i h1 h2

set_option maxHeartbeats 400000 in
theorem r01_Same (v v2 : Value) (l l2 : List Int) (w : World) (h : Ints w v l) (h2 : Ints w v2 l2) :
    Calls Try.prog 11 #[v, v2] w (GivesBoolN (sameB l l2) w) := by
  have h0 := h
  have h20 := h2
  obtain ⟨a, c, rfl, h3, h4, -, -⟩ := h
  obtain ⟨a2, c2, rfl, h5, h6, -, -⟩ := h2
  unfold maxLen at h4 h6
  have hl : l.length ≤ 9223372036854775807 := by omega
  have hl2 : l2.length ≤ 9223372036854775807 := by omega
  clear h3 h4 h5 h6
  by_cases hlen : l.length = l2.length
  · have HL := Lib.hid hlen; 
    have hne : ((l.length : Int) != (l2.length : Int)) = false := by rw [hlen]; simp
    clear hlen
    go_enter Try.func11, Try.ntmps11
    go_wp2
    go_loopw [5] (fun i wr => ∃ k q : Nat, k ≤ l.length ∧ i = .int .i64 k ∧ (∀ j, j < k → (h1 : j < l.length) → (h2 : j < l2.length) → l[j] = l2[j]) ∧ wr = w.drewN q) (fun i _ => l.length - (intOf i).toNat)
    case atStart => exact ⟨0, 0, Nat.zero_le _, rfl, fun j hj => by omega, rfl⟩
    case round =>
      obtain ⟨k, q, hk, rfl, hsame, rfl⟩ := hrel
      have HN := Lib.hid hsame; clear hsame
      by_cases hlt : k < l.length
      · have hlt2 : k < l2.length := by have := HL.out; omega
        obtain ⟨b, o, rfl, hcell⟩ := h0.ielem hlt
        obtain ⟨b2, o2, rfl, hcell2⟩ := h20.ielem hlt2
        go_wp2
        go_quiet (fail)
        go_wp2
        · have hit : (l[k] != l2[k]) = true := by assumption
          go_ret
          exact ⟨by rw [same_miss l l2 k hlt hlt2 hit]; rfl, q + nq, World.drewN_drewN _ _ _⟩
        · have hit : (l[k] != l2[k]) = false := by assumption
          go_roundw
          case rel =>
            refine ⟨k + 1, q + nq, by omega, by go_num, fun j hj h1 h2 => ?_, rfl⟩
            by_cases e : j = k
            · subst e; simpa using hit
            · exact HN.out j (by omega) h1 h2
          case measure => simp [intOf]; omega
      · have hyes := same_hit l l2 HL.out (fun j h1 h2 => HN.out j (by omega) h1 h2)
        have HY := Lib.hid hyes; clear hyes
        go_wp2
        go_ret
        exact ⟨by rw [HY.out]; rfl, _, rfl⟩
  · have hne : ((l.length : Int) != (l2.length : Int)) = true := by simp; omega
    have hno : sameB l l2 = false := by unfold sameB; rw [decide_eq_false_iff_not]; rintro rfl; exact hlen rfl
    have HN := Lib.hid hno; clear hno hlen
    go_enter Try.func11, Try.ntmps11
    go_wp2
    go_ret
    exact ⟨by rw [HN.out]; rfl, 0, rfl⟩
end Go.Proofs.Ytdhhcmdofnjhiaa
