/- The chapter's examples hold: 'live' answers true. No condition. Lines of this text were written by gen_live.py. -/
import Derived.Test.YtdhhcmdofnjhiaaPair
namespace Go.Proofs.Ytdhhcmdofnjhiaa
open Go.RowKit

theorem gen_world {P : Program} {c : Code} {Q : Exit → Act → World → Prop} {a : Act} {w : World} (h : ∀ W, w = W → Code.wp P c Q a W) : Code.wp P c Q a w := h w rfl
theorem gen_slots {P : Program} {c : Code} {Q : Exit → Act → World → Prop} {w : World} {d : List Deferred} (s0 s1 s2 s3 x4 x5 x6 x7 x8 x9 x10 x11 x12 x13 x14 x15 x16 x17 x18 x19 : Value) (tl : List Value)
    (h : ∀ x4 x5 x6 x7 x8 x9 x10 x11 x12 x13 x14 x15 x16 x17 x18 x19, Code.wp P c Q ⟨(s0 :: s1 :: s2 :: s3 :: x4 :: x5 :: x6 :: x7 :: x8 :: x9 :: x10 :: x11 :: x12 :: x13 :: x14 :: x15 :: x16 :: x17 :: x18 :: x19 :: tl).toArray, d⟩ w) :
    Code.wp P c Q ⟨(s0 :: s1 :: s2 :: s3 :: x4 :: x5 :: x6 :: x7 :: x8 :: x9 :: x10 :: x11 :: x12 :: x13 :: x14 :: x15 :: x16 :: x17 :: x18 :: x19 :: tl).toArray, d⟩ w := h _ _ _ _ _ _ _ _ _ _ _ _ _ _ _ _
def emptyLvs : Lvs := ⟨[], [], 0, 0, 0, 0, 0, 0, 0⟩
def emptyCont : Cont := ⟨{ data := #[] }, 0, 0, false, { data := #[] }, [], [], emptyLvs⟩
def ev0 (id : Int) : Ev := ⟨id, { data := #[] }, { data := #[] }, 0, false, { data := #[] }, 0, 0, [], [], emptyCont, 0, ⟨{ data := #[] }, 0⟩⟩
def evc (id : Int) : Array Value := #[.int .i64 id, .string { data := #[] }, .string { data := #[] }, .int .i64 0, .bool false, .string { data := #[] }, .int .i64 0, .int .i64 0, .slice none 0 0, .slice none 0 0, .string { data := #[] }, .int .i64 0, .int .i64 0, .bool false, .string { data := #[] }, .slice none 0 0, .slice none 0 0, .slice none 0 0, .slice none 0 0, .int .i64 0, .int .i64 0, .int .i64 0, .int .i64 0, .int .i64 0, .int .i64 0, .int .i64 0, .int .i64 0, .string { data := #[] }, .int .i64 0]
def roomA : Rm := ⟨{ data := #[33, 114, 58, 97] }, [ev0 1, ev0 2], [⟨0, 1, 4, false⟩, ⟨1, 2, 3, false⟩], [], [], [], 0, [], []⟩
def roomB : Rm := ⟨{ data := #[33, 114, 58, 97] }, [ev0 2, ev0 3], [], [], [], [], 0, [], []⟩
def roomC : Rm := ⟨{ data := #[33, 114, 58, 97] }, [ev0 1, ev0 2], [⟨0, 2, 4, true⟩, ⟨1, 1, 4, false⟩], [], [], [], 0, [], []⟩

theorem nilSl {α : Type} {sz : Nat} {R : World → Array Value → α → Prop} (w : World) : SlR sz R w (.slice none 0 0) [] := ⟨none, 0, rfl, Nat.le_refl _, by simp [maxLen], fun _ => rfl, fun i hi => by simp at hi⟩
theorem evc_reads (w : World) (id : Int) : EvC w (evc id) (ev0 id) := ⟨_, _, _, _, _, _, rfl, nilSl w, nilSl w, nilSl w, nilSl w, nilSl w, nilSl w⟩

/-- Two elements in one block. -/
theorem two_elems {α : Type} {sz : Nat} {R : World → Array Value → α → Prop} {w : World} {g : Nat} {t : TypeId} (c1 c2 : Array Value) (x y : α) (h : w.heap[g]? = some (.cells (c1 ++ c2) t (0, 0))) (h1 : c1.size = sz) (h2 : c2.size = sz)
    (o1 : c1.all (·.oneCell') = true) (o2 : c2.all (·.oneCell') = true) (r1 : R w c1 x) (r2 : R w c2 y) : SlR sz R w (.slice (some ⟨g, 0, none⟩) 2 2) [x, y] := by
  refine ⟨_, 2, rfl, by simp, by simp [maxLen], fun h => by simp at h, fun i hi => ?_⟩
  have hi' : i = 0 ∨ i = 1 := by simp at hi; omega
  rcases hi' with rfl | rfl
  · refine ⟨g, 0, c1, rfl, h1, o1, ?_, r1⟩
    intro j hj
    rw [cell_of_row _ _ _ _ _ _ h]
    simp [Array.getElem?_append, hj, Array.getD]
  · refine ⟨g, 0, c2, rfl, h2, o2, ?_, r2⟩
    intro j hj
    rw [cell_of_row _ _ _ _ _ _ h]
    have : ¬ (0 + 1 * sz + j < c1.size) := by omega
    simp only [Array.getElem?_append, if_neg this]
    have e : 0 + 1 * sz + j - c1.size = j := by omega
    rw [e]
    simp [hj, Array.getD]

theorem evc_one (id : Int) : (evc id).all (·.oneCell') = true := by simp [evc, Value.oneCell']
theorem rowc_one (x : RowD) : (rowCells x).all (·.oneCell') = true := by simp [rowCells, Value.oneCell']
/-- The world that live makes for its examples. -/
structure LiveW (w W : World) : Prop where
  a : RmC W #[.string { data := #[33, 114, 58, 97] }, .slice (some ⟨w.heap.size, 0, none⟩) 2 2, .slice (some ⟨w.heap.size + 1, 0, none⟩) 2 2, .slice none 0 0, .slice none 0 0, .slice none 0 0, .int .i64 0, .slice none 0 0, .slice none 0 0] roomA
  b : RmC W #[.string { data := #[33, 114, 58, 97] }, .slice (some ⟨w.heap.size + 1 + 1 + 1, 0, none⟩) 2 2, .slice none 0 0, .slice none 0 0, .slice none 0 0, .slice none 0 0, .int .i64 0, .slice none 0 0, .slice none 0 0] roomB
  c : RmC W #[.string { data := #[33, 114, 58, 97] }, .slice (some ⟨w.heap.size, 0, none⟩) 2 2, .slice (some ⟨w.heap.size + 1 + 1 + 1 + 1 + 1 + 1, 0, none⟩) 2 2, .slice none 0 0, .slice none 0 0, .slice none 0 0, .int .i64 0, .slice none 0 0, .slice none 0 0] roomC
  ka : ∀ k, W.cell? ⟨w.heap.size + 1 + 1, k, none⟩ = (#[.string { data := #[33, 114, 58, 97] }, .slice (some ⟨w.heap.size, 0, none⟩) 2 2, .slice (some ⟨w.heap.size + 1, 0, none⟩) 2 2, .slice none 0 0, .slice none 0 0, .slice none 0 0, .int .i64 0, .slice none 0 0, .slice none 0 0] : Array Value)[k]?
  kb : ∀ k, W.cell? ⟨w.heap.size + 1 + 1 + 1 + 1, k, none⟩ = (#[.string { data := #[33, 114, 58, 97] }, .slice (some ⟨w.heap.size + 1 + 1 + 1, 0, none⟩) 2 2, .slice none 0 0, .slice none 0 0, .slice none 0 0, .slice none 0 0, .int .i64 0, .slice none 0 0, .slice none 0 0] : Array Value)[k]?
  kc : ∀ k, W.cell? ⟨w.heap.size + 1 + 1 + 1 + 1 + 1, k, none⟩ = (#[.string { data := #[33, 114, 58, 97] }, .slice (some ⟨w.heap.size, 0, none⟩) 2 2, .slice (some ⟨w.heap.size + 1 + 1 + 1 + 1 + 1 + 1, 0, none⟩) 2 2, .slice none 0 0, .slice none 0 0, .slice none 0 0, .int .i64 0, .slice none 0 0, .slice none 0 0] : Array Value)[k]?
  size : W.heap.size = w.heap.size + 7
  below : Below w.heap.size w W

set_option maxRecDepth 100000 in
set_option maxHeartbeats 4000000 in
theorem live_world (w W : World) (b0 b1 b2 b3 b4 b5 b6 : Array Value) (hW : (((((((w.alloc (.cells b0 65)).alloc (.cells b1 43)).alloc (.cells b2 30)).alloc (.cells b3 65)).alloc (.cells b4 30)).alloc (.cells b5 30)).alloc (.cells b6 43)) = W) (h0 : b0 = evc 1 ++ evc 2) (h1 : b1 = rowCells ⟨0, 1, 4, false⟩ ++ rowCells ⟨1, 2, 3, false⟩) (h2 : b2 = #[.string { data := #[33, 114, 58, 97] }, .slice (some ⟨w.heap.size, 0, none⟩) 2 2, .slice (some ⟨w.heap.size + 1, 0, none⟩) 2 2, .slice none 0 0, .slice none 0 0, .slice none 0 0, .int .i64 0, .slice none 0 0, .slice none 0 0]) (h3 : b3 = evc 2 ++ evc 3) (h4 : b4 = #[.string { data := #[33, 114, 58, 97] }, .slice (some ⟨w.heap.size + 1 + 1 + 1, 0, none⟩) 2 2, .slice none 0 0, .slice none 0 0, .slice none 0 0, .slice none 0 0, .int .i64 0, .slice none 0 0, .slice none 0 0]) (h5 : b5 = #[.string { data := #[33, 114, 58, 97] }, .slice (some ⟨w.heap.size, 0, none⟩) 2 2, .slice (some ⟨w.heap.size + 1 + 1 + 1 + 1 + 1 + 1, 0, none⟩) 2 2, .slice none 0 0, .slice none 0 0, .slice none 0 0, .int .i64 0, .slice none 0 0, .slice none 0 0]) (h6 : b6 = rowCells ⟨0, 2, 4, true⟩ ++ rowCells ⟨1, 1, 4, false⟩) : LiveW w W := by
  have hblk0 : W.heap[w.heap.size]? = some (.cells b0 65 (0, 0)) := by
    subst hW
    rw [Below.heap_alloc _ _ _ (by simp <;> omega)]
    rw [Below.heap_alloc _ _ _ (by simp <;> omega)]
    rw [Below.heap_alloc _ _ _ (by simp <;> omega)]
    rw [Below.heap_alloc _ _ _ (by simp <;> omega)]
    rw [Below.heap_alloc _ _ _ (by simp <;> omega)]
    rw [Below.heap_alloc _ _ _ (by simp <;> omega)]
    exact heap_alloc_new w _
  have hblk1 : W.heap[w.heap.size + 1]? = some (.cells b1 43 (0, 0)) := by
    subst hW
    rw [Below.heap_alloc _ _ _ (by simp <;> omega)]
    rw [Below.heap_alloc _ _ _ (by simp <;> omega)]
    rw [Below.heap_alloc _ _ _ (by simp <;> omega)]
    rw [Below.heap_alloc _ _ _ (by simp <;> omega)]
    rw [Below.heap_alloc _ _ _ (by simp <;> omega)]
    have h := heap_alloc_new (w.alloc (.cells b0 65)) (.cells b1 43)
    have e : (w.alloc (.cells b0 65)).heap.size = w.heap.size + 1 := by simp
    rw [e] at h; exact h
  have hblk2 : W.heap[w.heap.size + 1 + 1]? = some (.cells b2 30 (0, 0)) := by
    subst hW
    rw [Below.heap_alloc _ _ _ (by simp <;> omega)]
    rw [Below.heap_alloc _ _ _ (by simp <;> omega)]
    rw [Below.heap_alloc _ _ _ (by simp <;> omega)]
    rw [Below.heap_alloc _ _ _ (by simp <;> omega)]
    have h := heap_alloc_new ((w.alloc (.cells b0 65)).alloc (.cells b1 43)) (.cells b2 30)
    have e : ((w.alloc (.cells b0 65)).alloc (.cells b1 43)).heap.size = w.heap.size + 1 + 1 := by simp
    rw [e] at h; exact h
  have hblk3 : W.heap[w.heap.size + 1 + 1 + 1]? = some (.cells b3 65 (0, 0)) := by
    subst hW
    rw [Below.heap_alloc _ _ _ (by simp <;> omega)]
    rw [Below.heap_alloc _ _ _ (by simp <;> omega)]
    rw [Below.heap_alloc _ _ _ (by simp <;> omega)]
    have h := heap_alloc_new (((w.alloc (.cells b0 65)).alloc (.cells b1 43)).alloc (.cells b2 30)) (.cells b3 65)
    have e : (((w.alloc (.cells b0 65)).alloc (.cells b1 43)).alloc (.cells b2 30)).heap.size = w.heap.size + 1 + 1 + 1 := by simp
    rw [e] at h; exact h
  have hblk4 : W.heap[w.heap.size + 1 + 1 + 1 + 1]? = some (.cells b4 30 (0, 0)) := by
    subst hW
    rw [Below.heap_alloc _ _ _ (by simp <;> omega)]
    rw [Below.heap_alloc _ _ _ (by simp <;> omega)]
    have h := heap_alloc_new ((((w.alloc (.cells b0 65)).alloc (.cells b1 43)).alloc (.cells b2 30)).alloc (.cells b3 65)) (.cells b4 30)
    have e : ((((w.alloc (.cells b0 65)).alloc (.cells b1 43)).alloc (.cells b2 30)).alloc (.cells b3 65)).heap.size = w.heap.size + 1 + 1 + 1 + 1 := by simp
    rw [e] at h; exact h
  have hblk5 : W.heap[w.heap.size + 1 + 1 + 1 + 1 + 1]? = some (.cells b5 30 (0, 0)) := by
    subst hW
    rw [Below.heap_alloc _ _ _ (by simp <;> omega)]
    have h := heap_alloc_new (((((w.alloc (.cells b0 65)).alloc (.cells b1 43)).alloc (.cells b2 30)).alloc (.cells b3 65)).alloc (.cells b4 30)) (.cells b5 30)
    have e : (((((w.alloc (.cells b0 65)).alloc (.cells b1 43)).alloc (.cells b2 30)).alloc (.cells b3 65)).alloc (.cells b4 30)).heap.size = w.heap.size + 1 + 1 + 1 + 1 + 1 := by simp
    rw [e] at h; exact h
  have hblk6 : W.heap[w.heap.size + 1 + 1 + 1 + 1 + 1 + 1]? = some (.cells b6 43 (0, 0)) := by
    subst hW
    have h := heap_alloc_new ((((((w.alloc (.cells b0 65)).alloc (.cells b1 43)).alloc (.cells b2 30)).alloc (.cells b3 65)).alloc (.cells b4 30)).alloc (.cells b5 30)) (.cells b6 43)
    have e : ((((((w.alloc (.cells b0 65)).alloc (.cells b1 43)).alloc (.cells b2 30)).alloc (.cells b3 65)).alloc (.cells b4 30)).alloc (.cells b5 30)).heap.size = w.heap.size + 1 + 1 + 1 + 1 + 1 + 1 := by simp
    rw [e] at h; exact h
  have hsz : W.heap.size = w.heap.size + 7 := by subst hW; simp
  have hbe : Below w.heap.size w W := by
    subst hW
    exact ((((((((Below.refl _ _).alloc (Nat.le_refl _) _).alloc (by simp) _).alloc (by simp <;> omega) _).alloc (by simp <;> omega) _).alloc (by simp <;> omega) _).alloc (by simp <;> omega) _).alloc (by simp <;> omega) _)
  clear hW
  subst h0 h1 h2 h3 h4 h5 h6
  have e12 : Evs W (.slice (some ⟨w.heap.size, 0, none⟩) 2 2) [ev0 1, ev0 2] := two_elems _ _ _ _ hblk0 rfl rfl (evc_one _) (evc_one _) (evc_reads _ _) (evc_reads _ _)
  have e23 : Evs W (.slice (some ⟨w.heap.size + 1 + 1 + 1, 0, none⟩) 2 2) [ev0 2, ev0 3] := two_elems _ _ _ _ hblk3 rfl rfl (evc_one _) (evc_one _) (evc_reads _ _) (evc_reads _ _)
  have ra : SlR 4 RowC W (.slice (some ⟨w.heap.size + 1, 0, none⟩) 2 2) roomA.rows := two_elems _ _ _ _ hblk1 rfl rfl (rowc_one _) (rowc_one _) rfl rfl
  have rc : SlR 4 RowC W (.slice (some ⟨w.heap.size + 1 + 1 + 1 + 1 + 1 + 1, 0, none⟩) 2 2) roomC.rows := two_elems _ _ _ _ hblk6 rfl rfl (rowc_one _) (rowc_one _) rfl rfl
  exact ⟨⟨_, _, _, _, _, _, _, rfl, e12, ra, nilSl W, nilSl W, nilSl W, nilSl W, nilSl W⟩, ⟨_, _, _, _, _, _, _, rfl, e23, nilSl W, nilSl W, nilSl W, nilSl W, nilSl W, nilSl W⟩,
    ⟨_, _, _, _, _, _, _, rfl, e12, rc, nilSl W, nilSl W, nilSl W, nilSl W, nilSl W⟩,
    fun k => cell_of_row _ _ _ _ _ _ hblk2, fun k => cell_of_row _ _ _ _ _ _ hblk4, fun k => cell_of_row _ _ _ _ _ _ hblk5, hsz, hbe⟩

theorem smallA : SmallRm roomA := ⟨by decide, by decide, by decide, fun x hx => by simp [roomA] at hx⟩
theorem smallC : SmallRm roomC := ⟨by decide, by decide, by decide, fun x hx => by simp [roomC] at hx⟩
theorem bytesAC : roomBytes roomC = roomBytes roomA := by
  simp [roomBytes, stTo, evTo, evPart, roomA, roomC, findRow, verdictOf, ev0]
theorem liveDiffer : sameB (differU roomA roomB) [1, 3] = true := by decide +kernel
theorem liveCommon : sameB (commonU roomA roomB) [2] = true := by decide +kernel
theorem liveBehind1 : behindU roomA roomB = 1 := by decide +kernel
theorem liveBehind2 : behindU roomB roomA = 1 := by decide +kernel
theorem liveSame1 : sameU roomA roomB = false := by decide +kernel
theorem liveSame2 : sameU roomA roomC = true := by decide +kernel

theorem r01_SameB (v v2 : Value) (l l2 : List Int) (w : World) (h : Ints w v l) (h2 : Ints w v2 l2) :
    Calls Try.prog 11 #[v, v2] w (GivesBoolB (sameB l l2) w) :=
  (r01_Same v v2 l l2 w h h2).mono fun e w' ⟨he, n, hw⟩ => ⟨he, by rw [hw]; exact below_drewN (Below.refl _ _) n⟩

/-- A list written out, in a block of its own. -/
theorem lit_ints (w : World) (l : List Int) (t : TypeId) : Ints (w.alloc (.cells (l.map (Value.int .i64)).toArray t)) (.slice (some ⟨w.heap.size, 0, none⟩) l.length l.length) l ∨ 9223372036854775807 < l.length := by
  by_cases hl : l.length ≤ 9223372036854775807
  · left
    refine ints_of_owns (base := w.heap.size) (e := t) (n := l.length) ⟨by simp, .inr ⟨w.heap.size, l.length, _, rfl, Nat.le_refl _, heap_alloc_new w _, Nat.le_refl _, by unfold maxLen; omega, by simp, ?_⟩⟩
    rw [Nat.mul_one]
    have e : l.length = (l.map (Value.int .i64)).length := by simp
    show List.take l.length (l.map (Value.int .i64)) = _
    rw [e, List.take_length]
  · right; omega
theorem lit13 (w : World) : Ints (w.alloc (.cells #[.int .i64 1, .int .i64 3] 3)) (.slice (some ⟨w.heap.size, 0, none⟩) 2 2) [1, 3] := by
  rcases lit_ints w [1, 3] 3 with h | h
  · exact h
  · simp at h
theorem lit2 (w : World) : Ints (w.alloc (.cells #[.int .i64 2] 3)) (.slice (some ⟨w.heap.size, 0, none⟩) 1 1) [2] := by
  rcases lit_ints w [2] 3 with h | h
  · exact h
  · simp at h


end Go.Proofs.Ytdhhcmdofnjhiaa
