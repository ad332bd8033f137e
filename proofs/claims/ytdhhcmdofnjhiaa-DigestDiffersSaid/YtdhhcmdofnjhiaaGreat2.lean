/- What the references' two functions Great answer. No condition. -/
import Derived.Test.YtdhhcmdofnjhiaaGreat
namespace Go.Proofs.Ytdhhcmdofnjhiaa
open Go.RowKit

noncomputable def greatEvs (l : List Ev) (n : Int) : Bool := decide (n < l.length) || l.any longEv
noncomputable def greatTo (l : List Ev) (k : Nat) : Bool := (l.take k).any longEv
theorem greatTo_succ (l : List Ev) (k : Nat) (hk : k < l.length) (h : greatTo l k = false) : greatTo l (k + 1) = longEv l[k] := by
  unfold greatTo at *
  rw [List.take_succ_eq_append_getElem hk, List.any_append, h]; simp

theorem SlR.ev {α : Type} {sz : Nat} {R : World → Array Value → α → Prop} {w : World} {a : Option Addr} {n c : Nat} {l : List α} (h : SlR sz R w (.slice a n c) l) {k : Nat} (hk : k < l.length) :
    ∃ b o cs, a = some ⟨b, o, none⟩ ∧ cs.size = sz ∧ cs.all (·.oneCell') = true ∧ (∀ j, j < sz → w.cell? ⟨b, o + k * sz + j, none⟩ = some (cs.getD j undef)) ∧ R w cs l[k] := by
  obtain ⟨a', c', e, h1, h2, h3, h4⟩ := h
  simp only [Value.slice.injEq] at e
  obtain ⟨rfl, -, rfl⟩ := e
  obtain ⟨b, o, cs, e1, e2, e3, e4, e5⟩ := h4 k hk
  exact ⟨b, o, cs, e1, e2, e3, e4.at29 e2, e5⟩

set_option maxRecDepth 100000 in
set_option maxHeartbeats 400000 in
theorem r08_Great (v : Value) (l : List Ev) (n : Int) (w : World) (h : Evs w v l) (b : Bool) (hb : greatEvs l n = b) :
    Calls Try.prog 22 #[v, .int .i64 n] w (GivesBoolB b w) := by
  have h0 := h
  obtain ⟨a, c, rfl, h1, h2, -, -⟩ := h
  unfold maxLen at h2
  have hl : l.length ≤ 9223372036854775807 := by omega
  clear h1 h2
  by_cases hn : n < l.length
  · have hd : decide (n < (l.length : Int)) = true := by simpa using hn
    have hbt : b = true := by rw [← hb]; unfold greatEvs; simp [hn]
    subst hbt
    clear hb hn
    go_enter Try.func22, Try.ntmps22
    go_wp2
    go_ret
    exact ⟨rfl, Below.refl _ _⟩
  · have hd : decide (n < (l.length : Int)) = false := by simpa using hn
    have hbt : b = greatTo l l.length := by rw [← hb]; unfold greatEvs greatTo; rw [hd, List.take_length]; simp
    have HB := Lib.hid hbt
    clear hb hn hbt
    go_enter Try.func22, Try.ntmps22
    go_wp2
    go_loopw [5] (fun i wr => ∃ k : Nat, k ≤ l.length ∧ i = .int .i64 k ∧ greatTo l k = false ∧ Below w.heap.size w wr) (fun i _ => l.length - (intOf i).toNat)
    case atStart => exact ⟨0, Nat.zero_le _, rfl, by simp [greatTo], Below.refl _ _⟩
    case round =>
      obtain ⟨k, hk, rfl, hno, hbl⟩ := hrel
      have HN := Lib.hid hno; clear hno
      by_cases hlt : k < l.length
      · have hI := h0.below EvC.mono hbl
        obtain ⟨b', o, es, rfl, hsz, hone, hcell, hR⟩ := hI.ev hlt
        have HS := Lib.hid hsz; have HC := Lib.hid hcell
        have HG := Lib.hid (greatTo_succ l k hlt HN.out)
        clear hsz hone hcell
        by_cases hq : longEv l[k] = true
        · have hyes : b = true := by
            rw [HB.out]
            unfold greatTo
            rw [List.take_length, List.any_eq_true]
            exact ⟨_, List.getElem_mem hlt, hq⟩
          have HY := Lib.hid hyes; have HQ := Lib.hid hq; clear hyes hq
          go_wp2_with (first
            | ((with_reducible show wpList _ _ _ (⟨some 19, _, _, _, _, _⟩ :: _) _ _); refine wpList_load_agg rfl _ _ rfl b' (o + k * 29) rfl es 29 Try.isAgg65 Try.sizeOf65 HS.out HC.out ?_)
            | (go_at_call 38; refine (r08_Long es l[k] wr hR).mono ?_; rintro e w1 ⟨rfl, hb1⟩; rw [HQ.out]; have hb2 := hbl.trans (hb1.mono hbl.size)))
          go_ret
          exact ⟨by rw [HY.out]; rfl, hb2⟩
        · have hq' : longEv l[k] = false := by simpa using hq
          have HQ := Lib.hid hq'; clear hq hq'
          go_wp2_with (first
            | ((with_reducible show wpList _ _ _ (⟨some 19, _, _, _, _, _⟩ :: _) _ _); refine wpList_load_agg rfl _ _ rfl b' (o + k * 29) rfl es 29 Try.isAgg65 Try.sizeOf65 HS.out HC.out ?_)
            | (go_at_call 38; refine (r08_Long es l[k] wr hR).mono ?_; rintro e w1 ⟨rfl, hb1⟩; rw [HQ.out]; have hb2 := hbl.trans (hb1.mono hbl.size)))
          go_roundw
          case rel => exact ⟨k + 1, by omega, by go_num, by rw [HG.out]; exact HQ.out, hb2⟩
          case measure => simp [intOf]; omega
      · have hkn : k = l.length := by omega
        subst hkn
        go_wp2
        go_ret
        exact ⟨by rw [HB.out, HN.out]; rfl, hbl⟩

/-- Is the room too great for the statements? -/
def farRm (r : Rm) (n : Int) : Prop := greatEvs r.events n = true ∨ greatEvs r.waiting n = true ∨ n < r.rows.length ∨ 40 < r.heads.length ∨ 60 < r.state.length ∨ 40 < r.receipts.length ∨ 40 < r.typing.length ∨ 2000 < r.id.size
def farRm2 (r : Rm) : Prop := (∃ s ∈ r.state, 2000 < s.key.size) ∨ (∃ s ∈ r.receipts, 2000 < s.user.size) ∨ (∃ u ∈ r.typing, 2000 < u.user.size)
open Classical in
noncomputable def greatRm (r : Rm) (n : Int) : Bool := decide (farRm r n ∨ farRm2 r)

theorem first8 (a b c d e f g i : Prop) (h : a ∨ b ∨ c ∨ d ∨ e ∨ f ∨ g ∨ i) :
    a ∨ (¬ a ∧ b) ∨ (¬ a ∧ ¬ b ∧ c) ∨ (¬ a ∧ ¬ b ∧ ¬ c ∧ d) ∨ (¬ a ∧ ¬ b ∧ ¬ c ∧ ¬ d ∧ e) ∨ (¬ a ∧ ¬ b ∧ ¬ c ∧ ¬ d ∧ ¬ e ∧ f) ∨ (¬ a ∧ ¬ b ∧ ¬ c ∧ ¬ d ∧ ¬ e ∧ ¬ f ∧ g) ∨ (¬ a ∧ ¬ b ∧ ¬ c ∧ ¬ d ∧ ¬ e ∧ ¬ f ∧ ¬ g ∧ i) := by
  by_cases ha : a
  · exact .inl ha
  by_cases hb : b
  · exact .inr (.inl ⟨ha, hb⟩)
  have h' : c ∨ d ∨ e ∨ f ∨ g ∨ i := by rcases h with h | h | h
                                        · contradiction
                                        · contradiction
                                        · exact h
  rcases first6 _ _ _ _ _ _ h' with q | q | q | q | q | q
  · exact .inr (.inr (.inl ⟨ha, hb, q⟩))
  · exact .inr (.inr (.inr (.inl ⟨ha, hb, q⟩)))
  · exact .inr (.inr (.inr (.inr (.inl ⟨ha, hb, q⟩))))
  · exact .inr (.inr (.inr (.inr (.inr (.inl ⟨ha, hb, q⟩)))))
  · exact .inr (.inr (.inr (.inr (.inr (.inr (.inl ⟨ha, hb, q⟩))))))
  · exact .inr (.inr (.inr (.inr (.inr (.inr (.inr ⟨ha, hb, q⟩))))))

theorem dec_lt {n : Int} {m : Nat} (h : n < m) : decide (n < (m : Int)) = true := by simpa using h
theorem dec_ge {n : Int} {m : Nat} (h : ¬ n < m) : decide (n < (m : Int)) = false := by simpa using h
theorem no60 {n : Nat} (h : ¬ 60 < n) : decide ((60 : Int) < (n : Int)) = false := by simp; omega
theorem yes60 {n : Nat} (h : 60 < n) : decide ((60 : Int) < (n : Int)) = true := by simp; omega
end Go.Proofs.Ytdhhcmdofnjhiaa
