/- A region whose order is drawn, walked once: each operation is shown by itself, in every world that the region may have come to. No program. No condition. -/
import Derived.Test.YtdhhcmdofnjhiaaBase
namespace Go.Proofs.Ytdhhcmdofnjhiaa
open Go.RowKit

section
variable {P : Program} {ops : Array Oper} {Q : Exit → Act → World → Prop}

/-- How many operations are still to come. -/
def toCome (listed : Array Bool) : Nat := (listed.toList.filter (!·)).length

theorem toCome_set {listed : Array Bool} {i : Nat} (hi : i < listed.size) (h : listed.getD i true = false) : toCome (listed.setIfInBounds i true) + 1 = toCome listed := by
  unfold toCome
  have hl : listed.toList[i]'(by simpa using hi) = false := by simpa [Array.getD, hi] using h
  have e : listed.toList = listed.toList.take i ++ false :: listed.toList.drop (i + 1) := by
    rw [← hl, List.getElem_cons_drop, List.take_append_drop]
  have e2 : (listed.setIfInBounds i true).toList = listed.toList.take i ++ true :: listed.toList.drop (i + 1) := by
    rw [Array.toList_setIfInBounds, List.set_eq_take_append_cons_drop, if_pos (by simpa using hi)]
  rw [e2]
  conv => rhs; rw [e]
  simp [List.filter_append]
  omega

theorem wpAny_of_inv (I : Array Bool → Act → World → Prop) (hsize : ∀ l a w, I l a w → l.size = ops.size)
    (hstep : ∀ l a w, I l a w → ∀ i, i ∈ Region.ready .any ops l → wpOp P ops Q i (fun a' w' => I (l.setIfInBounds i true) a' w') a w)
    (hend : ∀ l a w, I l a w → Region.ready .any ops l = [] → Q .normal a w) :
    ∀ (fuel : Nat) l a w, toCome l ≤ fuel → I l a w → wpAny P .any ops Q fuel l a w := by
  intro fuel
  induction fuel with
  | zero =>
    intro l a w hc hI
    have hr : Region.ready .any ops l = [] := by
      unfold Region.ready
      rw [List.filter_eq_nil_iff]
      intro i hi
      have hi' : i < l.size := by rw [hsize l a w hI]; simpa using hi
      have hz : l.toList.filter (!·) = [] := List.eq_nil_of_length_eq_zero (by unfold toCome at hc; omega)
      rw [List.filter_eq_nil_iff] at hz
      have := hz (l[i]) (by simp)
      have hli : l[i] = true := by simpa using this
      simp [Array.getD, hi', hli]
    exact ⟨hr, hend l a w hI hr⟩
  | succ fuel ih =>
    intro l a w hc hI
    refine ⟨hend l a w hI, fun i hi => ?_⟩
    have hi2 := hi
    unfold Region.ready at hi2
    rw [List.mem_filter] at hi2
    have hi' : i < l.size := by rw [hsize l a w hI]; simpa using hi2.1
    have hf : l.getD i true = false := by
      have := hi2.2
      simp only [Bool.and_eq_true, Bool.not_eq_true'] at this
      exact this.1
    have hs := toCome_set hi' hf
    exact wpOp_mono (fun a' w' h => ih _ a' w' (by omega) h) (hstep l a w hI i hi)

/-- The slots that the region writes. -/
def written (ops : Array Oper) : List Tmp := ops.toList.filterMap (·.dst)
/-- Each operation waits for earlier ones alone; no slot is written twice. -/
def edgesOk (ops : Array Oper) : Bool := (List.range ops.size).all fun i => match ops[i]? with
  | some o => o.after.toList.all fun (e : Edge) => decide (e.on < i)
  | none => true
def dstsOk (ops : Array Oper) : Bool := (List.range ops.size).all fun i => (List.range ops.size).all fun j => i == j || match (ops[i]?).bind (·.dst), (ops[j]?).bind (·.dst) with
  | some d, some d' => d != d'
  | _, _ => true
def slotsOk (ops : Array Oper) (n : Nat) : Bool := (written ops).all fun d => decide (d < n)

theorem edgesOk_spec (h : edgesOk ops = true) : ∀ (i : Nat) (o : Oper), ops[i]? = some o → ∀ e ∈ o.after.toList, e.on < i := by
  intro i o ho e he
  unfold edgesOk at h
  rw [List.all_eq_true] at h
  have hi : i < ops.size := (Array.getElem?_eq_some_iff.1 ho).1
  have := h i (by simpa using hi)
  rw [ho] at this
  rw [List.all_eq_true] at this
  simpa using this e he
theorem dstsOk_spec (h : dstsOk ops = true) : ∀ (i j : Nat) (o o' : Oper) (d : Tmp), ops[i]? = some o → ops[j]? = some o' → o.dst = some d → o'.dst = some d → i = j := by
  intro i j o o' d h1 h2 h3 h4
  unfold dstsOk at h
  rw [List.all_eq_true] at h
  have hi : i < ops.size := (Array.getElem?_eq_some_iff.1 h1).1
  have hj : j < ops.size := (Array.getElem?_eq_some_iff.1 h2).1
  have := h i (by simpa using hi)
  rw [List.all_eq_true] at this
  have := this j (by simpa using hj)
  rw [h1, h2] at this
  simp [h3, h4] at this
  exact this
theorem mem_written {i : Nat} {o : Oper} {d : Tmp} (h : ops[i]? = some o) (hd : o.dst = some d) : d ∈ written ops := by
  unfold written
  rw [List.mem_filterMap]
  exact ⟨o, by
    have ⟨hi, he⟩ := Array.getElem?_eq_some_iff.1 h
    rw [← he]; exact Array.getElem_mem_toList hi, hd⟩

/-- What operation i is asked: in a world that has grown from W, with the earlier slots as told, it yields a value as told. -/
def Does (P : Program) (ops : Array Oper) (Q : Exit → Act → World → Prop) (φ : Nat → Value → World → Prop) (W : World) (a0 : Act) (i : Nat) : Prop :=
  ∀ a w o, ops[i]? = some o → Below W.heap.size W w → a.tmps.size = a0.tmps.size → (∀ t, t ∉ written ops → a.tmps.getD t undef = a0.tmps.getD t undef) →
    (∀ e, e ∈ o.after.toList → Region.binds .any e = true → ∀ (o' : Oper) (d : Tmp), ops[e.on]? = some o' → o'.dst = some d → φ e.on (a.tmps.getD d undef) w) →
    wpOp P ops Q i (fun a' w' => ∃ v, a' = a.put o.dst v ∧ φ i v w' ∧ Below w.heap.size w w') a w

theorem getD_put_same {a : Act} {d : Tmp} {v : Value} (h : d < a.tmps.size) : (a.put (some d) v).tmps.getD d undef = v := by
  simp [Act.put, Array.getD, h]
theorem getD_put_other {a : Act} {d t : Tmp} {v : Value} (h : d ≠ t) : (a.put (some d) v).tmps.getD t undef = a.tmps.getD t undef := by
  simp [Act.put, Array.getD_eq_getD_getElem?, Array.getElem?_setIfInBounds_ne h]
theorem size_put {a : Act} {d : Option Tmp} {v : Value} : (a.put d v).tmps.size = a.tmps.size := by cases d <;> simp [Act.put]
theorem defers_put {a : Act} {d : Option Tmp} {v : Value} : (a.put d v).defers = a.defers := by cases d <;> rfl

theorem wp_region_stable {id : Nat} {a0 : Act} {W : World} (hm : P.follows .mixedOrders = true) (he : edgesOk ops = true) (hd : dstsOk ops = true) (hs : slotsOk ops a0.tmps.size = true)
    (φ : Nat → Value → World → Prop) (hφ : ∀ i v w w', Below w.heap.size w w' → φ i v w → φ i v w')
    (hops : ∀ i, i < ops.size → Does P ops Q φ W a0 i)
    (hQ : ∀ a w, Below W.heap.size W w → a.tmps.size = a0.tmps.size → a.defers = a0.defers → (∀ t, t ∉ written ops → a.tmps.getD t undef = a0.tmps.getD t undef) →
      (∀ (i : Nat) (o : Oper) (d : Tmp), ops[i]? = some o → o.dst = some d → φ i (a.tmps.getD d undef) w) → Q .normal a w) :
    (Code.region id ops true).wp P Q a0 W := by
  have hedge := edgesOk_spec he
  have hinj := dstsOk_spec hd
  have hslot : ∀ (i : Nat) (o : Oper) (d : Tmp), ops[i]? = some o → o.dst = some d → d < a0.tmps.size := by
    intro i o d h1 h2
    unfold slotsOk at hs
    rw [List.all_eq_true] at hs
    simpa using hs d (mem_written h1 h2)
  refine wp_region_any hm ?_
  let I : Array Bool → Act → World → Prop := fun l a w => l.size = ops.size ∧ Below W.heap.size W w ∧ a.tmps.size = a0.tmps.size ∧ a.defers = a0.defers ∧
    (∀ t, t ∉ written ops → a.tmps.getD t undef = a0.tmps.getD t undef) ∧ (∀ (i : Nat) (o : Oper) (d : Tmp), ops[i]? = some o → o.dst = some d → l.getD i false = true → φ i (a.tmps.getD d undef) w)
  refine wpAny_of_inv I (fun l a w h => h.1) ?_ ?_ ops.size _ _ _ ?_ ?_
  · rintro l a w ⟨h1, h2, h3, h4, h5, h6⟩ i hi
    unfold Region.ready at hi
    rw [List.mem_filter] at hi
    obtain ⟨hi1, hi2⟩ := hi
    have hi' : i < ops.size := by simpa using hi1
    have ho : ops[i]? = some ops[i] := by simp [hi']
    simp only [Bool.and_eq_true] at hi2
    have hdeps := hi2.2
    rw [ho] at hdeps
    simp only [Option.map_some, Option.getD_some] at hdeps
    have hdeps' := fun e he => (Array.all_eq_true_iff_forall_mem.1 hdeps) e he
    refine wpOp_mono ?_ (hops i hi' a w ops[i] ho h2 h3 h5 ?_)
    · rintro a' w' ⟨v, rfl, hv, hb⟩
      refine ⟨by simp [h1], h2.trans (hb.mono h2.size), by rw [size_put]; exact h3, by rw [defers_put]; exact h4, ?_, ?_⟩
      · intro t ht
        cases hdst : ops[i].dst with
        | none => exact h5 t ht
        | some d =>
          have hne : d ≠ t := fun e => ht (e ▸ mem_written ho hdst)
          rw [getD_put_other hne]; exact h5 t ht
      · intro k o d hk hkd hl
        by_cases hik : i = k
        · subst hik
          rw [ho] at hk
          obtain rfl := Option.some.inj hk
          rw [hkd, getD_put_same (by rw [h3]; exact hslot i _ d ho hkd)]
          exact hv
        · have hl' : l.getD k false = true := by
            simp only [Array.getD_eq_getD_getElem?, Array.getElem?_setIfInBounds_ne hik] at hl ⊢
            exact hl
          have := hφ k _ _ _ hb (h6 k o d hk hkd hl')
          cases hdst : ops[i].dst with
          | none => exact this
          | some d' =>
            have hne : d' ≠ d := fun e => hik (hinj i k _ _ d' ho hk hdst (e ▸ hkd))
            rw [getD_put_other hne]; exact this
    · intro e he hbe o' d ho' hd'
      have := hdeps' e (by simpa using he)
      simp only [hbe, Bool.not_true, Bool.false_or] at this
      exact h6 e.on o' d ho' hd' this
  · rintro l a w ⟨h1, h2, h3, h4, h5, h6⟩ hr
    have hall : ∀ n i, i < n → i < ops.size → l.getD i false = true := by
      intro n
      induction n with
      | zero => intro i hi; omega
      | succ n ih =>
        intro i hi hi2
        by_cases hn : i < n
        · exact ih i hn hi2
        · have hin : i = n := by omega
          subst hin
          rw [← Bool.not_eq_false]
          intro hf
          have ho : ops[i]? = some ops[i] := by simp [hi2]
          have hmem : i ∈ Region.ready .any ops l := by
            unfold Region.ready
            rw [List.mem_filter]
            refine ⟨by simpa using hi2, ?_⟩
            have hil : i < l.size := by omega
            have hf' : l.getD i true = false := by simp [Array.getD, hil] at hf ⊢; exact hf
            rw [hf', ho]
            simp only [Bool.not_false, Bool.true_and, Option.map_some, Option.getD_some]
            rw [Array.all_eq_true_iff_forall_mem]
            intro e he
            have hlt := hedge i _ ho e (by simpa using he)
            rw [ih e.on (by omega) (by omega)]
            simp
          rw [hr] at hmem
          simp at hmem
    exact hQ a w h2 h3 h4 h5 (fun i o d h7 h8 => h6 i o d h7 h8 (hall (i + 1) i (by omega) (Array.getElem?_eq_some_iff.1 h7).1))
  · unfold toCome; simp
  · refine ⟨by simp, (Below.refl _ _).drew, rfl, rfl, fun _ _ => rfl, fun i o d _ _ hl => ?_⟩
    simp [Array.getD] at hl
end
end Go.Proofs.Ytdhhcmdofnjhiaa
