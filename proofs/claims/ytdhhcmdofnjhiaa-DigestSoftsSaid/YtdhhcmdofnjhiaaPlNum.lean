/- What the typed functions on lists of numbers compute. Condition of each: the lists have at most 2^40 elements. -/
import Derived.Test.YtdhhcmdofnjhiaaPlL
import Derived.Test.YtdhhcmdofnjhiaaGx
import Derived.Laws.Bits64
namespace Go.Proofs.Ytdhhcmdofnjhiaa
open Go.RowKit

theorem num_Sorted_eq (l : List Int) (h : l.length ≤ 1099511627776) : num_Sorted l = some (sortU l) := by
  unfold num_Sorted slices_Clone_intint slices_Sort_intint slices_Compact_intint
  rw [gApp_le (by simp; omega)]
  have h2 : (gSort l).length ≤ 1099511627776 := by rw [(gSort_perm l).length_eq]; exact h
  simp [h, gSort_eq, compact_sort]

theorem sortU_length (l : List Int) : (sortU l).length ≤ l.length := by
  rw [← compact_sort]
  exact Nat.le_trans (Lib.compact_length_le _) (by simp)
theorem minusU_length (a b : List Int) : (minusU a b).length ≤ a.length := by
  unfold minusU; exact Nat.le_trans (List.length_filter_le _ _) (sortU_length a)
theorem unionU_length (a b : List Int) : (unionU a b).length ≤ a.length + b.length := by
  rw [unionU_eq]; exact Nat.le_trans (sortU_length _) (by simp)

theorem cmp_Less_eq (a b : Int) : cmp_Less_int a b = some (decide (a < b)) := by
  simp [cmp_Less_int, cmp_Less_int_j1, cmp_isNaN_int]

/-- slices.BinarySearch in an increasing list finds what is there. -/
theorem search_eq (l : List Int) (x : Int) (hi : Inc l) (hn : l.length ≤ 1099511627776) : Tri (slices_BinarySearch_intint l x) (fun r => r.2 = hasB l x) := by
  unfold slices_BinarySearch_intint slices_BinarySearch_intint_L1
  refine loop2_tri (fun (m : Nat) (a b : Int) => ∃ i j : Nat, a = i ∧ b = j ∧ i ≤ j ∧ j ≤ l.length ∧ m = j - i ∧ (∀ q, (hq : q < i) → (hl : q < l.length) → l[q] < x) ∧ (∀ q, (hq : j ≤ q) → (hl : q < l.length) → x ≤ l[q])) ?_ fuel l.length 0 (l.length : Int) (by simp [fuel]; omega) ⟨0, l.length, rfl, rfl, Nat.zero_le _, Nat.le_refl _, rfl, fun q hq => by omega, fun q hq hl => by omega⟩
  rintro m a b k ⟨i, j, rfl, rfl, hij, hj, rfl, h1, h2⟩ hk
  unfold slices_BinarySearch_intint_B1
  refine Tri.bif (fun e => ?_) fun e => ?_
  · have hlt : i < j := by simpa using e
    have w1 : IntKind.i64.wrap ((i : Int) + (j : Int)) = ((i + j : Nat) : Int) := by rw [IntKind.wrap_i64]; omega
    have w2 : IntKind.u64.wrap ((i + j : Nat) : Int) = ((i + j : Nat) : Int) := by rw [IntKind.wrap_u64]; omega
    have w3 : gSh .shr .u64 ((i + j : Nat) : Int) 1 = some (((i + j) / 2 : Nat) : Int) := by
      have e0 : ((i + j : Nat) : Int).fdiv (2 ^ (min (1 : Int).toNat IntKind.u64.bits)) = (((i + j) / 2 : Nat) : Int) := by
        have : (2 : Int) ^ (min (1 : Int).toNat IntKind.u64.bits) = 2 := rfl
        rw [this, Int.fdiv_eq_ediv_of_nonneg _ (by omega)]; omega
      unfold gSh
      rw [if_neg (by omega)]
      exact congrArg some e0
    have w4 : IntKind.i64.wrap (((i + j) / 2 : Nat) : Int) = (((i + j) / 2 : Nat) : Int) := by rw [IntKind.wrap_i64]; omega
    have hm : (i + j) / 2 < l.length := by omega
    rw [w1, w2, w3]
    simp only [Option.bind_some]
    rw [w4, gIdx_lt hm]
    simp only [Option.bind_some]
    rw [cmp_Less_eq, wrap_succ _ (by omega)]
    simp only [Option.bind_some]
    have mono : ∀ p q, (hp : p < l.length) → (hq : q < l.length) → p < q → l[p] < l[q] := fun p q hp hq hpq => List.pairwise_iff_getElem.1 hi p q hp hq hpq
    refine Tri.bif (fun e2 => ?_) fun e2 => ?_
    · have e3 : l[(i + j) / 2] < x := by simpa using e2
      refine hk (j - ((i + j) / 2 + 1)) _ _ (by omega) ⟨(i + j) / 2 + 1, j, rfl, rfl, by omega, hj, rfl, fun q hq hl => ?_, h2⟩
      by_cases eq : q = (i + j) / 2
      · subst eq; exact e3
      · have := mono q ((i + j) / 2) hl hm (by omega); omega
    · have e3 : ¬ l[(i + j) / 2] < x := by simpa using e2
      refine hk ((i + j) / 2 - i) _ _ (by omega) ⟨i, (i + j) / 2, rfl, rfl, by omega, by omega, rfl, h1, fun q hq hl => ?_⟩
      by_cases eq : q = (i + j) / 2
      · subst eq; omega
      · have := mono ((i + j) / 2) q hm hl (by omega); omega
  · have hlt : ¬ i < j := by simpa using e
    have hij' : i = j := by omega
    subst hij'
    have mono : ∀ p q, (hp : p < l.length) → (hq : q < l.length) → p < q → l[p] < l[q] := fun p q hp hq hpq => List.pairwise_iff_getElem.1 hi p q hp hq hpq
    unfold slices_BinarySearch_intint_j2
    refine Tri.bif (fun e2 => ?_) fun e2 => ?_
    · have hl : i < l.length := by simpa using e2
      rw [gIdx_lt hl]
      simp only [Option.bind_some]
      refine Tri.bif (fun e3 => ?_) fun e3 => ?_
      · refine .ret ?_
        have : l[i] = x := by simpa using e3
        exact (hasB_iff.2 (this ▸ List.getElem_mem hl)).symm
      · have hne : l[i] ≠ x := by simpa using e3
        have hno : hasB l x = false := hasB_false.2 fun hm => by
          obtain ⟨q, hq, e4⟩ := List.getElem_of_mem hm
          rcases Nat.lt_trichotomy q i with h5 | h5 | h5
          · have := h1 q h5 hq; omega
          · subst h5; exact hne e4
          · have := mono i q hl hq h5; have := h2 i (Nat.le_refl _) hl; omega
        rw [hno]
        simp only [slices_isNaN_int, Option.bind_some]
        refine Tri.bif (fun e5 => ?_) fun e5 => .ret rfl
        simp at e5
    · have hl : ¬ i < l.length := by simpa using e2
      refine .ret ?_
      refine (hasB_false.2 fun hm => ?_).symm
      obtain ⟨q, hq, e4⟩ := List.getElem_of_mem hm
      have := h1 q (by omega) hq; omega

theorem num_Union_eq (a b : List Int) (h : a.length ≤ 274877906944) (h2 : b.length ≤ 274877906944) : num_Union a b = some (unionU a b) := by
  unfold num_Union slices_Clone_intint
  rw [gApp_le (by simp; omega)]
  simp only [Option.bind_some, List.nil_append]
  rw [gApp_le (by omega)]
  simp only [Option.bind_some]
  rw [num_Sorted_eq _ (by simp; omega), unionU_eq]
  rfl

theorem minusTo_step {l b : List Int} {i : Nat} (h : i < l.length) : (l.take (i + 1)).filter (fun x => !hasB b x) = (l.take i).filter (fun x => !hasB b x) ++ (if hasB b l[i] then [] else [l[i]]) := by
  rw [List.take_succ_eq_append_getElem h, List.filter_append]
  cases hb : hasB b l[i] <;> simp [hb]

theorem num_Minus_eq (a b : List Int) (h : a.length ≤ 274877906944) (h2 : b.length ≤ 274877906944) : num_Minus a b = some (minusU a b) := by
  unfold num_Minus
  rw [num_Sorted_eq b (by omega), num_Sorted_eq a (by omega)]
  simp only [Option.bind_some]
  have ha := sortU_length a
  have hb := sortU_length b
  have hbi := inc_sortU b
  have hM : minusU a b = ((sortU a).take (sortU a).length).filter (fun x => !hasB (sortU b) x) := by
    rw [List.take_length]; unfold minusU; congr 1; funext x; congr 1
    by_cases hx : x ∈ b
    · rw [hasB_iff.2 hx, hasB_iff.2 (mem_sortU.2 hx)]
    · rw [hasB_false.2 hx, hasB_false.2 (fun h => hx (mem_sortU.1 h))]
  rw [hM]
  generalize sortU a = S at *
  generalize sortU b = S2 at *
  refine Tri.eq ?_
  unfold num_Minus_L1
  refine loop2_at S.length (by simp [fuel]; omega) (fun i v => v = (S.take i).filter (fun x => !hasB S2 x)) (by simp) ?_ ?_
  · rintro i v k hi rfl hk
    have hw := wrap_succ i (by omega)
    have hfl : ((S.take i).filter (fun x => !hasB S2 x)).length ≤ i := Nat.le_trans (List.length_filter_le _ _) (by simp; omega)
    have hst := minusTo_step (b := S2) hi
    unfold num_Minus_B1 num_Minus_j2
    rw [show decide ((i : Int) < (S.length : Int)) = true by simpa using hi, gIdx_lt hi]
    simp only [cond_true, Option.bind_some]
    refine (search_eq S2 S[i] hbi (by omega)).bind ?_
    rintro r hr
    rw [hr]
    cases hh : hasB S2 S[i] with
    | true =>
      simp only [Bool.not_true, cond_false, hw]
      exact hk _ (by rw [hst]; simp [hh])
    | false =>
      simp only [Bool.not_false, cond_true, hw]
      rw [gApp_le (by simp only [List.length_singleton]; omega)]
      exact hk _ (by rw [hst]; simp [hh])
  · rintro v k rfl
    unfold num_Minus_B1
    rw [show decide ((S.length : Int) < (S.length : Int)) = false by simp]
    exact .ret rfl

theorem R01_Has_eq (l : List Int) (x : Int) (h : l.length ≤ 1099511627776) : R01_Has l x = some (hasB l x) := by
  refine Tri.eq ?_
  unfold R01_Has R01_Has_L1
  refine loop1_at l.length (by simp [fuel]; omega) (fun i => ∀ j, (hj : j < i) → (hl : j < l.length) → l[j] ≠ x) (fun j hj => by omega) ?_ ?_
  · intro i k hi hI hk
    unfold R01_Has_B1
    rw [show decide ((i : Int) < (l.length : Int)) = true by simpa using hi, gIdx_lt hi, wrap_succ i (by omega)]
    simp only [cond_true, Option.bind_some]
    refine Tri.bif (fun e => ?_) fun e => ?_
    · refine .ret ?_
      have : l[i] = x := by simpa using e
      rw [hasB_iff.2 (this ▸ List.getElem_mem hi)]
    · refine hk fun j hj hl => ?_
      by_cases ej : j = i
      · subst ej; simpa using e
      · exact hI j (by omega) hl
  · intro k hI
    unfold R01_Has_B1
    rw [show decide ((l.length : Int) < (l.length : Int)) = false by simp]
    refine .ret ?_
    rw [hasB_false.2]
    intro hm
    obtain ⟨j, hj, e⟩ := List.getElem_of_mem hm
    exact hI j hj hj e

theorem takeWhile_at (p : Int → Bool) : ∀ (l : List Int) (i : Nat), i ≤ l.length → (∀ j, (h : j < i) → (hl : j < l.length) → p l[j] = true) → (∀ h : i < l.length, p l[i] = false) → l.takeWhile p = l.take i ∧ l.dropWhile p = l.drop i
  | [], i, h, _, _ => by simp at h; subst h; simp
  | a :: l, 0, _, _, h2 => by
    have := h2 (by simp)
    simp at this
    simp [this]
  | a :: l, i + 1, h, h1, h2 => by
    have h0 := h1 0 (by omega) (by simp)
    simp at h0
    have := takeWhile_at p l i (by simpa using h) (fun j hj hl => by have := h1 (j + 1) (by omega) (by simpa using hl); simpa using this) (fun hl => by have := h2 (by simpa using hl); simpa using this)
    simp [h0, this.1, this.2]

theorem R01_Put_eq (l : List Int) (x : Int) (h : l.length ≤ 1099511627776) : R01_Put l x = some (put l x) := by
  unfold R01_Put
  rw [R01_Has_eq l x h]
  simp only [Option.bind_some]
  unfold put
  cases hh : hasB l x with
  | true => simp
  | false =>
    simp only [cond_false, Bool.false_eq_true, if_false]
    refine Tri.eq ?_
    unfold R01_Put_L1
    have hput : ∀ i, i ≤ l.length → (∀ j, (hj : j < i) → (hl : j < l.length) → l[j] < x) → (∀ h : i < l.length, ¬ l[i] < x) →
        Tri ((gSub l 0 (i : Int)).bind fun x7 => (gApp 8 [] x7).bind fun x8 => (gApp 8 x8 [x]).bind fun x9 => (gSub l (i : Int) ((l.length))).bind fun x10 => (gApp 8 x9 x10).bind fun x11 => some x11) (· = l.takeWhile (decide <| · < x) ++ x :: l.dropWhile (decide <| · < x)) := by
      intro i hi h1 h2
      obtain ⟨e1, e2⟩ := takeWhile_at (decide <| · < x) l i hi (fun j hj hl => by simpa using h1 j hj hl) (fun hl => by simpa using h2 hl)
      have e3 : gSub l 0 (i : Int) = some (l.take i) := by
        have := gSub_le (l := l) (lo := 0) (hi := i) (by omega) hi
        simpa using this
      have e4 : gSub l (i : Int) (l.length : Int) = some (l.drop i) := by
        rw [gSub_le (l := l) (lo := i) (hi := l.length) hi (by omega)]
        congr 1
        exact List.take_of_length_le (by simp)
      rw [e3]
      simp only [Option.bind_some]
      rw [gApp_le (by simp; omega)]
      simp only [Option.bind_some, List.nil_append]
      rw [gApp_le (by simp; omega)]
      simp only [Option.bind_some]
      rw [e4]
      simp only [Option.bind_some]
      rw [gApp_le (by simp; omega)]
      refine .ret ?_
      rw [e1, e2]; simp
    refine loop1_at l.length (by simp [fuel]; omega) (fun i => ∀ j, (hj : j < i) → (hl : j < l.length) → l[j] < x) (fun j hj => by omega) ?_ ?_
    · intro i k hi hI hk
      unfold R01_Put_B1 R01_Put_j2
      rw [show decide ((i : Int) < (l.length : Int)) = true by simpa using hi, gIdx_lt hi, wrap_succ i (by omega)]
      simp only [cond_true, Option.bind_some]
      refine Tri.bif (fun e => ?_) fun e => ?_
      · refine hk fun j hj hl => ?_
        by_cases ej : j = i
        · subst ej; simpa using e
        · exact hI j (by omega) hl
      · exact hput i (by omega) hI (fun _ => by simpa using e)
    · intro k hI
      unfold R01_Put_B1 R01_Put_j2
      rw [show decide ((l.length : Int) < (l.length : Int)) = false by simp]
      exact hput l.length (by omega) hI (fun h => by omega)

theorem put_length (l : List Int) (x : Int) : (put l x).length ≤ l.length + 1 := by
  unfold put
  split
  · omega
  · rw [List.length_append, List.length_cons]
    have := congrArg List.length (List.takeWhile_append_dropWhile (p := (decide <| · < x)) (l := l))
    rw [List.length_append] at this
    omega
theorem puts_length : ∀ (l a : List Int), (l.foldl put a).length ≤ a.length + l.length
  | [], a => by simp
  | x :: l, a => by
    have h1 := puts_length l (put a x)
    have h2 := put_length a x
    simp only [List.foldl_cons, List.length_cons]
    omega
theorem puts_step {l a : List Int} {i : Nat} (h : i < l.length) : (l.take (i + 1)).foldl put a = put ((l.take i).foldl put a) l[i] := by
  rw [List.take_succ_eq_append_getElem h, List.foldl_append]; rfl

theorem R01_Sorted_eq (l : List Int) (h : l.length ≤ 274877906944) : R01_Sorted l = some (sortU l) := by
  refine Tri.eq ?_
  unfold R01_Sorted R01_Sorted_L1
  refine loop2_at l.length (by simp [fuel]; omega) (fun i v => v = (l.take i).foldl put []) (by simp) ?_ ?_
  · rintro i v k hi rfl hk
    have hl := puts_length (l.take i) []
    simp only [List.length_nil, List.length_take] at hl
    unfold R01_Sorted_B1
    rw [show decide ((i : Int) < (l.length : Int)) = true by simpa using hi, gIdx_lt hi, wrap_succ i (by omega)]
    simp only [cond_true, Option.bind_some]
    rw [R01_Put_eq _ _ (by omega)]
    exact hk _ (puts_step hi).symm
  · rintro v k rfl
    unfold R01_Sorted_B1
    rw [show decide ((l.length : Int) < (l.length : Int)) = false by simp]
    exact .ret (by rw [List.take_length]; rfl)

theorem R01_Union_eq (a b : List Int) (h : a.length ≤ 274877906944) (h2 : b.length ≤ 274877906944) : R01_Union a b = some (unionU a b) := by
  unfold R01_Union
  rw [R01_Sorted_eq a h]
  have hs := sortU_length a
  refine Tri.eq ?_
  simp only [Option.bind_some]
  unfold R01_Union_L1
  refine loop2_at b.length (by simp [fuel]; omega) (fun i v => v = (b.take i).foldl put (sortU a)) (by simp) ?_ ?_
  · rintro i v k hi rfl hk
    have hl := puts_length (b.take i) (sortU a)
    simp only [List.length_take] at hl
    unfold R01_Union_B1
    rw [show decide ((i : Int) < (b.length : Int)) = true by simpa using hi, gIdx_lt hi, wrap_succ i (by omega)]
    simp only [cond_true, Option.bind_some]
    rw [R01_Put_eq _ _ (by omega)]
    exact hk _ (puts_step hi).symm
  · rintro v k rfl
    unfold R01_Union_B1
    rw [show decide ((b.length : Int) < (b.length : Int)) = false by simp]
    exact .ret (by rw [List.take_length]; rfl)

def sameB (a b : List Int) : Bool := decide (a = b)
theorem R01_Same_eq (a b : List Int) (h : a.length ≤ 1099511627776) : R01_Same a b = some (sameB a b) := by
  unfold R01_Same
  refine Tri.eq (Tri.bif (fun e => ?_) fun e => ?_)
  · refine .ret ?_
    have : a ≠ b := fun e' => by subst e'; simp at e
    simp [sameB, this]
  · have hl : a.length = b.length := by have : (a.length : Int) = b.length := by simpa using e
                                        omega
    unfold R01_Same_L1
    refine loop1_at a.length (by simp [fuel]; omega) (fun i => ∀ j, (hj : j < i) → (h1 : j < a.length) → (h2 : j < b.length) → a[j] = b[j]) (fun j hj => by omega) ?_ ?_
    · intro i k hi hI hk
      have hi2 : i < b.length := by omega
      unfold R01_Same_B1
      rw [show decide ((i : Int) < (a.length : Int)) = true by simpa using hi, gIdx_lt hi, gIdx_lt hi2, wrap_succ i (by omega)]
      simp only [cond_true, Option.bind_some]
      refine Tri.bif (fun e => .ret ?_) fun e => hk fun j hj h1 h2 => ?_
      · have hne : a[i] ≠ b[i] := by simpa using e
        have : a ≠ b := fun e' => by subst e'; exact hne rfl
        simp [sameB, this]
      · by_cases ej : j = i
        · subst ej; simpa using e
        · exact hI j (by omega) h1 h2
    · intro k hI
      unfold R01_Same_B1
      rw [show decide ((a.length : Int) < (a.length : Int)) = false by simp]
      refine .ret ?_
      have : a = b := List.ext_getElem hl fun j h1 h2 => hI j h1 h1 h2
      simp [sameB, this]
end Go.Proofs.Ytdhhcmdofnjhiaa
