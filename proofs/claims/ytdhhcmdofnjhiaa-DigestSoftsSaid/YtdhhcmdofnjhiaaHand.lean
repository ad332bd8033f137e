/- slices.Sort and slices.Compact of integers, in the form Runs. Condition of each: the list has at most 2^40 elements. -/
import Derived.Test.YtdhhcmdofnjhiaaProg
import Derived.Test.YtdhhcmdofnjhiaaShelf
import Derived.Test.YtdhhcmdofnjhiaaAvH
import Derived.Test.YtdhhcmdofnjhiaaNumL
namespace Go.Proofs.Ytdhhcmdofnjhiaa
open Go.RowKit

def gIns (x : Int) : List Int → List Int
  | [] => [x]
  | y :: l => bif decide (x ≤ y) then x :: y :: l else y :: gIns x l
def gSort (l : List Int) : List Int := l.foldr gIns []
theorem gIns_perm (x : Int) : ∀ l, (gIns x l).Perm (x :: l)
  | [] => .refl _
  | y :: l => by
    unfold gIns
    cases h : decide (x ≤ y) with
    | true => exact .refl _
    | false => exact ((gIns_perm x l).cons y).trans (.swap x y l)
theorem gSort_perm : ∀ l, (gSort l).Perm l
  | [] => .refl _
  | x :: l => (gIns_perm x (gSort l)).trans ((gSort_perm l).cons x)
theorem gIns_le (x : Int) : ∀ l, l.Pairwise (· ≤ ·) → (gIns x l).Pairwise (· ≤ ·)
  | [], _ => by simp [gIns]
  | y :: l, h => by
    have h' := List.pairwise_cons.1 h
    unfold gIns
    cases hx : decide (x ≤ y) with
    | true =>
      have hx' : x ≤ y := of_decide_eq_true hx
      refine List.pairwise_cons.2 ⟨fun z hz => ?_, h⟩
      rcases List.mem_cons.1 hz with rfl | hz
      · exact hx'
      · have := h'.1 z hz; omega
    | false =>
      have hx' : ¬ x ≤ y := of_decide_eq_false hx
      refine List.pairwise_cons.2 ⟨fun z hz => ?_, gIns_le x l h'.2⟩
      rcases List.mem_cons.1 ((gIns_perm x l).mem_iff.1 hz) with rfl | hz
      · omega
      · exact h'.1 z hz
theorem gSort_le : ∀ l, (gSort l).Pairwise (· ≤ ·)
  | [] => .nil
  | x :: l => gIns_le x _ (gSort_le l)
theorem gSort_eq (l : List Int) : gSort l = l.mergeSort fun x y => decide (x ≤ y) := by
  have hs : (l.mergeSort fun x y => decide (x ≤ y)).Pairwise (· ≤ ·) := by
    have := List.pairwise_mergeSort (le := fun x y : Int => decide (x ≤ y)) (by intro a b c; simp; omega) (by intro a b; simp; omega) l
    exact this.imp (by intro a b h; simpa using h)
  exact ((gSort_perm l).trans (List.mergeSort_perm l _).symm).eq_of_pairwise (fun a b _ _ h k => by omega) (gSort_le l) hs

def slices_Sort_intint (l : List Int) : Option (List Int) := if l.length ≤ 1099511627776 then some (gSort l) else none
def slices_Compact_intint (l : List Int) : Option (List Int) := if l.length ≤ 1099511627776 then some (Lib.compact l) else none

theorem slices_Sort_intint_ok (l r : List Int) (h : slices_Sort_intint l = some r) : Runs Try.prog 53 [.osl 0] [.arr 3 1 (List.map eI l)] (.tup []) [.arr 3 1 (List.map eI r)] := by
  unfold slices_Sort_intint at h
  split at h
  · rename_i hn
    obtain rfl := Option.some.inj h
    refine Runs.inplace fun v w how => ?_
    rcases how.2 with ⟨rfl, h0⟩ | ⟨g, cap, cur, rfl, hbase, hg, hnc, hcm, hcs, htake⟩
    · have hl : l = [] := List.eq_nil_of_length_eq_zero h0
      subst hl
      refine (Try.slices_Sort_int_none _ _ _).mono ?_
      rintro e w' ⟨rfl, h⟩; subst h
      exact ⟨rfl, World.ownsRow_nil _ _ _ _, Turns.refl _ _⟩
    · have hs : (l.mergeSort fun x y => decide (x ≤ y)).length = l.length := List.length_mergeSort _
      refine (Try.slices_Sort_int g 0 cap l w (holds_of_blockI hg (by simpa using htake)) (Array.getElem?_eq_some_iff.1 hg).1 (by omega)).mono ?_
      rintro e w' ⟨rfl, n, os, rfl⟩
      rw [gSort_eq]
      refine ⟨rfl, ?_, Turns.of_grown (grownBy_sortedI _)⟩
      rw [hs]; exact ownsRow_sortedI (os := os) (n := n) hs hbase hg hnc hcm hcs
  · cases h

theorem slices_Compact_intint_ok (l r : List Int) (h : slices_Compact_intint l = some r) : Runs Try.prog 54 [.osl 0] [.arr 3 1 (List.map eI l)] (.osl 1) [.dead, .arr 3 1 (List.map eI r)] := by
  unfold slices_Compact_intint at h
  split at h
  · rename_i hn
    obtain rfl := Option.some.inj h
    refine Runs.turned fun v w how => ?_
    rcases how.2 with ⟨rfl, h0⟩ | ⟨g, cap, cur, rfl, hbase, hg, hnc, hcm, hcs, htake⟩
    · have hl : l = [] := List.eq_nil_of_length_eq_zero h0
      subst hl
      refine (Try.slices_Compact_int_empty _ _ _).mono ?_
      rintro e w' ⟨rfl, h⟩; subst h
      exact ⟨_, rfl, World.ownsRow_nil _ _ _ _, Turns.refl _ _, fun g hg => by simp [blkOf] at hg⟩
    · refine (Try.slices_Compact_int g 0 cap l w (holds_of_blockI hg (by simpa using htake)) (by omega) hnc).mono ?_
      rintro e w' ⟨rfl, q, rfl⟩
      have hle := Lib.compact_length_le l
      have hy : (Lib.compact l ++ List.replicate (l.length - (Lib.compact l).length) 0).length = l.length := by simp; omega
      refine ⟨_, rfl, ?_, ?_, fun g hg => .inl hg⟩
      · have := Lib.ownsRow_putRow (q := q) how hy hle
        rw [List.take_left' rfl] at this
        exact this
      · exact ⟨rfl, rfl, rfl, by simp [Sort.putRow, Sort.mapBlock, Sort.ahead], fun k hk hne => by
          have : g ≠ k := fun e => hne (by rw [e]; rfl)
          simp [Sort.putRow, Sort.mapBlock, Sort.ahead, Array.getElem?_modify, this]⟩
  · cases h
end Go.Proofs.Ytdhhcmdofnjhiaa
