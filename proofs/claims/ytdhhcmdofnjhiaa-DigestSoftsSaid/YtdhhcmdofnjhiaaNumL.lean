/- Plain laws on lists of integers used as sets: sorted lists without repetition. No program. No condition. -/
import Derived.Test.YtdhhcmdofnjhiaaBase
import Derived.Lib.SlicesCompact
namespace Go.Proofs.Ytdhhcmdofnjhiaa

def hasB (l : List Int) (x : Int) : Bool := l.contains x
theorem hasB_iff {l : List Int} {x : Int} : hasB l x = true ↔ x ∈ l := by unfold hasB; simp
theorem hasB_false {l : List Int} {x : Int} : hasB l x = false ↔ x ∉ l := by unfold hasB; simp
/-- An increasing list with x in its place, once. -/
def put (l : List Int) (x : Int) : List Int := if hasB l x then l else l.takeWhile (decide <| · < x) ++ x :: l.dropWhile (decide <| · < x)
def sortU (l : List Int) : List Int := l.foldl put []
def unionU (a b : List Int) : List Int := b.foldl put (sortU a)
def minusU (a b : List Int) : List Int := (sortU a).filter (fun x => !hasB b x)

abbrev Inc (l : List Int) : Prop := l.Pairwise (· < ·)

theorem takeWhile_lt {l : List Int} {x : Int} : ∀ y ∈ l.takeWhile (decide <| · < x), y < x := by
  intro y hy
  have := List.all_takeWhile (l := l) (p := (decide <| · < x))
  rw [List.all_eq_true] at this
  simpa using this y hy

theorem dropWhile_ge : ∀ {l : List Int} {x : Int}, Inc l → ∀ y ∈ l.dropWhile (decide <| · < x), x ≤ y
  | [], x, _, y, hy => by simp at hy
  | a :: l, x, h, y, hy => by
    have h' := List.pairwise_cons.1 h
    by_cases ha : a < x
    · rw [List.dropWhile_cons_of_pos (by simpa using ha)] at hy
      exact dropWhile_ge h'.2 y hy
    · rw [List.dropWhile_cons_of_neg (by simpa using ha)] at hy
      rcases List.mem_cons.1 hy with rfl | hy
      · omega
      · have := h'.1 y hy; omega

theorem mem_put {l : List Int} {x y : Int} : y ∈ put l x ↔ y ∈ l ∨ y = x := by
  unfold put
  split
  · rename_i h
    have hx : x ∈ l := hasB_iff.1 h
    constructor
    · exact .inl
    · rintro (h | rfl)
      · exact h
      · exact hx
  · have e : l.takeWhile (decide <| · < x) ++ l.dropWhile (decide <| · < x) = l := List.takeWhile_append_dropWhile
    have : y ∈ l ↔ y ∈ l.takeWhile (decide <| · < x) ∨ y ∈ l.dropWhile (decide <| · < x) := by
      conv => lhs; rw [← e]
      exact List.mem_append
    rw [this, List.mem_append, List.mem_cons]
    constructor
    · rintro (h | h | h)
      · exact .inl (.inl h)
      · exact .inr h
      · exact .inl (.inr h)
    · rintro ((h | h) | h)
      · exact .inl h
      · exact .inr (.inr h)
      · exact .inr (.inl h)

theorem inc_put {l : List Int} {x : Int} (h : Inc l) : Inc (put l x) := by
  unfold put
  split
  · exact h
  · rename_i hx
    have hx' : x ∉ l := fun h => hx (hasB_iff.2 h)
    have hd : ∀ y ∈ l.dropWhile (decide <| · < x), x < y := by
      intro y hy
      have h1 := dropWhile_ge h y hy
      have h2 : y ∈ l := (List.dropWhile_sublist _).mem hy
      have : y ≠ x := fun e => hx' (e ▸ h2)
      omega
    refine List.pairwise_append.2 ⟨h.sublist (List.takeWhile_sublist _), List.pairwise_cons.2 ⟨hd, h.sublist (List.dropWhile_sublist _)⟩, ?_⟩
    intro a ha b hb
    have h1 := takeWhile_lt a ha
    rcases List.mem_cons.1 hb with rfl | hb
    · exact h1
    · have := hd b hb; omega

theorem mem_foldl_put {l : List Int} : ∀ {acc : List Int} {y : Int}, y ∈ l.foldl put acc ↔ y ∈ acc ∨ y ∈ l := by
  induction l with
  | nil => intro acc y; simp
  | cons a l ih => intro acc y; rw [List.foldl_cons, ih, mem_put, List.mem_cons, or_assoc]

theorem inc_foldl_put {l : List Int} : ∀ {acc : List Int}, Inc acc → Inc (l.foldl put acc) := by
  induction l with
  | nil => intro acc h; exact h
  | cons a l ih => intro acc h; exact ih (inc_put h)

theorem mem_sortU {l : List Int} {y : Int} : y ∈ sortU l ↔ y ∈ l := by unfold sortU; rw [mem_foldl_put]; simp
theorem inc_sortU (l : List Int) : Inc (sortU l) := inc_foldl_put List.Pairwise.nil

/-- Two increasing lists of the same members are one. -/
theorem inc_ext : ∀ {a b : List Int}, Inc a → Inc b → (∀ x, x ∈ a ↔ x ∈ b) → a = b
  | [], [], _, _, _ => rfl
  | [], b :: bs, _, _, h => by have := (h b).2 (by simp); simp at this
  | a :: as, [], _, _, h => by have := (h a).1 (by simp); simp at this
  | a :: as, b :: bs, ha, hb, h => by
    have ha' := List.pairwise_cons.1 ha
    have hb' := List.pairwise_cons.1 hb
    have e : a = b := by
      rcases List.mem_cons.1 ((h a).1 (by simp)) with h1 | h1
      · exact h1
      · rcases List.mem_cons.1 ((h b).2 (by simp)) with h2 | h2
        · exact h2.symm
        · have := ha'.1 b h2; have := hb'.1 a h1; omega
    subst e
    congr 1
    refine inc_ext ha'.2 hb'.2 fun x => ?_
    have hx := h x
    rw [List.mem_cons, List.mem_cons] at hx
    constructor
    · intro h1
      rcases hx.1 (.inr h1) with rfl | h2
      · exact absurd (ha'.1 x h1) (by omega)
      · exact h2
    · intro h1
      rcases hx.2 (.inr h1) with rfl | h2
      · exact absurd (hb'.1 x h1) (by omega)
      · exact h2

theorem sortU_of_inc {l : List Int} (h : Inc l) : sortU l = l := inc_ext (inc_sortU l) h fun _ => mem_sortU
theorem unionU_eq (a b : List Int) : unionU a b = sortU (a ++ b) := by unfold unionU sortU; rw [List.foldl_append]
theorem mem_unionU {a b : List Int} {x : Int} : x ∈ unionU a b ↔ x ∈ a ∨ x ∈ b := by rw [unionU_eq, mem_sortU, List.mem_append]
theorem inc_unionU (a b : List Int) : Inc (unionU a b) := by rw [unionU_eq]; exact inc_sortU _
theorem mem_minusU {a b : List Int} {x : Int} : x ∈ minusU a b ↔ x ∈ a ∧ x ∉ b := by unfold minusU; rw [List.mem_filter, mem_sortU]; simp [hasB]
theorem inc_minusU (a b : List Int) : Inc (minusU a b) := (inc_sortU a).sublist List.filter_sublist

/-- What slices.Compact leaves of a sorted list is increasing. -/
theorem compact_sub (zs : List Int) : ∀ m, m ≤ zs.length → ∀ x, x ∈ Lib.compactUpTo zs.toArray m ↔ x ∈ zs.take m := by
  intro m
  induction m with
  | zero => intro _ x; simp [Lib.compactUpTo]
  | succ m ih =>
    intro hm x
    rw [Lib.compactUpTo_succ, List.mem_append, ih (by omega), List.take_succ_eq_append_getElem (by omega), List.mem_append]
    have hg : zs.toArray[m]! = zs[m]'(by omega) := by simp [show m < zs.length by omega]
    by_cases hk : Lib.keeps zs.toArray m = true
    · rw [if_pos hk, hg]
    · rw [if_neg hk]
      have hk' : Lib.keeps zs.toArray m = false := by simpa using hk
      have h0 : m ≠ 0 := by intro e; subst e; simp [Lib.keeps] at hk'
      have he : zs[m]'(by omega) = zs[m - 1]'(by omega) := by
        simp [Lib.keeps, h0] at hk'
        simpa [show m < zs.length by omega, show m - 1 < zs.length by omega] using hk'
      constructor
      · intro h; rcases h with h | h
        · exact .inl h
        · simp at h
      · rintro (h | h)
        · exact .inl h
        · refine .inl ?_
          simp at h; subst h
          rw [he]
          rw [List.mem_take_iff_getElem]
          exact ⟨m - 1, by omega, rfl⟩

theorem compact_inc (zs : List Int) (hs : zs.Pairwise (· ≤ ·)) : ∀ m, m ≤ zs.length → Inc (Lib.compactUpTo zs.toArray m) ∧ ∀ x ∈ Lib.compactUpTo zs.toArray m, ∃ i, ∃ _ : i < m, ∃ h2 : i < zs.length, x = zs[i] := by
  intro m
  induction m with
  | zero => intro _; refine ⟨by simp [Lib.compactUpTo], fun x hx => by simp [Lib.compactUpTo] at hx⟩
  | succ m ih =>
    intro hm
    obtain ⟨h1, h2⟩ := ih (by omega)
    have hg : zs.toArray[m]! = zs[m]'(by omega) := by simp [show m < zs.length by omega]
    rw [Lib.compactUpTo_succ]
    by_cases hk : Lib.keeps zs.toArray m = true
    · rw [if_pos hk, hg]
      refine ⟨List.pairwise_append.2 ⟨h1, by simp, ?_⟩, ?_⟩
      · intro a ha b hb
        simp at hb; subst hb
        obtain ⟨i, hi, hi2, rfl⟩ := h2 a ha
        have hle : ∀ j, (hj : j < m) → zs[j]'(by omega) ≤ zs[m - 1]'(by omega) := by
          intro j hj
          by_cases e : j = m - 1
          · subst e; omega
          · exact List.pairwise_iff_getElem.1 hs j (m - 1) (by omega) (by omega) (by omega)
        have h3 := hle i hi
        have h4 := List.pairwise_iff_getElem.1 hs (m - 1) m (by omega) (by omega) (by omega)
        have h5 : zs[m]'(by omega) ≠ zs[m - 1]'(by omega) := by
          have hm0 : m ≠ 0 := by omega
          simp [Lib.keeps, hm0] at hk
          simpa [show m < zs.length by omega, show m - 1 < zs.length by omega] using hk
        omega
      · intro x hx
        rcases List.mem_append.1 hx with hx | hx
        · obtain ⟨i, a, b, c⟩ := h2 x hx
          exact ⟨i, by omega, b, c⟩
        · simp at hx; exact ⟨m, by omega, by omega, hx⟩
    · rw [if_neg hk, List.append_nil]
      refine ⟨h1, fun x hx => ?_⟩
      obtain ⟨i, a, b, c⟩ := h2 x hx
      exact ⟨i, by omega, b, c⟩

/-- slices.Sort, then slices.Compact. -/
theorem compact_sort (l : List Int) : Lib.compact (l.mergeSort fun x y => decide (x ≤ y)) = sortU l := by
  have hs : (l.mergeSort fun x y => decide (x ≤ y)).Pairwise (· ≤ ·) := by
    have := List.pairwise_mergeSort (le := fun x y : Int => decide (x ≤ y)) (by intro a b c; simp; omega) (by intro a b; simp; omega) l
    exact this.imp (by intro a b h; simpa using h)
  refine inc_ext (compact_inc _ hs _ (Nat.le_refl _)).1 (inc_sortU l) fun x => ?_
  rw [mem_sortU]
  unfold Lib.compact
  rw [compact_sub _ _ (Nat.le_refl _), List.take_length]
  exact List.mem_mergeSort
end Go.Proofs.Ytdhhcmdofnjhiaa
