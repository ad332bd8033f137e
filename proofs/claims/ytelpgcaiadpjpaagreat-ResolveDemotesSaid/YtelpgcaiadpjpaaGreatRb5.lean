/- Part 5 of what the laws' proofs lean on: states of the walk, typed functions of the program and their laws (short forms written by wip/shrink.py; no condition). -/
import Derived.Test.YtelpgcaiadpjpaaGreatRb4
set_option linter.unusedVariables false
set_option linter.unusedSimpArgs false
section
namespace Go.Proofs.YtelpgcaiadpjpaaGreat
open Go.RowKit
theorem o9 {l : List ah} {id : Int} {e : ah} (h : jr l id = some e) : CV l id = (e, true) := by unfold CV; rw [h]
theorem Bv {l : List ah} {id : Int} (h : jr l id = none) : CV l id = (dB, false) := by unfold CV; rw [h]
theorem ac8 (l : List ah) (ids : List Int) : (ofIds l ids).length ≤ ids.length := List.length_filterMap_le ..
theorem afZ (l : List ah) (ids : List Int) : ids.foldl (fun r id => r ++ (jr l id).toList) [] = ofIds l ids := by
 rw [foldl_append (fun id => (jr l id).toList), ac7]; rfl
theorem aex (l : List ah) (ids : List Int) (hl : l.length ≤ 1000) (hi : ids.length ≤ 1000000) : KU l ids = some (ofIds l ids) := by
 unfold KU
 have hm : vY 376 dB 0 (ids.length : Int) = some [] := by
  unfold vY; rw [if_pos (by constructor <;> omega)]; rfl
 rw [hm]; simp only [Option.bind_some]; unfold U5; rw [qW ids (by omega) (fun r id => r ++ (jr l id).toList) (fun i r => r.length ≤ i) (fun r => some r) (by simp)]
 · rw [afZ]
 · intro k a i h hI; have ht := toList_le (jr l ids[i]); refine ⟨by rw [List.length_append]; omega, ?_⟩; unfold Ho Dn; rw [dQ h, jW l _ (by omega)]; cases hg : jr l ids[i] with
   | none => simp [Bv hg]
   | some e =>
     rw [o9 hg]; simp only [Option.bind_some, cond_true, Option.toList_some]; rw [dM (by simp only [List.length_singleton]; omega)]; rfl
 intro k a hI; unfold Ho; rw [eY]
theorem ahs {α : Type} (l : List α) (i : Nat) (x : α) (h : i < l.length) : l.set i x = l.take i ++ x :: l.drop (i + 1) := List.set_eq_take_append_cons_drop ▸ by simp [h]
theorem aht {α : Type} (A : List α) (g : α) (D : List α) {n : Nat} (h : A.length = n) : (A ++ g :: D).take n = A ∧ (A ++ g :: D).drop (n + 1) = D := by
 subst h; simp
theorem aey (l : List Int) (x : Int) (hi : Inc l) (hl : l.length ≤ 1000000) : Lr l x = some (put l x) := by
 refine dG.eq ?_; unfold Lr U8
 have hput : ∀ i, i ≤ l.length → (∀ j, (hj : j < i) → (hl : j < l.length) → l[j] < x) → (∀ h : i < l.length, x < l[i]) → put l x = l.take i ++ x :: l.drop i := by
  intro i hi' h1 h2; obtain ⟨e1, e2⟩ := LD (decide <| · < x) l i hi' (fun j hj hl => by simpa using h1 j hj hl) (fun hl => by have := h2 hl; simp; omega)
  have hno : hasB l x = false := lu.2 fun hm => by
   obtain ⟨q, hq, e4⟩ := List.getElem_of_mem hm; rcases Nat.lt_or_ge q i with h5 | h5
   · have := h1 q h5 hq; omega
   have h6 := h2 (by omega); rcases Nat.lt_or_ge i q with h7 | h7
   · have := List.pairwise_iff_getElem.1 hi i q (by omega) hq h7; omega
   have : q = i := by omega
   subst this; omega
  unfold put; rw [hno, e1, e2]; rfl
 have ajF : ∀ i, i ≤ l.length → ∀ d, d ≤ l.length - i → ∀ m, d < m → dG (bn (mO (i : Int) x) m ((i + d : Nat) : Int) (l.take (i + d) ++ (l ++ [x]).getD (i + d) 0 :: l.drop (i + d))) (· = l.take i ++ x :: l.drop i) := by
  intro i hil d
  induction d with
  | zero =>
    intro _ m hm; obtain ⟨m, rfl⟩ : ∃ m', m = m' + 1 := ⟨m - 1, by omega⟩
    show dG (mO (i : Int) x (bn (mO (i : Int) x) m) _ _) _; generalize bn (mO (i : Int) x) m = k; unfold mO; rw [show decide (((i + 0 : Nat) : Int) > (i : Int)) = false by simp]; simp only [cond_false, Nat.add_zero]; have hlen : i < (l.take i ++ (l ++ [x]).getD i 0 :: l.drop i).length := by simp; omega
    rw [dA hlen]; refine .ret ?_; rw [Int.toNat_natCast, ahs _ _ _ hlen]; simp [List.take_append, List.drop_append, Nat.min_eq_left hil]
  | succ d ih =>
    intro hd m hm; obtain ⟨m, rfl⟩ : ∃ m', m = m' + 1 := ⟨m - 1, by omega⟩
    have ih' := ih (by omega) m (by omega); show dG (mO (i : Int) x (bn (mO (i : Int) x) m) _ _) _; generalize bn (mO (i : Int) x) m = k at ih' ⊢; unfold mO; rw [show decide (((i + (d + 1) : Nat) : Int) > (i : Int)) = true by simp; omega]; simp only [cond_true]; have w : IntKind.i64.wrap (((i + (d + 1) : Nat) : Int) - 1) = ((i + d : Nat) : Int) := by rw [IntKind.wrap_i64]; omega
    have hdl : i + d < l.length := by omega
    have hL : (l.take (i + (d + 1)) ++ (l ++ [x]).getD (i + (d + 1)) 0 :: l.drop (i + (d + 1))).length = l.length + 1 := by simp; omega
    have h1 : i + d < (l.take (i + (d + 1)) ++ (l ++ [x]).getD (i + (d + 1)) 0 :: l.drop (i + (d + 1))).length := by omega
    have h2 : i + (d + 1) < (l.take (i + (d + 1)) ++ (l ++ [x]).getD (i + (d + 1)) 0 :: l.drop (i + (d + 1))).length := by omega
    rw [w, dA h1]; simp only [Option.bind_some]; rw [dA h2]; simp only [Option.bind_some]
    have hg : (l.take (i + (d + 1)) ++ (l ++ [x]).getD (i + (d + 1)) 0 :: l.drop (i + (d + 1)))[i + d] = l[i + d] := by
     rw [List.getElem_append_left (by simp; omega)]; simp
    rw [hg, Int.toNat_natCast, ahs _ _ _ h2]
    have e : (l.take (i + (d + 1)) ++ (l ++ [x]).getD (i + (d + 1)) 0 :: l.drop (i + (d + 1))).take (i + (d + 1)) ++ l[i + d] :: (l.take (i + (d + 1)) ++ (l ++ [x]).getD (i + (d + 1)) 0 :: l.drop (i + (d + 1))).drop (i + (d + 1) + 1) = l.take (i + d) ++ (l ++ [x]).getD (i + d) 0 :: l.drop (i + d) := by
     have ht : (l.take (i + (d + 1))).length = i + (d + 1) := by simp; omega
     rw [(aht _ _ _ ht).1, (aht _ _ _ ht).2]; have h3 : (l ++ [x]).getD (i + d) 0 = l[i + d] := by simp [List.getD, List.getElem?_append_left hdl, hdl]
     rw [h3, show i + (d + 1) = i + d + 1 by omega, List.take_succ_eq_append_getElem hdl, List.drop_eq_getElem_cons hdl, List.append_assoc]; rfl
    rw [e]; exact ih'
 have hstart : l ++ [x] = l.take l.length ++ (l ++ [x]).getD l.length 0 :: l.drop l.length := by simp
 refine yD l.length (fuel_lt (by omega)) (fun i => ∀ j, (hj : j < i) → (hl : j < l.length) → l[j] < x) (fun j hj => by omega) ?_ ?_
 · intro i k hil hI hk; unfold Ht; rw [show decide ((i : Int) < (l.length : Int)) = true by simpa using hil, dA hil]; simp only [cond_true, Option.bind_some]; refine dG.bif (fun e => ?_) fun e => ?_
   · rw [wrap_succ i (by omega)]; refine hk fun j hj hl' => ?_; by_cases ej : j = i
     · subst ej; simpa using e
     exact hI j (by omega) hl'
   have hge : ¬ l[i] < x := by simpa using e
   refine dG.bif (fun e2 => ?_) fun e2 => ?_
   · have hx : l[i] = x := by simpa using e2
     refine .ret ?_; unfold put; rw [kC.2 (hx ▸ List.getElem_mem hil)]; rfl
   have hx : l[i] ≠ x := by simpa using e2
   rw [dM (by simp only [List.length_singleton]; omega)]; simp only [Option.bind_some]; rw [hput i (by omega) hI (fun _ => by omega)]; have w : IntKind.i64.wrap (((l ++ [x]).length : Int) - 1) = ((i + (l.length - i) : Nat) : Int) := by rw [IntKind.wrap_i64]; simp; omega
   rw [w]; have h8 := ajF i (by omega) (l.length - i) (Nat.le_refl _) fuel (fuel_lt (by omega)); rw [show i + (l.length - i) = l.length by omega] at h8 ⊢; rw [← hstart] at h8; exact h8
 intro k hI; unfold Ht; rw [show decide ((l.length : Int) < (l.length : Int)) = false by simp]; simp only [cond_false, Option.bind_some]; rw [dM (by simp only [List.length_singleton]; omega)]; simp only [Option.bind_some]; rw [hput l.length (Nat.le_refl _) hI (fun h => by omega)]; have w : IntKind.i64.wrap (((l ++ [x]).length : Int) - 1) = ((l.length + 0 : Nat) : Int) := by rw [IntKind.wrap_i64]; simp; omega
 rw [w]; have h8 := ajF l.length (Nat.le_refl _) 0 (by omega) fuel (fuel_lt (by omega)); rw [Nat.add_zero] at h8 ⊢; rw [← hstart] at h8; exact h8
end Go.Proofs.YtelpgcaiadpjpaaGreat
end
section
namespace Go.Proofs.YtelpgcaiadpjpaaGreat
open Go.RowKit
def dP (l : List ah) (id : Int) : Bool := (jr l id).isSome
def Uk (l : List ah) (ids : List Int) : List Int := ids.foldl (fun r id => bif dP l id then r else put r id) []
def oP (l : List ah) (ids : List Int) : List Int := (fK ids).filter (dP l)
theorem yX {l : List ah} {ids : List Int} {x : Int} : x ∈ oP l ids ↔ x ∈ ids ∧ dP l x = true := by unfold oP; rw [List.mem_filter, jL]
theorem JV (l : List ah) (ids : List Int) : Inc (oP l ids) := (jM ids).sublist List.filter_sublist
theorem aa0 (l : List ah) (ids : List Int) : (oP l ids).length ≤ ids.length := Nat.le_trans (List.length_filter_le _ _) (iL ids)
theorem Wx (l : List ah) : ∀ (ids r : List Int), Inc r → Inc (ids.foldl (fun r id => bif dP l id then r else put r id) r) ∧ ∀ x, x ∈ ids.foldl (fun r id => bif dP l id then r else put r id) r ↔ x ∈ r ∨ x ∈ ids ∧ dP l x = false
 | [], r, h => ⟨h, fun x => by simp⟩
 | id :: ids, r, h => by
   rw [List.foldl_cons]; cases hk : dP l id with
   | true =>
     obtain ⟨h1, h2⟩ := Wx l ids r h; refine ⟨h1, fun x => (h2 x).trans ⟨fun h => ?_, fun h => ?_⟩⟩
     · rcases h with h | h
       · exact .inl h
       exact .inr ⟨List.mem_cons_of_mem _ h.1, h.2⟩
     rcases h with h | ⟨h, h3⟩
     · exact .inl h
     rcases List.mem_cons.1 h with rfl | h
     · rw [hk] at h3; cases h3
     exact .inr ⟨h, h3⟩
   | false =>
     obtain ⟨h1, h2⟩ := Wx l ids (put r id) (Oq h); refine ⟨h1, fun x => (h2 x).trans ?_⟩; rw [TU, List.mem_cons]; constructor
     · rintro ((h | rfl) | h)
       · exact .inl h
       · exact .inr ⟨.inl rfl, hk⟩
       exact .inr ⟨.inr h.1, h.2⟩
     rintro (h | ⟨rfl | h, h3⟩)
     · exact .inl (.inl h)
     · exact .inl (.inr rfl)
     exact .inr ⟨h, h3⟩
theorem ahu {l : List ah} {ids : List Int} {x : Int} : x ∈ Uk l ids ↔ x ∈ ids ∧ dP l x = false := by
 unfold Uk; rw [(Wx l ids [] .nil).2 x]; simp
theorem ac9 (l : List ah) (ids : List Int) : (Uk l ids).length ≤ ids.length := by
 have key : ∀ (ids r : List Int), (ids.foldl (fun r id => bif dP l id then r else put r id) r).length ≤ r.length + ids.length := by
  intro ids
  induction ids with
  | nil => intro r; simp
  | cons id ids ih =>
    intro r; rw [List.foldl_cons]; have h1 := ih (bif dP l id then r else put r id)
    have h2 : (bif dP l id then r else put r id).length ≤ r.length + 1 := by
     cases dP l id with
     | true => exact Nat.le_succ _
     | false => exact JU r id
    simp only [List.length_cons]; omega
 have := key ids []; simpa [Uk] using this
theorem ZG (l : List ah) (ids : List Int) (hl : l.length ≤ 1000) (hi : ids.length ≤ 100000) : Dy l ids = some (Uk l ids) := by
 unfold Dy OT; rw [qW ids (by omega) (fun r id => bif dP l id then r else put r id) (fun i r => Inc r ∧ r.length ≤ i) (fun r => some r) ⟨.nil, Nat.le_refl _⟩]
 · rfl
 · intro k a i h hI; have hp := Tj l ids[i] (by omega)
   have hg : dP l ids[i] = decide (l.findIdx (fun e => e.Id == ids[i]) < l.length) := by
    unfold dP jr; rw [qX]; by_cases h : l.findIdx (fun e => e.Id == ids[i]) < l.length
    · rw [List.getElem?_eq_getElem h, decide_eq_true h]; rfl
    rw [List.getElem?_eq_none (by omega), decide_eq_false h]; rfl
   refine ⟨?_, ?_⟩
   · cases dP l ids[i] with
     | true => exact ⟨hI.1, by have := hI.2; show a.length ≤ i + 1; omega⟩
     | false => exact ⟨Oq hI.1, by have := JU a ids[i]; have := hI.2; show (put a ids[i]).length ≤ i + 1; omega⟩
   unfold BZ xM; rw [dQ h, hp]; simp only [Option.bind_some]; by_cases h4 : l.findIdx (fun e => e.Id == ids[i]) < l.length
   · rw [if_pos h4, hg, decide_eq_true h4, show decide (((l.findIdx (fun e => e.Id == ids[i]) : Nat) : Int) < 0) = false by simp]; rfl
   rw [if_neg h4, hg, decide_eq_false h4, dA h]; simp only [show decide ((-1 : Int) < 0) = true by decide, cond_true, cond_false, Option.bind_some]; rw [aey a _ hI.1 (by have := hI.2; omega)]; rfl
 intro k a hI; unfold BZ; rw [eY]
theorem ada (a b : List Int) (h : a.length ≤ 274877906944) (h2 : b.length ≤ 274877906944) : IV a b = some (wR a b) := by
 unfold IV; rw [QH a h]; simp only [Option.bind_some]; have ha := iL a; unfold SQ; rw [qW (fK a) (by omega) (fun r x => bif hasB b x then r else r ++ [x]) (fun i r => r.length ≤ i) (fun r => some r) (Nat.le_refl _)]
 · congr 1; unfold wR; generalize fK a = S
   have key : ∀ (S r : List Int), S.foldl (fun r x => bif hasB b x then r else r ++ [x]) r = r ++ S.filter (fun x => !hasB b x) := by
    intro S
    induction S with
    | nil => intro r; simp
    | cons x S ih =>
      intro r; rw [List.foldl_cons, ih, List.filter_cons]; cases hasB b x <;> simp
   simpa using key S []
 · intro k r i h hI; have hx := JQ b (fK a)[i] (by omega); refine ⟨?_, ?_⟩
   · cases hasB b (fK a)[i] with
     | true => show r.length ≤ i + 1; omega
     | false => show (r ++ [(fK a)[i]]).length ≤ i + 1; simp; omega
   unfold Fp Bo; rw [dQ h, hx]; simp only [Option.bind_some]; cases hasB b (fK a)[i] with
   | true => rfl
   | false =>
     simp only [Bool.not_false, cond_true, cond_false]; rw [dA h]; simp only [Option.bind_some]; rw [dM (by simp only [List.length_singleton]; omega)]; rfl
 intro k r hI; unfold Fp; rw [eY]
theorem af0 (l : List ah) (ids : List Int) : wR ids (Uk l ids) = oP l ids :=
 BJ (Xp _ _) (JV _ _) fun x => by
  rw [Xo, ahu, yX]; cases dP l x <;> simp
theorem adb (l : List ah) (ids : List Int) (hl : l.length ≤ 1000) (hi : ids.length ≤ 100000) : IW l ids = some (oP l ids) := by
 unfold IW; rw [ZG l ids hl hi]; simp only [Option.bind_some]; have := ac9 l ids; rw [ada _ _ (by omega) (by omega), af0]; rfl
def iM (l : List ah) (id : Int) : List Int := (CV l id).1.fH
def LJ (l : List ah) (r : List Int) (x : Int) : List Int := bif dP l x then put r x else r
def og (l : List ah) (ids : List Int) : List Int := ids.foldl (fun r id => (iM l id).foldl (LJ l) r) []
theorem Ul (l : List ah) : ∀ (xs r : List Int), Inc r → Inc (xs.foldl (LJ l) r) ∧ (∀ x, x ∈ xs.foldl (LJ l) r ↔ x ∈ r ∨ x ∈ xs ∧ dP l x = true) ∧ (xs.foldl (LJ l) r).length ≤ r.length + xs.length
 | [], r, h => ⟨h, fun x => by simp, by simp⟩
 | y :: xs, r, h => by
   rw [List.foldl_cons]; unfold LJ; cases hk : dP l y with
   | true =>
     obtain ⟨h1, h2, h3⟩ := Ul l xs (put r y) (Oq h); refine ⟨h1, fun x => (h2 x).trans ?_, ?_⟩
     · rw [TU, List.mem_cons]; constructor
       · rintro ((h | rfl) | h)
         · exact .inl h
         · exact .inr ⟨.inl rfl, hk⟩
         exact .inr ⟨.inr h.1, h.2⟩
       rintro (h | ⟨rfl | h, h4⟩)
       · exact .inl (.inl h)
       · exact .inl (.inr rfl)
       exact .inr ⟨h, h4⟩
     have := JU r y; simp only [List.length_cons, cond_true] at h3 ⊢; exact Nat.le_trans h3 (by omega)
   | false =>
     obtain ⟨h1, h2, h3⟩ := Ul l xs r h; refine ⟨h1, fun x => (h2 x).trans ⟨fun h => ?_, fun h => ?_⟩, ?_⟩
     · rcases h with h | h
       · exact .inl h
       exact .inr ⟨List.mem_cons_of_mem _ h.1, h.2⟩
     · rcases h with h | ⟨h, h4⟩
       · exact .inl h
       rcases List.mem_cons.1 h with rfl | h
       · rw [hk] at h4; cases h4
       exact .inr ⟨h, h4⟩
     simp only [List.length_cons, cond_false] at h3 ⊢; exact Nat.le_trans h3 (by omega)
theorem Wy (l : List ah) : ∀ (ids r : List Int), Inc r → Inc (ids.foldl (fun r id => (iM l id).foldl (LJ l) r) r) ∧ ∀ x, x ∈ ids.foldl (fun r id => (iM l id).foldl (LJ l) r) r ↔ x ∈ r ∨ dP l x = true ∧ ∃ id ∈ ids, x ∈ iM l id
 | [], r, h => ⟨h, fun x => by simp⟩
 | id :: ids, r, h => by
   rw [List.foldl_cons]; obtain ⟨g1, g2, _⟩ := Ul l (iM l id) r h; obtain ⟨h1, h2⟩ := Wy l ids _ g1; refine ⟨h1, fun x => (h2 x).trans ?_⟩; rw [g2 x]; constructor
   · rintro ((h | h) | ⟨h3, i, h4, h5⟩)
     · exact .inl h
     · exact .inr ⟨h.2, id, List.mem_cons_self .., h.1⟩
     exact .inr ⟨h3, i, List.mem_cons_of_mem _ h4, h5⟩
   rintro (h | ⟨h3, i, h4, h5⟩)
   · exact .inl (.inl h)
   rcases List.mem_cons.1 h4 with rfl | h4
   · exact .inl (.inr ⟨h5, h3⟩)
   exact .inr ⟨h3, i, h4, h5⟩
theorem IX (l : List ah) (ids : List Int) : Inc (og l ids) := (Wy l ids [] .nil).1
theorem pq {l : List ah} {ids : List Int} {x : Int} : x ∈ og l ids ↔ dP l x = true ∧ ∃ id ∈ ids, x ∈ iM l id := by
 unfold og; rw [(Wy l ids [] .nil).2 x]; simp
def chainOf (l : List ah) (ids : List Int) : List Int := l.foldl (fun s _ => iZ s (og l s)) (og l (oP l ids))
inductive Ch (l : List ah) (ids : List Int) : Int → Prop
 | one {i x : Int} (h : i ∈ ids) (hx : x ∈ iM l i) (hk : dP l x = true) : Ch l ids x
 | more {y x : Int} (h : Ch l ids y) (hx : x ∈ iM l y) (hk : dP l x = true) : Ch l ids x
theorem af2 {l : List ah} {i x : Int} (h : x ∈ iM l i) : dP l i = true := by
 unfold iM at h; unfold dP; cases hg : jr l i with
 | none => rw [Bv hg] at h; cases h
 | some e => rfl
theorem xQ {s t : List Int} (hs : Inc s) (ht : Inc t) (h : ∀ x ∈ s, x ∈ t) : s.length ≤ t.length ∧ (t.length ≤ s.length → s = t) := by
 have e : s = t.filter (fun x => hasB s x) := BJ hs (ht.sublist List.filter_sublist) fun x => by
  rw [List.mem_filter, kC]; exact ⟨fun hx => ⟨h x hx, hx⟩, fun hx => hx.2⟩
 have hl := List.length_filter_le (fun x => hasB s x) t; refine ⟨by rw [e]; exact hl, fun hle => ?_⟩; have h3 : (t.filter (fun x => hasB s x)).length = t.length := by have := congrArg List.length e; omega
 rw [e]; exact List.filter_eq_self.2 (List.length_filter_eq_length_iff.1 h3)
def Jh (l : List ah) : List Int := fK (l.map (·.Id))
theorem OY {l : List ah} {x : Int} (h : dP l x = true) : x ∈ Jh l := by
 unfold dP at h; obtain ⟨e, he⟩ := Option.isSome_iff_exists.1 h; exact jL.2 (List.mem_map.2 ⟨e, Bq he, ae6 he⟩)
theorem Qn (l : List ah) : ∀ (l' : List ah) (s : List Int), Inc s → (∀ x ∈ s, dP l x = true) →
 Inc (l'.foldl (fun s _ => iZ s (og l s)) s) ∧ (∀ x ∈ l'.foldl (fun s _ => iZ s (og l s)) s, dP l x = true) ∧ (∀ x ∈ s, x ∈ l'.foldl (fun s _ => iZ s (og l s)) s) ∧
 ((Jh l).length ≤ s.length + l'.length → ∀ x ∈ og l (l'.foldl (fun s _ => iZ s (og l s)) s), x ∈ l'.foldl (fun s _ => iZ s (og l s)) s)
 | [], s, hs, hk => ⟨hs, hk, fun _ h => h, fun hlen x hx => by
     have h1 := (xQ hs (jM _) (fun x hx => OY (hk x hx))).2 (by show (Jh l).length ≤ s.length; simpa using hlen); have h2 := OY (pq.1 hx).1; unfold Jh at h2
     rw [← h1] at h2; exact h2⟩
 | e :: l', s, hs, hk => by
   rw [List.foldl_cons]
   have hku : ∀ x ∈ iZ s (og l s), dP l x = true := fun x hx => by
    rcases vC.1 hx with h | h
    · exact hk x h
    exact (pq.1 h).1
   obtain ⟨h1, h2, h3, h4⟩ := Qn l l' (iZ s (og l s)) (EH _ _) hku; refine ⟨h1, h2, fun x hx => h3 x (vC.2 (.inl hx)), fun hlen => ?_⟩; have hsub := xQ hs (EH s (og l s)) fun x hx => vC.2 (.inl hx); by_cases hfix : s = iZ s (og l s)
   ·
    have hst : ∀ (l' : List ah), l'.foldl (fun s _ => iZ s (og l s)) s = s := by
     intro l'
     induction l' with
     | nil => rfl
     | cons e l' ih => rw [List.foldl_cons, ← hfix, ih]
    rw [← hfix, hst]; intro x hx; rw [hfix]; exact vC.2 (.inr hx)
   · refine h4 ?_
     have : s.length < (iZ s (og l s)).length := by
      rcases Nat.lt_or_ge s.length (iZ s (og l s)).length with h | h
      · exact h
      exact absurd (hsub.2 h) hfix
     simp only [List.length_cons] at hlen; omega
theorem Vg (l : List ah) (ids : List Int) : Inc (chainOf l ids) := (Qn l l _ (IX _ _) fun _ hx => (pq.1 hx).1).1
theorem aez {l : List ah} {ids : List Int} {x : Int} (h : x ∈ chainOf l ids) : dP l x = true := (Qn l l _ (IX _ _) fun _ hx => (pq.1 hx).1).2.1 x h
theorem Vh (l : List ah) (ids : List Int) : ∀ (l' : List ah) (s : List Int), (∀ x ∈ s, Ch l ids x) → ∀ x ∈ l'.foldl (fun s _ => iZ s (og l s)) s, Ch l ids x
 | [], s, h => h
 | e :: l', s, h => by
   rw [List.foldl_cons]; refine Vh l ids l' _ fun x hx => ?_; rcases vC.1 hx with hx | hx
   · exact h x hx
   obtain ⟨h1, y, h2, h3⟩ := pq.1 hx; exact .more (h y h2) h3 h1
theorem Vj {l : List ah} {ids : List Int} {x : Int} : x ∈ chainOf l ids ↔ Ch l ids x := by
 constructor
 · refine Vh l ids l _ (fun x hx => ?_) x; obtain ⟨h1, y, h2, h3⟩ := pq.1 hx; exact .one (yX.1 h2).1 h3 h1
 obtain ⟨h1, h2, h3, h4⟩ := Qn l l _ (IX l (oP l ids)) fun _ hx => (pq.1 hx).1
 have hlen : (Jh l).length ≤ (og l (oP l ids)).length + l.length := by
  have := iL (l.map (·.Id)); unfold Jh; simp only [List.length_map] at this; omega
 have h5 := h4 hlen; intro h
 induction h with
 | one h hx hk => exact h3 _ (pq.2 ⟨hk, _, yX.2 ⟨h, af2 hx⟩, hx⟩)
 | more h hx hk ih => exact h5 _ (pq.2 ⟨hk, _, ih, hx⟩)
theorem xR (l : List ah) (ids : List Int) : (chainOf l ids).length ≤ l.length := by
 have h1 := (xQ (t := Jh l) (Vg l ids) (jM _) fun x hx => OY (aez hx)).1; have h2 := iL (l.map fun e : ah => e.Id); unfold Jh at h1; simp only [List.length_map] at h2; omega
def Ak (l : List ah) : Prop := ∀ e ∈ l, e.fH.length ≤ 40
theorem D6 {l : List ah} (h : Ak l) (id : Int) : (iM l id).length ≤ 40 := by
 unfold iM; cases hg : jr l id with
 | none => rw [Bv hg]; exact Nat.zero_le _
 | some e => rw [o9 hg]; exact h e (Bq hg)
theorem ade (l : List ah) (ids : List Int) : (og l ids).length ≤ l.length := by
 have h1 := (xQ (t := Jh l) (IX l ids) (jM _) fun x hx => OY (pq.1 hx).1).1; have h2 := iL (l.map fun e : ah => e.Id); unfold Jh at h1; simp only [List.length_map] at h2; omega
theorem nT {l : List ah} {r : List Int} (hi : Inc r) (h : ∀ x ∈ r, dP l x = true) : r.length ≤ l.length := by
 have h1 := (xQ (t := Jh l) hi (jM _) fun x hx => OY (h x hx)).1; have h2 := iL (l.map fun e : ah => e.Id); unfold Jh at h1; simp only [List.length_map] at h2; omega
theorem Vk (l : List ah) (ids : List Int) (hl : l.length ≤ 1000) (ha : Ak l) (hi : ids.length ≤ 100000) : GN l ids true = some (og l ids) := by
 unfold GN U9; rw [qW ids (by omega) (fun r id => (iM l id).foldl (LJ l) r) (fun i r => Inc r ∧ ∀ x ∈ r, dP l x = true) (fun r => some r) ⟨.nil, fun x hx => by cases hx⟩]
 · rfl
 · intro k r i h hI; obtain ⟨g1, g2, _⟩ := Ul l (iM l ids[i]) r hI.1; refine ⟨⟨g1, fun x hx => ?_⟩, ?_⟩
   · rcases (g2 x).1 hx with h | h
     · exact hI.2 x h
     exact h.2
   unfold Hw DC; rw [dQ h, Qm l _ (by omega)]; simp only [Option.bind_some, cond_true]; show NW (iM l ids[i]) l k (i : Int) r 0 = _; have hal := D6 ha ids[i]; unfold NW; rw [qW (iM l ids[i]) (by omega) (LJ l) (fun _ r => Inc r ∧ ∀ x ∈ r, dP l x = true) (fun r => k r (IntKind.i64.wrap ((i : Int) + 1))) hI]
   · intro k2 r2 j hj hI2; refine ⟨?_, ?_⟩
     · unfold LJ; cases hk : dP l (iM l ids[i])[j] with
       | true => exact ⟨Oq hI2.1, fun x hx => (TU.1 hx).elim (hI2.2 x) fun e => e ▸ hk⟩
       | false => exact hI2
     unfold Hu Dz; rw [dQ hj, Qm l _ (by omega)]; simp only [Option.bind_some, FN]; show (bif dP l (iM l ids[i])[j] then _ else _) = _; unfold LJ; cases hk : dP l (iM l ids[i])[j] with
     | true =>
       simp only [cond_true]; rw [dA hj]; simp only [Option.bind_some]; have := nT hI2.1 hI2.2; rw [JR _ _ (by omega)]; rfl
     | false => rfl
   intro k2 r2 _; unfold Hu; rw [eY]
 intro k r hI; unfold Hw; rw [eY]
theorem ZH (l : List ah) (ids : List Int) (hl : l.length ≤ 1000) (ha : Ak l) (h1 : Inc ids) (h2 : ∀ x ∈ ids, dP l x = true) : DF l ids true = some (l.foldl (fun s _ => iZ s (og l s)) ids) := by
 unfold DF OU; rw [qW l (by omega) (fun s _ => iZ s (og l s)) (fun _ r => Inc r ∧ ∀ x ∈ r, dP l x = true) (fun r => some r) ⟨h1, h2⟩]
 · intro k r i h hI; refine ⟨⟨EH _ _, fun x hx => (vC.1 hx).elim (hI.2 x) fun h => (pq.1 h).1⟩, ?_⟩; have hr := nT hI.1 hI.2; have hn := ade l r; unfold Cc; rw [dec_lt h]; simp only [cond_true]; rw [Vk l r hl ha (by omega)]; simp only [Option.bind_some]; rw [FK _ _ (by omega) (by omega)]; rfl
 intro k r hI; unfold Cc; rw [nS]; rfl
theorem adf (l : List ah) (ids : List Int) (hl : l.length ≤ 1000) (ha : Ak l) (hi : ids.length ≤ 100000) : Ez l ids = some (chainOf l ids) := by
 unfold Ez; have hk := aa0 l ids; rw [adb l ids hl hi]; simp only [Option.bind_some]; rw [Vk l _ hl ha (by omega)]; simp only [Option.bind_some]; rw [ZH l _ hl ha (IX _ _) fun x hx => (pq.1 hx).1]; rfl
end Go.Proofs.YtelpgcaiadpjpaaGreat
end
section
namespace Go.Proofs.YtelpgcaiadpjpaaGreat
open Go.RowKit
section
variable {R A B C D E F G : Type} {Q : R → Prop}
theorem IY {body : (A → B → C → Option R) → A → B → C → Option R} (I : Nat → A → B → C → Prop) (hs : ∀ m a b c k, I m a b c → (∀ m' a' b' c', m' < m → I m' a' b' c' → dG (k a' b' c') Q) → dG (body k a b c) Q) :
 ∀ n m a b c, m < n → I m a b c → dG (yB body n a b c) Q
 | 0, m, _, _, _, h, _ => by omega
 | n + 1, m, a, b, c, h, hi => hs m a b c _ hi fun m' a' b' c' h' hi' => IY I hs n m' a' b' c' (by omega) hi'
theorem aas {body : (A → B → C → D → E → Option R) → A → B → C → D → E → Option R} (I : Nat → A → B → C → D → E → Prop) (hs : ∀ m a b c d e k, I m a b c d e → (∀ m' a' b' c' d' e', m' < m → I m' a' b' c' d' e' → dG (k a' b' c' d' e') Q) → dG (body k a b c d e) Q) :
 ∀ n m a b c d e, m < n → I m a b c d e → dG (BI body n a b c d e) Q
 | 0, m, _, _, _, _, _, h, _ => by omega
 | n + 1, m, a, b, c, d, e, h, hi => hs m a b c d e _ hi fun m' a' b' c' d' e' h' hi' => aas I hs n m' a' b' c' d' e' (by omega) hi'
theorem Tm {body : (A → B → C → D → E → F → Option R) → A → B → C → D → E → F → Option R} (I : Nat → A → B → C → D → E → F → Prop) (hs : ∀ m a b c d e f k, I m a b c d e f → (∀ m' a' b' c' d' e' f', m' < m → I m' a' b' c' d' e' f' → dG (k a' b' c' d' e' f') Q) → dG (body k a b c d e f) Q) :
 ∀ n m a b c d e f, m < n → I m a b c d e f → dG (yC body n a b c d e f) Q
 | 0, m, _, _, _, _, _, _, h, _ => by omega
 | n + 1, m, a, b, c, d, e, f, h, hi => hs m a b c d e f _ hi fun m' a' b' c' d' e' f' h' hi' => Tm I hs n m' a' b' c' d' e' f' (by omega) hi'
theorem aat {body : (A → B → C → D → E → F → G → Option R) → A → B → C → D → E → F → G → Option R} (I : Nat → A → B → C → D → E → F → G → Prop) (hs : ∀ m a b c d e f g k, I m a b c d e f g → (∀ m' a' b' c' d' e' f' g', m' < m → I m' a' b' c' d' e' f' g' → dG (k a' b' c' d' e' f' g') Q) → dG (body k a b c d e f g) Q) :
 ∀ n m a b c d e f g, m < n → I m a b c d e f g → dG (MB body n a b c d e f g) Q
 | 0, m, _, _, _, _, _, _, _, h, _ => by omega
 | n + 1, m, a, b, c, d, e, f, g, h, hi => hs m a b c d e f g _ hi fun m' a' b' c' d' e' f' g' h' hi' => aat I hs n m' a' b' c' d' e' f' g' (by omega) hi'
end
theorem FP {V : Type} : ∀ (m : List (Int × V)) (k k' : Int) (v : V), fB (kP m k v) k' = bif k' == k then some v else fB m k'
 | [], k, k', v => by
   unfold kP fB; rfl
 | p :: m, k, k', v => by
   unfold kP; cases h : k == p.1 with
   | true =>
     have h1 : k = p.1 := by simpa using h
     subst h1; simp only [cond_true, fB]; cases k' == p.1 <;> rfl
   | false =>
     have h1 : k ≠ p.1 := by simpa using h
     simp only [cond_false, fB, FP m k k' v]; cases h2 : k' == p.1 with
     | true =>
       have h3 : k' = p.1 := by simpa using h2
       subst h3; have : (p.1 == k) = false := by simpa using fun e : p.1 = k => h1 e.symm
       rw [this]; rfl
     | false => rfl
def Yb (l : List ah) (m : List (Int × Int)) : Prop := ∀ id, (fB m id = none ∧ jr l id = none) ∨ ∃ (n : Nat) (e : ah), fB m id = some (n : Int) ∧ jr l id = some e ∧ l[n]? = some e
theorem Yb.isSome {l : List ah} {m : List (Int × Int)} (h : Yb l m) (id : Int) : (fB m id).isSome = dP l id := by
 unfold dP; rcases h id with ⟨h1, h2⟩ | ⟨n, e, h1, h2, _⟩ <;> rw [h1, h2] <;> rfl
theorem Yb.get {l : List ah} {m : List (Int × Int)} (h : Yb l m) {id : Int} {e : ah} (hg : jr l id = some e) : bf l ((fB m id).getD 0) = some e := by
 rcases h id with ⟨_, h2⟩ | ⟨n, e', h1, h2, h3⟩
 · rw [hg] at h2; cases h2
 rw [hg] at h2; cases h2; rw [h1]; show bf l (n : Int) = _; rw [abM, h3]
theorem Nl (l : List ah) (hl : l.length ≤ 1000) : dG (zI l) (Yb l) := by
 unfold zI OB
 refine Ir (fun m a b => ∃ i : Nat, a = (i : Int) - 1 ∧ m = i ∧ i ≤ l.length ∧ ∀ id, (fB b id = none ∧ (l.drop i).find? (fun e => e.Id == id) = none) ∨ ∃ (n : Nat) (e : ah), fB b id = some (n : Int) ∧ (l.drop i).find? (fun e => e.Id == id) = some e ∧ l[n]? = some e) ?_ fuel l.length _ _ (fuel_lt (by omega))
  ⟨l.length, by rw [IntKind.wrap_i64]; omega, rfl, Nat.le_refl _, fun id => .inl ⟨rfl, by simp⟩⟩
 rintro m a b k ⟨i, rfl, hm, hi, h⟩ hk; unfold Gy; refine dG.bif (fun e => ?_) fun e => ?_
 · have hpos : 0 < i := by have := of_decide_eq_true e; omega
   have hlt : i - 1 < l.length := by omega
   have e1 : (i : Int) - 1 = ((i - 1 : Nat) : Int) := by omega
   rw [e1, dA hlt]; simp only [Option.bind_some]; refine hk (i - 1) _ _ (by omega) ⟨i - 1, by rw [IntKind.wrap_i64]; omega, rfl, by omega, fun id => ?_⟩; rw [FP, List.drop_eq_getElem_cons hlt, show i - 1 + 1 = i by omega, List.find?_cons]; cases hid : l[i - 1].Id == id with
   | true =>
     have : (id == l[i - 1].Id) = true := by have : l[i - 1].Id = id := by simpa using hid
                                             simp [this]
     rw [this]; exact .inr ⟨i - 1, l[i - 1], rfl, rfl, by simp [hlt]⟩
   | false =>
     have : (id == l[i - 1].Id) = false := by have : l[i - 1].Id ≠ id := by simpa using hid
                                              simpa using fun e : id = l[i - 1].Id => this e.symm
     rw [this]; exact h id
 have hz : i = 0 := by have := of_decide_eq_false e; omega
 subst hz; refine .ret fun id => ?_; have := h id; rw [List.drop_zero] at this; exact this
inductive Vl (l : List ah) (from_ : List Int) : Int → Prop
 | one {x : Int} (h : x ∈ from_) (hk : dP l x = true) : Vl l from_ x
 | more {y x : Int} (h : Vl l from_ y) (hx : x ∈ iM l y) (hk : dP l x = true) : Vl l from_ x
theorem Vl.dP {l : List ah} {f : List Int} {x : Int} (h : Vl l f x) : dP l x = true := by cases h <;> assumption
theorem ZI {r : List Int} {x : Int} (h : x ∉ r) : (put r x).length = r.length + 1 := by
 unfold put; rw [if_neg (by rw [kC]; exact h), List.length_append, List.length_cons]; have := congrArg List.length (List.takeWhile_append_dropWhile (p := (decide <| · < x)) (l := r)); rw [List.length_append] at this; omega
theorem Yc (r : List Int) (x : Int) : fK (r ++ [x]) = put (fK r) x := by unfold fK; rw [List.foldl_append]; rfl
structure Mid (l : List ah) (from_ next af4 : List Int) (i : Nat) (out later : List Int) (found level : List (Int × Bool)) : Prop where
 found : ∀ x, (fB found x).getD false = true ↔ x ∈ out
 level : ∀ x, (fB level x).getD false = true → x ∈ out
 nodup : (fK out).length = out.length
 rch : ∀ x ∈ out, Vl l from_ x
 seen : ∀ x ∈ next.take i, dP l x = true → x ∈ out
 sub : ∀ x ∈ af4, x ∈ out
 ref : ∀ y ∈ out, y ∈ af4 ∨ ∀ x ∈ iM l y, x ∈ later
 back : ∀ x ∈ later, ∃ y ∈ out, x ∈ iM l y
 size : later.length + 40 * af4.length ≤ 40 * out.length
 same : out.length = af4.length → later = []
theorem Qo {l : List ah} {out : List Int} (h : (fK out).length = out.length) (hr : ∀ x ∈ out, dP l x = true) : out.length ≤ l.length := by
 rw [← h]; exact nT (jM out) fun x hx => hr x (jL.1 hx)
theorem WA (l : List ah) {x : Int} {e : ah} (h : jr l x = some e) : mV e = some (iM l x) := by
 unfold mV iM; rw [o9 h]
theorem Yd (l : List ah) (from_ : List Int) (hl : l.length ≤ 1000) (ha : Ak l) (hf : from_.length ≤ 10000000) :
 dG (zJ l from_ fun a0 => mV a0) (fun r => Inc r ∧ ∀ x, x ∈ r ↔ Vl l from_ x) := by
 unfold zJ; refine (Nl l hl).bind fun at_ hat => ?_; unfold OE
 refine aas (fun m out next at' found level => at' = at_ ∧ m = 2 * (l.length - out.length) + (if next = [] then 0 else 1) ∧ next.length ≤ 10000000 ∧ (∀ x, (fB found x).getD false = true ↔ x ∈ out) ∧ (fK out).length = out.length ∧
  (∀ x ∈ out, Vl l from_ x) ∧ (∀ x ∈ next, dP l x = true → Vl l from_ x) ∧ (∀ x ∈ from_, dP l x = true → x ∈ out ∨ x ∈ next) ∧ (∀ y ∈ out, ∀ x ∈ iM l y, dP l x = true → x ∈ out ∨ x ∈ next)) ?_ fuel (2 * (l.length - ([] : List Int).length) + (if from_ = [] then 0 else 1)) _ _ _ _ _ ?_ ?_
 · rintro m out next at2 found level k ⟨anI, rfl, hn, h1, h2, h3, h4, h5, h6⟩ hk; subst anI; unfold Gz; have hol := Qo h2 fun x hx => (h3 x hx).dP; refine dG.bif (fun e => ?_) fun e => ?_
   · have hne : next ≠ [] := by
      rintro rfl; simp at e
     unfold OD; refine Tm (body := BM next l (fun a0 => mV a0) k) (fun (m : Nat) (o la : List Int) (c : Int) (d : List (Int × Int)) (fo le : List (Int × Bool)) => ∃ i : Nat, c = i ∧ i + m = next.length ∧ d = at2 ∧ Mid l from_ next out i o la fo le) ?_ fuel next.length _ _ _ _ _ _ (by have : fuel = 4611686018427387904 := rfl; omega) ?_
     · rintro m o la c d fo le k2 ⟨i, rfl, hm, rfl, hM⟩ hk2; unfold BM; refine dG.bif (fun e => ?_) fun e => ?_
       · have hi : i < next.length := by simpa using e
         have w := wrap_succ i (by omega); have anJ := Qo hM.nodup fun x hx => (hM.rch x hx).dP; rw [dA hi]; simp only [Option.bind_some]; rw [hat.isSome]; unfold wV; have htake : next.take (i + 1) = next.take i ++ [next[i]] := by rw [List.take_succ_eq_append_getElem hi]
         cases hkn : dP l next[i] with
         | false =>
           simp only [Bool.not_false, cond_true, Option.bind_some, w]; refine hk2 (m - 1) _ _ _ _ _ _ (by omega) ⟨i + 1, rfl, by omega, rfl, { hM with seen := fun x hx hk => ?_ }⟩; rw [htake, List.mem_append] at hx; rcases hx with hx | hx
           · exact hM.seen x hx hk
           rw [List.mem_singleton.1 hx, hkn] at hk; cases hk
         | true =>
           simp only [Bool.not_true, cond_false, Option.bind_some]; by_cases hin : next[i] ∈ o
           · rw [(hM.found next[i]).2 hin]; simp only [cond_true, Option.bind_some, w]; refine hk2 (m - 1) _ _ _ _ _ _ (by omega) ⟨i + 1, rfl, by omega, rfl, { hM with seen := fun x hx hk => ?_ }⟩; rw [htake, List.mem_append] at hx; rcases hx with hx | hx
             · exact hM.seen x hx hk
             rw [List.mem_singleton.1 hx]; exact hin
           have f1 : (fB fo next[i]).getD false = false := by
            cases h : (fB fo next[i]).getD false with
            | false => rfl
            | true => exact absurd ((hM.found _).1 h) hin
           have f2 : (fB le next[i]).getD false = false := by
            cases h : (fB le next[i]).getD false with
            | false => rfl
            | true => exact absurd (hM.level _ h) hin
           rw [f1, f2]; simp only [cond_false, Option.bind_some]; obtain ⟨ev, hev⟩ := Option.isSome_iff_exists.1 (show (jr l next[i]).isSome = true from hkn); rw [dM (by simp only [List.length_singleton]; omega)]; simp only [Option.bind_some]; rw [hat.get hev]; simp only [Option.bind_some]; rw [WA l hev]; simp only [Option.bind_some]; have hau := D6 ha next[i]; have hsz := hM.size; rw [dM (by omega)]; simp only [Option.bind_some, w]; refine hk2 (m - 1) _ _ _ _ _ _ (by omega) ⟨i + 1, rfl, by omega, rfl, ?_⟩; have hnx : Vl l from_ next[i] := h4 _ (List.getElem_mem hi) hkn; refine ⟨fun x => ?_, fun x hx => ?_, ?_, fun x hx => ?_, fun x hx hk => ?_, fun x hx => List.mem_append_left _ (hM.sub x hx), fun y hy => ?_, fun x hx => ?_, ?_, fun h => ?_⟩
           · rw [FP, List.mem_append, List.mem_singleton]; cases hx : x == next[i] with
             | true => simp only [cond_true, Option.getD_some, true_iff]; exact .inr (by simpa using hx)
             | false => simp only [cond_false]; rw [hM.found x]; exact ⟨.inl, fun h => h.elim id fun h => by simp [h] at hx⟩
           · rw [FP] at hx; rw [List.mem_append, List.mem_singleton]; cases hxe : x == next[i] with
             | true => exact .inr (by simpa using hxe)
             | false => rw [hxe] at hx; exact .inl (hM.level x hx)
           · rw [Yc, ZI (fun h => hin (jL.1 h)), hM.nodup]; simp
           · rcases List.mem_append.1 hx with hx | hx
             · exact hM.rch x hx
             rw [List.mem_singleton.1 hx]; exact hnx
           · rw [htake, List.mem_append] at hx; rcases hx with hx | hx
             · exact List.mem_append_left _ (hM.seen x hx hk)
             exact List.mem_append_right _ hx
           · rcases List.mem_append.1 hy with hy | hy
             · exact (hM.ref y hy).imp id fun h x hx => List.mem_append_left _ (h x hx)
             rw [List.mem_singleton.1 hy]; exact .inr fun x hx => List.mem_append_right _ hx
           · rcases List.mem_append.1 hx with hx | hx
             · obtain ⟨y, hy, h⟩ := hM.back x hx; exact ⟨y, List.mem_append_left _ hy, h⟩
             exact ⟨next[i], List.mem_append_right _ (List.mem_singleton.2 rfl), hx⟩
           · simp only [List.length_append, List.length_singleton]; omega
           have := hM.size; simp only [List.length_append, List.length_singleton] at h; omega
       have hi : i = next.length := by have : ¬ i < next.length := by simpa using e
                                       omega
       subst hi; have anJ := Qo hM.nodup fun x hx => (hM.rch x hx).dP; have hsz := hM.size; refine hk (2 * (l.length - o.length) + (if la = [] then 0 else 1)) _ _ _ _ _ ?_ ⟨rfl, rfl, by omega, hM.found, hM.nodup, hM.rch, fun x hx hkx => ?_, fun x hx hkx => ?_, fun y hy x hx hkx => ?_⟩
       · rw [if_neg hne]; have hle : out.length ≤ o.length := by omega
         rcases Nat.lt_or_ge out.length o.length with h | h
         · split <;> omega
         have := hM.same (by omega); rw [if_pos this]; omega
       · obtain ⟨y, hy, h⟩ := hM.back x hx; exact .more (hM.rch y hy) h hkx
       · rcases h5 x hx hkx with h | h
         · exact .inl (hM.sub x h)
         exact .inl (hM.seen x (by rw [List.take_length]; exact h) hkx)
       rcases hM.ref y hy with h | h
       · rcases h6 y h x hx hkx with h | h
         · exact .inl (hM.sub x h)
         exact .inl (hM.seen x (by rw [List.take_length]; exact h) hkx)
       exact .inr (h x hx)
     exact ⟨0, rfl, by omega, rfl, ⟨h1, fun x hx => by simp [fB] at hx, h2, h3, fun x hx => by simp at hx, fun _ h => h, fun y hy => .inl hy, fun x hx => (List.not_mem_nil hx).elim, by simp, fun _ => rfl⟩⟩
   have hz : next = [] := by
    cases next with
    | nil => rfl
    | cons a b => simp at e
   subst hz; rw [vg out (by omega)]; refine .ret ⟨jM _, fun x => ?_⟩; rw [jL]; refine ⟨h3 x, fun h => ?_⟩
   induction h with
   | one h hkx => exact (h5 _ h hkx).elim id fun h => (List.not_mem_nil h).elim
   | more h hx hkx ih => exact (h6 _ ih _ hx hkx).elim id fun h => (List.not_mem_nil h).elim
 · have : fuel = 4611686018427387904 := rfl; split <;> (simp only [List.length_nil]; omega)
 exact ⟨rfl, rfl, hf, fun x => by simp [fB], rfl, fun x hx => (List.not_mem_nil hx).elim, fun x hx hk => .one hx hk, fun x hx _ => .inr hx, fun y hy => (List.not_mem_nil hy).elim⟩
theorem GY (l : List ah) (ids : List Int) (hl : l.length ≤ 1000) (ha : Ak l) (hi : ids.length ≤ 100000) : qp l ids = some (chainOf l ids) := by
 refine dG.eq ?_; unfold qp; refine (Nl l hl).bind fun at_ hat => ?_; unfold OG; rw [qW ids (by omega) (fun r id => r ++ iM l id) (fun i r => r.length ≤ 40 * i) (fun r => (zJ l r fun a0 => mV a0).bind fun x12 => some x12) (by simp)]
 · rw [foldl_append (iM l), List.nil_append]
   have hlen : (ids.flatMap (iM l)).length ≤ 40 * ids.length := by
    have key : ∀ ids : List Int, (ids.flatMap (iM l)).length ≤ 40 * ids.length := by
     intro ids
     induction ids with
     | nil => simp
     | cons x ids ih => have := D6 ha x; rw [List.flatMap_cons, List.length_append, List.length_cons]; omega
    exact key ids
   refine (Yd l _ hl ha (by omega)).bind fun r hr => .ret ?_; refine BJ hr.1 (Vg l ids) fun x => (hr.2 x).trans (Iff.trans ?_ Vj.symm); constructor
   · intro h
     induction h with
     | one h hk =>
       obtain ⟨i, hi, h⟩ := List.mem_flatMap.1 h; exact .one hi h hk
     | more h hx hk ih => exact .more ih hx hk
   intro h
   induction h with
   | one h hx hk => exact .one (List.mem_flatMap.2 ⟨_, h, hx⟩) hk
   | more h hx hk ih => exact .more ih hx hk
 · intro k r i h hI; have hau := D6 ha ids[i]; refine ⟨by simp only [List.length_append]; omega, ?_⟩; unfold BN wW; rw [dQ h, hat.isSome]; cases hk : dP l ids[i] with
   | false =>
     have : iM l ids[i] = [] := by
      unfold iM; rw [Bv (by unfold dP at hk; simpa using hk)]; rfl
     rw [this, List.append_nil]; rfl
   | true =>
     obtain ⟨ev, hev⟩ := Option.isSome_iff_exists.1 (show (jr l ids[i]).isSome = true from hk); simp only [cond_true]; rw [hat.get hev]; simp only [Option.bind_some]; have : iM l ids[i] = ev.fH := by unfold iM; rw [o9 hev]
     rw [← this, dM (by omega)]; rfl
 intro k r _; unfold BN; rw [eY]
end Go.Proofs.YtelpgcaiadpjpaaGreat
end
section
namespace Go.Proofs.YtelpgcaiadpjpaaGreat
open Go.RowKit
theorem Tn : ∀ x : List UInt8, Op.bytesLess x x = false
 | [] => rfl
 | a :: x => by
   unfold Op.bytesLess; rw [Tn x]; simp
theorem adg : ∀ {x y z : List UInt8}, Op.bytesLess x y = true → Op.bytesLess y z = true → Op.bytesLess x z = true
 | _, _, [], _, h => by simp [Op.bytesLess] at h
 | [], _, _ :: _, _, _ => rfl
 | _ :: _, [], _ :: _, h, _ => by simp [Op.bytesLess] at h
 | a :: x, b :: y, c :: z, h, k => by
   simp only [Op.bytesLess, Bool.or_eq_true, Bool.and_eq_true, decide_eq_true_eq, beq_iff_eq] at h k ⊢; rcases h with h | ⟨rfl, h⟩ <;> rcases k with k | ⟨rfl, k⟩
   · exact .inl (UInt8.lt_trans h k)
   · exact .inl h
   · exact .inl k
   exact .inr ⟨rfl, adg h k⟩
theorem adh : ∀ {x y : List UInt8}, Op.bytesLess x y = false → Op.bytesLess y x = false → x = y
 | [], [], _, _ => rfl
 | [], _ :: _, h, _ => by simp [Op.bytesLess] at h
 | _ :: _, [], _, h => by simp [Op.bytesLess] at h
 | a :: x, b :: y, h, k => by
   simp only [Op.bytesLess, Bool.or_eq_false_iff, Bool.and_eq_false_iff, decide_eq_false_iff_not, beq_eq_false_iff_ne] at h k; have e : a = b := UInt8.le_antisymm (UInt8.not_lt.1 k.1) (UInt8.not_lt.1 h.1); subst e; have h2 := h.2.resolve_left (fun h => h rfl); have k2 := k.2.resolve_left (fun h => h rfl); rw [adh h2 k2]
def gG (a b : aj) : Bool := decide (a.Kind < b.Kind) || (a.Kind == b.Kind && Op.bytesLess a.Key.toList b.Key.toList)
def jJ (a b : aj) : Bool := a.Kind == b.Kind && decide (a.Key = b.Key)
theorem N7 (a : aj) : gG a a = false := by unfold gG; rw [Tn]; simp
theorem JW {a b c : aj} (h : gG a b = true) (k : gG b c = true) : gG a c = true := by
 unfold gG at *; simp only [Bool.or_eq_true, Bool.and_eq_true, decide_eq_true_eq, beq_iff_eq] at *; rcases h with h | ⟨h1, h2⟩ <;> rcases k with k | ⟨k1, k2⟩
 · exact .inl (by omega)
 · exact .inl (by omega)
 · exact .inl (by omega)
 exact .inr ⟨by omega, adg h2 k2⟩
theorem sQ {a b : aj} : jJ a b = true ↔ a.Kind = b.Kind ∧ a.Key = b.Key := by unfold jJ; simp
theorem Ye {a b : aj} (h : gG a b = false) (k : gG b a = false) : jJ a b = true := by
 unfold gG at *; simp only [Bool.or_eq_false_iff, Bool.and_eq_false_iff, decide_eq_false_iff_not, beq_eq_false_iff_ne] at *; have e : a.Kind = b.Kind := by omega
 rw [sQ]; exact ⟨e, toList_inj (adh (h.2.resolve_left fun n => n e) (k.2.resolve_left fun n => n e.symm))⟩
theorem Np {a b : aj} (h : jJ a b = true) : gG a b = false := by
 obtain ⟨h1, h2⟩ := sQ.1 h; unfold gG; rw [h1, h2, Tn]; simp
theorem FQ {a b c : aj} (h : jJ a b = true) : gG a c = gG b c ∧ gG c a = gG c b := by
 obtain ⟨h1, h2⟩ := sQ.1 h; unfold gG; rw [h1, h2]; exact ⟨rfl, rfl⟩
theorem af5 {a b : aj} (h : gG a b = true) : gG b a = false := by
 cases k : gG b a with
 | false => rfl
 | true => rw [← N7 a, JW h k]
theorem aeA (a b : aj) : oV a b = some (gG a b) := by
 unfold oV gG; cases h1 : decide (a.Kind < b.Kind) <;> cases h2 : a.Kind == b.Kind <;> rfl
theorem adi (k : Int) (key : ByteArray) (m : Int) (o : ByteArray) (i j : Int) : IE k key m o = some (gG ⟨k, key, i⟩ ⟨m, o, j⟩) := by
 unfold IE gG; cases h1 : decide (k < m) <;> cases h2 : k == m <;> simp_all
def kH (s : List aj) (e : aj) : Nat := s.findIdx fun x => !gG x e
def qA (s : List aj) (e : aj) : Bool := match s[kH s e]? with
 | some x => jJ x e
 | none => false
theorem ZJ (s : List aj) (e : aj) : kH s e ≤ s.length := List.findIdx_le_length
theorem Vm {s : List aj} {e : aj} (h : kH s e < s.length) : gG s[kH s e] e = false := by
 have := List.findIdx_getElem (w := h); unfold kH; simpa using this
theorem LK (s : List aj) (k : Int) (key : ByteArray) (hs : s.length ≤ 1000000) : uT s k key = some (((kH s ⟨k, key, 0⟩ : Nat) : Int), qA s ⟨k, key, 0⟩) := by
 unfold uT pF zi; generalize he : (⟨k, key, 0⟩ : aj) = e
 have hp : bQ (jT s (fun a0 => qP a0 e) (fun a0 => qQ a0 e)) fuel 0 = some (((kH s e : Nat) : Int), qA s e) := by
  rw [LG s (fuel_lt (by omega)) (fun x => !gG x e) (fun i => some (((i : Nat) : Int), match s[i]? with | some x => !gG e x | none => false)) (some (((s.length : Nat) : Int), false))]
  · split
    · rename_i h; congr 2; unfold qA kH; rw [List.getElem?_eq_getElem h]; have h1 : gG s[s.findIdx fun x => !gG x e] e = false := Vm h; show (!gG e s[s.findIdx fun x => !gG x e]) = jJ s[s.findIdx fun x => !gG x e] e; cases h2 : gG e s[s.findIdx fun x => !gG x e] with
      | false => rw [Ye h1 h2]; rfl
      | true =>
        cases h3 : jJ s[s.findIdx fun x => !gG x e] e with
        | false => rfl
        | true => rw [(FQ h3).2, N7] at h2; cases h2
    rename_i h; have h' : kH s e = s.length := by have := ZJ s e; unfold kH at *; omega
    have h2 : qA s e = false := by unfold qA; rw [h', List.getElem?_eq_none (Nat.le_refl _)]
    rw [h', h2]
  · intro k2 i h; unfold jT; rw [dQ h, dQ h]; simp only [qP, qQ, aeA, Option.bind_some]; rw [List.getElem?_eq_getElem h]; cases gG s[i] e <;> rfl
  intro k2; unfold jT; rw [eY, eY]; rfl
 rw [hp]; rfl
def gq (s : List aj) : Prop := s.Pairwise fun a b => gG a b = true
def mY (s : List aj) (k : Int) (key : ByteArray) : Int × Bool := match s.find? fun x => jJ x ⟨k, key, 0⟩ with
 | some x => (x.Id, true)
 | none => (0, false)
theorem Qp (s : List aj) (k : Int) (key : ByteArray) (hs : s.length ≤ 1000000) : GK s k key = some (mY s k key) := by
 unfold GK X8; rw [LG s (fuel_lt (by omega)) (fun x => jJ x ⟨k, key, 0⟩) (fun i => (bf s (i : Int)).bind fun x9 => some (x9.Id, true)) (some (0, false))]
 · unfold mY; rw [qX]; split
   · rename_i h; rw [dA h, List.getElem?_eq_getElem h]; rfl
   rename_i h; rw [List.getElem?_eq_none (by omega)]
 · intro k2 i h; unfold JI; rw [dQ h, dA h]; simp only [Option.bind_some]; unfold jJ; rw [xP]; cases s[i].Kind == k <;> rfl
 intro k2; unfold JI; rw [eY]
theorem Vo {s : List aj} (h : gq s) (e : aj) : s.find? (fun x => jJ x e) = match s[kH s e]? with | some x => if jJ x e then some x else none | none => none := by
 induction s with
 | nil => rfl
 | cons a s ih =>
   have h' := List.pairwise_cons.1 h; unfold kH; rw [List.find?_cons, List.findIdx_cons]; cases hp : gG a e with
   | true =>
     have hs : jJ a e = false := by
      cases hs : jJ a e with
      | false => rfl
      | true => rw [Np hs] at hp; cases hp
     rw [hs]; simp only [Bool.not_true, cond_false, List.getElem?_cons_succ]; exact ih h'.2
   | false =>
     simp only [Bool.not_false, cond_true, List.getElem?_cons_zero]; cases hs : jJ a e with
     | true => rfl
     | false =>
       simp only [Bool.false_eq_true, if_false]; refine List.find?_eq_none.2 fun x hx hk => ?_; have h1 := h'.1 x hx; rw [(FQ hk).2, hp] at h1; cases h1
theorem FT (s : List aj) (k : Int) (key : ByteArray) (hs : s.length ≤ 1000000) (h : gq s) : tZ s k key = some (mY s k key) := by
 unfold tZ; rw [LK s k key hs]; simp only [Option.bind_some]; unfold mY qA; rw [Vo h]; by_cases hl : kH s ⟨k, key, 0⟩ < s.length
 · rw [List.getElem?_eq_getElem hl]; simp only; cases hk : jJ s[kH s ⟨k, key, 0⟩] ⟨k, key, 0⟩ with
   | true => simp only [cond_true, if_true]; rw [dA hl]; rfl
   | false => rfl
 rw [List.getElem?_eq_none (by omega)]; rfl
def kV (s : List aj) (k : Int) (key : ByteArray) (id : Int) : List aj :=
 s.take (kH s ⟨k, key, 0⟩) ++ ⟨k, key, id⟩ :: s.drop (kH s ⟨k, key, 0⟩ + bif qA s ⟨k, key, 0⟩ then 1 else 0)
theorem aiI {s : List aj} {e : aj} (h : qA s e = true) : kH s e < s.length := by
 unfold qA at h; by_cases hl : kH s e < s.length
 · exact hl
 rw [List.getElem?_eq_none (by omega)] at h; cases h
theorem aau {α : Type} {l : List α} {i : Nat} (hi : i ≤ l.length) : yx l 0 (i : Int) = some (l.take i) := by
 have := TV (l := l) (lo := 0) (hi := i) (by omega) hi; simpa using this
theorem Nq {α : Type} {l : List α} {i : Nat} (hi : i ≤ l.length) : yx l (i : Int) (l.length : Int) = some (l.drop i) := by
 rw [TV (l := l) (lo := i) (hi := l.length) hi (by omega)]; congr 1; exact List.take_of_length_le (by simp)
theorem oQ (s : List aj) (k : Int) (key : ByteArray) (id : Int) (hs : s.length ≤ 1000000) : jU s k key id = some (kV s k key id) := by
 unfold jU; rw [LK s k key hs]; simp only [Option.bind_some]; have hp := ZJ s ⟨k, key, 0⟩; unfold vH kV; rw [aau hp]; simp only [Option.bind_some]; rw [dM (by simp; omega)]; simp only [Option.bind_some, List.nil_append]; rw [dM (by simp; omega)]; simp only [Option.bind_some]; cases hh : qA s ⟨k, key, 0⟩ with
 | true =>
   have hl := aiI hh; simp only [cond_true]; rw [wrap_succ _ (by omega), Nq hl]; simp only [Option.bind_some]; rw [dM (by simp; omega)]; simp
 | false =>
   simp only [cond_false]; rw [Nq hp]; simp only [Option.bind_some]; rw [dM (by simp; omega)]; simp
end Go.Proofs.YtelpgcaiadpjpaaGreat
end
section
namespace Go.Proofs.YtelpgcaiadpjpaaGreat
open Go.RowKit
theorem mP (s : List aj) (k : Int) (key : ByteArray) (id : Int) : (kV s k key id).length ≤ s.length + 1 := by
 unfold kV; have := ZJ s ⟨k, key, 0⟩; simp only [List.length_append, List.length_cons, List.length_take, List.length_drop]; omega
theorem aeB {s : List aj} {e x : aj} (h : x ∈ s.take (kH s e)) : gG x e = true := by
 obtain ⟨i, hi, rfl⟩ := List.getElem_of_mem h; have hi' : i < kH s e := by simp at hi; omega
 have := List.not_of_lt_findIdx hi'; rw [List.getElem_take]; simpa using this
theorem Yf {s : List aj} (hs : gq s) {e x : aj} (h : x ∈ s.drop (kH s e + bif qA s e then 1 else 0)) : gG e x = true := by
 generalize hn : (kH s e + bif qA s e then 1 else 0) = n at h; obtain ⟨i, hi, rfl⟩ := List.getElem_of_mem h; rw [List.getElem_drop]; rw [List.length_drop] at hi; by_cases hl : kH s e < s.length
 · have h1 := Vm hl; cases hh : qA s e with
   | true =>
     rw [hh] at hn; simp only [cond_true] at hn; have h2 : jJ s[kH s e] e = true := by unfold qA at hh; rw [List.getElem?_eq_getElem hl] at hh; exact hh
     rw [← (FQ h2).1]; exact List.pairwise_iff_getElem.1 hs _ _ hl (by omega) (by omega)
   | false =>
     rw [hh] at hn; simp only [cond_false, Nat.add_zero] at hn; subst hn; have h2 : jJ s[kH s e] e = false := by unfold qA at hh; rw [List.getElem?_eq_getElem hl] at hh; exact hh
     have h3 : gG e s[kH s e] = true := by
      cases h : gG e s[kH s e] with
      | true => rfl
      | false => rw [Ye h1 h] at h2; cases h2
     rcases Nat.eq_zero_or_pos i with h0 | h0
     · subst h0; simpa using h3
     exact JW h3 (List.pairwise_iff_getElem.1 hs _ _ hl (by omega) (by omega))
 omega
theorem N8 {s : List aj} (h : gq s) (k : Int) (key : ByteArray) (id : Int) : gq (kV s k key id) := by
 have e0 : jJ ⟨k, key, id⟩ ⟨k, key, 0⟩ = true := sQ.2 ⟨rfl, rfl⟩; unfold kV gq; refine List.pairwise_append.2 ⟨h.sublist (List.take_sublist ..), List.pairwise_cons.2 ⟨fun x hx => ?_, h.sublist (List.drop_sublist ..)⟩, fun x hx y hy => ?_⟩
 · rw [(FQ e0).1]; exact Yf h hx
 have h1 : gG x ⟨k, key, 0⟩ = true := aeB hx; rcases List.mem_cons.1 hy with rfl | hy
 · rw [(FQ e0).2]; exact h1
 exact JW h1 (Yf h hy)
structure iw (l : List (List aj)) : Prop where
 len : l.length ≤ 100
 each : ∀ s ∈ l, s.length ≤ 100 ∧ gq s
def jl (l : List (List aj)) (x : aj) : Bool := l.all fun s => (mY s x.Kind x.Key).2 && (mY s x.Kind x.Key).1 == x.Id
theorem Yg (l : List (List aj)) (x : aj) (h : iw l) : AQ l x = some (jl l x) := by
 unfold AQ MP; rw [scan l (fuel_lt (by have := h.len; omega)) (fun s => !((mY s x.Kind x.Key).2 && (mY s x.Kind x.Key).1 == x.Id)) false (some true)]
 · unfold jl; rw [yV, Cj]
 · intro k i hi; obtain ⟨h1, h2⟩ := h.each l[i] (List.getElem_mem hi); unfold Aa; rw [dQ hi, FT _ _ _ (by omega) h2]; simp only [Option.bind_some]; cases (mY l[i] x.Kind x.Key).2 <;> simp [bne]
 intro k; unfold Aa; rw [eY]
theorem adk (l : List (List aj)) (x : aj) (h : iw l) : IU l x = some (jl l x) := by
 unfold IU SG; rw [scan l (fuel_lt (by have := h.len; omega)) (fun s => !((mY s x.Kind x.Key).2 && (mY s x.Kind x.Key).1 == x.Id)) false (some true)]
 · unfold jl; rw [yV, Cj]
 · intro k i hi; obtain ⟨h1, h2⟩ := h.each l[i] (List.getElem_mem hi); unfold Fe; rw [dQ hi, Qp _ _ _ (by omega)]; simp only [Option.bind_some]; cases (mY l[i] x.Kind x.Key).2 <;> simp [bne]
 intro k; unfold Fe; rw [eY]
def jK (l : List (List aj)) : List aj := match l with
 | [] => []
 | s :: _ => s.filter (jl l)
def wL (l : List (List aj)) : List Int := (l.flatMap fun s => s.filter fun x => !jl l x).map (·.Id)
def xU (l : List (List aj)) (i : Nat) : List aj := if i = 0 then [] else jK l
def qH (l : List (List aj)) (i : Nat) : List Int := ((l.take i).flatMap fun s => s.filter fun x => !jl l x).map (·.Id)
theorem Vp {l : List (List aj)} {i : Nat} (h : i < l.length) : xU l (i + 1) = xU l i ++ (if i = 0 then l[i].filter (jl l) else []) := by
 unfold xU jK; cases l with
 | nil => simp at h
 | cons s l => cases i <;> simp
theorem N9 {l : List (List aj)} {i : Nat} (h : i < l.length) : qH l (i + 1) = qH l i ++ (l[i].filter fun x => !jl l x).map (·.Id) := by
 unfold qH; rw [List.take_succ_eq_append_getElem h, List.flatMap_append, List.map_append]; simp
theorem Qq (l : List (List aj)) : qH l l.length = wL l := by unfold qH wL; rw [List.take_length]
theorem Yh (l : List (List aj)) : xU l l.length = jK l := by
 unfold xU; cases l with
 | nil => rfl
 | cons s l => simp
theorem Ji {l : List (List aj)} (h : iw l) (i : Nat) : (qH l i).length ≤ 100 * i := by
 induction i with
 | zero => simp [qH]
 | succ i ih =>
   by_cases hi : i < l.length
   · rw [N9 hi, List.length_append, List.length_map]; have := (h.each _ (List.getElem_mem hi)).1; have := List.length_filter_le (fun x => !jl l x) l[i]; omega
   have : qH l (i + 1) = qH l i := by unfold qH; rw [List.take_of_length_le (by omega), List.take_of_length_le (by omega)]
   rw [this]; omega
theorem FU {l : List (List aj)} (h : iw l) : (wL l).length ≤ 10000 := by
 have := Ji h l.length; rw [Qq] at this; have := h.len; omega
theorem uD {l : List (List aj)} (h : iw l) : (jK l).length ≤ 100 := by
 unfold jK; cases l with
 | nil => exact Nat.zero_le _
 | cons s l => exact Nat.le_trans (List.length_filter_le _ _) (h.each s (List.mem_cons_self ..)).1
theorem uF {l : List (List aj)} (h : iw l) : gq (jK l) := by
 unfold jK; cases l with
 | nil => exact .nil
 | cons s l => exact (h.each s (List.mem_cons_self ..)).2.sublist List.filter_sublist
theorem JA (l : List (List aj)) (h : iw l) : sW l = some (jK l, fK (wL l)) := by
 have hlen := h.len; refine dG.eq ?_; unfold sW Jp; refine Tm (body := wu l) (fun (m : Nat) (a : List aj) (b : List Int) (c : Int) (d : List (List aj)) (_ : List aj) (_ : List Int) => ∃ i : Nat, c = i ∧ i + m = l.length ∧ d = l ∧ a = xU l i ∧ b = qH l i) ?_ fuel l.length [] [] 0 l [] [] (fuel_lt (by omega)) ⟨0, rfl, by omega, rfl, rfl, by simp [qH]⟩; rintro m a b c d e f k ⟨i, rfl, hm, rfl, rfl, rfl⟩ hk; unfold wu; refine dG.bif (fun hi => ?_) fun hi => ?_
 · have hi : i < d.length := by simpa using hi
   have hs := (h.each d[i] (List.getElem_mem hi)).1; have hdl := Ji h i; rw [dA hi]; simp only [Option.bind_some, DV]; unfold Jo
   refine aat (body := wo d[i] k (i : Int)) (fun (m2 : Nat) (a : List aj) (b : List Int) (c : Int) (d2 : List (List aj)) (_ : List aj) (_ : List Int) (g : Int) =>
    ∃ j : Nat, c = j ∧ j + m2 = d[i].length ∧ d2 = d ∧ g = i ∧ a = xU d i ++ (if i = 0 then (d[i].take j).filter (jl d) else []) ∧ b = qH d i ++ ((d[i].take j).filter fun x => !jl d x).map (·.Id)) ?_ fuel d[i].length _ _ _ _ _ _ _ (fuel_lt (by omega)) ⟨0, rfl, by omega, rfl, rfl, by simp, by simp⟩
   rintro m2 a b c d2 e2 f2 g k2 ⟨j, rfl, hm2, rfl, rfl, rfl, rfl⟩ hk2; unfold wo; refine dG.bif (fun hj => ?_) fun hj => ?_
   · have hj : j < d2[i].length := by simpa using hj
     have htake : d2[i].take (j + 1) = d2[i].take j ++ [d2[i][j]] := by rw [List.take_succ_eq_append_getElem hj]
     rw [dA hj]; simp only [Option.bind_some]; rw [Yg d2 _ h]; simp only [Option.bind_some]; have w := wrap_succ j (by omega); have hf1 := List.length_filter_le (fun x => !jl d2 x) (d2[i].take j); have hf2 := List.length_filter_le (jl d2) (d2[i].take j)
     have hst : (xU d2 i).length ≤ 100 := by unfold xU; split; · exact Nat.zero_le _
                                             · exact uD h
     rw [List.length_take] at hf1 hf2; cases ha : jl d2 d2[i][j] with
     | false =>
       simp only [Bool.not_false, cond_true]; rw [dM (by simp only [List.length_append, List.length_map, List.length_singleton]; omega)]; simp only [Option.bind_some, w]; refine hk2 (m2 - 1) _ _ _ _ _ _ _ (by omega) ⟨j + 1, rfl, by omega, rfl, rfl, ?_, ?_⟩
       · rw [htake, List.filter_append]; simp [ha]
       rw [htake, List.filter_append]; simp [ha]
     | true =>
       simp only [Bool.not_true, cond_false]; by_cases h0 : i = 0
       · subst h0; simp only [show (((0 : Nat) : Int) == 0) = true from rfl, cond_true, if_true]; rw [dM (by simp only [List.length_append, List.length_singleton]; omega)]; simp only [Option.bind_some, w]; refine hk2 (m2 - 1) _ _ _ _ _ _ _ (by omega) ⟨j + 1, rfl, by omega, rfl, rfl, ?_, ?_⟩
         · rw [htake, List.filter_append]; simp [ha]
         rw [htake, List.filter_append]; simp [ha]
       have : ((i : Int) == 0) = false := by simpa using h0
       rw [this]; simp only [cond_false, w]; refine hk2 (m2 - 1) _ _ _ _ _ _ _ (by omega) ⟨j + 1, rfl, by omega, rfl, rfl, ?_, ?_⟩
       · simp [h0]
       rw [htake, List.filter_append]; simp [ha]
   have hj : j = d2[i].length := by have : ¬ j < d2[i].length := by simpa using hj
                                    omega
   subst hj; rw [wrap_succ i (by omega), List.take_length]; exact hk (m - 1) _ _ _ _ _ _ (by omega) ⟨i + 1, rfl, by omega, rfl, (Vp hi).symm, (N9 hi).symm⟩
 have hi : i = d.length := by have : ¬ i < d.length := by simpa using hi
                              omega
 subst hi; have := FU h; rw [Qq, Yh, vg _ (by omega)]; exact .ret rfl
theorem Tq (l : List (List aj)) (h : iw l) : Ew l = some (jK l, fK (wL l)) := by
 have hlen := h.len; refine dG.eq ?_; unfold Ew SI; refine IY (body := Fh l) (fun (m : Nat) (a : List aj) (b : List Int) (c : Int) => ∃ i : Nat, c = i ∧ i + m = l.length ∧ a = xU l i ∧ b = fK (qH l i)) ?_ fuel l.length [] [] 0 (fuel_lt (by omega)) ⟨0, rfl, by omega, rfl, by simp [qH, fK]⟩; rintro m a b c k ⟨i, rfl, hm, rfl, rfl⟩ hk; unfold Fh; refine dG.bif (fun hi => ?_) fun hi => ?_
 · have hi : i < l.length := by simpa using hi
   have hs := (h.each l[i] (List.getElem_mem hi)).1; have hdl := Ji h i; unfold SH
   refine IY (body := Fg l (i : Int) k) (fun (m2 : Nat) (a : List aj) (b : List Int) (c : Int) =>
    ∃ j : Nat, c = j ∧ j + m2 = l[i].length ∧ a = xU l i ++ (if i = 0 then (l[i].take j).filter (jl l) else []) ∧ b = fK (qH l i ++ ((l[i].take j).filter fun x => !jl l x).map (·.Id))) ?_ fuel l[i].length _ _ _ (fuel_lt (by omega)) ⟨0, rfl, by omega, by simp, by simp⟩
   rintro m2 a b c k2 ⟨j, rfl, hm2, rfl, rfl⟩ hk2; unfold Fg; rw [dA hi]; simp only [Option.bind_some]; refine dG.bif (fun hj => ?_) fun hj => ?_
   · have hj : j < l[i].length := by simpa using hj
     have htake : l[i].take (j + 1) = l[i].take j ++ [l[i][j]] := by rw [List.take_succ_eq_append_getElem hj]
     rw [dA hj]; simp only [Option.bind_some]; rw [adk l _ h]; simp only [Option.bind_some]; have w := wrap_succ j (by omega); have hf1 := List.length_filter_le (fun x => !jl l x) (l[i].take j); have hf2 := List.length_filter_le (jl l) (l[i].take j)
     have hst : (xU l i).length ≤ 100 := by unfold xU; split; · exact Nat.zero_le _
                                            · exact uD h
     have hso := iL (qH l i ++ ((l[i].take j).filter fun x => !jl l x).map fun e : aj => e.Id); rw [List.length_append, List.length_map] at hso; rw [List.length_take] at hf1 hf2; cases ha : jl l l[i][j] with
     | false =>
       simp only [Bool.not_false, cond_true]; rw [JR _ _ (by omega)]; unfold uw; simp only [Option.bind_some, w]; refine hk2 (m2 - 1) _ _ _ (by omega) ⟨j + 1, rfl, by omega, ?_, ?_⟩
       · rw [htake, List.filter_append]; simp [ha]
       rw [htake, List.filter_append, List.map_append, ← List.append_assoc]; simp only [ha, List.filter_cons, Bool.not_false, if_true, List.filter_nil, List.map_cons, List.map_nil]; rw [Yc]
     | true =>
       simp only [Bool.not_true, cond_false]; unfold uw; by_cases h0 : i = 0
       · subst h0; simp only [show (((0 : Nat) : Int) == 0) = true from rfl, cond_true, if_true, Option.bind_some]; rw [dM (by simp only [List.length_append, List.length_singleton]; omega)]; simp only [Option.bind_some, w]; refine hk2 (m2 - 1) _ _ _ (by omega) ⟨j + 1, rfl, by omega, ?_, ?_⟩
         · rw [htake, List.filter_append]; simp [ha]
         rw [htake, List.filter_append]; simp [ha]
       have : ((i : Int) == 0) = false := by simpa using h0
       rw [this]; simp only [cond_false, w]; refine hk2 (m2 - 1) _ _ _ (by omega) ⟨j + 1, rfl, by omega, ?_, ?_⟩
       · simp [h0]
       rw [htake, List.filter_append]; simp [ha]
   have hj : j = l[i].length := by have : ¬ j < l[i].length := by simpa using hj
                                   omega
   subst hj; rw [wrap_succ i (by omega), List.take_length]; exact hk (m - 1) _ _ _ (by omega) ⟨i + 1, rfl, by omega, (Vp hi).symm, by rw [← N9 hi]⟩
 have hi : i = l.length := by have : ¬ i < l.length := by simpa using hi
                              omega
 subst hi; rw [Qq, Yh]; exact .ret rfl
end Go.Proofs.YtelpgcaiadpjpaaGreat
end
section
namespace Go.Proofs.YtelpgcaiadpjpaaGreat
open Go.RowKit
def Ib (s : List aj) : List Int := s.map (·.Id)
def bV (l : List ah) (s : List aj) : List Int := iZ (Ib s) (chainOf l (Ib s))
def allOf (l : List ah) (aH : List (List aj)) : List Int := aH.foldl (fun a s => iZ a (bV l s)) []
def oh (l : List ah) (aH : List (List aj)) (x : Int) : Nat := aH.countP fun s => hasB (bV l s) x
def uG (l : List ah) (aH : List (List aj)) : List Int := (allOf l aH).filter fun x => decide (oh l aH x < aH.length)
def jP (l : List ah) (aH : List (List aj)) : List Int := iZ (fK (wL aH)) (uG l aH)
theorem QI (l : List ah) (s : List aj) : Inc (bV l s) := EH _ _
theorem LM (s : List aj) : (Ib s).length = s.length := List.length_map _
theorem uH (l : List ah) (s : List aj) : (bV l s).length ≤ s.length + l.length := by
 have h1 := Jg (Ib s) (chainOf l (Ib s)); have h2 := xR l (Ib s); rw [LM] at h1; unfold bV; omega
theorem WB (l : List ah) : ∀ (aH : List (List aj)) (a : List Int), Inc a → Inc (aH.foldl (fun a s => iZ a (bV l s)) a) ∧ ∀ x, x ∈ aH.foldl (fun a s => iZ a (bV l s)) a ↔ x ∈ a ∨ ∃ s ∈ aH, x ∈ bV l s
 | [], a, h => ⟨h, fun x => by simp⟩
 | s :: aH, a, h => by
   rw [List.foldl_cons]; obtain ⟨h1, h2⟩ := WB l aH (iZ a (bV l s)) (EH _ _); refine ⟨h1, fun x => (h2 x).trans ?_⟩; rw [vC]; constructor
   · rintro ((h | h) | ⟨t, h3, h4⟩)
     · exact .inl h
     · exact .inr ⟨s, List.mem_cons_self .., h⟩
     exact .inr ⟨t, List.mem_cons_of_mem _ h3, h4⟩
   rintro (h | ⟨t, h3, h4⟩)
   · exact .inl (.inl h)
   rcases List.mem_cons.1 h3 with rfl | h3
   · exact .inl (.inr h4)
   exact .inr ⟨t, h3, h4⟩
theorem ahv (l : List ah) (aH : List (List aj)) : Inc (allOf l aH) := (WB l aH [] .nil).1
theorem aav {l : List ah} {aH : List (List aj)} {x : Int} : x ∈ allOf l aH ↔ ∃ s ∈ aH, x ∈ bV l s := by
 unfold allOf; rw [(WB l aH [] .nil).2 x]; simp
theorem Qr (l : List ah) (aH : List (List aj)) : Inc (uG l aH) := (ahv l aH).sublist List.filter_sublist
theorem cnt_lt {l : List ah} {aH : List (List aj)} {x : Int} : oh l aH x < aH.length ↔ ∃ s ∈ aH, x ∉ bV l s := by
 unfold oh; have h := List.countP_le_length (p := fun s => hasB (bV l s) x) (l := aH); have h2 := List.countP_eq_length (p := fun s => hasB (bV l s) x) (l := aH); constructor
 · intro hlt; by_cases hc : ∀ s ∈ aH, hasB (bV l s) x = true
   · have := h2.2 hc; omega
   simp only [Classical.not_forall] at hc; obtain ⟨s, hs, hx⟩ := hc; exact ⟨s, hs, fun hm => hx (kC.2 hm)⟩
 rintro ⟨s, hs, hx⟩; rcases Nat.lt_or_ge (aH.countP fun s => hasB (bV l s) x) aH.length with h3 | h3
 · exact h3
 exact absurd (kC.1 (h2.1 (by omega) s hs)) hx
theorem Qs {l : List ah} {aH : List (List aj)} {x : Int} : x ∈ uG l aH ↔ (∃ s ∈ aH, x ∈ bV l s) ∧ ∃ s ∈ aH, x ∉ bV l s := by
 unfold uG; rw [List.mem_filter, aav, decide_eq_true_eq, cnt_lt]
theorem Tt {aH : List (List aj)} {x : Int} : x ∈ wL aH ↔ ∃ s ∈ aH, ∃ y ∈ s, jl aH y = false ∧ y.Id = x := by
 unfold wL; simp only [List.mem_map, List.mem_flatMap, List.mem_filter, Bool.not_eq_true']; constructor
 · rintro ⟨y, ⟨s, hs, hy, h⟩, e⟩; exact ⟨s, hs, y, hy, h, e⟩
 rintro ⟨s, hs, y, hy, h, e⟩; exact ⟨y, ⟨s, hs, hy, h⟩, e⟩
theorem JX {aH : List (List aj)} {x : aj} : jl aH x = true ↔ ∀ s ∈ aH, (mY s x.Kind x.Key).2 = true ∧ (mY s x.Kind x.Key).1 = x.Id := by
 unfold jl; rw [List.all_eq_true]; simp
theorem adl {a b : List (List aj)} (h : ∀ s, s ∈ a ↔ s ∈ b) : jl a = jl b := by
 funext x; rw [Bool.eq_iff_iff, JX, JX]; exact ⟨fun k s hs => k s ((h s).2 hs), fun k s hs => k s ((h s).1 hs)⟩
theorem adn {l : List ah} {a b : List (List aj)} (h : ∀ s, s ∈ a ↔ s ∈ b) : jP l a = jP l b := by
 unfold jP
 have h1 : fK (wL a) = fK (wL b) := BJ (jM _) (jM _) fun x => by
  rw [jL, jL, Tt, Tt, adl h]; exact ⟨fun ⟨s, hs, k⟩ => ⟨s, (h s).1 hs, k⟩, fun ⟨s, hs, k⟩ => ⟨s, (h s).2 hs, k⟩⟩
 have h2 : uG l a = uG l b := BJ (Qr _ _) (Qr _ _) fun x => by
  rw [Qs, Qs]; exact ⟨fun ⟨⟨s, hs, k⟩, t, ht, m⟩ => ⟨⟨s, (h s).1 hs, k⟩, t, (h t).1 ht, m⟩, fun ⟨⟨s, hs, k⟩, t, ht, m⟩ => ⟨⟨s, (h s).2 hs, k⟩, t, (h t).2 ht, m⟩⟩
 rw [h1, h2]
theorem Am (l : List ah) : ∀ (aH : List (List aj)) (a : List Int), (∀ s ∈ aH, s.length ≤ 100) → (aH.foldl (fun a s => iZ a (bV l s)) a).length ≤ a.length + aH.length * (100 + l.length)
 | [], a, _ => by simp
 | s :: aH, a, h => by
   rw [List.foldl_cons]; have h1 := Am l aH (iZ a (bV l s)) fun t ht => h t (List.mem_cons_of_mem _ ht); have h2 := Jg a (bV l s); have h3 := uH l s; have h4 := h s (List.mem_cons_self ..); rw [List.length_cons, Nat.succ_mul]; omega
theorem QJ {l : List ah} {aH : List (List aj)} (hs : iw aH) (hl : l.length ≤ 1000) : (uG l aH).length ≤ 110000 := by
 have h1 := Am l aH [] fun s h => (hs.2 s h).1; have h2 := hs.1; have h3 := List.length_filter_le (fun x => decide (oh l aH x < aH.length)) (allOf l aH); have h4 : aH.length * (100 + l.length) ≤ 100 * 1100 := Nat.mul_le_mul h2 (by omega); unfold uG; unfold allOf at h3 ⊢; simp only [List.length_nil] at h1; omega
theorem FV {s : List aj} (h : gq s) {x : aj} (hx : x ∈ s) : mY s x.Kind x.Key = (x.Id, true) := by
 unfold mY; cases hf : s.find? (fun y => jJ y ⟨x.Kind, x.Key, 0⟩) with
 | none =>
   have := List.find?_eq_none.1 hf x hx; unfold jJ at this; simp at this
 | some y =>
   have h1 := List.find?_some hf; have hy := List.mem_of_find?_eq_some hf; have h2 : jJ y x = true := by unfold jJ at h1 ⊢; exact h1
   have : y = x := by
    obtain ⟨i, hi, rfl⟩ := List.getElem_of_mem hx; obtain ⟨j, hj, rfl⟩ := List.getElem_of_mem hy; rcases Nat.lt_trichotomy i j with h3 | h3 | h3
    · have h4 := List.pairwise_iff_getElem.1 h i j hi hj h3; have h5 : jJ s[i] s[j] = true := by obtain ⟨a, b⟩ := sQ.1 h2; exact sQ.2 ⟨a.symm, b.symm⟩
      rw [Np h5] at h4; cases h4
    · subst h3; rfl
    have h4 := List.pairwise_iff_getElem.1 h j i hj hi h3; rw [Np h2] at h4; cases h4
   rw [this]
theorem aiJ {s : List aj} {k : Int} {key : ByteArray} {n : Int} (h : mY s k key = (n, true)) : (⟨k, key, n⟩ : aj) ∈ s := by
 unfold mY at h; cases hf : s.find? (fun y => jJ y ⟨k, key, 0⟩) with
 | none => rw [hf] at h; cases h
 | some y =>
   rw [hf] at h; have h0 : jJ y ⟨k, key, 0⟩ = true := by have := List.find?_some hf; exact this
   have h1 := sQ.1 h0; have hy := List.mem_of_find?_eq_some hf; obtain ⟨a, b, c⟩ := y; cases h; simp only at h1; rw [← h1.1, ← h1.2]; exact hy
theorem af6 {aH : List (List aj)} {x : aj} (hx : jl aH x = true) {s : List aj} (hs : s ∈ aH) : x ∈ s := by
 obtain ⟨h1, h2⟩ := JX.1 hx s hs; exact aiJ (s := s) (k := x.Kind) (key := x.Key) (n := x.Id) (by rw [← h1, ← h2])
theorem Yi {aH : List (List aj)} (h : iw aH) {x : aj} (hx : ∀ s ∈ aH, x ∈ s) : jl aH x = true :=
 JX.2 fun s hs => by rw [FV (h.2 s hs).2 (hx s hs)]; exact ⟨rfl, rfl⟩
theorem Tv {aH : List (List aj)} (h : iw aH) (hne : aH ≠ []) {x : aj} : x ∈ jK aH ↔ ∀ s ∈ aH, x ∈ s := by
 cases aH with
 | nil => exact absurd rfl hne
 | cons s aH =>
   show x ∈ s.filter (jl (s :: aH)) ↔ _; rw [List.mem_filter]; exact ⟨fun hx t ht => af6 hx.2 ht, fun hx => ⟨hx s (List.mem_cons_self ..), Yi h hx⟩⟩
theorem Ic : ∀ {a b : List aj}, gq a → gq b → (∀ x, x ∈ a ↔ x ∈ b) → a = b
 | [], [], _, _, _ => rfl
 | [], y :: b, _, _, h => absurd ((h y).2 (List.mem_cons_self ..)) List.not_mem_nil
 | x :: a, [], _, _, h => absurd ((h x).1 (List.mem_cons_self ..)) List.not_mem_nil
 | x :: a, y :: b, ha, hb, h => by
   have ha' := List.pairwise_cons.1 ha; have hb' := List.pairwise_cons.1 hb
   have e : x = y := by
    rcases List.mem_cons.1 ((h x).1 (List.mem_cons_self ..)) with e | h1
    · exact e
    rcases List.mem_cons.1 ((h y).2 (List.mem_cons_self ..)) with e | h2
    · exact e.symm
    have h3 := hb'.1 x h1; rw [af5 (ha'.1 y h2)] at h3; cases h3
   subst e; have hn : ∀ {c : List aj}, (∀ z ∈ c, gG x z = true) → x ∉ c := fun hc hm => by have := hc x hm; rw [N7] at this; cases this
   rw [Ic ha'.2 hb'.2 fun z => ?_]; constructor
   · intro hz; rcases List.mem_cons.1 ((h z).1 (List.mem_cons_of_mem _ hz)) with rfl | h1
     · exact absurd hz (hn ha'.1)
     exact h1
   intro hz; rcases List.mem_cons.1 ((h z).2 (List.mem_cons_of_mem _ hz)) with rfl | h1
   · exact absurd hz (hn hb'.1)
   exact h1
theorem aeC {a b : List (List aj)} (ha : iw a) (hb : iw b) (h : ∀ s, s ∈ a ↔ s ∈ b) : jK a = jK b := by
 cases a with
 | nil =>
   cases b with
   | nil => rfl
   | cons s b => exact absurd ((h s).2 (List.mem_cons_self ..)) List.not_mem_nil
 | cons s a =>
   cases b with
   | nil => exact absurd ((h s).1 (List.mem_cons_self ..)) List.not_mem_nil
   | cons t b =>
     refine Ic (uF ha) (uF hb) fun x => ?_; rw [Tv ha (List.cons_ne_nil _ _), Tv hb (List.cons_ne_nil _ _)]; exact ⟨fun k u hu => k u ((h u).2 hu), fun k u hu => k u ((h u).1 hu)⟩
end Go.Proofs.YtelpgcaiadpjpaaGreat
end
section
namespace Go.Proofs.YtelpgcaiadpjpaaGreat
open Go.RowKit
theorem Tz (l : List Int) (h : l.length ≤ 1099511627776) : ((fE l).bind fun x => (iD x).bind fun y => some y) = some (fK l) := by
 unfold fE iD; have h2 : (DT l).length ≤ 1099511627776 := by rw [(rQ l).length_eq]; exact h
 simp [h, VL, Kv]
theorem ado (s : List aj) : s.foldl (fun r x => r ++ [x.Id]) [] = Ib s := by
 rw [foldl_append (fun x : aj => [x.Id])]; unfold Ib; rw [List.nil_append]
 induction s with
 | nil => rfl
 | cons x s ih => rw [List.flatMap_cons, ih]; rfl
theorem Rj (l : List ah) (s : List aj) (hl : l.length ≤ 1000) (ha : Ak l) (hs : s.length ≤ 100) : uf l s = some (bV l s) := by
 unfold uf
 have hm : vY 8 (0 : Int) 0 (s.length : Int) = some [] := by
  unfold vY; rw [if_pos (by constructor <;> omega)]; rfl
 rw [hm]; simp only [Option.bind_some]; unfold Gi; rw [qW s (by omega) (fun r x => r ++ [x.Id]) (fun i r => r.length ≤ i) (fun r => (qp l r).bind fun x8 => (fP 8 r x8).bind fun x9 => (fE x9).bind fun x10 => (iD x10).bind fun x11 => some x11) (by simp)]
 · have h1 := xR l (Ib s); have h2 := LM s; rw [ado, GY l _ hl ha (by omega)]; simp only [Option.bind_some]; rw [dM (by omega)]; simp only [Option.bind_some]; rw [Tz _ (by rw [List.length_append]; omega)]; unfold bV; rw [Iq]
 · intro k a i h hI; refine ⟨by rw [List.length_append]; simp only [List.length_singleton]; omega, ?_⟩; unfold uN; rw [dQ h, dM (by simp only [List.length_singleton]; omega)]; rfl
 intro k a hI; unfold uN; rw [eY]
theorem ZK (l : List ah) (s : List aj) (hl : l.length ≤ 1000) (ha : Ak l) (hs : s.length ≤ 100) : DI l s = some (bV l s) := by
 unfold DI OV; rw [qW s (by omega) (fun r x => r ++ [x.Id]) (fun i r => r.length ≤ i) (fun r => (Ez l r).bind fun x7 => (vN r x7).bind fun x8 => some x8) (by simp)]
 · have h1 := xR l (Ib s); have h2 := LM s; rw [ado, adf l _ hl ha (by omega)]; simp only [Option.bind_some]; rw [FK _ _ (by omega) (by omega)]; rfl
 · intro k a i h hI; refine ⟨by rw [List.length_append]; simp only [List.length_singleton]; omega, ?_⟩; unfold Ce; rw [dec_lt h, dA h]; simp only [cond_true, Option.bind_some]; rw [dM (by simp only [List.length_singleton]; omega)]; rfl
 intro k a hI; unfold Ce; rw [nS]; rfl
def stepM (m : List (Int × Int)) (x : Int) : List (Int × Int) := kP m x (IntKind.i64.wrap (((fB m x).getD 0) + 1))
structure CM (m : List (Int × Int)) (f : Int → Nat) : Prop where
 nodup : (m.map (·.1)).Nodup
 find : ∀ x, fB m x = if f x = 0 then none else some (f x : Int)
theorem ahw {m : List (Int × Int)} {k v y : Int} : y ∈ (kP m k v).map (·.1) ↔ y = k ∨ y ∈ m.map (·.1) := by
 induction m with
 | nil => simp [kP]
 | cons p m ih =>
   unfold kP; cases h : k == p.1 with
   | true =>
     have h1 : k = p.1 := by simpa using h
     simp only [cond_true, List.map_cons, List.mem_cons]; rw [h1]; simp
   | false =>
     simp only [cond_false, List.map_cons, List.mem_cons, ih]; exact ⟨fun h => h.elim (fun e => .inr (.inl e)) fun h => h.elim .inl fun h => .inr (.inr h), fun h => h.elim (fun e => .inr (.inl e)) fun h => h.elim .inl fun h => .inr (.inr h)⟩
theorem af7 {m : List (Int × Int)} {k v : Int} (h : (m.map (·.1)).Nodup) : ((kP m k v).map (·.1)).Nodup := by
 induction m with
 | nil => simp [kP]
 | cons p m ih =>
   have h' := List.nodup_cons.1 h; unfold kP; cases hk : k == p.1 with
   | true =>
     have h1 : k = p.1 := by simpa using hk
     simp only [cond_true, List.map_cons]; rw [h1]; exact h
   | false =>
     have h1 : k ≠ p.1 := by simpa using hk
     simp only [cond_false, List.map_cons]; refine List.nodup_cons.2 ⟨fun hm => ?_, ih h'.2⟩; rcases ahw.1 hm with e | hm
     · exact h1 e.symm
     exact h'.1 hm
theorem aeD (m : List (Int × Int)) (k v : Int) : (kP m k v).length ≤ m.length + 1 := by
 induction m with
 | nil => simp [kP]
 | cons p m ih =>
   unfold kP; cases k == p.1 with
   | true => simp
   | false => simp only [cond_false, List.length_cons]; omega
theorem CM.step {m : List (Int × Int)} {f : Int → Nat} (h : CM m f) (x : Int) (hf : f x ≤ 1000000) : CM (stepM m x) (fun y => f y + if y = x then 1 else 0) := by
 refine ⟨af7 h.nodup, fun y => ?_⟩; unfold stepM; rw [FP, h.find x]
 have e : IntKind.i64.wrap (((if f x = 0 then none else some (f x : Int)).getD 0) + 1) = ((f x + 1 : Nat) : Int) := by
  by_cases h0 : f x = 0
  · rw [if_pos h0, h0]; rfl
  rw [if_neg h0]; show IntKind.i64.wrap ((f x : Int) + 1) = _; exact wrap_succ _ (by omega)
 by_cases hy : y = x
 · subst hy; simp only [beq_self_eq_true, cond_true, if_true]; rw [e, if_neg (by omega)]
 have : (y == x) = false := by simpa using hy
 rw [this]; simp only [cond_false, if_neg hy, Nat.add_zero]; exact h.find y
theorem CM.fold : ∀ (c : List Int) {m : List (Int × Int)} {f : Int → Nat}, c.Nodup → CM m f → (∀ x, f x ≤ 1000) → CM (c.foldl stepM m) (fun y => f y + if y ∈ c then 1 else 0)
 | [], m, f, _, h, _ => by
   refine ⟨h.nodup, fun x => ?_⟩; simp only [List.foldl_nil, List.not_mem_nil, if_false, Nat.add_zero]; exact h.find x
 | x :: c, m, f, hn, h, hf => by
   have hn' := List.nodup_cons.1 hn
   have key : ∀ (c : List Int) (m : List (Int × Int)) (g : Int → Nat), c.Nodup → CM m g → (∀ x ∈ c, g x ≤ 1000) → CM (c.foldl stepM m) (fun y => g y + if y ∈ c then 1 else 0) := by
    intro c
    induction c with
    | nil => intro m g _ h _; refine ⟨h.nodup, fun x => ?_⟩; simp only [List.foldl_nil, List.not_mem_nil, if_false, Nat.add_zero]; exact h.find x
    | cons z c ih =>
      intro m g hn h hg; have hn' := List.nodup_cons.1 hn
      have h1 := ih (stepM m z) (fun y => g y + if y = z then 1 else 0) hn'.2 (h.step z (by have := hg z (List.mem_cons_self ..); omega)) fun y hy => by
       have hne : y ≠ z := fun e => hn'.1 (e ▸ hy); simp only [if_neg hne, Nat.add_zero]; exact hg y (List.mem_cons_of_mem _ hy)
      refine ⟨h1.nodup, fun y => ?_⟩; rw [List.foldl_cons, h1.find y]
      have : (g y + if y = z then 1 else 0) + (if y ∈ c then 1 else 0) = g y + if y ∈ z :: c then 1 else 0 := by
       by_cases e : y = z
       · subst e; simp [hn'.1]
       simp [e]
      simp only [this]
   exact key (x :: c) m f hn h fun y _ => hf y
theorem LQ : ∀ (c : List Int) (m : List (Int × Int)), (c.foldl stepM m).length ≤ m.length + c.length
 | [], m => by simp
 | x :: c, m => by
   have h1 := LQ c (stepM m x); have h2 := aeD m x (IntKind.i64.wrap (((fB m x).getD 0) + 1)); rw [List.foldl_cons, List.length_cons]; unfold stepM at h1 ⊢; omega
theorem IZ {l : List Int} (h : Inc l) : l.Nodup := h.imp fun h => by omega
theorem CM.mem {m : List (Int × Int)} {f : Int → Nat} (h : CM m f) {x n : Int} : (x, n) ∈ m ↔ f x ≠ 0 ∧ n = f x := by
 have key : ∀ m : List (Int × Int), (m.map (·.1)).Nodup → ((x, n) ∈ m ↔ fB m x = some n) := by
  intro m
  induction m with
  | nil => intro _; simp [fB]
  | cons p m ih =>
    intro hn; have hn' := List.nodup_cons.1 hn; unfold fB; rw [List.mem_cons]; cases hx : x == p.1 with
    | true =>
      have h1 : x = p.1 := by simpa using hx
      simp only [cond_true, Option.some.injEq]; constructor
      · rintro (e | hm)
        · rw [← e]
        exact absurd (List.mem_map.2 ⟨_, hm, h1⟩) hn'.1
      intro e; left; rw [h1, ← e]
    | false =>
      have h1 : x ≠ p.1 := by simpa using hx
      simp only [cond_false]; rw [← ih hn'.2]; exact ⟨fun h => h.elim (fun e => absurd (by rw [← e]) h1) id, .inr⟩
 rw [key m h.nodup, h.find x]; by_cases h0 : f x = 0
 · simp [h0]
 rw [if_neg h0]; simp only [Option.some.injEq, ne_eq, h0, not_false_eq_true, true_and]; exact eq_comm
theorem aaw {l : List Int} (h : l.Nodup) : DT l = fK l := by
 refine BJ ?_ (jM l) fun x => by rw [jL]; exact (rQ l).mem_iff
 have h1 := PG l; have h2 : (DT l).Nodup := (rQ l).nodup_iff.2 h; exact (h1.and h2).imp fun h => by omega
theorem WC (n : Int) : ∀ (m : List (Int × Int)) (r : List Int) (aH : List (List aj)), (aH.length : Int) = n → r.length + m.length ≤ 1000000 → List.foldlM (gu aH) r m = some (r ++ (m.filter fun p => decide (p.2 < n)).map (·.1))
 | [], r, aH, _, _ => by simp
 | p :: m, r, aH, hs, hr => by
   simp only [List.length_cons] at hr; have e : gu aH r p = (bif decide (p.2 < n) then (fP 8 r [p.1]).bind fun x20 => some x20 else some r) := by unfold gu; rw [hs]
   rw [List.foldlM_cons, e]; cases hd : decide (p.2 < n) with
   | true =>
     simp only [cond_true]; rw [dM (by simp only [List.length_singleton]; omega)]; simp only [Option.bind_some]; show List.foldlM (gu aH) (r ++ [p.1]) m = _; rw [WC n m (r ++ [p.1]) aH hs (by simp only [List.length_append, List.length_singleton]; omega), List.filter_cons, if_pos hd]; simp
   | false =>
     simp only [cond_false]; show List.foldlM (gu aH) r m = _; rw [WC n m r aH hs (by omega), List.filter_cons, if_neg (by simp [hd])]
theorem adp (l : List ah) (aH : List (List aj)) (x : Int) : oh l aH x ≤ aH.length := List.countP_le_length
theorem CM.of_eq {m : List (Int × Int)} {f g : Int → Nat} (h : CM m f) (e : ∀ x, f x = g x) : CM m g := ⟨h.nodup, fun x => by rw [h.find, e]⟩
theorem Oa (l : List ah) (aH : List (List aj)) (hl : l.length ≤ 1000) (ha : Ak l) (hs : iw aH) : pJ l aH = some (uG l aH) := by
 unfold pJ Di; have hsl := hs.len; rw [ac6 (a0 := []) aH (by omega) (fun m s => (bV l s).foldl stepM m) (fun i m => CM m (oh l (aH.take i)) ∧ m.length ≤ 1100 * i) (fun v2 => (vY 8 (0 : Int) 0 (v2.length : Int)).bind fun ig => (List.foldlM (gu aH) ig v2).bind jY) ⟨⟨List.nodup_nil, fun x => rfl⟩, Nat.zero_le _⟩]
 · obtain ⟨hC, hlen⟩ : CM (aH.foldl (fun m s => (bV l s).foldl stepM m) []) (oh l aH) ∧ (aH.foldl (fun m s => (bV l s).foldl stepM m) []).length ≤ 1100 * aH.length := by
    have key : ∀ (b a : List (List aj)) (m : List (Int × Int)), (∀ s ∈ b, s.length ≤ 100) → a.length + b.length ≤ 100 → CM m (oh l a) → m.length ≤ 1100 * a.length → CM (b.foldl (fun m s => (bV l s).foldl stepM m) m) (oh l (a ++ b)) ∧ (b.foldl (fun m s => (bV l s).foldl stepM m) m).length ≤ 1100 * (a.length + b.length) := by
     intro b
     induction b with
     | nil => intro a m _ _ h1 h2; simpa using ⟨h1, h2⟩
     | cons s b ih =>
       intro a m hb hab h1 h2; rw [List.foldl_cons, List.append_cons]; have hc := uH l s; have Yj := hb s (List.mem_cons_self ..); have h3 := LQ (bV l s) m; simp only [List.length_cons] at hab ⊢; have := ih (a ++ [s]) ((bV l s).foldl stepM m) (fun t ht => hb t (List.mem_cons_of_mem _ ht)) (by simp only [List.length_append, List.length_singleton]; omega) ?_ (by simp only [List.length_append, List.length_singleton]; omega)
       · simpa [Nat.add_assoc, Nat.add_comm 1] using this
       refine (CM.fold (bV l s) (IZ (QI l s)) h1 fun x => by have := adp l a x; omega).of_eq fun x => ?_; unfold oh; rw [List.countP_append, List.countP_singleton]; by_cases hx : x ∈ bV l s
       · rw [if_pos hx, if_pos (kC.2 hx)]
       rw [if_neg hx, if_neg (by rw [lu.2 hx]; simp)]
    have := key aH [] [] (fun s h => (hs.each s h).1) (by simpa using hs.len) ⟨List.nodup_nil, fun x => rfl⟩ (Nat.zero_le _); simpa using this
   generalize aH.foldl (fun m s => (bV l s).foldl stepM m) [] = m at hC hlen
   have hm : vY 8 (0 : Int) 0 (m.length : Int) = some [] := by
    unfold vY; rw [if_pos (by constructor <;> omega)]; rfl
   rw [hm]; simp only [Option.bind_some]; rw [WC (aH.length : Int) m [] aH rfl (by simp only [List.length_nil]; omega)]; simp only [Option.bind_some, List.nil_append]; have hnd : ((m.filter fun p => decide (p.2 < (aH.length : Int))).map (·.1)).Nodup := hC.nodup.sublist (List.filter_sublist.map _); have hle : ((m.filter fun p => decide (p.2 < (aH.length : Int))).map (·.1)).length ≤ m.length := by rw [List.length_map]; exact List.length_filter_le _ _
   unfold jY fE; rw [if_pos (by omega)]; simp only [Option.bind_some]; congr 1; rw [aaw hnd]; refine BJ (jM _) (Qr _ _) fun x => ?_; rw [jL, List.mem_map]; unfold uG; rw [List.mem_filter, aav]; constructor
   · rintro ⟨⟨y, n⟩, hp, rfl⟩; rw [List.mem_filter] at hp; obtain ⟨h1, h2⟩ := hC.mem.1 hp.1; have h3 : n < (aH.length : Int) := by simpa using hp.2
     subst h2; refine ⟨?_, by simp; omega⟩; have : 0 < oh l aH y := by omega
     obtain ⟨s, hs1, hs2⟩ := List.countP_pos_iff.1 this; exact ⟨s, hs1, kC.1 hs2⟩
   rintro ⟨⟨s, h1, h2⟩, h3⟩; have h4 : 0 < oh l aH x := List.countP_pos_iff.2 ⟨s, h1, kC.2 h2⟩; refine ⟨(x, (oh l aH x : Int)), List.mem_filter.2 ⟨hC.mem.2 ⟨by omega, rfl⟩, ?_⟩, rfl⟩; have h5 : oh l aH x < aH.length := by simpa using h3
   simp; omega
 · intro k m i h hI; have hc := uH l aH[i]; have Yj := (hs.each aH[i] (List.getElem_mem h)).1; refine ⟨⟨?_, ?_⟩, ?_⟩
   · refine (CM.fold (bV l aH[i]) (IZ (QI l aH[i])) hI.1 fun x => by have := adp l (aH.take i) x; rw [List.length_take] at this; omega).of_eq fun x => ?_; rw [List.take_succ_eq_append_getElem h]; unfold oh; rw [List.countP_append, List.countP_singleton]; by_cases hx : x ∈ bV l aH[i]
     · rw [if_pos hx, if_pos (kC.2 hx)]
     rw [if_neg hx, if_neg (by rw [lu.2 hx]; simp)]
   · have := LQ (bV l aH[i]) m; have := hI.2; omega
   unfold qx; rw [dQ h, Rj l _ hl ha Yj]; simp only [Option.bind_some]; unfold Dh; rw [ac6 (bV l aH[i]) (by omega) stepM (fun _ _ => True) (fun v8 => k (IntKind.i64.wrap ((i : Int) + 1)) v8) trivial]
   · intro k2 a j hj _; refine ⟨trivial, ?_⟩; unfold qw; rw [dQ hj]; rfl
   intro k2 a _; unfold qw; rw [eY]
 intro k m hI; unfold qx; rw [eY]
theorem am8 {R A B α : Type} {body : (A → B → Int → Option R) → A → B → Int → Option R} (l : List α) (hl : l.length ≤ 1099511627776) (f : A → B → α → A) (g : A → B → α → B) (I : Nat → A → B → Prop) (fin : A → B → Option R) {Q : R → Prop} {a0 : A} {b0 : B} (h0 : I 0 a0 b0)
 (hb : ∀ k a b (i : Nat) (h : i < l.length), I i a b → I (i + 1) (f a b l[i]) (g a b l[i]) ∧ body k a b (i : Int) = k (f a b l[i]) (g a b l[i]) (IntKind.i64.wrap ((i : Int) + 1)))
 (he : ∀ k a b, I l.length a b → body k a b (l.length : Int) = fin a b) (hq : ∀ a b, I l.length a b → dG (fin a b) Q) : dG (yB body fuel a0 b0 0) Q := by
 refine IY (body := body) (Q := Q) (fun m a b c => ∃ i : Nat, c = i ∧ i + m = l.length ∧ I i a b) ?_ fuel l.length a0 b0 0 (fuel_lt hl) ⟨0, rfl, by omega, h0⟩; rintro m a b c k ⟨i, rfl, hm, hi⟩ hk; by_cases e : i < l.length
 · obtain ⟨h1, h2⟩ := hb k a b i e hi; rw [h2, wrap_succ i (by omega)]; exact hk (m - 1) _ _ _ (by omega) ⟨i + 1, rfl, by omega, h1⟩
 have : i = l.length := by omega
 subst this; rw [he _ _ _ hi]; exact hq a b hi
theorem Qu (x : Int) : ∀ (cs : List (List Int)) (n : Nat), n + cs.length ≤ 1000000 → cs.foldl (fun (n : Int) c => bif hasB c x then IntKind.i64.wrap (n + 1) else n) (n : Int) = ((n + cs.countP (fun c => hasB c x) : Nat) : Int)
 | [], n, _ => by simp
 | c :: cs, n, h => by
   rw [List.length_cons] at h; rw [List.foldl_cons, List.countP_cons]; cases hc : hasB c x with
   | true =>
     simp only [cond_true, if_true]; rw [wrap_succ n (by omega), Qu x cs (n + 1) (by omega)]; congr 1; omega
   | false =>
     simp only [cond_false, Bool.false_eq_true, if_false, Nat.add_zero]; exact Qu x cs n (by omega)
theorem UQ (l : List ah) (aH : List (List aj)) (hl : l.length ≤ 1000) (ha : Ak l) (hs : iw aH) : xO l aH = some (uG l aH) := by
 refine dG.eq ?_; unfold xO Jz; have hsl := hs.len
 have hall : ∀ i, (allOf l (aH.take i)).length ≤ 1100 * i := by
  intro i; have h1 := Am l (aH.take i) [] fun s h => (hs.each s (List.mem_of_mem_take h)).1; rw [List.length_take, List.length_nil] at h1; have h2 : min i aH.length * (100 + l.length) ≤ i * 1100 := Nat.mul_le_mul (Nat.min_le_left _ _) (by omega); unfold allOf; omega
 refine am8 aH (by omega) (fun a _ s => a ++ [bV l s]) (fun _ b s => iZ b (bV l s)) (fun i a b => a = (aH.take i).map (bV l) ∧ b = allOf l (aH.take i)) (fun a b => CU b a [] 0) ⟨rfl, rfl⟩ ?_ ?_ ?_
 · rintro k a b i h ⟨rfl, rfl⟩; have hc := uH l aH[i]; have Yj := (hs.each aH[i] (List.getElem_mem h)).1; have htake : aH.take (i + 1) = aH.take i ++ [aH[i]] := List.take_succ_eq_append_getElem h; refine ⟨⟨by rw [htake, List.map_append]; rfl, by rw [htake]; unfold allOf; rw [List.foldl_append]; rfl⟩, ?_⟩; unfold wJ; rw [dec_lt h, dA h]; simp only [cond_true, Option.bind_some]; rw [ZK l _ hl ha Yj]; simp only [Option.bind_some]; rw [dM (by simp only [List.length_map, List.length_take, List.length_singleton]; omega)]; simp only [Option.bind_some]; have := hall i; rw [FK _ _ (by omega) (by omega)]; rfl
 · rintro k a b ⟨rfl, rfl⟩; unfold wJ; rw [nS]; rfl
 rintro a b ⟨rfl, rfl⟩; rw [List.take_length]; refine dG.of ?_; have hn := hall aH.length; rw [List.take_length] at hn; unfold CU; rw [qW (allOf l aH) (by omega) (fun r x => bif decide (oh l aH x < aH.length) then r ++ [x] else r) (fun i r => r.length ≤ i) (fun r => some r) (Nat.le_refl _)]
 · congr 1; unfold uG
   have key : ∀ (S r : List Int), S.foldl (fun r x => bif decide (oh l aH x < aH.length) then r ++ [x] else r) r = r ++ S.filter (fun x => decide (oh l aH x < aH.length)) := by
    intro S
    induction S with
    | nil => intro r; simp
    | cons x S ih =>
      intro r; rw [List.foldl_cons, ih, List.filter_cons]; cases decide (oh l aH x < aH.length) <;> simp
   simpa using key (allOf l aH) []
 · intro k r i h hI; refine ⟨?_, ?_⟩
   · cases decide (oh l aH (allOf l aH)[i] < aH.length) with
     | false => show r.length ≤ i + 1; omega
     | true => show (r ++ [(allOf l aH)[i]]).length ≤ i + 1; simp; omega
   unfold wI; rw [dec_lt h]; simp only [cond_true]; unfold Jy
   rw [qW (aH.map (bV l)) (by rw [List.length_map]; omega) (fun (n : Int) c => bif hasB c (allOf l aH)[i] then IntKind.i64.wrap (n + 1) else n) (fun _ _ => True)
    (fun n => bif decide (n < ((aH.map (bV l)).length : Int)) then k (r ++ [(allOf l aH)[i]]) (IntKind.i64.wrap ((i : Int) + 1)) else k r (IntKind.i64.wrap ((i : Int) + 1))) trivial]
   · have hcf := Qu (allOf l aH)[i] (aH.map (bV l)) 0 (by rw [List.length_map]; omega); rw [show ((0 : Nat) : Int) = 0 from rfl] at hcf; rw [hcf, List.countP_map, List.length_map, Nat.zero_add]
     have e : decide (((aH.countP ((fun c => hasB c (allOf l aH)[i]) ∘ bV l) : Nat) : Int) < (aH.length : Int)) = decide (oh l aH (allOf l aH)[i] < aH.length) := by
      unfold oh; rw [decide_eq_decide]; exact Int.ofNat_lt
     rw [e]; cases decide (oh l aH (allOf l aH)[i] < aH.length) <;> rfl
   · intro k2 n j hj _; refine ⟨trivial, ?_⟩; have hj' : j < aH.length := by rw [List.length_map] at hj; exact hj
     have hc := uH l aH[j]; have Yj := (hs.each aH[j] (List.getElem_mem hj')).1; unfold wH; rw [dec_lt hj, dA hj, dA h]; simp only [cond_true, Option.bind_some]; rw [JQ _ _ (by rw [List.getElem_map]; omega)]; simp only [Option.bind_some]; cases hasB (aH.map (bV l))[j] (allOf l aH)[i] <;> rfl
   intro k2 n _; unfold wH; rw [nS]; simp only [cond_false]; rw [dA h]; simp only [Option.bind_some]; rw [dM (by simp only [List.length_singleton]; omega)]; cases decide (n < ((aH.map (bV l)).length : Int)) <;> rfl
 intro k r _; unfold wI; rw [nS]; rfl
theorem WE (l : List ah) (aH : List (List aj)) (hl : l.length ≤ 1000) (ha : Ak l) (hs : iw aH) : zk l aH = some (jP l aH) := by
 have h1 := FU hs; have h2 := iL (wL aH); have h3 := QJ hs hl; unfold zk; rw [JA aH hs, Oa l aH hl ha hs]; simp only [Option.bind_some]; rw [dM (by omega)]; simp only [Option.bind_some]; rw [Tz _ (by rw [List.length_append]; omega)]; unfold jP; rw [Iq]
theorem aeE (l : List ah) (aH : List (List aj)) (hl : l.length ≤ 1000) (ha : Ak l) (hs : iw aH) : Ls l aH = some (jP l aH) := by
 have h1 := FU hs; have h2 := iL (wL aH); have h3 := QJ hs hl; unfold Ls; rw [Tq aH hs, UQ l aH hl ha hs]; simp only [Option.bind_some]; rw [FK _ _ (by omega) (by omega)]; rfl
end Go.Proofs.YtelpgcaiadpjpaaGreat
end
section
namespace Go.Proofs.YtelpgcaiadpjpaaGreat
open Go.RowKit
def iP (l : List ah) : Prop := ∀ e ∈ l, FM e
theorem iP.af8 {l : List ah} (h : iP l) : Ak l := fun e he => (h e he).auth
theorem af9 {R A α : Type} {body : (A → Int → Option R) → A → Int → Option R} (l : List α) (hl : l.length < fuel) (p : α → Bool) (g : Nat → Option R) (rest : Option R) (a0 : A)
 (hb : ∀ k (i : Nat) (h : i < l.length), body k a0 (i : Int) = bif p l[i] then g i else k a0 (IntKind.i64.wrap ((i : Int) + 1))) (he : ∀ k, body k a0 (l.length : Int) = rest) :
 bn body fuel a0 0 = if l.findIdx p < l.length then g (l.findIdx p) else rest := by
 have hf : fuel = 4611686018427387904 := rfl
 have key : ∀ n (i : Nat), i + n = l.length → ∀ m, n < m → bn body m a0 (i : Int) = if (l.drop i).findIdx p + i < l.length then g ((l.drop i).findIdx p + i) else rest := by
  intro n
  induction n with
  | zero =>
    intro i hi m hm; obtain ⟨m, rfl⟩ : ∃ m', m = m' + 1 := ⟨m - 1, by omega⟩
    have : i = l.length := by omega
    subst this; show body (bn body m) _ _ = _; rw [he, List.drop_length, if_neg (by simp)]
  | succ n ih =>
    intro i hi m hm; obtain ⟨m, rfl⟩ : ∃ m', m = m' + 1 := ⟨m - 1, by omega⟩
    have hlt : i < l.length := by omega
    show body (bn body m) _ _ = _; rw [hb _ i hlt, wrap_succ i (by omega), ih (i + 1) (by omega) m (by omega), List.drop_eq_getElem_cons hlt, List.findIdx_cons]; cases p l[i] with
    | true => simp only [cond_true, Nat.zero_add]; rw [if_pos hlt]
    | false =>
      simp only [cond_false]; rw [show (l.drop (i + 1)).findIdx p + (i + 1) = (l.drop (i + 1)).findIdx p + 1 + i by omega]
 have := key l.length 0 (by omega) fuel hl; simpa using this
theorem WG {s : List aj} {k : Int} {key : ByteArray} {id : Int} {x : aj} (h : x ∈ kV s k key id) : x = ⟨k, key, id⟩ ∨ x ∈ s := by
 unfold kV at h; rcases List.mem_append.1 h with h | h
 · exact .inr (List.mem_of_mem_take h)
 rcases List.mem_cons.1 h with h | h
 · exact .inl h
 exact .inr (List.mem_of_mem_drop h)
def xW (e : ah) : List aj := kV (kV (kV [] 1 s0 0) 3 s0 0) 2 e.bC 0
def keysOf (e : ah) : List aj :=
 bif e.Kind == 1 then [] else bif e.Kind == 2 then (bif e.Content.N == 3 || e.Content.N == 1 || e.Content.N == 2 then kV (kV (xW e) 2 e.Key 0) 4 s0 0 else kV (xW e) 2 e.Key 0) else xW e
theorem OZ (e : ah) : (xW e).length ≤ 3 := by
 have h1 := mP [] 1 s0 0; have h2 := mP (kV [] 1 s0 0) 3 s0 0; have h3 := mP (kV (kV [] 1 s0 0) 3 s0 0) 2 e.bC 0; unfold xW; simp only [List.length_nil] at h1; omega
theorem zx (e : ah) : (keysOf e).length ≤ 5 := by
 have h1 := OZ e; have h2 := mP (xW e) 2 e.Key 0; have h3 := mP (kV (xW e) 2 e.Key 0) 4 s0 0; unfold keysOf; cases e.Kind == 1 <;> cases e.Kind == 2 <;> cases (e.Content.N == 3 || e.Content.N == 1 || e.Content.N == 2) <;> simp only [cond_true, cond_false, List.length_nil] <;> omega
theorem Nr (e : ah) : wX e = some (keysOf e) := by
 have h1 := OZ e; have h2 := mP (xW e) 2 e.Key 0; have g1 := mP [] 1 s0 0; have g2 := mP (kV [] 1 s0 0) 3 s0 0; simp only [List.length_nil] at g1; unfold wX keysOf; rw [oQ [] 1 s0 0 (by simp)]; simp only [Option.bind_some]; rw [oQ _ 3 s0 0 (by omega)]; simp only [Option.bind_some]; rw [oQ _ 2 e.bC 0 (by omega)]; simp only [Option.bind_some]; show (bif e.Kind == 1 then some [] else bif e.Kind == 2 then (jU (xW e) 2 e.Key 0).bind _ else oK (xW e)) = _; rw [oQ (xW e) 2 e.Key 0 (by omega)]; simp only [Option.bind_some]; rw [oQ _ 4 s0 0 (by omega)]; unfold oK; cases e.Kind == 1 <;> cases e.Kind == 2 <;> cases e.Content.N == 3 <;> cases e.Content.N == 1 <;> cases e.Content.N == 2 <;> rfl
def I4 (k : aj) (x : ah) : Bool := x.Kind == k.Kind && decide (x.Key = k.Key)
def O1 (l : List ah) (e : ah) : List ah := (keysOf e).flatMap fun k => ((ofIds l e.fH).find? (I4 k)).toList
theorem flat_length {α β : Type} {f : α → List β} {n : Nat} (h : ∀ x, (f x).length ≤ n) : ∀ l : List α, (l.flatMap f).length ≤ n * l.length
 | [] => by simp
 | x :: l => by
   have h1 := h x; have h2 := flat_length h l; rw [List.flatMap_cons, List.length_append, List.length_cons, Nat.mul_succ]; omega
theorem aa1 (l : List ah) (e : ah) : (O1 l e).length ≤ 5 := by
 have h1 := flat_length (f := fun k => ((ofIds l e.fH).find? (I4 k)).toList) (n := 1) (fun k => toList_le _) (keysOf e); have h2 := zx e; unfold O1; omega
theorem aax {l : List ah} {ids : List Int} {x : ah} (h : x ∈ ofIds l ids) : x ∈ l := by
 obtain ⟨i, _, h⟩ := List.mem_filterMap.1 h; exact Bq h
theorem aga {l : List ah} {e x : ah} (h : x ∈ O1 l e) : x ∈ l := by
 obtain ⟨k, _, h⟩ := List.mem_flatMap.1 h; have : (ofIds l e.fH).find? (I4 k) = some x := by simpa using h
 exact aax (List.mem_of_find?_eq_some this)
def WH (x : aj) : fM := ⟨x.Kind, x.Key⟩
theorem Yk (e : ah) : Bh e = some ((keysOf e).map WH) := by
 unfold Bh; rw [Nr]; simp only [Option.bind_some]; have hk := zx e; unfold Nc; rw [qW (keysOf e) (by omega) (fun r x => r ++ [WH x]) (fun i r => r.length ≤ i) (fun r => some r) (Nat.le_refl _)]
 · rw [foldl_append (fun x => [WH x]), List.nil_append]; congr 1
   induction keysOf e with
   | nil => rfl
   | cons x s ih => rw [List.flatMap_cons, ih]; rfl
 · intro k r i h hI; refine ⟨by rw [List.length_append]; simp only [List.length_singleton]; omega, ?_⟩; unfold Af; rw [dQ h, dM (by simp only [List.length_singleton]; omega)]; rfl
 intro k r _; unfold Af; rw [eY]
theorem Yl (l : List ah) (p : ah → Bool) : ∀ ids : List Int, (ofIds l ids).find? p = (ids.find? fun i => match jr l i with | some x => p x | none => false).bind (jr l)
 | [] => rfl
 | i :: ids => by
   have ih := Yl l p ids; unfold ofIds at ih ⊢; rw [List.filterMap_cons, List.find?_cons]; cases hg : jr l i with
   | none => exact ih
   | some x =>
     simp only; rw [List.find?_cons]; cases p x with
     | true => exact hg.symm
     | false => exact ih
theorem Ym (l : List ah) (e : ah) (hl : l.length ≤ 1000) (he : e.fH.length ≤ 40) : Bj l e = some (O1 l e) := by
 unfold Bj; rw [Yk]; simp only [Option.bind_some]; have hk := zx e; unfold Nj; rw [qW (a0 := []) ((keysOf e).map WH) (by rw [List.length_map]; omega) (fun r k => r ++ ((ofIds l e.fH).find? fun x => x.Kind == k.MK && decide (x.Key = k.ML)).toList) (fun i r => r.length ≤ i) (fun r => some r) (Nat.le_refl _)]
 · congr 1; rw [foldl_append (fun k : fM => ((ofIds l e.fH).find? fun x => x.Kind == k.MK && decide (x.Key = k.ML)).toList), List.nil_append, List.flatMap_map]; rfl
 · intro k r i h hI; have ht := toList_le ((ofIds l e.fH).find? fun x => x.Kind == ((keysOf e).map WH)[i].MK && decide (x.Key = ((keysOf e).map WH)[i].ML)); refine ⟨by rw [List.length_append]; omega, ?_⟩; have hi : i < 5 := by rw [List.length_map] at h; omega
   unfold Ah; rw [dQ h]; generalize ((keysOf e).map WH)[i] = K; unfold Nh
   rw [af9 e.fH (fuel_lt (by omega)) (fun id => match jr l id with | some x => x.Kind == K.MK && decide (x.Key = K.ML) | none => false)
    (fun j => qV k (i : Int) (r ++ (match e.fH[j]? with | some id => (jr l id).toList | none => []))) (qV k (i : Int) r)]
   · rw [Yl, qX]; by_cases hf : e.fH.findIdx (fun id => match jr l id with | some x => x.Kind == K.MK && decide (x.Key = K.ML) | none => false) < e.fH.length
     · rw [if_pos hf, List.getElem?_eq_getElem hf]; rfl
     rw [if_neg hf, List.getElem?_eq_none (by omega)]; simp only [Option.bind_none, Option.toList_none, List.append_nil]; rfl
   · intro k2 j hj; unfold Ag; rw [dQ hj, jW l _ (by omega), List.getElem?_eq_getElem hj]; simp only [Option.bind_some]; cases hg : jr l e.fH[j] with
     | none => rw [Bv hg]; rfl
     | some x =>
       rw [o9 hg]; simp only [cond_true, Option.toList_some]; unfold xG; rw [xP]; rw [dM (by simp only [List.length_singleton]; omega)]; cases x.Kind == K.MK <;> cases decide (x.Key = K.ML) <;> rfl
   intro k2; unfold Ag; rw [eY]
 intro k r _; unfold Ah; rw [eY]
def LU (c : ByteArray) : aZ := bif !(c.toList == s0.toList) then { jB with Users := [⟨c, 100⟩] } else jB
def Bz (l : List ah) : ByteArray := match l.find? fun x => x.Kind == 1 with | some x => x.bC | none => s0
def dU (l : List ah) : aZ := match l.find? fun x => x.Kind == 3 with | some x => x.Content.Levels | none => LU (Bz l)
theorem UR (c : ByteArray) : xw c = some (LU c) := by
 unfold xw LU rG; cases c.toList == s0.toList <;> rfl
theorem Ns (l : List ah) (k : Int) (hl : l.length ≤ 1000) : xu l k = some (if l.findIdx (fun e => e.Kind == k) < l.length then ((l.findIdx (fun e => e.Kind == k) : Nat) : Int) else -1) := by
 unfold xu; rw [LH l (by omega) (fun a0 => xq a0 k) (fun e => e.Kind == k) fun _ => rfl]; rfl
theorem LV (l : List ah) (hl : l.length ≤ 1000) (hs : iP l) : Ba l = some (dU l, Bz l) := by
 have hj : ∀ c, uh l c = some (match l.find? fun x => x.Kind == 3 with | some x => x.Content.Levels | none => LU c, c) := by
  intro c; unfold uh; rw [Ns l 3 hl, qX]; simp only [Option.bind_some]; by_cases h : l.findIdx (fun e => e.Kind == 3) < l.length
  · rw [if_pos h, show decide (((l.findIdx (fun e => e.Kind == 3) : Nat) : Int) ≥ 0) = true by simp, dA h, List.getElem?_eq_getElem h]; simp only [cond_true, Option.bind_some]; have hS := hs _ (List.getElem_mem h); have h1 := hS.users; have h2 := hS.kinds; unfold kL jd; rw [dM (by simp only [List.length_nil]; omega), dM (by simp only [List.length_nil]; omega)]; rfl
  rw [if_neg h, List.getElem?_eq_none (by omega), UR]; rfl
 unfold Ba; rw [Ns l 1 hl]; simp only [Option.bind_some]; by_cases h : l.findIdx (fun e => e.Kind == 1) < l.length
 · have hc : Bz l = l[l.findIdx (fun e => e.Kind == 1)].bC := by unfold Bz; rw [qX, List.getElem?_eq_getElem h]
   rw [if_pos h, show decide (((l.findIdx (fun e => e.Kind == 1) : Nat) : Int) ≥ 0) = true by simp, dA h]; simp only [cond_true, Option.bind_some]; rw [hj, ← hc]; rfl
 have hc : Bz l = s0 := by unfold Bz; rw [qX, List.getElem?_eq_none (by omega)]
 rw [if_neg h]; show uh l s0 = _; rw [hj, ← hc]; rfl
def fA (v : aZ) (u : ByteArray) : Int := match v.Users.find? fun x => decide (x.User = u) with | some x => x.N | none => v.User
theorem pY (v : aZ) (u : ByteArray) (h : v.Users.length ≤ 1000) : kY v u = some (fA v u) := by
 unfold kY OH fA; rw [LG v.Users (fuel_lt (by omega)) (fun x => decide (x.User = u)) (fun i => some (match v.Users[i]? with | some x => x.N | none => 0)) (some v.User)]
 · rw [qX]; by_cases h : v.Users.findIdx (fun x => decide (x.User = u)) < v.Users.length
   · rw [if_pos h, List.getElem?_eq_getElem h]
   rw [if_neg h, List.getElem?_eq_none (by omega)]
 · intro k i h; unfold BP; rw [dQ h, xP, List.getElem?_eq_getElem h]
 intro k; unfold BP; rw [eY]
theorem Cm {l : List ah} (h : iP l) : (dU l).Users.length ≤ 40 ∧ (dU l).Kinds.length ≤ 40 := by
 unfold dU; cases hf : l.find? fun x => x.Kind == 3 with
 | some x =>
   have := h x (List.mem_of_find?_eq_some hf); exact ⟨this.users, this.kinds⟩
 | none =>
   simp only; unfold LU; cases (Bz l).toList == s0.toList with
   | true =>
     show jB.Users.length ≤ 40 ∧ jB.Kinds.length ≤ 40; exact ⟨by decide, by decide⟩
   | false =>
     show 1 ≤ 40 ∧ jB.Kinds.length ≤ 40; exact ⟨by decide, by decide⟩
def adq (l : List ah) (e : ah) : Int := fA (dU (O1 l e)) e.bC
theorem iP.from {l : List ah} (h : iP l) (e : ah) : iP (O1 l e) := fun x hx => h x (aga hx)
theorem Yn (l : List ah) (e : ah) (hl : l.length ≤ 1000) (hs : iP l) (he : e.fH.length ≤ 40) : Bl l e = some (adq l e) := by
 have h1 := aa1 l e; have h2 := (Cm (hs.from e)).1; unfold Bl; rw [Ym l e hl he]; simp only [Option.bind_some]; rw [LV _ (by omega) (hs.from e)]; simp only [Option.bind_some]; rw [pY _ _ (by omega)]; rfl
end Go.Proofs.YtelpgcaiadpjpaaGreat
end
section
namespace Go.Proofs.YtelpgcaiadpjpaaGreat
open Go.RowKit
def isP (e : ah) : Bool := bif e.Kind == 2 then (e.Content.N == 0 || e.Content.N == 4) && !(decide (e.Key = e.bC)) else e.Kind == 3 || e.Kind == 4
theorem aeF (e : ah) : KR e = some (isP e) := by
 unfold KR Dj isP; rw [xP]; by_cases h2 : e.Kind = 2
 · simp [h2]; cases e.Content.N == 0 <;> cases e.Content.N == 4 <;> rfl
 have h2' : (e.Kind == 2) = false := by simpa using h2
 rw [h2']; cases e.Kind == 3 <;> cases e.Kind == 4 <;> rfl
theorem Nu (l : List Int) (x : Int) (h : l.length ≤ 1099511627776) : mF l x = some (if l.findIdx (· == x) < l.length then ((l.findIdx (· == x) : Nat) : Int) else -1) := by
 unfold mF Dk; rw [LG l (fuel_lt h) (· == x) (fun i => some (i : Int)) (some (-1))]
 · split <;> rfl
 · intro k i hi; unfold qy; rw [dQ hi]; have : (x == l[i]) = (l[i] == x) := by rw [Bool.eq_iff_iff]; simp only [beq_iff_eq]; exact eq_comm
   rw [this]
 intro k; unfold qy; rw [eY]
theorem Vq (l : List Int) (x : Int) : decide (l.findIdx (· == x) < l.length) = hasB l x := by
 rw [Bool.eq_iff_iff, kC, decide_eq_true_eq, List.findIdx_lt_length]; exact ⟨fun ⟨y, h1, h2⟩ => by rw [← (by simpa using h2 : y = x)]; exact h1, fun h => ⟨x, h, by simp⟩⟩
theorem qI (l : List Int) (x : Int) (h : l.length ≤ 1099511627776) : jo l x = some (hasB l x) := by
 unfold jo; rw [Nu l x h, ← Vq]; by_cases hl : l.findIdx (· == x) < l.length
 · rw [if_pos hl, decide_eq_true hl]; simp
 rw [if_neg hl, decide_eq_false hl]; rfl
theorem Yo (l : List Int) (x : Int) (h : l.length ≤ 1099511627776) : GI l x = some (hasB l x) := by
 unfold GI; rw [qI l x h]; rfl
def ev (l : List ah) (id : Int) : ah := (CV l id).1
def pI (l : List ah) (id : Int) : Bool := dP l id && isP (ev l id)
def FX (l : List ah) (full : List Int) : List Int := full.filter (pI l)
def ZL (l : List ah) (full : List Int) : List Int := fK (FX l full ++ full.filter (hasB (chainOf l (FX l full))))
theorem adr {l : List ah} {full : List Int} {x : Int} : x ∈ ZL l full ↔ x ∈ full ∧ (pI l x = true ∨ Ch l (FX l full) x) := by
 unfold ZL; rw [jL, List.mem_append, List.mem_filter, kC, Vj]; unfold FX; rw [List.mem_filter]; exact ⟨fun h => h.elim (fun h => ⟨h.1, .inl h.2⟩) fun h => ⟨h.1, .inr h.2⟩, fun ⟨h, k⟩ => k.elim (fun k => .inl ⟨h, k⟩) fun k => .inr ⟨h, k⟩⟩
theorem aiK (l : List ah) (full : List Int) : Inc (ZL l full) := jM _
theorem Ob (p : Int → Bool) : ∀ (S r : List Int), S.foldl (fun r x => bif p x then r ++ [x] else r) r = r ++ S.filter p
 | [], r => by simp
 | x :: S, r => by
   rw [List.foldl_cons, Ob p S, List.filter_cons]; cases p x <;> simp
theorem ads (l : List ah) (full : List Int) (hl : l.length ≤ 1000) (hs : iP l) (hf : full.length ≤ 120000) (hfl : (FX l full).length ≤ 100000) : II l full = some (ZL l full) := by
 unfold II SB; rw [qW (a0 := []) full (by omega) (fun r x => bif pI l x then r ++ [x] else r) (fun i r => r.length ≤ i) (fun r => (qp l r).bind fun x14 => KT full x14 r 0) (Nat.le_refl _)]
 · have e0 : full.foldl (fun r x => bif pI l x then r ++ [x] else r) [] = FX l full := by rw [Ob]; rfl
   have hc := xR l (FX l full); rw [e0, GY l _ hl hs.af8 hfl]; simp only [Option.bind_some]; unfold KT; rw [qW full (by omega) (fun r x => bif hasB (chainOf l (FX l full)) x then r ++ [x] else r) (fun i r => r.length ≤ (FX l full).length + i) (fun r => some (fK r)) (Nat.le_refl _)]
   · rw [Ob]; rfl
   · intro k r i h hI; refine ⟨?_, ?_⟩
     · cases hasB (chainOf l (FX l full)) full[i] with
       | false => show r.length ≤ (FX l full).length + (i + 1); omega
       | true => show (r ++ [full[i]]).length ≤ (FX l full).length + (i + 1); simp; omega
     unfold EU AZ; rw [dQ h, Yo _ _ (by omega)]; simp only [Option.bind_some]; rw [dM (by simp only [List.length_singleton]; omega)]; cases hasB (chainOf l (FX l full)) full[i] <;> rfl
   intro k r hI; unfold EU; rw [eY, vg _ (by omega)]; rfl
 · intro k r i h hI; refine ⟨?_, ?_⟩
   · cases pI l full[i] with
     | false => show r.length ≤ i + 1; omega
     | true => show (r ++ [full[i]]).length ≤ i + 1; simp; omega
   unfold EW AY; rw [dQ h, jW l _ (by omega)]; simp only [Option.bind_some]; rw [dM (by simp only [List.length_singleton]; omega)]; unfold pI dP ev; rw [aeF, FN]; cases (jr l full[i]).isSome <;> cases isP (CV l full[i]).1 <;> rfl
 intro k r _; unfold EW; rw [eY]
theorem Ch.al6 {l : List ah} {ids : List Int} {i x : Int} (hi : i ∈ ids) (h : Ch l [i] x) : Ch l ids x := by
 induction h with
 | one h hx hk => rw [List.mem_singleton.1 h] at hx; exact .one hi hx hk
 | more h hx hk ih => exact .more ih hx hk
theorem Ch.split {l : List ah} {ids : List Int} {x : Int} : Ch l ids x ↔ ∃ i ∈ ids, Ch l [i] x := by
 constructor
 · intro h
   induction h with
   | one h hx hk => exact ⟨_, h, .one (List.mem_singleton.2 rfl) hx hk⟩
   | more h hx hk ih => obtain ⟨i, h1, h2⟩ := ih; exact ⟨i, h1, .more h2 hx hk⟩
 rintro ⟨i, h1, h2⟩; exact .al6 h1 h2
theorem Ch.dP {l : List ah} {ids : List Int} {x : Int} (h : Ch l ids x) : dP l x = true := by cases h <;> assumption
theorem Vr (l : List ah) (full : List Int) : (ZL l full).length ≤ l.length :=
 nT (aiK l full) fun x hx => by
  rcases (adr.1 hx).2 with h | h
  · unfold pI at h; rw [Bool.and_eq_true] at h; exact h.1
  exact h.dP
end Go.Proofs.YtelpgcaiadpjpaaGreat
end
section
namespace Go.Proofs.YtelpgcaiadpjpaaGreat
open Go.RowKit
def gK (l : List ah) (id : Int) : dw := ⟨id, adq l (ev l id), (ev l id).Time, chainOf l [id]⟩
def agb (l : List ah) (left : List Int) (x : Int) : Bool := !left.any fun y => hasB (chainOf l [x]) y
def Yp (a b : dw) : Bool := bif a.AL != b.AL then decide (a.AL > b.AL) else decide (a.uK < b.uK)
def nU (l : List ah) (left : List Int) (b : Option Int) (x : Int) : Option Int := bif agb l left x && (match b with | none => true | some y => Yp (gK l x) (gK l y)) then some x else b
def zy (l : List ah) (left : List Int) : Option Int := left.foldl (nU l left) none
def uI (l : List ah) : Nat → List Int → List Int
 | 0, _ => []
 | n + 1, left => match zy l left with
   | none => []
   | some b => b :: uI l n (left.filter (· != b))
theorem Vs (l : List ah) : ∀ ids : List Int, ids.flatMap (fun id => bif dP l id then [gK l id] else []) = (ids.filter (dP l)).map (gK l)
 | [] => rfl
 | i :: ids => by
   rw [List.flatMap_cons, Vs l ids, List.filter_cons]; cases dP l i <;> simp
theorem ZM (l : List ah) (ids : List Int) (hl : l.length ≤ 1000) (hs : iP l) (hi : ids.length ≤ 100000) : Dv l ids = some ((oP l ids).map (gK l)) := by
 unfold Dv; rw [vg ids (by omega)]; simp only [Option.bind_some]; have hsl := iL ids; unfold OL; rw [qW (a0 := []) (fK ids) (by omega) (fun r id => r ++ bif dP l id then [gK l id] else []) (fun i r => r.length ≤ i) (fun r => some r) (Nat.le_refl _)]
 · rw [foldl_append (fun id => bif dP l id then [gK l id] else []), List.nil_append, Vs]; rfl
 · intro k r i h hI; refine ⟨?_, ?_⟩
   · cases dP l (fK ids)[i] <;> simp <;> omega
   unfold BR xH; rw [dQ h, jW l _ (by omega)]; simp only [Option.bind_some]; unfold dP; cases hg : jr l (fK ids)[i] with
   | none => rw [Bv hg]; simp
   | some e =>
     have he := hs e (Bq hg); have hev : ev l (fK ids)[i] = e := by unfold ev; rw [o9 hg]
     rw [o9 hg]; simp only [cond_true, Option.isSome_some]; rw [Yn l e hl hs he.auth, GY l _ hl hs.af8 (by simp)]; simp only [Option.bind_some]; rw [dM (by simp only [List.length_singleton]; omega)]; unfold gK; rw [hev]; rfl
 intro k r _; unfold BR; rw [eY]
theorem adt (l : List ah) (left : List Int) : ∀ (c : List Int) (b : Option Int) {x : Int}, c.foldl (nU l left) b = some x → b = some x ∨ x ∈ c
 | [], b, x, h => .inl h
 | y :: c, b, x, h => by
   rw [List.foldl_cons] at h; rcases adt l left c _ h with h1 | h1
   · have key : ∀ c : Bool, (bif c then some y else b) = some x → b = some x ∨ x = y := fun c hc => by
      cases c with
      | true => simp only [cond_true, Option.some.injEq] at hc; exact .inr hc.symm
      | false => exact .inl hc
     rcases key _ h1 with h2 | h2
     · exact .inl h2
     exact .inr (h2 ▸ List.mem_cons_self ..)
   exact .inr (List.mem_cons_of_mem _ h1)
theorem agc {l : List ah} {left : List Int} {x : Int} (h : zy l left = some x) : x ∈ left := by
 rcases adt l left left none h with h | h
 · cases h
 exact h
theorem Yq {left : List Int} (hn : left.Nodup) {j : Nat} (hj : j < left.length) : left.take j ++ left.drop (j + 1) = left.filter (· != left[j]) := by
 have e : left = left.take j ++ left[j] :: left.drop (j + 1) := by rw [← List.drop_eq_getElem_cons hj, List.take_append_drop]
 have hn2 : (left.take j ++ left[j] :: left.drop (j + 1)).Nodup := by rw [← e]; exact hn
 have h1 := List.nodup_append.1 hn2; have h2 := List.nodup_cons.1 h1.2.1
 have g1 : (left.take j).filter (· != left[j]) = left.take j := List.filter_eq_self.2 fun x hx => by
  have := h1.2.2 x hx left[j] (List.mem_cons_self ..); simpa using this
 have g2 : (left.drop (j + 1)).filter (· != left[j]) = left.drop (j + 1) := List.filter_eq_self.2 fun x hx => by
  have : x ≠ left[j] := fun e => h2.1 (e ▸ hx); simpa using this
 have : (left.take j ++ left[j] :: left.drop (j + 1)).filter (· != left[j]) = left.take j ++ left.drop (j + 1) := by
  rw [List.filter_append, List.filter_cons, g1, g2]; simp
 rw [← e] at this; exact this.symm
theorem ZN {left : List Int} (hn : left.Nodup) {b : Int} (hb : b ∈ left) : (left.filter (· != b)).length + 1 = left.length := by
 obtain ⟨j, hj, rfl⟩ := List.getElem_of_mem hb; rw [← Yq hn hj, List.length_append, List.length_take, List.length_drop]; omega
theorem Yr (l : List ah) (hl : l.length ≤ 1000) : ∀ (m : Nat) (left acc : List Int) (N : Nat), left.length = m → Inc left → (∀ x ∈ left, dP l x = true) → acc.length + left.length ≤ 1000000 → m < N → bn lI N (left.map (gK l)) acc = some (acc ++ uI l m left) := by
 intro m
 induction m with
 | zero =>
   intro left acc N hm hi hk hacc hN; obtain ⟨N, rfl⟩ : ∃ N', N = N' + 1 := ⟨N - 1, by omega⟩
   have : left = [] := List.eq_nil_of_length_eq_zero hm; subst this; show lI _ _ _ = _; unfold lI uI; simp
 | succ m ih =>
   intro left acc N hm hi hk hacc hN; obtain ⟨N, rfl⟩ : ∃ N', N = N' + 1 := ⟨N - 1, by omega⟩
   have hll := nT hi hk; refine dG.eq ?_; show dG (lI (bn lI N) _ _) _; have ih' := fun left' acc' h1 h2 h3 h4 => ih left' acc' N h1 h2 h3 h4 (by omega); generalize bn lI N = K at ih'; unfold lI; rw [show decide (((left.map (gK l)).length : Int) > 0) = true by rw [List.length_map]; simp; omega]; simp only [cond_true]; unfold OO; refine IY (body := BU (left.map (gK l)) K) (fun m2 a b c => ∃ i : Nat, b = i ∧ i + m2 = left.length ∧ c = acc ∧ ((a = -1 ∧ (left.take i).foldl (nU l left) none = none) ∨ ∃ (j : Nat) (hj : j < left.length), a = (j : Int) ∧ (left.take i).foldl (nU l left) none = some left[j])) ?_ fuel left.length (-1) 0 acc (fuel_lt (by omega)) ⟨0, rfl, by omega, rfl, .inl ⟨rfl, rfl⟩⟩; rintro m2 a b c k ⟨i, rfl, hm2, rfl, hI⟩ hk2; unfold BU; by_cases hlt : i < left.length
   · have hlt' : i < (left.map (gK l)).length := by rw [List.length_map]; exact hlt
     rw [dec_lt hlt', dA hlt', List.getElem_map]; simp only [cond_true, Option.bind_some]
     have hst : (left.take (i + 1)).foldl (nU l left) none = nU l left ((left.take i).foldl (nU l left) none) left[i] := by
      rw [List.take_succ_eq_append_getElem hlt, List.foldl_append]; rfl
     unfold OM; have hc := xR l [left[i]]
     have hin : ∀ (k2 : Int → Int → List Int → Option (List Int)), bn (lH (left.map (gK l)) (gK l left[i]) k2 (i : Int) a) fuel 0 c = bif agb l left left[i] then (bif decide (a < 0) then lG k2 (i : Int) a true c else (bf (left.map (gK l)) a).bind fun x27 => (o8 (gK l left[i]) x27).bind fun x28 => lG k2 (i : Int) a x28 c) else nC k2 (i : Int) a c := by
      intro k2
      have key : ∀ n (j : Nat), j + n = left.length → ∀ m, n < m → bn (lH (left.map (gK l)) (gK l left[i]) k2 (i : Int) a) m (j : Int) c = bif !(left.drop j).any (fun y => hasB (chainOf l [left[i]]) y) then (bif decide (a < 0) then lG k2 (i : Int) a true c else (bf (left.map (gK l)) a).bind fun x27 => (o8 (gK l left[i]) x27).bind fun x28 => lG k2 (i : Int) a x28 c) else nC k2 (i : Int) a c := by
       intro n
       induction n with
       | zero =>
         intro j hj m hm; obtain ⟨m, rfl⟩ : ∃ m', m = m' + 1 := ⟨m - 1, by omega⟩
         have : j = left.length := by omega
         subst this; show lH _ _ _ _ _ _ _ _ = _; unfold lH; rw [show decide ((left.length : Int) < ((left.map (gK l)).length : Int)) = false by rw [List.length_map]; exact nS _, List.drop_length]; rfl
       | succ n ihn =>
         intro j hj m hm; obtain ⟨m, rfl⟩ : ∃ m', m = m' + 1 := ⟨m - 1, by omega⟩
         have hjl : j < left.length := by omega
         have anK : j < (left.map (gK l)).length := by rw [List.length_map]; exact hjl
         have ihn' := ihn (j + 1) (by omega) m (by omega); show lH _ _ _ _ _ (bn _ m) _ _ = _; generalize bn (lH (left.map (gK l)) (gK l left[i]) k2 (i : Int) a) m = L at ihn'; unfold lH; rw [dQ anK, List.getElem_map]; show ((GI (chainOf l [left[i]]) left[j]).bind _) = _; rw [Yo _ _ (by omega), wrap_succ j (by omega), List.drop_eq_getElem_cons hjl, List.any_cons]; simp only [Option.bind_some]; cases hasB (chainOf l [left[i]]) left[j] with
         | true => rfl
         | false =>
           simp only [cond_false, Bool.false_or]; exact ihn'
      exact key left.length 0 (by omega) fuel (fuel_lt (by omega))
     rw [hin]; have hw := wrap_succ i (by omega); unfold lG nC; rw [hw]; cases hfr : agb l left left[i] with
     | false =>
       simp only [cond_false]; refine hk2 (m2 - 1) _ _ _ (by omega) ⟨i + 1, rfl, by omega, rfl, ?_⟩; have e : nU l left ((left.take i).foldl (nU l left) none) left[i] = (left.take i).foldl (nU l left) none := by unfold nU; rw [hfr]; rfl
       rw [hst, e]; exact hI
     | true =>
       simp only [cond_true]; rcases hI with ⟨rfl, h0⟩ | ⟨j, hj, rfl, h0⟩
       · rw [show decide ((-1 : Int) < 0) = true by decide]; simp only [cond_true]; refine hk2 (m2 - 1) _ _ _ (by omega) ⟨i + 1, rfl, by omega, rfl, .inr ⟨i, hlt, rfl, ?_⟩⟩; rw [hst, h0]; unfold nU; rw [hfr]; rfl
       have hj' : j < (left.map (gK l)).length := by rw [List.length_map]; exact hj
       rw [show decide ((j : Int) < 0) = false by simp, dA hj', List.getElem_map]; simp only [cond_false, Option.bind_some]
       have e1 : o8 (gK l left[i]) (gK l left[j]) = some (Yp (gK l left[i]) (gK l left[j])) := by
        unfold o8 Yp; cases (gK l left[i]).AL != (gK l left[j]).AL <;> rfl
       rw [e1]; simp only [Option.bind_some]; cases ha : Yp (gK l left[i]) (gK l left[j]) with
       | true =>
         simp only [cond_true]; refine hk2 (m2 - 1) _ _ _ (by omega) ⟨i + 1, rfl, by omega, rfl, .inr ⟨i, hlt, rfl, ?_⟩⟩; rw [hst, h0]; unfold nU; rw [hfr]; simp only [ha]; rfl
       | false =>
         simp only [cond_false]; refine hk2 (m2 - 1) _ _ _ (by omega) ⟨i + 1, rfl, by omega, rfl, .inr ⟨j, hj, rfl, ?_⟩⟩; rw [hst, h0]; unfold nU; rw [hfr]; simp only [ha]; rfl
   have hie : i = left.length := by omega
   subst hie; rw [show decide ((left.length : Int) < ((left.map (gK l)).length : Int)) = false by rw [List.length_map]; exact nS _]; simp only [cond_false]; rw [List.take_length] at hI; have hgoal : uI l (m + 1) left = match zy l left with | none => [] | some b => b :: uI l m (left.filter (· != b)) := rfl
   rcases hI with ⟨rfl, h0⟩ | ⟨j, hj, rfl, h0⟩
   · rw [show decide ((-1 : Int) < 0) = true by decide]; refine .ret ?_; have h1 : zy l left = none := h0; rw [hgoal, h1]; simp
   have hj' : j < (left.map (gK l)).length := by rw [List.length_map]; exact hj
   rw [show decide ((j : Int) < 0) = false by simp, dA hj', List.getElem_map]; simp only [cond_false, Option.bind_some]; have h1 : zy l left = some left[j] := h0; rw [dM (by simp only [List.length_singleton]; omega)]; simp only [Option.bind_some]; rw [aau (Nat.le_of_lt hj'), wrap_succ j (by omega), Nq hj']; simp only [Option.bind_some]; rw [dM (by rw [List.length_take, List.length_drop, List.length_map]; omega)]; simp only [Option.bind_some]
   have e2 : (left.map (gK l)).take j ++ (left.map (gK l)).drop (j + 1) = (left.filter (· != left[j])).map (gK l) := by
    rw [← Yq (IZ hi) hj, List.map_append, List.map_take, List.map_drop]
   rw [e2]; have hwl := ZN (IZ hi) (List.getElem_mem hj); rw [ih' (left.filter (· != left[j])) (c ++ [(gK l left[j]).qB]) (by omega) (hi.sublist List.filter_sublist) (fun x hx => hk x ((List.mem_filter.1 hx).1)) (by simp only [List.length_append, List.length_singleton]; omega)]; refine .ret ?_; rw [hgoal, h1, List.append_assoc]; rfl
theorem ZO (l : List ah) (ids : List Int) (hl : l.length ≤ 1000) (hs : iP l) (hi : ids.length ≤ 100000) : Dw l ids = some (uI l (oP l ids).length (oP l ids)) := by
 have hkl : (oP l ids).length ≤ l.length := nT (JV l ids) fun x hx => (yX.1 hx).2; unfold Dw; rw [ZM l ids hl hs hi]; simp only [Option.bind_some]; unfold OQ; rw [Yr l hl _ (oP l ids) [] fuel rfl (JV l ids) (fun x hx => (yX.1 hx).2) (by simp only [List.length_nil]; omega) (fuel_lt (by omega))]; rfl
theorem adu {l : List ah} {x : Int} (h : dP l x = true) : jr l x = some (ev l x) ∧ (ev l x).Id = x := by
 unfold dP at h; obtain ⟨e, he⟩ := Option.isSome_iff_exists.1 h; have : ev l x = e := by unfold ev; rw [o9 he]
 rw [this]; exact ⟨he, ae6 he⟩
theorem Yt (l : List ah) : ∀ (n : Nat) (left : List Int) {x : Int}, x ∈ uI l n left → x ∈ left
 | 0, _, _, h => absurd h List.not_mem_nil
 | n + 1, left, x, h => by
   unfold uI at h; cases hb : zy l left with
   | none => rw [hb] at h; exact absurd h List.not_mem_nil
   | some b =>
     rw [hb] at h; rcases List.mem_cons.1 h with rfl | h
     · exact agc hb
     exact (List.mem_filter.1 (Yt l n _ h)).1
theorem QK (l : List ah) : ∀ (n : Nat) (left : List Int), (uI l n left).length ≤ n
 | 0, _ => Nat.le_refl _
 | n + 1, left => by
   unfold uI; cases zy l left with
   | none => exact Nat.zero_le _
   | some b => have := QK l n (left.filter (· != b)); simp only [List.length_cons]; omega
end Go.Proofs.YtelpgcaiadpjpaaGreat
end
section
namespace Go.Proofs.YtelpgcaiadpjpaaGreat
open Go.RowKit
def zO (l : List ah) (e : ah) : Option Int := e.fH.find? fun id => dP l id && (ev l id).Kind == 3
def Yu (l : List ah) (e : ah) : Int × Bool := match zO l e with | some x => (x, true) | none => (0, false)
theorem JB (l : List ah) (e : ah) (hl : l.length ≤ 1000) (he : e.fH.length ≤ 40) : tu l e = some (Yu l e) := by
 unfold tu Js; rw [LG e.fH (fuel_lt (by omega)) (fun id => dP l id && (ev l id).Kind == 3) (fun i => some (match e.fH[i]? with | some x => (x, true) | none => (0, false))) (some (0, false))]
 · unfold Yu zO; rw [qX]; by_cases h : e.fH.findIdx (fun id => dP l id && (ev l id).Kind == 3) < e.fH.length
   · rw [if_pos h]
   rw [if_neg h, List.getElem?_eq_none (by omega)]
 · intro k i h; unfold wz; rw [dQ h, jW l _ (by omega), List.getElem?_eq_getElem h]; simp only [Option.bind_some]; unfold dP ev; rw [FN]; cases (jr l e.fH[i]).isSome <;> rfl
 intro k; unfold wz; rw [eY]
def FY (l : List ah) : Nat → List Int → Int → List Int
 | 0, seen, _ => seen
 | n + 1, seen, id => bif hasB seen id || !dP l id then seen else match zO l (ev l id) with
   | none => seen ++ [id]
   | some x => FY l n (seen ++ [id]) x
def abo (l : List ah) (id : Int) : List Int := FY l l.length [] id
structure JY (l : List ah) (seen : List Int) : Prop where
 nodup : seen.Nodup
 known : ∀ x ∈ seen, dP l x = true
theorem JY.length {l : List ah} {seen : List Int} (h : JY l seen) : seen.length ≤ l.length := by
 rw [← (rQ seen).length_eq, aaw h.nodup]; exact nT (jM _) fun x hx => h.known x (jL.1 hx)
theorem JY.snoc {l : List ah} {seen : List Int} (h : JY l seen) {id : Int} (h1 : id ∉ seen) (h2 : dP l id = true) : JY l (seen ++ [id]) := by
 refine ⟨List.nodup_append.2 ⟨h.nodup, by simp, fun a ha b hb => ?_⟩, fun x hx => ?_⟩
 · rw [List.mem_singleton.1 hb]; exact fun e => h1 (e ▸ ha)
 rcases List.mem_append.1 hx with hx | hx
 · exact h.known x hx
 rw [List.mem_singleton.1 hx]; exact h2
theorem ae7 (l : List ah) : ∀ (n : Nat) (seen : List Int) (id : Int), JY l seen → JY l (FY l n seen id)
 | 0, _, _, h => h
 | n + 1, seen, id, h => by
   unfold FY; cases hc : hasB seen id || !dP l id with
   | true => exact h
   | false =>
     rw [Bool.or_eq_false_iff, lu] at hc; have h2 := h.snoc hc.1 (by simpa using hc.2); simp only [cond_false]; cases zO l (ev l id) with
     | none => exact h2
     | some x => exact ae7 l n _ x h2
theorem Vt (l : List ah) : ∀ (n : Nat) (seen : List Int) (id : Int), ∃ t, FY l n seen id = seen ++ t
 | 0, seen, _ => ⟨[], by simp [FY]⟩
 | n + 1, seen, id => by
   unfold FY; cases hasB seen id || !dP l id with
   | true => exact ⟨[], by simp⟩
   | false =>
     simp only [cond_false]; cases zO l (ev l id) with
     | none => exact ⟨[id], rfl⟩
     | some x =>
       obtain ⟨t, ht⟩ := Vt l n (seen ++ [id]) x; exact ⟨id :: t, by simp only [ht, List.append_assoc]; rfl⟩
theorem adv (l : List ah) (id : Int) : (abo l id).length ≤ l.length := (ae7 l _ [] id ⟨List.nodup_nil, fun x hx => absurd hx List.not_mem_nil⟩).length
theorem aiL (l : List ah) (hl : l.length ≤ 1000) (hs : iP l) (v8 v9 : List Int) : ∀ (m : Nat) (seen : List Int) (id : Int) (N : Nat), seen.length + m = l.length → JY l seen → m < N → yC lF N seen seen v8 v9 id l = some (FY l m seen id) := by
 intro m
 induction m with
 | zero =>
   intro seen id N hm hw hN; obtain ⟨N, rfl⟩ : ∃ N', N = N' + 1 := ⟨N - 1, by omega⟩
   have hwl := hw.length; show lF _ _ _ _ _ _ _ = _; unfold lF; rw [qI _ _ (by omega), jW l _ (by omega)]; simp only [Option.bind_some]; rw [FN]; cases hh : hasB seen id with
   | true => rfl
   | false =>
     cases hk : (jr l id).isSome with
     | false => rfl
     | true =>
       have h2 := (hw.snoc (lu.1 hh) hk).length; simp only [List.length_append, List.length_singleton] at h2; omega
 | succ m ih =>
   intro seen id N hm hw hN; obtain ⟨N, rfl⟩ : ∃ N', N = N' + 1 := ⟨N - 1, by omega⟩
   have hwl := hw.length; show lF (yC lF N) _ _ _ _ _ _ = _; have ih' := fun seen' id' h1 h2 => ih seen' id' N h1 h2 (by omega); generalize yC lF N = K at ih'; unfold lF FY; rw [qI _ _ (by omega), jW l _ (by omega)]; simp only [Option.bind_some]; rw [FN]; cases hh : hasB seen id with
   | true => rfl
   | false =>
     cases hk : (jr l id).isSome with
     | false => rw [show dP l id = false from hk]; rfl
     | true =>
       obtain ⟨e, he⟩ := Option.isSome_iff_exists.1 hk; rw [show dP l id = true from hk]; simp only [Bool.not_false, Bool.not_true, Bool.or_false, cond_true, cond_false]; rw [dM (by simp only [List.length_singleton]; omega)]; simp only [Option.bind_some]; unfold xE; simp only [cond_false]; rw [dM (by simp only [List.length_singleton]; omega)]; simp only [Option.bind_some]; have hev : (CV l id).1 = ev l id := rfl
       have hea : (ev l id).fH.length ≤ 40 := by
        have : ev l id = e := by unfold ev; rw [o9 he]
        rw [this]; exact (hs e (Bq he)).auth
       rw [hev, JB l _ hl hea]; simp only [Option.bind_some]; unfold Yu; cases zO l (ev l id) with
       | none => rfl
       | some x => exact ih' (seen ++ [id]) x (by simp only [List.length_append, List.length_singleton]; omega) (hw.snoc (lu.1 hh) hk)
theorem ZP (l : List ah) (id : Int) (hl : l.length ≤ 1000) (hs : iP l) : Du l id = some (abo l id) := by
 unfold Du xB OJ; exact aiL l hl hs [] [] l.length [] id fuel (by simp) ⟨List.nodup_nil, fun x hx => absurd hx List.not_mem_nil⟩ (fuel_lt (by omega))
def O4 (main way : List Int) : Int := match way.find? (hasB main) with | some x => ((main.findIdx (· == x) : Nat) : Int) | none => (main.length : Int)
def aay (l : List ah) (main : List Int) (id : Int) : Int := O4 main (abo l id)
theorem aiM (l : List ah) (main : List Int) (hl : l.length ≤ 1000) (hs : iP l) (hm : main.length ≤ 100000) : ∀ (m : Nat) (seen : List Int) (z id : Int) (N : Nat), seen.length + m = l.length → JY l seen → seen.find? (hasB main) = none → m < N → BI iU N seen main z id l = some (O4 main (FY l m seen id)) := by
 have hnone : ∀ seen : List Int, seen.find? (hasB main) = none → O4 main seen = (main.length : Int) := fun seen h => by unfold O4; rw [h]
 intro m
 induction m with
 | zero =>
   intro seen z id N hm hw hf hN; obtain ⟨N, rfl⟩ : ∃ N', N = N' + 1 := ⟨N - 1, by omega⟩
   have hwl := hw.length; show iU _ _ _ _ _ _ = _; unfold iU; rw [qI _ _ (by omega), jW l _ (by omega)]; simp only [Option.bind_some]; rw [FN]; have he : O4 main (FY l 0 seen id) = (main.length : Int) := hnone seen hf; rw [he]; cases hh : hasB seen id with
   | true => rfl
   | false =>
     cases hk : (jr l id).isSome with
     | false => rfl
     | true =>
       have h2 := (hw.snoc (lu.1 hh) hk).length; simp only [List.length_append, List.length_singleton] at h2; omega
 | succ m ih =>
   intro seen z id N hm hw hf hN; obtain ⟨N, rfl⟩ : ∃ N', N = N' + 1 := ⟨N - 1, by omega⟩
   have hwl := hw.length; show iU (BI iU N) _ _ _ _ _ = _; have ih' := fun seen' z' id' h1 h2 h3 => ih seen' z' id' N h1 h2 h3 (by omega); generalize BI iU N = K at ih'; unfold iU mG; rw [qI _ _ (by omega), jW l _ (by omega), Nu _ _ (by omega)]; simp only [Option.bind_some]; rw [FN]; have hun : FY l (m + 1) seen id = bif hasB seen id || !dP l id then seen else match zO l (ev l id) with | none => seen ++ [id] | some x => FY l m (seen ++ [id]) x := rfl
   cases hh : hasB seen id with
   | true => rw [hun, hh]; simp only [Bool.true_or, cond_true, Bool.not_true, cond_false]; rw [hnone seen hf]
   | false =>
     cases hk : (jr l id).isSome with
     | false => rw [hun, hh, show dP l id = false from hk]; simp only [Bool.false_or, Bool.not_false, cond_true]; rw [hnone seen hf]
     | true =>
       obtain ⟨e, he⟩ := Option.isSome_iff_exists.1 hk; rw [hun, hh, show dP l id = true from hk]; simp only [Bool.not_false, Bool.not_true, Bool.or_false, cond_true, cond_false]; have hfx := Vq main id; by_cases hlt : main.findIdx (· == id) < main.length
       · rw [if_pos hlt, show decide (((main.findIdx (· == id) : Nat) : Int) ≥ 0) = true by simp]; simp only [cond_true]; rw [decide_eq_true hlt] at hfx
         have hex : ∃ t, (match zO l (ev l id) with | none => seen ++ [id] | some x => FY l m (seen ++ [id]) x) = seen ++ [id] ++ t := by
          cases zO l (ev l id) with
          | none => exact ⟨[], by simp⟩
          | some x => exact Vt l m (seen ++ [id]) x
         obtain ⟨t, ht⟩ := hex; rw [ht]; unfold O4; rw [List.find?_append, List.find?_append, hf]; simp [← hfx]
       rw [if_neg hlt, show decide ((-1 : Int) ≥ 0) = false by decide]; simp only [cond_false]; rw [decide_eq_false hlt] at hfx; rw [dM (by simp only [List.length_singleton]; omega)]; simp only [Option.bind_some]; have hev : (CV l id).1 = ev l id := rfl
       have hea : (ev l id).fH.length ≤ 40 := by
        have : ev l id = e := by unfold ev; rw [o9 he]
        rw [this]; exact (hs e (Bq he)).auth
       have hf2 : (seen ++ [id]).find? (hasB main) = none := by rw [List.find?_append, hf]; simp [← hfx]
       rw [hev, JB l _ hl hea]; simp only [Option.bind_some]; unfold Yu; cases zO l (ev l id) with
       | none => simp only [Bool.not_false, cond_true]; rw [hnone _ hf2]
       | some x => exact ih' (seen ++ [id]) z x (by simp only [List.length_append, List.length_singleton]; omega) (hw.snoc (lu.1 hh) hk) hf2
theorem Rk (l : List ah) (main : List Int) (id : Int) (hl : l.length ≤ 1000) (hs : iP l) (hm : main.length ≤ 100000) : uq l main id = some (aay l main id) := by
 unfold uq xB Gl; exact aiM l main hl hs hm l.length [] 0 id fuel (by simp) ⟨List.nodup_nil, fun x hx => absurd hx List.not_mem_nil⟩ rfl (fuel_lt (by omega))
def vP (l : List ah) (main : List Int) (id : Int) : bM := ⟨id, aay l main id, (ev l id).Time⟩
def ajG (x : bM) : Int × Int × Int := (x.qB, x.rD, x.uK)
def leI (x y : bM) : Bool := C9 (ajG x) (ajG y)
def LW (l : List ah) (main ids : List Int) : List Int := (zf leI ((ids.filter (dP l)).map (vP l main))).map (·.qB)
theorem Vu (l : List ah) (main : List Int) : ∀ ids : List Int, ids.flatMap (fun id => bif dP l id then [vP l main id] else []) = (ids.filter (dP l)).map (vP l main)
 | [] => rfl
 | i :: ids => by
   rw [List.flatMap_cons, Vu l main ids, List.filter_cons]; cases dP l i <;> simp
theorem WI (s : List bM) (hs : s.length ≤ 1000000) (hn : (s.map (·.qB)).Nodup) : fD s = some s := by
 unfold fD; by_cases h2 : s.length < 2
 · rw [show decide ((s.length : Int) < 2) = true by simp; omega]; rfl
 rw [show decide ((s.length : Int) < 2) = false by simp; omega]; simp only [cond_false]; unfold nD; refine dG.eq ?_; refine Ir (body := iE) (fun m a b => ∃ i : Nat, a = i ∧ i + m = s.length ∧ 0 < i ∧ b = s) ?_ fuel (s.length - 1) 1 s (fuel_lt (by omega)) ⟨1, rfl, by omega, by omega, rfl⟩; rintro m a b k ⟨i, rfl, hm, hi, rfl⟩ hk; unfold iE; by_cases hlt : i < b.length
 · rw [dec_lt hlt, dA hlt]; simp only [cond_true, Option.bind_some]; have w : IntKind.i64.wrap ((i : Int) - 1) = ((i - 1 : Nat) : Int) := by rw [IntKind.wrap_i64]; omega
   have hlt1 : i - 1 < b.length := by omega
   rw [w, dA hlt1]; simp only [Option.bind_some]
   have hne : b[i].qB ≠ b[i - 1].qB := by
    have := List.pairwise_iff_getElem.1 hn (i - 1) i (by rw [List.length_map]; omega) (by rw [List.length_map]; omega) (by omega); simp only [List.getElem_map] at this; exact fun e => this e.symm
   have hq : zh b[i] b[i - 1] = false := by
    unfold zh; rw [show (b[i].qB == b[i - 1].qB) = false by simpa using hne]; rfl
   rw [hq, wrap_succ i (by omega)]; exact hk (m - 1) _ _ (by omega) ⟨i + 1, rfl, by omega, by omega, rfl⟩
 have : i = b.length := by omega
 subst this; rw [nS]; exact .ret rfl
theorem aaz (l : List ah) (main : List Int) (ids : List Int) : (ids.map (vP l main)).map (·.qB) = ids := by
 rw [List.map_map]; exact List.map_id' ids
theorem UU (l : List ah) (main ids : List Int) (hl : l.length ≤ 1000) (hs : iP l) (hm : main.length ≤ 100000) (hi : ids.length ≤ 100000) (hn : ids.Nodup) : xK l main ids = some (LW l main ids) := by
 unfold xK Ju; rw [qW (a0 := []) ids (by omega) (fun r id => r ++ bif dP l id then [vP l main id] else []) (fun i r => r.length ≤ i) (fun v1 => (gW v1).bind fun x12 => (fD x12).bind fun ig => CS ig [] 0) (Nat.le_refl _)]
 · rw [foldl_append (fun id => bif dP l id then [vP l main id] else []), List.nil_append, Vu]; have hfl := List.length_filter_le (dP l) ids; have hil : ((ids.filter (dP l)).map (vP l main)).length ≤ 100000 := by rw [List.length_map]; omega
   unfold gW MJ; rw [if_pos (by omega)]; simp only [Option.bind_some]; have e : (zf (fun x y : bM => C9 (x.qB, x.rD, x.uK) (y.qB, y.rD, y.uK)) ((ids.filter (dP l)).map (vP l main))) = zf leI ((ids.filter (dP l)).map (vP l main)) := rfl; rw [e]; unfold LW; have hp := zF leI ((ids.filter (dP l)).map (vP l main))
   have hnd : ((zf leI ((ids.filter (dP l)).map (vP l main))).map (·.qB)).Nodup := by
    rw [(hp.map (·.qB)).nodup_iff, aaz]; exact hn.sublist List.filter_sublist
   have hsl : (zf leI ((ids.filter (dP l)).map (vP l main))).length ≤ 100000 := by rw [hp.length_eq]; exact hil
   generalize zf leI ((ids.filter (dP l)).map (vP l main)) = S at hnd hsl; rw [WI S (by omega) hnd]; simp only [Option.bind_some]; unfold CS; rw [qW (a0 := []) S (by omega) (fun r x => r ++ [x.qB]) (fun i r => r.length ≤ i) (fun r => some r) (Nat.le_refl _)]
   · rw [foldl_append (fun x : bM => [x.qB]), List.nil_append]; congr 1; clear hnd hsl
     induction S with
     | nil => rfl
     | cons x S ih => rw [List.flatMap_cons, ih]; rfl
   · intro k r i h hI; refine ⟨by rw [List.length_append]; simp only [List.length_singleton]; omega, ?_⟩; unfold wB; rw [dQ h, dM (by simp only [List.length_singleton]; omega)]; rfl
   intro k r _; unfold wB; rw [eY]
 · intro k r i h hI; refine ⟨?_, ?_⟩
   · cases dP l ids[i] <;> simp <;> omega
   unfold wC rO; rw [dQ h, jW l _ (by omega)]; simp only [Option.bind_some]; rw [FN, Rk l main _ hl hs hm]; simp only [Option.bind_some]; rw [dM (by simp only [List.length_singleton]; omega)]; unfold dP; cases (jr l ids[i]).isSome with
   | true => rfl
   | false => simp
 intro k r _; unfold wC; rw [eY]
theorem agd {l : List ah} {main ids : List Int} {x : Int} : x ∈ LW l main ids ↔ x ∈ ids ∧ dP l x = true := by
 unfold LW; rw [((zF leI ((ids.filter (dP l)).map (vP l main))).map (·.qB)).mem_iff, aaz, List.mem_filter]
theorem aa2 (l : List ah) (main ids : List Int) : (LW l main ids).length ≤ ids.length := by
 unfold LW; rw [List.length_map, (zF _ _).length_eq, List.length_map]; exact List.length_filter_le _ _
end Go.Proofs.YtelpgcaiadpjpaaGreat
end
section
namespace Go.Proofs.YtelpgcaiadpjpaaGreat
open Go.RowKit
def iO (c : Int) : Bool := (decide (c ≥ 97) && decide (c ≤ 122)) || (decide (c ≥ 48) && decide (c ≤ 57))
theorem Jj (c : Int) : vK c = some (iO c) := by
 unfold vK iO; cases decide (c ≥ 97) <;> cases decide (c ≤ 122) <;> cases decide (c ≥ 48) <;> cases decide (c ≤ 57) <;> rfl
theorem Jk (c : Int) : Ci c = some (iO c) := by
 unfold Ci iO; cases decide (c ≥ 97) <;> cases decide (c ≤ 122) <;> cases decide (c ≥ 48) <;> cases decide (c ≤ 57) <;> rfl
def FZ (l : List Int) (p : Int → Bool) : Bool := decide ((l.length : Int) ≥ 1) && decide ((l.length : Int) ≤ 32) && l.all fun c => iO c || p c
def isLocal (c : Int) : Bool := c == 95 || c == 46 || c == 45 || c == 61
def qc (c : Int) : Bool := c == 46 || c == 45
def LX (l : List Int) : Bool := FZ l isLocal
def GZ (l : List Int) : Bool := FZ l qc && iO (l.getD 0 0) && iO (l.getD (l.length - 1) 0)
theorem O5 {n : Nat} (h : n ≤ 9223372036854) : n < fuel := by have : fuel = 4611686018427387904 := rfl; omega
theorem TA {s : ByteArray} (hs : s.size ≤ 9223372036854) : ni s = some (FZ (aV s) isLocal) := by
 have hl : ug s 0 = some ((aV s).all fun c => iO c || isLocal c) := by
  unfold ug; rw [scan (aV s) (by rw [bP]; exact O5 hs) (fun c => !(iO c || isLocal c)) false (some true) ?_ ?_, yV, Cj]
  · intro k i h; have h' : i < s.size := by rw [bP] at h; exact h
    have hf : zK (aV s)[i] = some (isLocal (aV s)[i]) := by unfold zK isLocal; cases (aV s)[i] == 95 <;> cases (aV s)[i] == 46 <;> cases (aV s)[i] == 45 <;> cases (aV s)[i] == 61 <;> rfl
    simp only [oM, dec_lt h', cond_true, Ee h, Jj, hf, Option.bind_some]; cases iO (aV s)[i] <;> cases isLocal (aV s)[i] <;> rfl
  intro k; simp only [oM, bP, nS, cond_false]
 unfold ni FZ; rw [hl, bP]; have e1 : decide ((s.size : Int) ≥ 1) = !decide ((s.size : Int) < 1) := by by_cases h : (s.size : Int) < 1 <;> simp [h] <;> omega
 have e2 : decide ((s.size : Int) ≤ 32) = !decide ((s.size : Int) > 32) := by by_cases h : (s.size : Int) > 32 <;> simp [h] <;> omega
 rw [e1, e2]; cases decide ((s.size : Int) < 1) <;> cases decide ((s.size : Int) > 32) <;> rfl
theorem Rl {s : ByteArray} (hs : s.size ≤ 9223372036854) : mM s = some (FZ (aV s) qc) := by
 have hl : rY s 0 = some ((aV s).all fun c => iO c || qc c) := by
  unfold rY; rw [scan (aV s) (by rw [bP]; exact O5 hs) (fun c => !(iO c || qc c)) false (some true) ?_ ?_, yV, Cj]
  · intro k i h; have h' : i < s.size := by rw [bP] at h; exact h
    have hf : wZ (aV s)[i] = some (qc (aV s)[i]) := by unfold wZ qc; cases (aV s)[i] == 46 <;> cases (aV s)[i] == 45 <;> rfl
    simp only [nZ, dec_lt h', cond_true, Ee h, Jj, hf, Option.bind_some]; cases iO (aV s)[i] <;> cases qc (aV s)[i] <;> rfl
  intro k; simp only [nZ, bP, nS, cond_false]
 unfold mM FZ; rw [hl, bP]; have e1 : decide ((s.size : Int) ≥ 1) = !decide ((s.size : Int) < 1) := by by_cases h : (s.size : Int) < 1 <;> simp [h] <;> omega
 have e2 : decide ((s.size : Int) ≤ 32) = !decide ((s.size : Int) > 32) := by by_cases h : (s.size : Int) > 32 <;> simp [h] <;> omega
 rw [e1, e2]; cases decide ((s.size : Int) < 1) <;> cases decide ((s.size : Int) > 32) <;> rfl
theorem adw {s : ByteArray} (hs : s.size ≤ 9223372036854) : IK s = some (LX (aV s)) := by
 unfold IK LX; rw [TA hs]; rfl
theorem Nv {s : ByteArray} (h : 0 < s.size) : lq s 0 = some ((aV s).getD 0 0) := by
 have h' : 0 < (aV s).length := by rw [bP]; exact h
 rw [afY h']; simp [List.getD, h']
theorem aaA {s : ByteArray} (h : 0 < s.size) (hs : s.size ≤ 9223372036854) : lq s (IntKind.i64.wrap ((s.size : Int) - 1)) = some ((aV s).getD ((aV s).length - 1) 0) := by
 have h' : s.size - 1 < (aV s).length := by rw [bP]; omega
 rw [TW (by omega) (by omega), show (s.size : Int) - 1 = ((s.size - 1 : Nat) : Int) by omega, Ee h']; have h2 : (aV s).length - 1 = s.size - 1 := by rw [bP]
 rw [h2]; simp [List.getD, h']
theorem ahx {l : List Int} {p : Int → Bool} (h : FZ l p = true) : 0 < l.length ∧ l.length ≤ 32 := by
 unfold FZ at h; simp only [Bool.and_eq_true, decide_eq_true_eq] at h; omega
theorem aa3 {s : ByteArray} (hs : s.size ≤ 9223372036854) : EX s = some (GZ (aV s)) := by
 unfold EX GZ; rw [Rl hs]; simp only [Option.bind_some]; cases hn : FZ (aV s) qc with
 | false => rfl
 | true =>
   have hp : 0 < s.size := by have := (ahx hn).1; rwa [bP] at this
   simp only [cond_true, Nv hp, aaA hp hs, Jj, Option.bind_some]; cases iO ((aV s).getD 0 0) <;> simp
theorem aa4 {s : ByteArray} (hs : s.size ≤ 9223372036854) : Qh s = some (bif GZ (aV s) then 0 else 3) := by
 have hl : Je s 0 = some (bif (aV s).all fun c => iO c || qc c then 0 else 3) := by
  unfold Je; rw [scan (aV s) (by rw [bP]; exact O5 hs) (fun c => !(iO c || qc c)) 3 (some 0) ?_ ?_, yV, ← Cj]
  · cases ((aV s).any fun c => !(iO c || qc c)) <;> rfl
  · intro k i h; have h' : i < s.size := by rw [bP] at h; exact h
    simp only [Jd, dec_lt h', cond_true, Ee h, Jk, Option.bind_some, qc, bne]; cases iO (aV s)[i] <;> cases (aV s)[i] == 46 <;> cases (aV s)[i] == 45 <;> rfl
  intro k; simp only [Jd, bP, nS, cond_false]
 have e1 : decide ((s.size : Int) ≥ 1) = !decide ((s.size : Int) < 1) := by by_cases h : (s.size : Int) < 1 <;> simp [h] <;> omega
 have e2 : decide ((s.size : Int) ≤ 32) = !decide ((s.size : Int) > 32) := by by_cases h : (s.size : Int) > 32 <;> simp [h] <;> omega
 unfold Qh GZ FZ; rw [hl]; rw [show ((aV s).length : Int) = (s.size : Int) by rw [bP], e1, e2]; by_cases h1 : (s.size : Int) < 1
 · simp [h1]
 have hp : 0 < s.size := by omega
 simp only [Nv hp, aaA hp hs, Jk, Option.bind_some]; cases decide ((s.size : Int) < 1) <;> cases decide ((s.size : Int) > 32) <;> cases iO ((aV s).getD 0 0) <;> cases iO ((aV s).getD ((aV s).length - 1) 0) <;> cases ((aV s).all fun c => iO c || qc c) <;> rfl
end Go.Proofs.YtelpgcaiadpjpaaGreat
end
section
namespace Go.Proofs.YtelpgcaiadpjpaaGreat
open Go.RowKit
theorem adx {s : ByteArray} (hs : s.size ≤ 9223372036854) : SY s = some (LX (aV s)) := by
 unfold SY SX; rw [scan (aV s) (by rw [bP]; exact O5 hs) (fun c => !(iO c || isLocal c)) false (some (decide ((s.size : Int) ≥ 1) && decide ((s.size : Int) ≤ 32))) ?_ ?_]
 · unfold LX FZ; rw [← Cj, bP]; cases ((aV s).any fun c => !(iO c || isLocal c)) <;> cases decide ((s.size : Int) ≥ 1) <;> cases decide ((s.size : Int) ≤ 32) <;> rfl
 · intro k i h; have h' : i < s.size := by rw [bP] at h; exact h
   simp only [LC, dec_lt h', cond_true, Ee h, Jk, Option.bind_some, isLocal, bne]; cases iO (aV s)[i] <;> cases (aV s)[i] == 95 <;> cases (aV s)[i] == 46 <;> cases (aV s)[i] == 45 <;> cases (aV s)[i] == 61 <;> rfl
 intro k; simp only [LC, bP, nS, cond_false]; cases decide ((s.size : Int) ≥ 1) <;> cases decide ((s.size : Int) ≤ 32) <;> rfl
theorem O6 (s : ByteArray) : (aV s).length = s.data.toList.length := by simp [aV]
def jv (s : ByteArray) : Nat := (aV s).findIdx (· == 58)
theorem ZQ (s : ByteArray) : jv s ≤ s.size := by unfold jv; rw [← bP]; exact List.findIdx_le_length
theorem TB {s : ByteArray} (hs : s.size ≤ 9223372036854) : Nk s = some (jv s : Int) := by
 unfold Nk SV; rw [LG (aV s) (by rw [bP]; exact O5 hs) (· == 58) (fun i => some (i : Int)) (some (s.size : Int)) ?_ ?_]
 · have := ZQ s; by_cases h : (aV s).findIdx (· == 58) < (aV s).length
   · rw [if_pos h]; rfl
   rw [if_neg h]; congr 2; unfold jv at this ⊢; rw [bP] at h; omega
 · intro k i h; have h' : i < s.size := by rw [bP] at h; exact h
   simp only [Lu, dec_lt h', cond_true, Ee h, Option.bind_some, bne]; cases (aV s)[i] == 58 <;> rfl
 intro k; simp only [Lu, bP, nS, cond_false, Option.bind_some]
def Qv (s : ByteArray) : ByteArray := s.extract 1 (jv s)
def Ie (s : ByteArray) : ByteArray := s.extract (jv s + 1) s.size
def Qw (s : ByteArray) : Bool := decide (jv s < s.size) && LX (aV (Qv s)) && GZ (aV (Ie s))
def tH (s : ByteArray) (m : Int) : Bool := decide (0 < s.size) && (aV s).getD 0 0 == m && Qw s
theorem extract_size (s : ByteArray) (a b : Nat) : (s.extract a b).size ≤ s.size := by rw [ByteArray.size_extract]; omega
theorem ady {s : ByteArray} (h : 0 < s.size) (hm : (aV s).getD 0 0 ≠ 58) : 1 ≤ jv s := by
 unfold jv; have hl : 0 < (aV s).length := by rw [bP]; exact h
 match he : aV s with
 | [] => rw [he] at hl; simp at hl
 | c :: l =>
   rw [he] at hm; simp only [List.getD_cons_zero] at hm; rw [List.findIdx_cons, show (c == 58) = false from by simpa using hm]; simp
theorem QL {s : ByteArray} (hs : s.size ≤ 9223372036854) {m : Int} (hm : m ≠ 58) : JO s m = some (tH s m) := by
 unfold JO tH; by_cases h0 : 0 < s.size
 · rw [show decide ((s.size : Int) < 1) = false from by simp; omega, show decide (0 < s.size) = true by simpa using h0]; simp only [cond_false, Nv h0, Option.bind_some, bne]; cases hh : (aV s).getD 0 0 == m with
   | false => rfl
   | true =>
     have hh' : (aV s).getD 0 0 = m := by simpa using hh
     have h1 := ady h0 (by rw [hh']; exact hm); have h2 := ZQ s; simp only [Bool.not_true, cond_false, TB hs, Option.bind_some, Bool.true_and]; unfold Qw; by_cases h3 : jv s < s.size
     · have e1 : Au s 1 (jv s : Int) = some (Qv s) := J4 (lo := 1) h1 h2
       have e2 : Au s (IntKind.i64.wrap ((jv s : Int) + 1)) (s.size : Int) = some (Ie s) := by
        rw [TW (by omega) (by omega), show (jv s : Int) + 1 = ((jv s + 1 : Nat) : Int) by omega]; exact J4 (by omega) (Nat.le_refl _)
       rw [show decide ((jv s : Int) < (s.size : Int)) = true from by simpa using h3, show decide (jv s < s.size) = true by simpa using h3]; have g1 : (Qv s).size ≤ 9223372036854 := Nat.le_trans (extract_size _ _ _) hs; have g2 : (Ie s).size ≤ 9223372036854 := Nat.le_trans (extract_size _ _ _) hs; simp only [cond_true, e1, e2, adx g1, aa4 g2, Option.bind_some]; cases LX (aV (Qv s)) <;> cases GZ (aV (Ie s)) <;> rfl
     rw [show decide ((jv s : Int) < (s.size : Int)) = false from by simpa using h3, show decide (jv s < s.size) = false by simpa using h3]; rfl
 rw [show decide ((s.size : Int) < 1) = true from by simp; omega, show decide (0 < s.size) = false by simpa using h0]; rfl
def splitB (s : ByteArray) (b : Bool) : ByteArray × ByteArray × Bool := bif b then (Qv s, Ie s, true) else (s0, s0, false)
theorem akI (b c : UInt8) : (b == c) = (((b.toNat : Nat) : Int) == ((c.toNat : Nat) : Int)) := by
 by_cases h : b = c
 · subst h; simp
 have : ¬ b.toNat = c.toNat := fun e => h (UInt8.toNat_inj.1 e); have h1 : (b == c) = false := by simpa using h
 rw [h1]; symm; simp; omega
theorem QM (s : ByteArray) (c : UInt8) : s.data.toList.findIdx (· == c) = (aV s).findIdx (· == ((c.toNat : Nat) : Int)) := by
 unfold aV; rw [List.findIdx_map]; congr 1; funext b; exact akI b c
theorem ahy (s : ByteArray) : ∀ x ∈ aV s, 0 ≤ x ∧ x < 256 := by
 intro x hx; unfold aV at hx; rw [List.mem_map] at hx; obtain ⟨c, _, rfl⟩ := hx; have := c.toNat_lt; omega
theorem getD_mem {s : ByteArray} (h : 0 < s.size) : (aV s).getD 0 0 ∈ aV s := by
 have hl : 0 < (aV s).length := by rw [bP]; exact h
 have e : (aV s).getD 0 0 = (aV s)[0] := by simp [List.getD, hl]
 rw [e]; exact List.getElem_mem hl
theorem ahz (marks : ByteArray) {c : Int} (h0 : 0 ≤ c) (h1 : c < 256) : decide (Lib.indexByte marks.data.toList c.toNat.toUInt8 < 0) = !(aV marks).contains c := by
 have e : (((c.toNat.toUInt8).toNat : Nat) : Int) = c := by
  rw [Nat.toUInt8, UInt8.toNat_ofNat']; omega
 rw [GX, QM, e, ← O6 marks]; by_cases hm : c ∈ aV marks
 · have hlt : (aV marks).findIdx (· == c) < (aV marks).length := List.findIdx_lt_length_of_exists ⟨c, hm, by simp⟩; rw [if_pos hlt, show (aV marks).contains c = true by simpa using hm]; simp
 have hnl : ¬ (aV marks).findIdx (· == c) < (aV marks).length := fun h => by
  have := List.findIdx_getElem (w := h); simp only [beq_iff_eq] at this; exact hm (this ▸ List.getElem_mem h)
 rw [if_neg hnl, show (aV marks).contains c = false by simpa using hm]; rfl
theorem LY (s : ByteArray) (a b : Nat) : (s.extract 1 s.size).extract a b = s.extract (1 + a) (min (1 + b) s.size) := by
 refine bytes_inj ?_; simp only [OX]; have : (aV s).take s.size = aV s := List.take_of_length_le (by rw [bP]; omega); rw [this, List.take_drop, List.drop_drop]; congr 1; have : min (1 + b) s.size = min (1 + b) (aV s).length := by rw [bP]
 rw [this, List.take_eq_take_min]
theorem aa5 {s : ByteArray} (h : 0 < s.size) (hm : (aV s).getD 0 0 ≠ 58) : (aV (s.extract 1 s.size)).findIdx (· == 58) + 1 = jv s := by
 unfold jv; rw [OX]; have : (aV s).take s.size = aV s := List.take_of_length_le (by rw [bP]; omega); rw [this]; have hl : 0 < (aV s).length := by rw [bP]; exact h
 match he : aV s with
 | [] => rw [he] at hl; simp at hl
 | c :: l =>
   rw [he] at hm; simp only [List.getD_cons_zero] at hm; rw [List.findIdx_cons, show (c == 58) = false from by simpa using hm]; rfl
theorem al7 {s : ByteArray} (hs : s.size ≤ 9223372036854) (h : 0 < s.size) (hm : (aV s).getD 0 0 ≠ 58) : ∃ a b, strings_Cut (s.extract 1 s.size) Ub = some (a, b, decide (jv s < s.size)) ∧ (jv s < s.size → a = Qv s ∧ b = Ie s) := by
 have h1 := ady h hm; have h2 := ZQ s; have hj := aa5 h hm; have hsz : (s.extract 1 s.size).size = s.size - 1 := by rw [ByteArray.size_extract]; omega
 have hI : mQ (s.extract 1 s.size) Ub = some (if jv s < s.size then ((jv s - 1 : Nat) : Int) else -1) := by
  show some (Lib.indexByte (s.extract 1 s.size).data.toList 58) = _; rw [GX, QM, ← O6 (s.extract 1 s.size)]; show some (if (aV (s.extract 1 s.size)).findIdx (· == 58) < _ then (((aV (s.extract 1 s.size)).findIdx (· == 58) : Nat) : Int) else -1) = _; rw [bP, hsz]; have e : (aV (s.extract 1 s.size)).findIdx (· == 58) = jv s - 1 := by omega
  rw [e]; congr 1; by_cases h3 : jv s < s.size
  · rw [if_pos h3, if_pos (by omega)]
  rw [if_neg h3, if_neg (by omega)]
 unfold strings_Cut oL; rw [hI, Option.bind_some]; by_cases h3 : jv s < s.size
 · rw [if_pos h3, show decide (((jv s - 1 : Nat) : Int) ≥ 0) = true from by simp, show decide (jv s < s.size) = true by simpa using h3]; have e1 : Au (s.extract 1 s.size) 0 ((jv s - 1 : Nat) : Int) = some ((s.extract 1 s.size).extract 0 (jv s - 1)) := J4 (lo := 0) (by omega) (by omega)
   have e2 : Au (s.extract 1 s.size) (IntKind.i64.wrap (((jv s - 1 : Nat) : Int) + (Ub.size : Int))) ((s.extract 1 s.size).size : Int) = some ((s.extract 1 s.size).extract (jv s) (s.size - 1)) := by
    rw [show (Ub.size : Int) = 1 from rfl, TW (by omega) (by omega), show ((jv s - 1 : Nat) : Int) + 1 = ((jv s : Nat) : Int) by omega, hsz]; exact J4 (by omega) (by omega)
   simp only [cond_true, e1, e2, Option.bind_some]; refine ⟨_, _, rfl, fun _ => ⟨?_, ?_⟩⟩
   · rw [LY]; unfold Qv; congr 1; omega
   rw [LY]; unfold Ie; rw [Nat.add_comm 1 (jv s)]; congr 1; omega
 rw [if_neg h3, show decide ((-1 : Int) ≥ 0) = false from rfl, show decide (jv s < s.size) = false by simpa using h3]; exact ⟨_, _, rfl, fun h => absurd h h3⟩
theorem aiN {s : ByteArray} (hs : s.size ≤ 9223372036854) {marks : ByteArray} (hmk : ∀ m ∈ aV marks, m ≠ 58) : Ep s marks = some (splitB s ((aV marks).any fun m => tH s m)) := by
 unfold Ep; by_cases h0 : 0 < s.size
 · have hne : (s.toList == s0.toList) = false := by
    rw [xP]; simp only [decide_eq_false_iff_not]; intro e; rw [e] at h0; exact absurd h0 (by decide)
   have hc := ahy s _ (getD_mem h0)
   have hany : ((aV marks).any fun m => tH s m) = ((aV marks).contains ((aV s).getD 0 0) && Qw s) := by
    unfold tH; rw [show decide (0 < s.size) = true by simpa using h0]
    induction aV marks with
    | nil => rfl
    | cons m l ih => rw [List.any_cons, ih, List.contains_cons]; cases (aV s).getD 0 0 == m <;> cases Qw s <;> simp
   rw [hne, hany]; simp only [cond_false, Nv h0, Option.bind_some, strings_IndexByte, ahz marks hc.1 hc.2]; cases hk : (aV marks).contains ((aV s).getD 0 0) with
   | false => rfl
   | true =>
     have hm : (aV s).getD 0 0 ≠ 58 := hmk _ (by simpa using hk); obtain ⟨a, b, e1, e2⟩ := al7 hs h0 hm; have eg : Au s 1 (s.size : Int) = some (s.extract 1 s.size) := J4 (lo := 1) (by omega) (Nat.le_refl _); simp only [Bool.not_true, cond_false, eg, e1, Option.bind_some, Bool.true_and]; unfold Qw; cases h3 : decide (jv s < s.size) with
     | false => rfl
     | true =>
       obtain ⟨rfl, rfl⟩ := e2 (of_decide_eq_true h3); have g1 : (Qv s).size ≤ 9223372036854 := Nat.le_trans (extract_size _ _ _) hs; have g2 : (Ie s).size ≤ 9223372036854 := Nat.le_trans (extract_size _ _ _) hs; simp only [Bool.not_true, cond_false, adw g1, aa3 g2, Option.bind_some]; cases LX (aV (Qv s)) <;> cases GZ (aV (Ie s)) <;> rfl
 have hz : s.size = 0 := by omega
 have he : s = s0 := bytes_inj (by
  have h1 : aV s = [] := List.eq_nil_of_length_eq_zero (by rw [bP]; exact hz)
  rw [h1]; rfl)
 have hany : ((aV marks).any fun m => tH s m) = false := by
  rw [List.any_eq_false]; intro m _; unfold tH; rw [show decide (0 < s.size) = false by simpa using h0]; simp
 rw [hany, he, show (s0.toList == s0.toList) = true from by simp]; rfl
def Yv (s : ByteArray) : Bool := tH s 64 || (tH s 33 || false)
theorem agf {s : ByteArray} (hs : s.size ≤ 9223372036854) : Ep s KF = some (splitB s (Yv s)) :=
 aiN hs (marks := KF) (by rw [show aV KF = [64, 33] from rfl]; intro m hm; simp only [List.mem_cons, List.not_mem_nil, or_false] at hm; omega)
theorem adz {s : ByteArray} (h : Qw s = true) : jv s < s.size := by unfold Qw at h; simp only [Bool.and_eq_true, decide_eq_true_eq] at h; exact h.1.1
theorem Vw {s : ByteArray} (hs : s.size ≤ 9223372036854) : xg s = some (splitB s (Yv s)).2.1 ∧ S9 s = some (splitB s (Yv s)).2.1 := by
 have eh : jv s < s.size → Au s (IntKind.i64.wrap ((jv s : Int) + 1)) (s.size : Int) = some (Ie s) := fun h3 => by
  rw [TW (by omega) (by omega), show (jv s : Int) + 1 = ((jv s + 1 : Nat) : Int) by omega]; exact J4 (by omega) (Nat.le_refl _)
 unfold xg S9; rw [agf hs, QL hs (by decide), QL hs (by decide), TB hs]; refine ⟨rfl, ?_⟩; unfold Yv; cases h64 : tH s 64 with
 | true =>
   have h0 := adz (s := s) (by unfold tH at h64; simp only [Bool.and_eq_true] at h64; exact h64.2); simp only [Option.bind_some, Bool.not_true, cond_false, eh h0, Bool.true_or]; rfl
 | false =>
   cases h33 : tH s 33 with
   | true =>
     have h0 := adz (s := s) (by unfold tH at h33; simp only [Bool.and_eq_true] at h33; exact h33.2); simp only [Option.bind_some, Bool.not_true, Bool.not_false, cond_false, cond_true, eh h0, Bool.false_or, Bool.true_or]; rfl
   | false => rfl
end Go.Proofs.YtelpgcaiadpjpaaGreat
end
section
namespace Go.Proofs.YtelpgcaiadpjpaaGreat
open Go.RowKit
theorem al8 {R A α : Type} {body : (Int → A → Option R) → Int → A → Option R} (l : List α) (hl : l.length < fuel) (p : α → Bool) (g : Nat → Option R) (rest : Option R) (a0 : A)
 (hb : ∀ k (i : Nat) (h : i < l.length), body k (i : Int) a0 = bif p l[i] then g i else k (IntKind.i64.wrap ((i : Int) + 1)) a0) (he : ∀ k, body k (l.length : Int) a0 = rest) :
 bn body fuel 0 a0 = if l.findIdx p < l.length then g (l.findIdx p) else rest := by
 have hf : fuel = 4611686018427387904 := rfl
 have key : ∀ n (i : Nat), i + n = l.length → ∀ m, n < m → bn body m (i : Int) a0 = if (l.drop i).findIdx p + i < l.length then g ((l.drop i).findIdx p + i) else rest := by
  intro n
  induction n with
  | zero =>
    intro i hi m hm; obtain ⟨m, rfl⟩ : ∃ m', m = m' + 1 := ⟨m - 1, by omega⟩
    have : i = l.length := by omega
    subst this; show body (bn body m) _ _ = _; rw [he, List.drop_length, if_neg (by simp)]
  | succ n ih =>
    intro i hi m hm; obtain ⟨m, rfl⟩ : ∃ m', m = m' + 1 := ⟨m - 1, by omega⟩
    have hlt : i < l.length := by omega
    show body (bn body m) _ _ = _; rw [hb _ i hlt, wrap_succ i (by omega), ih (i + 1) (by omega) m (by omega), List.drop_eq_getElem_cons hlt, List.findIdx_cons]; cases p l[i] with
    | true => simp only [cond_true, Nat.zero_add]; rw [if_pos hlt]
    | false =>
      simp only [cond_false]; rw [show (l.drop (i + 1)).findIdx p + (i + 1) = (l.drop (i + 1)).findIdx p + 1 + i by omega]
 have := key l.length 0 (by omega) fuel hl; simpa using this
def qY (l : List ah) : ah × Bool := match l.find? fun x => x.Kind == 1 with | some x => (x, true) | none => (dB, false)
theorem agh (l : List ah) (p : ah → Bool) : (if l.findIdx p < l.length then (some (match l[l.findIdx p]? with | some x => (x, true) | none => (dB, false))) else some (dB, false)) = some (match l.find? p with | some x => (x, true) | none => (dB, false)) := by
 rw [qX]; by_cases h : l.findIdx p < l.length
 · rw [if_pos h]
 rw [if_neg h, List.getElem?_eq_none (by omega)]
theorem Nw (l : List ah) (hl : l.length ≤ 1000) : wY l = some (qY l) := by
 unfold wY MS; rw [al8 l (fuel_lt (by omega)) (fun x => x.Kind == 1) (fun i => some (match l[i]? with | some x => (x, true) | none => (dB, false))) (some (dB, false))]
 · exact agh l _
 · intro k i h; unfold Ad; rw [dQ h, List.getElem?_eq_getElem h]
 intro k; unfold Ad; rw [eY]
def Yw (u : ByteArray) (x : ah) : Bool := x.Kind == 2 && decide (x.Key = u)
def kW (l : List ah) (u : ByteArray) : Int := match l.find? (Yw u) with | some x => x.Content.N | none => 0
theorem ahA (u : ByteArray) (x : ah) : (bif (x.Kind == 2) then some (x.Key.toList == u.toList) else some false) = some (Yw u x) := by
 unfold Yw; rw [xP]; cases x.Kind == 2 <;> rfl
theorem Jl (l : List ah) (u : ByteArray) (hl : l.length ≤ 1000) : yJ l u = some (kW l u) := by
 unfold yJ QC kW; rw [LG l (fuel_lt (by omega)) (Yw u) (fun i => some (match l[i]? with | some x => x.Content.N | none => 0)) (some 0)]
 · rw [qX]; by_cases h : l.findIdx (Yw u) < l.length
   · rw [if_pos h]
   rw [if_neg h, List.getElem?_eq_none (by omega)]
 · intro k i h; unfold DY; rw [dQ h, dA h, List.getElem?_eq_getElem h]; simp only [Option.bind_some]; rw [ahA]; rfl
 intro k; unfold DY; rw [eY]
def Yx (e : ah) (l : List ah) : Bool :=
 (qY l).2 && (e.jD.length == 1 && (e.jD.getD 0 0 == (qY l).1.Id && (decide (e.bC = (qY l).1.bC) && (decide (e.Key = (qY l).1.bC) && (e.Content.N == 3 && !l.any (Yw e.Key))))))
theorem aa6 (e : ah) (l : List ah) (hl : l.length ≤ 1000) : EY e l = some (Yx e l) := by
 have hL : Jb l e 0 = some (!l.any (Yw e.Key)) := by
  unfold Jb; rw [scan l (fuel_lt (by omega)) (Yw e.Key) false (some true)]
  · cases l.any (Yw e.Key) <;> rfl
  · intro k i h; unfold DX; rw [dQ h, ahA]; rfl
  intro k; unfold DX; rw [eY]
 unfold EY Yx mW; rw [Nw l hl]; simp only [Option.bind_some]; rw [hL, xP, xP]; cases (qY l).2 with
 | false => rfl
 | true =>
   by_cases hp : e.jD.length = 1
   · have h0 : 0 < e.jD.length := by omega
     have e1 : ((e.jD.length : Int) != 1) = false := by rw [hp]; rfl
     have e2 : (e.jD.length == 1) = true := by simpa using hp
     have e3 : bf e.jD 0 = some (e.jD.getD 0 0) := by
      have : bf e.jD ((0 : Nat) : Int) = some e.jD[0] := dA h0; rw [show ((0 : Nat) : Int) = 0 from rfl] at this; rw [this]; simp [List.getD, h0]
     rw [e1, e2, e3]; simp only [Option.bind_some, bne]; cases e.jD.getD 0 0 == (qY l).1.Id <;> cases decide (e.bC = (qY l).1.bC) <;> cases decide (e.Key = (qY l).1.bC) <;> cases e.Content.N == 3 <;> rfl
   have e1 : ((e.jD.length : Int) != 1) = true := by simp; omega
   have e2 : (e.jD.length == 1) = false := by simpa using hp
   rw [e1, e2]; rfl
def moveB (f t : Int) (s : Bool) : Bool :=
 bif decide (f < 0) || decide (f > 4) then false else bif t == 3 then s && f != 4 else bif t == 0 then f == 1 || f == 2 || f == 3 || (f == 4 && !s) else bif t == 2 then s && (f == 0 || f == 2) else bif t == 1 then !s && (f == 0 || f == 2 || f == 1) else bif t == 4 then !s else false
theorem aeG (f t : Int) (s : Bool) : GR f t s = some (moveB f t s) := by
 unfold GR moveB; simp only [yV, Option.bind_some, ahr, akH]
theorem Yy (f t : Int) (s : Bool) : qF f t s = some (moveB f t s) := by
 rw [← aeG]; by_cases hf0 : f < 0
 · unfold qF GR; rw [decide_eq_true hf0]; rfl
 by_cases hf4 : f > 4
 · unfold qF GR; rw [decide_eq_true hf4]; cases decide (f < 0) <;> rfl
 by_cases ht0 : t < 0
 · unfold qF GR; rw [decide_eq_true ht0, decide_eq_false hf0, decide_eq_false hf4, show (t == 3) = false by simp; omega, show (t == 0) = false by simp; omega, show (t == 2) = false by simp; omega, show (t == 1) = false by simp; omega, show (t == 4) = false by simp; omega]; rfl
 by_cases ht4 : t > 4
 · unfold qF GR; rw [decide_eq_true ht4, decide_eq_false ht0, decide_eq_false hf0, decide_eq_false hf4, show (t == 3) = false by simp; omega, show (t == 0) = false by simp; omega, show (t == 2) = false by simp; omega, show (t == 1) = false by simp; omega, show (t == 4) = false by simp; omega]; rfl
 have hf : f = 0 ∨ f = 1 ∨ f = 2 ∨ f = 3 ∨ f = 4 := by omega
 have ht : t = 0 ∨ t = 1 ∨ t = 2 ∨ t = 3 ∨ t = 4 := by omega
 rcases hf with rfl | rfl | rfl | rfl | rfl <;> rcases ht with rfl | rfl | rfl | rfl | rfl <;> cases s <;> decide
def Yz (l : List ah) : Int × List ByteArray := match l.find? fun x => x.Kind == 4 with | some x => (x.Content.N, x.Content.Allow) | none => (0, [])
theorem aeH (l : List ah) (hl : l.length ≤ 1000) (hs : iP l) : KZ l = some (Yz l) := by
 unfold KZ U6 Yz; rw [LG l (fuel_lt (by omega)) (fun x => x.Kind == 4) (fun i => some (match l[i]? with | some x => (x.Content.N, x.Content.Allow) | none => (0, []))) (some (0, []))]
 · rw [qX]; by_cases h : l.findIdx (fun x => x.Kind == 4) < l.length
   · rw [if_pos h]
   rw [if_neg h, List.getElem?_eq_none (by omega)]
 · intro k i h; have ha := (hs _ (List.getElem_mem h)).allow; unfold Hq; rw [dQ h, List.getElem?_eq_getElem h, dM (by simp only [List.length_nil]; omega)]; rfl
 intro k; unfold Hq; rw [eY]
def agi (rule now : Int) : Int := bif now == 3 || rule == 1 then 0 else bif now == 1 && (rule == 0 || rule == 2 || rule == 3) then 0 else 21
def adA (rule now : Int) : Int := bif rule == 2 && (now == 0 || now == 2) then 0 else 21
theorem aa7 (r n : Int) : EZ r n = some (agi r n) := by
 unfold EZ uY zq agi; cases n == 3 <;> cases r == 1 <;> cases r == 2 <;> cases r == 3 <;> cases r == 0 <;> cases n == 1 <;> rfl
theorem ZR (r n : Int) : Dq r n = some (adA r n) := by
 unfold Dq xk adA bne; cases r == 2 <;> cases n == 0 <;> cases n == 2 <;> rfl
def aiO (m now : Int) (l : List ah) : Int := bif m == 3 then agi (Yz l).1 now else bif m == 2 then adA (Yz l).1 now else 0
theorem aeI (m now : Int) (l : List ah) (hl : l.length ≤ 1000) (hs : iP l) : La m now l = some (aiO m now l) := by
 unfold La aiO; rw [aeH l hl hs]; simp only [Option.bind_some]; rw [aa7, ZR]; cases m == 3 <;> cases m == 2 <;> rfl
def DJ (k : Int) : Bool := decide (k ≥ 1) && decide (k ≤ 10)
theorem LZ (k : Int) : uV k = some (DJ k) := by
 unfold uV DJ; cases decide (k ≥ 1) <;> rfl
def J5 (v : aZ) (k : Int) : Int := match v.Kinds.find? fun x => x.Kind == k with | some x => x.N | none => bif DJ k then v.State else v.Message
theorem F5 (v : aZ) (k : Int) (h : v.Kinds.length ≤ 1000) : uj v k = some (J5 v k) := by
 unfold uj Na J5; rw [LG v.Kinds (fuel_lt (by omega)) (fun x => x.Kind == k) (fun i => some (match v.Kinds[i]? with | some x => x.N | none => 0)) (some (bif DJ k then v.State else v.Message))]
 · rw [qX]; by_cases h : v.Kinds.findIdx (fun x => x.Kind == k) < v.Kinds.length
   · rw [if_pos h, List.getElem?_eq_getElem h]
   rw [if_neg h, List.getElem?_eq_none (by omega)]
 · intro k2 i h; unfold Ae; rw [dQ h, List.getElem?_eq_getElem h]
 intro k2; unfold Ae; rw [eY, LZ]; cases DJ k <;> rfl
def ZT (own was QN : Int) : Bool := was == QN || (decide (was ≤ own) && decide (QN ≤ own))
def numsOf (v : aZ) : List Int := [v.User, v.Message, v.State, v.jc, v.oq, v.sK, v.jC]
def aiP (own : Int) (p : Int × Int) : Bool := !ZT own p.1 p.2
def WJ (own : Int) (old new : aZ) (x : dX) : Bool := !ZT own (J5 old x.Kind) (J5 new x.Kind)
def badU (own : Int) (old new : aZ) (user : ByteArray) (x : dR) : Bool := !(ZT own (fA old x.User) (fA new x.User) && (fA old x.User == fA new x.User || decide (x.User = user) || decide (fA old x.User < own)))
def ZU (old new : aZ) (user : ByteArray) : Int :=
 bif ((numsOf old).zip (numsOf new)).any (aiP (fA old user)) then 20 else bif (old.Kinds ++ new.Kinds).any (WJ (fA old user) old new) then 20 else bif (old.Users ++ new.Users).any (badU (fA old user) old new user) then 20 else 0
theorem TD (own was QN : Int) : jI was QN own = some (!ZT own was QN) := by
 unfold jI ZT; have h1 : (was != QN) = !(was == QN) := rfl; have h2 : decide (was > own) = !decide (was ≤ own) := by by_cases h : was ≤ own <;> simp [h] <;> omega
 have h3 : decide (QN > own) = !decide (QN ≤ own) := by by_cases h : QN ≤ own <;> simp [h] <;> omega
 rw [h1, h2, h3]; cases was == QN <;> cases decide (was ≤ own) <;> cases decide (QN ≤ own) <;> rfl
structure YA (v : aZ) : Prop where
 users : v.Users.length ≤ 40
 kinds : v.Kinds.length ≤ 40
theorem ZV (a b : aZ) : ((numsOf a).zip (numsOf b)).length = 7 := rfl
theorem WL (old new : aZ) (user : ByteArray) (ho : YA old) (hn : YA new) : zu old new user = some (ZU old new user) := by
 have o1 := ho.users; have o2 := ho.kinds; have n1 := hn.users; have n2 := hn.kinds; unfold zu; rw [pY old user (by omega)]; unfold xA; simp only [Option.bind_some]; unfold ZU; generalize hown : fA old user = own
 have hU : yO old new own user false 0 = some (bif (old.Users ++ new.Users).any (badU own old new user) then 20 else 0) := by
  unfold yO; rw [af9 ([old.Users, new.Users] : List (List dR)) (fuel_lt (by simp)) (fun us => us.any (badU own old new user)) (fun _ => some 20) (some 0) false]
  · have e : (old.Users ++ new.Users).any (badU own old new user) = ([old.Users, new.Users] : List (List dR)).any (fun us => us.any (badU own old new user)) := by simp
    rw [e]
    have hf : ∀ L : List (List dR), (if L.findIdx (fun us => us.any (badU own old new user)) < L.length then some (20 : Int) else some 0) = some (bif L.any (fun us => us.any (badU own old new user)) then 20 else 0) := fun L => by
     by_cases h : L.findIdx (fun us => us.any (badU own old new user)) < L.length
     · rw [if_pos h]; have : L.any (fun us => us.any (badU own old new user)) = true := List.any_eq_true.2 ((List.findIdx_lt_length).1 h); rw [this]; rfl
     rw [if_neg h]
     have : L.any (fun us => us.any (badU own old new user)) = false := by
      rw [Bool.eq_false_iff]; exact fun k => h (List.findIdx_lt_length.2 (List.any_eq_true.1 k))
     rw [this]; rfl
    exact hf _
  · intro k i h
    have hus : ([old.Users, new.Users] : List (List dR))[i].length ≤ 40 := by
     have : ([old.Users, new.Users] : List (List dR))[i] ∈ [old.Users, new.Users] := List.getElem_mem h; simp only [List.mem_cons, List.not_mem_nil, or_false] at this; rcases this with e | e <;> rw [e] <;> assumption
    unfold yN; rw [show decide ((i : Int) < 2) = true by simp only [List.length_cons, List.length_nil] at h; simp; omega, dA h]; simp only [cond_true, Option.bind_some]; generalize ([old.Users, new.Users] : List (List dR))[i] = us at hus; unfold Lh; rw [af9 us (fuel_lt (by omega)) (badU own old new user) (fun _ => some 20) (k false (IntKind.i64.wrap ((i : Int) + 1))) false]
    · by_cases h2 : us.findIdx (badU own old new user) < us.length
      · rw [if_pos h2]; have : us.any (badU own old new user) = true := List.any_eq_true.2 ((List.findIdx_lt_length).1 h2); rw [this]; rfl
      rw [if_neg h2]
      have : us.any (badU own old new user) = false := by
       rw [Bool.eq_false_iff]; exact fun k => h2 (List.findIdx_lt_length.2 (List.any_eq_true.1 k))
      rw [this]; rfl
    · intro k2 j hj; unfold yM pX; rw [dQ hj, pY old _ (by omega), pY new _ (by omega)]; simp only [Option.bind_some]; rw [TD, xP]; unfold badU; have h2 : decide (fA old us[j].User ≥ own) = !decide (fA old us[j].User < own) := by by_cases h : fA old us[j].User < own <;> simp [h] <;> omega
      have h3 : (fA old us[j].User != fA new us[j].User) = !(fA old us[j].User == fA new us[j].User) := rfl; simp only [Option.bind_some]; rw [h2, h3]; cases ZT own (fA old us[j].User) (fA new us[j].User) <;> cases fA old us[j].User == fA new us[j].User <;> cases decide (us[j].User = user) <;> cases decide (fA old us[j].User < own) <;> rfl
    intro k2; unfold yM; rw [eY]
  intro k; unfold yN pX; rw [show decide (((([old.Users, new.Users] : List (List dR)).length : Nat) : Int) < 2) = false from rfl]; rfl
 have hK : yQ old new own user 0 = some (bif (old.Kinds ++ new.Kinds).any (WJ own old new) then 20 else bif (old.Users ++ new.Users).any (badU own old new user) then 20 else 0) := by
  unfold yQ; rw [scan ([old.Kinds, new.Kinds] : List (List dX)) (fuel_lt (by simp)) (fun ks => ks.any (WJ own old new)) 20 (yO old new own user false 0)]
  · rw [hU]; have e : (old.Kinds ++ new.Kinds).any (WJ own old new) = ([old.Kinds, new.Kinds] : List (List dX)).any (fun ks => ks.any (WJ own old new)) := by simp
    rw [e]; cases ([old.Kinds, new.Kinds] : List (List dX)).any (fun ks => ks.any (WJ own old new)) <;> rfl
  · intro k i h
    have hks : ([old.Kinds, new.Kinds] : List (List dX))[i].length ≤ 40 := by
     have : ([old.Kinds, new.Kinds] : List (List dX))[i] ∈ [old.Kinds, new.Kinds] := List.getElem_mem h; simp only [List.mem_cons, List.not_mem_nil, or_false] at this; rcases this with e | e <;> rw [e] <;> assumption
    unfold yP; rw [show decide ((i : Int) < 2) = true by simp only [List.length_cons, List.length_nil] at h; simp; omega, dA h]; simp only [cond_true, Option.bind_some]; generalize ([old.Kinds, new.Kinds] : List (List dX))[i] = ks at hks; unfold Le; rw [scan ks (fuel_lt (by omega)) (WJ own old new) 20 (k (IntKind.i64.wrap ((i : Int) + 1)))]
    · intro k2 j hj; unfold yL; rw [dQ hj, F5 old _ (by omega), F5 new _ (by omega)]; simp only [Option.bind_some]; rw [TD]; rfl
    intro k2; unfold yL; rw [eY]
  intro k; unfold yP; rw [show decide (((([old.Kinds, new.Kinds] : List (List dX)).length : Nat) : Int) < 2) = false from rfl]; rfl
 unfold Lj; rw [scan ((numsOf old).zip (numsOf new)) (by rw [ZV]; exact fuel_lt (by decide)) (aiP own) 20 (yQ old new own user 0)]
 · rw [hK]; cases ((numsOf old).zip (numsOf new)).any (aiP own) <;> rfl
 · intro k i h; have h7 : i < 7 := by rw [ZV] at h; exact h
   have e1 : bf [old.User, old.Message, old.State, old.jc, old.oq, old.sK, old.jC] (i : Int) = some ((numsOf old)[i]'h7) := dA (l := numsOf old) h7; have e2 : bf [new.User, new.Message, new.State, new.jc, new.oq, new.sK, new.jC] (i : Int) = some ((numsOf new)[i]'h7) := dA (l := numsOf new) h7; unfold yR; rw [show decide ((i : Int) < 7) = true by simp; omega, e1, e2]; simp only [cond_true, Option.bind_some]; rw [TD, List.getElem_zip]; rfl
 intro k; unfold yR; rw [ZV, show decide (((7 : Nat) : Int) < 7) = false from rfl]; rfl
end Go.Proofs.YtelpgcaiadpjpaaGreat
end
section
namespace Go.Proofs.YtelpgcaiadpjpaaGreat
open Go.RowKit
def adB (e : ah) (l : List ah) (now : Int) : Int :=
 bif !(kW l e.bC == 3) then 18 else
 bif e.Content.N == 1 && decide (fA (dU l) e.bC < (dU l).jc) then 20 else
 bif e.Content.N == 0 && ((now == 4 && decide (fA (dU l) e.bC < (dU l).sK)) || decide (fA (dU l) e.bC < (dU l).oq) || decide (fA (dU l) e.Key ≥ fA (dU l) e.bC)) then 20 else
 bif e.Content.N == 4 && (decide (fA (dU l) e.bC < (dU l).sK) || decide (fA (dU l) e.Key ≥ fA (dU l) e.bC)) then 20 else 0
def ZW (e : ah) (l : List ah) : Int :=
 bif Yx e l then 0 else
 bif decide (e.Key = e.bC) && kW l e.Key == 4 then 19 else
 bif !moveB (kW l e.Key) e.Content.N (decide (e.Key = e.bC)) then 18 else
 bif decide (e.Key = e.bC) then aiO e.Content.N (kW l e.Key) l else adB e l (kW l e.Key)
def adC (e : ah) (l : List ah) : Int :=
 bif decide (fA (dU l) e.bC < J5 (dU l) e.Kind) then 20 else bif e.Kind == 3 then ZU (dU l) e.Content.Levels e.bC else 0
def ae8 (s : ByteArray) : ByteArray := (splitB s (Yv s)).2.1
def Qx (e : ah) (l : List ah) : Int :=
 bif e.Kind == 1 then (bif !(qY l).2 && (ae8 e.bC).toList == (ae8 e.Room).toList then 0 else 17) else
 bif !(qY l).2 then 17 else bif e.Kind == 2 then ZW e l else bif !(kW l e.bC == 3) then 18 else adC e l
theorem YB {l : List ah} (h : iP l) : YA (dU l) := ⟨(Cm h).1, (Cm h).2⟩
theorem FM.levels {e : ah} (h : FM e) : YA e.Content.Levels := ⟨h.users, h.kinds⟩
theorem aa8 (e : ah) (l : List ah) (hl : l.length ≤ 1000) (hs : iP l) (he : FM e) : E8 e l = some (adC e l) := by
 have hS := YB hs; have h1 := hS.users; have h2 := hS.kinds; unfold E8 adC; rw [LV l hl hs]; simp only [Option.bind_some]; rw [pY _ _ (by omega), F5 _ _ (by omega)]; simp only [Option.bind_some]; rw [WL _ _ _ hS he.levels]; cases decide (fA (dU l) e.bC < J5 (dU l) e.Kind) <;> cases e.Kind == 3 <;> rfl
def er (x : Int) : Except Value Unit := .error (.iface 187 (.agg #[.int .i64 x]))
theorem aaB (x : Int) : sN x = some (er x) := rfl
theorem ZX (b : Bool) (x : Int) : l9 b x = some (bif b then .ok () else er x) := by cases b <;> rfl
theorem WM (b : Bool) (x : Int) (f : Unit → Option (Except Value Unit)) : wS (bif b then .ok () else er x) f = bif b then f () else some (er x) := by cases b <;> rfl
theorem ae9 (x : Int) (f : Unit → Option (Except Value Unit)) : wS (er x) f = some (er x) := rfl
theorem al9 (a b : Int) : decide (a ≥ b) = !decide (a < b) := by by_cases h : a < b <;> simp [h] <;> omega
theorem agj (e : ah) (l : List ah) (now : Int) (hl : l.length ≤ 1000) (hs : iP l) : (mX l e now).bind kQ = some (adB e l now) := by
 have h1 := (Cm hs).1; unfold mX adB; rw [Jl l _ hl, LV l hl hs]; simp only [Option.bind_some]; rw [pY _ _ (by omega), pY _ _ (by omega)]; simp only [ZX, Option.bind_some, WM, al9]
 have h2 : decide (fA (dU l) e.Key < fA (dU l) e.bC) = !decide (fA (dU l) e.bC ≤ fA (dU l) e.Key) := by
  by_cases h : fA (dU l) e.Key < fA (dU l) e.bC <;> simp [h] <;> omega
 have h3 : (now != 4) = !(now == 4) := rfl; rw [h3]; generalize decide (fA (dU l) e.Key < fA (dU l) e.bC) = t; generalize decide (fA (dU l) e.bC < (dU l).jc) = i; generalize decide (fA (dU l) e.bC < (dU l).sK) = b; generalize decide (fA (dU l) e.bC < (dU l).oq) = k; generalize (now == 4) = n; cases kW l e.bC == 3 with
 | false => rfl
 | true =>
   by_cases n1 : e.Content.N = 1
   · rw [n1]; cases i <;> rfl
   rw [show (e.Content.N == 1) = false by simpa using n1]; by_cases n0 : e.Content.N = 0
   · rw [n0]; cases n <;> cases b <;> cases k <;> cases t <;> rfl
   rw [show (e.Content.N == 0) = false by simpa using n0]; cases e.Content.N == 4 <;> cases b <;> cases t <;> rfl
theorem ZY (e : ah) (l : List ah) (hl : l.length ≤ 1000) (hs : iP l) : Dt e l = some (ZW e l) := by
 unfold Dt ZW; rw [aa6 e l hl]; simp only [Option.bind_some]; cases Yx e l with
 | true => rfl
 | false =>
   simp only [cond_false]
   have hb : ∀ o : Option (Except Value Unit), (o.bind fun x3 => (kQ x3).bind fun x4 => some x4) = o.bind kQ := fun o => by
    cases o with
    | none => rfl
    | some x => cases h : kQ x <;> simp [h]
   rw [hb]; have ho := agj e l (kW l e.Key) hl hs; unfold DZ; rw [Jl l _ hl, xP]; simp only [Option.bind_some]; rw [Yy, aeI _ _ _ hl hs]; simp only [Option.bind_some, ZX, aaB, WM, ae9, yV]; have h3 : (kW l e.Key != 4) = !(kW l e.Key == 4) := rfl; rw [h3]; generalize mX l e (kW l e.Key) = J at ho; generalize decide (e.Key = e.bC) = s; cases s with
   | true =>
     cases kW l e.Key == 4 with
     | true => rfl
     | false => cases moveB (kW l e.Key) e.Content.N true <;> rfl
   | false =>
     cases moveB (kW l e.Key) e.Content.N false with
     | false => rfl
     | true => exact ho
theorem YC (e : ah) (l : List ah) (hl : l.length ≤ 1000) (hs : iP l) (he : FM e) : Bd e l = some (Qx e l) := by
 have h1 := he.sender; have h2 := he.room; unfold Bd Qx
 have hb : ∀ o : Option (Except Value Unit), (o.bind fun x3 => (kQ x3).bind fun x4 => some x4) = o.bind kQ := fun o => by
  cases o with
  | none => rfl
  | some x => cases h : kQ x <;> simp [h]
 rw [hb]; unfold BQ rM rJ rH; rw [Nw l hl, (Vw (s := e.bC) (by omega)).1, (Vw (s := e.Room) (by omega)).1, Jl l _ hl, aa8 e l hl hs he, ZY e l hl hs]; simp only [Option.bind_some, ZX, aaB, WM, ae9]; show _ = some (bif e.Kind == 1 then (bif !(qY l).2 && (splitB e.bC (Yv e.bC)).2.1.toList == (splitB e.Room (Yv e.Room)).2.1.toList then 0 else 17) else _); cases e.Kind == 1 with
 | true =>
   cases (qY l).2 with
   | true => rfl
   | false => cases (splitB e.bC (Yv e.bC)).2.1.toList == (splitB e.Room (Yv e.Room)).2.1.toList <;> rfl
 | false =>
   cases (qY l).2 with
   | false => rfl
   | true =>
     cases e.Kind == 2 with
     | true => rfl
     | false => cases kW l e.bC == 3 <;> rfl
end Go.Proofs.YtelpgcaiadpjpaaGreat
end
section
namespace Go.Proofs.YtelpgcaiadpjpaaGreat
open Go.RowKit
def agk (named : List ah) (k : aj) : ah × Bool := match named.find? (I4 k) with | some x => (x, true) | none => (dB, false)
def YD (l : List ah) (s : List aj) (e : ah) (k : aj) : ah × Bool := bif (mY s k.Kind k.Key).2 then CV l (mY s k.Kind k.Key).1 else agk (ofIds l e.fH) k
def Ny (l : List ah) (s : List aj) (e : ah) (k : aj) : List ah := bif (YD l s e k).2 then [(YD l s e k).1] else []
def L6 (l : List ah) (s : List aj) (e : ah) : List ah := (keysOf e).flatMap (Ny l s e)
theorem TF (l : List ah) (s : List aj) (e : ah) (k : aj) : (Ny l s e k).length ≤ 1 := by
 unfold Ny; cases (YD l s e k).2 <;> simp
theorem aa9 (l : List ah) (s : List aj) (e : ah) : (L6 l s e).length ≤ 5 := by
 have h1 := flat_length (f := Ny l s e) (n := 1) (TF l s e) (keysOf e); have h2 := zx e; unfold L6; omega
theorem agl {l : List ah} {s : List aj} {e x : ah} (h : x ∈ L6 l s e) : x ∈ l := by
 obtain ⟨k, _, h⟩ := List.mem_flatMap.1 h; unfold Ny YD agk at h; cases hg : (mY s k.Kind k.Key).2 with
 | true =>
   rw [hg] at h; simp only [cond_true] at h; cases hp : jr l (mY s k.Kind k.Key).1 with
   | none => rw [Bv hp] at h; exact absurd h List.not_mem_nil
   | some y => rw [o9 hp] at h; rw [List.mem_singleton.1 h]; exact Bq hp
 | false =>
   rw [hg] at h; simp only [cond_false] at h; cases hf : (ofIds l e.fH).find? (I4 k) with
   | none => rw [hf] at h; exact absurd h List.not_mem_nil
   | some y => rw [hf] at h; rw [List.mem_singleton.1 h]; exact aax (List.mem_of_find?_eq_some hf)
theorem iP.base {l : List ah} (h : iP l) (s : List aj) (e : ah) : iP (L6 l s e) := fun x hx => h x (agl hx)
theorem Z4 (named : List ah) (k : aj) (hn : named.length ≤ 1000) : Dp named k = some (agk named k) := by
 unfold Dp; rw [LH named (by omega) (fun a0 => uX a0 k) (I4 k) fun e => by unfold uX I4; rw [xP]; cases e.Kind == k.Kind <;> rfl]; exact found_eq named (I4 k) rfl
theorem YE (l : List ah) (s : List aj) (e : ah) (hl : l.length ≤ 1000) (he : e.fH.length ≤ 40) (hs : gq s) (hsl : s.length ≤ 1000000) : A8 l s e = some (L6 l s e) := by
 unfold A8; have ho := ac8 l e.fH; have hk := zx e; have hm : vY 376 dB 0 5 = some [] := by unfold vY; rw [if_pos (by constructor <;> omega)]; rfl
 rw [aex l _ hl (by omega), hm, Nr]; simp only [Option.bind_some]; unfold MR; rw [qW (keysOf e) (by omega) (fun r k => r ++ Ny l s e k) (fun i r => r.length ≤ i) (fun r => some r) (Nat.le_refl _)]
 · rw [foldl_append (Ny l s e), List.nil_append]; rfl
 · intro k r i h hI; have hp := TF l s e (keysOf e)[i]; refine ⟨by rw [List.length_append]; omega, ?_⟩; unfold Ac vJ vI; rw [dQ h, Z4 _ _ (by omega), FT s _ _ hsl hs]; simp only [Option.bind_some]; rw [jW l _ (by omega), dM (by simp only [List.length_singleton]; omega)]; simp only [Option.bind_some]; rw [dM (by simp only [List.length_singleton]; omega)]; unfold Ny YD; cases (mY s (keysOf e)[i].Kind (keysOf e)[i].Key).2 with
   | true =>
     simp only [cond_true]; cases (CV l (mY s (keysOf e)[i].Kind (keysOf e)[i].Key).1).2 with
     | true => rfl
     | false => simp
   | false =>
     simp only [cond_false]; cases (agk (ofIds l e.fH) (keysOf e)[i]).2 with
     | true => rfl
     | false => simp
 intro k r _; unfold Ac; rw [eY]
def WO (l : List ah) (s : List aj) (id : Int) : Bool := dP l id && (DJ (ev l id).Kind && Qx (ev l id) (L6 l s (ev l id)) == 0)
def DK (l : List ah) (s : List aj) (id : Int) : List aj := bif WO l s id then kV s (ev l id).Kind (ev l id).Key (ev l id).Id else s
def zQ (l : List ah) (s : List aj) (ids : List Int) : List aj := ids.foldl (DK l) s
theorem QO {l : List ah} {s : List aj} (h : gq s) (id : Int) : gq (DK l s id) := by
 unfold DK; cases WO l s id with
 | true => exact N8 h _ _ _
 | false => exact h
theorem G5 {l : List ah} : ∀ {ids : List Int} {s : List aj}, gq s → gq (zQ l s ids)
 | [], _, h => h
 | id :: ids, s, h => G5 (ids := ids) (QO h id)
theorem QS (l : List ah) (s : List aj) (id : Int) : (DK l s id).length ≤ s.length + 1 := by
 unfold DK; cases WO l s id with
 | true => exact mP _ _ _ _
 | false => exact Nat.le_succ _
theorem CB (l : List ah) : ∀ (ids : List Int) (s : List aj), (zQ l s ids).length ≤ s.length + ids.length
 | [], s => Nat.le_refl _
 | id :: ids, s => by
   have h1 := CB l ids (DK l s id); have h2 := QS l s id; show (zQ l (DK l s id) ids).length ≤ _; rw [List.length_cons]; omega
theorem aiQ {l : List ah} (hs : iP l) {id : Int} (h : dP l id = true) : FM (ev l id) := hs _ (Bq (adu h).1)
theorem YF (l : List ah) (s : List aj) (id : Int) (hl : l.length ≤ 1000) (hs : iP l) (hso : gq s) (hsl : s.length ≤ 1000000) : Bf l s id = some (DK l s id) := by
 unfold Bf Hr tq DK WO; have agm : DU s (.error (.iface 146 (.agg #[])) : Except Value (List aj)) = some s := rfl; rw [jW l _ (by omega)]; simp only [Option.bind_some]; rw [FN]; cases hk : (jr l id).isSome with
 | false => rw [show dP l id = false from hk]; exact agm
 | true =>
   have hks : dP l id = true := hk; have he := aiQ hs hks; have hev : (CV l id).1 = ev l id := rfl; rw [hks, hev, LZ]; simp only [Option.bind_some, Bool.not_true, cond_false, Bool.true_and]; cases DJ (ev l id).Kind with
   | false => exact agm
   | true =>
     have hb := aa9 l s (ev l id); rw [YE l s _ hl he.auth hso hsl]; simp only [Option.bind_some, Bool.not_true, cond_false, Bool.true_and]; rw [YC _ _ (by omega) (hs.base s _) he]; simp only [Option.bind_some]; rw [oQ s _ _ _ hsl]; unfold bne; cases Qx (ev l id) (L6 l s (ev l id)) == 0 with
     | true => rfl
     | false => exact agm
theorem L8 (l : List ah) (s : List aj) (ids : List Int) (hl : l.length ≤ 1000) (hs : iP l) (hso : gq s) (hsl : s.length + ids.length ≤ 1000000) : o7 l s ids = some (zQ l s ids) := by
 unfold o7 kK; rw [dM (by simp only [List.length_nil]; omega)]; simp only [Option.bind_some, List.nil_append]; unfold Ll; rw [qW ids (by omega) (DK l) (fun i r => gq r ∧ r.length ≤ s.length + i) (fun r => some r) ⟨hso, Nat.le_refl _⟩]
 · rfl
 · intro k r i h hI; have h1 := QS l r ids[i]; refine ⟨⟨QO hI.1 _, by omega⟩, ?_⟩; unfold yS; rw [dQ h, YF l r _ hl hs hI.1 (by omega)]; rfl
 intro k r _; unfold yS; rw [eY]
def wM (l : List ah) (aH : List (List aj)) : List Int := ZL l (jP l aH)
def CW (l : List ah) (aH : List (List aj)) : List Int := uI l (oP l (wM l aH)).length (oP l (wM l aH))
def jQ (l : List ah) (aH : List (List aj)) : List aj := zQ l (jK aH) (CW l aH)
def I5 (l : List ah) (aH : List (List aj)) : List Int := bif (mY (jQ l aH) 3 s0).2 then abo l (mY (jQ l aH) 3 s0).1 else []
def lV (l : List ah) (aH : List (List aj)) : List Int := LW l (I5 l aH) (wR (jP l aH) (wM l aH))
def DL (s a : List aj) : List aj := a.foldl (fun s x => kV s x.Kind x.Key x.Id) s
def lastOf (l : List ah) (aH : List (List aj)) : List aj := DL (zQ l (jQ l aH) (lV l aH)) (jK aH)
structure lK (l : List ah) (aH : List (List aj)) : Prop where
 len : l.length ≤ 100
 small : iP l
 states : iw aH
theorem F6 {l : List ah} {aH : List (List aj)} (h : lK l aH) : (jP l aH).length ≤ 40000 := by
 have h0 := h.len; have g1 := FU h.states; have g2 := iL (wL aH); have h1 := Am l aH [] fun s hs => (h.states.2 s hs).1; have h2 := h.states.1; have h3 := List.length_filter_le (fun x => decide (oh l aH x < aH.length)) (allOf l aH); have h4 : aH.length * (100 + l.length) ≤ 100 * 200 := Nat.mul_le_mul h2 (by omega); have h5 := Jg (fK (wL aH)) (uG l aH)
 have h6 : (uG l aH).length ≤ 20000 := by
  unfold uG; unfold allOf at h3 ⊢; simp only [List.length_nil] at h1; omega
 unfold jP; omega
theorem agn {l : List ah} {aH : List (List aj)} (h : lK l aH) : (FX l (jP l aH)).length ≤ 40000 := Nat.le_trans (List.length_filter_le _ _) (F6 h)
theorem adD {l : List ah} {aH : List (List aj)} (h : lK l aH) : (CW l aH).length ≤ 100 := by
 have h1 := QK l (oP l (wM l aH)).length (oP l (wM l aH)); have h2 : (oP l (wM l aH)).length ≤ l.length := nT (JV _ _) fun x hx => (yX.1 hx).2; have h3 := h.len; unfold CW; omega
theorem Oc {l : List ah} {aH : List (List aj)} (h : lK l aH) : (jQ l aH).length ≤ 200 := by
 have h1 := CB l (CW l aH) (jK aH); have h2 := adD h; have h3 := uD h.states; unfold jQ; omega
theorem L9 {l : List ah} {aH : List (List aj)} (h : lK l aH) : gq (jQ l aH) := G5 (uF h.states)
theorem agp {l : List ah} {aH : List (List aj)} (h : lK l aH) : (I5 l aH).length ≤ 100 := by
 have h1 := adv l (mY (jQ l aH) 3 s0).1; have h2 := h.len; unfold I5; cases (mY (jQ l aH) 3 s0).2 with
 | true => simp only [cond_true]; omega
 | false => exact Nat.zero_le _
theorem TG {l : List ah} {aH : List (List aj)} (h : lK l aH) : (lV l aH).length ≤ 40000 := by
 have h1 := aa2 l (I5 l aH) (wR (jP l aH) (wM l aH)); have h2 := QG (jP l aH) (wM l aH); have h3 := F6 h; unfold lV; omega
theorem aeJ {l : List ah} {aH : List (List aj)} (h : lK l aH) : oW (jP l aH) (wM l aH) l (jQ l aH, CW l aH) (jK aH, fK (wL aH)) (I5 l aH) = some ⟨lastOf l aH, CW l aH, lV l aH⟩ := by
 have h0 := h.len; have h1 := F6 h; have h2 := Vr l (jP l aH); have h3 := agp h; have h4 := QG (jP l aH) (wM l aH); have h5 := Oc h; have h6 := TG h; have h7 := uD h.states; unfold oW kG pG; rw [ac4 _ _ (by omega) (by unfold wM; omega)]; simp only [Option.bind_some]; rw [UU l _ _ (by omega) h.small (by omega) (by omega) (IZ (Xp _ _))]; simp only [Option.bind_some]; show ((o7 l (jQ l aH) (lV l aH)).bind _).bind _ = _; rw [L8 l _ _ (by omega) h.small (L9 h) (by omega)]; simp only [Option.bind_some]; unfold Jv; have hb := CB l (lV l aH) (jQ l aH); show bn _ fuel 0 (⟨zQ l (jQ l aH) (lV l aH), CW l aH, lV l aH⟩ : fU) = _; rw [ac6 (jK aH) (by omega) (fun v x => ({ v with wU := kV v.wU x.Kind x.Key x.Id } : fU)) (fun i v => v.wU.length ≤ (zQ l (jQ l aH) (lV l aH)).length + i) (fun v => some v) (Nat.le_refl _)]
 · congr 1; unfold lastOf DL
   have key : ∀ (a : List aj) (v : fU), a.foldl (fun v x => ({ v with wU := kV v.wU x.Kind x.Key x.Id } : fU)) v = ⟨a.foldl (fun s x => kV s x.Kind x.Key x.Id) v.wU, v.J3, v.XB⟩ := by
    intro a
    induction a with
    | nil => intro v; rfl
    | cons x a ih => intro v; rw [List.foldl_cons, ih]; rfl
   rw [key]
 · intro k v i hi hI; have hl2 := mP v.wU (jK aH)[i].Kind (jK aH)[i].Key (jK aH)[i].Id; refine ⟨by show (kV _ _ _ _).length ≤ _; omega, ?_⟩; unfold wE; rw [dQ hi, oQ _ _ _ _ (by omega)]; rfl
 intro k v _; unfold wE; rw [eY]
theorem ahB {l : List ah} {aH : List (List aj)} (h : lK l aH) : tC l aH = some ⟨lastOf l aH, CW l aH, lV l aH⟩ := by
 have h0 := h.len; have h1 := F6 h; have h2 := Vr l (jP l aH); have h3 := agn h; have h5 := Oc h; have h6 := adD h; have h7 := uD h.states; have ht := aeJ h; unfold tC; rw [JA aH h.states, WE l aH (by omega) h.small.af8 h.states]; simp only [Option.bind_some]; rw [ads l _ (by omega) h.small (by omega) (by omega)]; simp only [Option.bind_some]; unfold mg su; rw [ZO l _ (by omega) h.small (by omega)]; simp only [Option.bind_some]; have ha : o7 l (jK aH) (CW l aH) = some (jQ l aH) := L8 l _ _ (by omega) h.small (uF h.states) (by omega); unfold CW wM at ha; rw [ha]; simp only [Option.bind_some]; rw [FT _ _ _ (by omega) (L9 h)]; simp only [Option.bind_some]; rw [ZP l _ (by omega) h.small]; unfold I5 at ht; cases hg : (mY (jQ l aH) 3 s0).2 with
 | true => rw [hg] at ht; exact ht
 | false => rw [hg] at ht; exact ht
end Go.Proofs.YtelpgcaiadpjpaaGreat
end
section
namespace Go.Proofs.YtelpgcaiadpjpaaGreat
open Go.RowKit
theorem zA (a : List aj) (h : a.length ≤ 1000000) : lU a a = some true := by
 unfold lU; rw [show ((a.length : Int) != (a.length : Int)) = false by simp]; simp only [cond_false]; unfold Vb; have hany : a.any (fun _ => false) = false := by rw [List.any_eq_false]; exact fun _ _ h => by cases h
 rw [scan a (fuel_lt (by omega)) (fun _ => false) false (some true)]
 · rw [hany]; rfl
 · intro k i hi; unfold Hy zM; rw [dec_lt hi, dA hi]; simp only [cond_true, Option.bind_some]; rw [show (a[i].Kind != a[i].Kind) = false by simp, show (!(a[i].Key.toList == a[i].Key.toList)) = false by simp, show (a[i].Id != a[i].Id) = false by simp]; rfl
 intro k; unfold Hy; rw [nS]; rfl
def sS (l : List ah) (aH : List (List aj)) : List aj := match aH with
 | [] => []
 | [s] => s
 | _ => lastOf l aH
theorem nV {l : List ah} {aH : List (List aj)} (h : lK l aH) : iF l aH = some (sS l aH) := by
 match aH, h with
 | [], _ => rfl
 | [s], h =>
   have hs := (h.states.2 s (List.mem_cons_self ..)).1; have e0 : bf [s] 0 = some s := rfl; show ((bf [s] 0).bind fun x3 => (fP 32 [] x3).bind fun x4 => some x4) = some s; rw [e0]; simp only [Option.bind_some]; rw [dM (by simp only [List.length_nil]; omega)]; rfl
 | s :: t :: aH, h =>
   unfold iF; have e0 : (((s :: t :: aH).length : Int) == 0) = false := by simp only [List.length_cons]; simp; omega
   have e1 : (((s :: t :: aH).length : Int) == 1) = false := by simp only [List.length_cons]; simp; omega
   rw [e0, e1, ahB h]; rfl
theorem QT : ∀ (a s : List aj), (DL s a).length ≤ s.length + a.length
 | [], s => Nat.le_refl _
 | x :: a, s => by
   have h1 := QT a (kV s x.Kind x.Key x.Id); have h2 := mP s x.Kind x.Key x.Id; show (DL (kV s x.Kind x.Key x.Id) a).length ≤ _; rw [List.length_cons]; omega
theorem Qy {l : List ah} {aH : List (List aj)} (h : lK l aH) : (lastOf l aH).length ≤ 100000 := by
 have h1 := QT (jK aH) (zQ l (jQ l aH) (lV l aH)); have h2 := CB l (lV l aH) (jQ l aH); have h3 := TG h; have h4 := Oc h; have h5 := uD h.states; unfold lastOf; omega
theorem YG {l : List ah} {aH : List (List aj)} (h : lK l aH) : (sS l aH).length ≤ 100000 := by
 match aH, h with
 | [], _ => exact Nat.zero_le _
 | [s], h => have := (h.states.2 s (List.mem_cons_self ..)).1; show s.length ≤ _; omega
 | s :: t :: aH, h => exact Qy h
theorem qg {l : List ah} {a b : List aj} (h : lK l [a, b]) : ku l a b = some (lastOf l [a, b]) := by
 unfold ku; rw [nV h]; rfl
theorem BA {l : List ah} {a b : List (List aj)} (ha : iw a) (hb : iw b) (h : ∀ s, s ∈ a ↔ s ∈ b) : lastOf l a = lastOf l b := by
 have e1 : jK a = jK b := aeC ha hb h; have e2 : jP l a = jP l b := adn h; unfold lastOf lV I5 jQ CW wM; rw [e1, e2]
theorem aiR {l : List ah} {a : List aj} (ha : iw [a, a]) : jP l [a, a] = [] := by
 have hm : ∀ x, x ∉ jP l [a, a] := fun x hx => by
  unfold jP at hx; rcases vC.1 hx with h | h
  · rw [jL, Tt] at h; obtain ⟨s, hs, y, hy, h1, _⟩ := h; have e : s = a := by simpa using hs
    rw [Yi ha (fun t ht => by have : t = a := by simpa using ht
                              rw [this, ← e]; exact hy)] at h1
    cases h1
  obtain ⟨⟨s, hs, h1⟩, t, ht, h2⟩ := Qs.1 h; have e : s = a := by simpa using hs
  have e2 : t = a := by simpa using ht
  rw [e] at h1; rw [e2] at h2; exact h2 h1
 cases h : jP l [a, a] with
 | nil => rfl
 | cons x xs => exact absurd (h ▸ List.mem_cons_self ..) (hm x)
theorem ahC {s : List aj} (hs : gq s) {x : aj} (hx : x ∈ s) : kV s x.Kind x.Key x.Id = s := by
 refine Ic (N8 hs _ _ _) hs fun y => ?_; have hg : mY s x.Kind x.Key = (x.Id, true) := FV hs hx; constructor
 · intro hy; rcases WG hy with rfl | hy
   · cases x; exact hx
   exact hy
 intro hy; have hp := Vo hs ⟨x.Kind, x.Key, 0⟩; unfold kV; by_cases hk : jJ y ⟨x.Kind, x.Key, 0⟩ = true
 · have e : y = x := by
    have h1 := FV hs hy; have h2 := sQ.1 hk; simp only at h2; rw [h2.1, h2.2, hg] at h1; have h3 : x.Id = y.Id := by simpa using h1
    cases x; cases y; simp only at h2 h3; rw [h2.1, h2.2, h3]
   rw [e]; exact List.mem_append_right _ (by cases x; exact List.mem_cons_self ..)
 obtain ⟨i, hi, rfl⟩ := List.getElem_of_mem hy; by_cases hlt : i < kH s ⟨x.Kind, x.Key, 0⟩
 · refine List.mem_append_left _ ?_; rw [List.mem_iff_getElem]; exact ⟨i, by rw [List.length_take]; omega, by rw [List.getElem_take]⟩
 refine List.mem_append_right _ (List.mem_cons_of_mem _ ?_)
 have hne : qA s ⟨x.Kind, x.Key, 0⟩ = true → i ≠ kH s ⟨x.Kind, x.Key, 0⟩ := fun hh e => by
  subst e; unfold qA at hh; rw [List.getElem?_eq_getElem hi] at hh; exact hk hh
 rw [List.mem_iff_getElem]; cases hh : qA s ⟨x.Kind, x.Key, 0⟩ with
 | true =>
   have := hne hh; refine ⟨i - (kH s ⟨x.Kind, x.Key, 0⟩ + 1), by rw [List.length_drop]; simp only [cond_true]; omega, ?_⟩; rw [List.getElem_drop]; simp only [cond_true]; congr 1; omega
 | false =>
   refine ⟨i - kH s ⟨x.Kind, x.Key, 0⟩, by rw [List.length_drop]; simp only [cond_false]; omega, ?_⟩; rw [List.getElem_drop]; simp only [cond_false]; congr 1; omega
theorem Vx {s : List aj} (hs : gq s) : ∀ a : List aj, (∀ x ∈ a, x ∈ s) → DL s a = s
 | [], _ => rfl
 | x :: a, h => by
   show DL (kV s x.Kind x.Key x.Id) a = s; rw [ahC hs (h x (List.mem_cons_self ..))]; exact Vx hs a fun y hy => h y (List.mem_cons_of_mem _ hy)
theorem last_one {l : List ah} {a : List aj} (ha : iw [a, a]) : lastOf l [a, a] = a := by
 have hs : gq a := (ha.2 a (List.mem_cons_self ..)).2; have e0 := aiR (l := l) ha
 have e1 : jK [a, a] = a := Ic (uF ha) hs fun x => by
  rw [Tv ha (List.cons_ne_nil _ _)]; simp
 have e2 : wM l [a, a] = [] := by unfold wM; rw [e0]; rfl
 have e3 : CW l [a, a] = [] := by unfold CW; rw [e2]; rfl
 have e4 : jQ l [a, a] = a := by unfold jQ; rw [e1, e3]; rfl
 have e5 : lV l [a, a] = [] := by unfold lV; rw [e0, e2]; rfl
 unfold lastOf; rw [e4, e5, e1]; exact Vx hs a fun x hx => hx
theorem abb (l : List ah) : dG (xZ l 14) (fun b => b = false → l.length ≤ 14 ∧ iP l) := by
 unfold xZ; refine dG.bif (fun _ => .ret fun h => by cases h) fun e => ?_; have hl : l.length ≤ 14 := by have := of_decide_eq_false e; omega
 unfold RZ; refine yD l.length (fuel_lt (by omega)) (fun i => ∀ j, (hj : j < i) → (h1 : j < l.length) → FM l[j]) (fun j hj => by omega) ?_ ?_
 · intro i k hi hI hk; unfold EL; rw [dQ hi, wrap_succ i (by omega)]; refine (ac5 l[i]).bind fun b hb => dG.bif (fun _ => .ret fun h => by cases h) fun e2 => hk fun j hj h1 => ?_; by_cases ej : j = i
   · subst ej; exact hb e2
   exact hI j (by omega) h1
 intro k hI; unfold EL; rw [eY]; exact .ret fun _ => ⟨hl, Ti fun j h => hI j h h⟩
theorem abd (aH : List (List aj)) : dG (IC aH) (fun b => b = false → aH.length ≤ 4 ∧ ∀ s ∈ aH, s.length ≤ 20) := by
 unfold IC; refine dG.bif (fun _ => .ret fun h => by cases h) fun e => ?_; have hl : aH.length ≤ 4 := by have := of_decide_eq_false e; omega
 unfold Sj; refine yD aH.length (fuel_lt (by omega)) (fun i => ∀ j, (hj : j < i) → (h1 : j < aH.length) → aH[j].length ≤ 20) (fun j hj => by omega) ?_ ?_
 · intro i k hi hI hk; unfold EN; rw [dQ hi]; refine dG.bif (fun _ => .ret fun h => by cases h) fun e2 => ?_; have h20 : aH[i].length ≤ 20 := by have := of_decide_eq_false e2; omega
   unfold Si; refine yD aH[i].length (fuel_lt (by omega)) (fun _ => True) trivial ?_ ?_
   · intro j k2 hj _ hk2; unfold EM; rw [dA hi]; simp only [Option.bind_some]; rw [dQ hj, wrap_succ j (by omega)]; exact dG.bif (fun _ => .ret fun h => by cases h) fun _ => hk2 trivial
   intro k2 _; unfold EM; rw [dA hi]; simp only [Option.bind_some]; rw [eY, wrap_succ i (by omega)]; refine hk fun j hj h1 => ?_; by_cases ej : j = i
   · subst ej; exact h20
   exact hI j (by omega) h1
 intro k hI; unfold EN; rw [eY]; exact .ret fun _ => ⟨hl, Ti fun j h => hI j h h⟩
theorem Z5 {s : List aj} (h : ∀ j, (h1 : j + 1 < s.length) → gG s[j] s[j + 1] = true) : gq s := by
 refine List.pairwise_iff_getElem.2 fun i j hi hj hij => ?_; obtain ⟨d, rfl⟩ : ∃ d, j = i + 1 + d := ⟨j - i - 1, by omega⟩
 induction d with
 | zero => exact h i hj
 | succ d ih => exact JW (ih (by omega) (by omega)) (h (i + 1 + d) hj)
theorem abe (s : List aj) (hs : s.length ≤ 20) : dG (IG s) (fun n => n = 0 → gq s) := by
 have hL2 : gq s → dG (KN s 0) (fun n => n = 0 → gq s) := fun hso => by
  unfold KN; refine yD s.length (fuel_lt (by omega)) (fun _ => True) trivial ?_ ?_
  · intro i k hi _ hk; unfold EO; rw [dQ hi, wrap_succ i (by omega), dA hi]; have hK : ∃ b, AO s[i].Kind = some b := by unfold AO; cases decide (s[i].Kind ≥ 1) <;> exact ⟨_, rfl⟩
    obtain ⟨b, hb⟩ := hK; rw [hb]; simp only [Option.bind_some]; rw [yV]; simp only [Option.bind_some]; exact dG.bif (fun _ => .ret fun _ => hso) fun _ => hk trivial
  intro k _; unfold EO; rw [eY]; exact dG.bif (fun _ => .ret fun _ => hso) fun _ => .ret fun _ => hso
 unfold IG Sl; refine RF (body := EP s) (fun m a => ∃ i : Nat, a = i ∧ 1 ≤ i ∧ m = s.length - i ∧ ∀ j, j + 1 < i → (h1 : j + 1 < s.length) → gG s[j] s[j + 1] = true) ?_ fuel (s.length - 1) 1 (fuel_lt (by omega)) ⟨1, rfl, Nat.le_refl _, rfl, fun j hj => by omega⟩; rintro m a k ⟨i, rfl, hi1, rfl, hI⟩ hk; unfold EP; refine dG.bif (fun e => ?_) fun e => ?_
 · have hi : i < s.length := by simpa using e
   have hp : i - 1 < s.length := by omega
   have w : IntKind.i64.wrap ((i : Int) - 1) = ((i - 1 : Nat) : Int) := by rw [IntKind.wrap_i64]; omega
   rw [w, dA hp, dA hi, wrap_succ i (by omega)]; simp only [Option.bind_some]; rw [adi _ _ _ _ s[i - 1].Id s[i].Id]; simp only [Option.bind_some]; refine dG.bif (fun _ => .ret fun h => by cases h) fun e2 => hk (s.length - (i + 1)) _ (by omega) ⟨i + 1, rfl, by omega, rfl, fun j hj h1 => ?_⟩; by_cases ej : j + 1 = i
   · subst ej; have : gG s[j] s[j + 1] = true := by simpa using e2
     exact this
   exact hI j (by omega) h1
 have hi : s.length ≤ i := by have : ¬ i < s.length := by simpa using e
                              omega
 exact hL2 (Z5 fun j h1 => hI j (by omega) h1)
theorem abf (aH : List (List aj)) : dG (yc aH) (fun b => b = true → aH.length ≤ 4 ∧ ∀ s ∈ aH, s.length ≤ 20 ∧ gq s) := by
 unfold yc; refine (abd aH).bind fun b hb => dG.bif (fun _ => .ret fun h => by cases h) fun e => ?_; obtain ⟨hl, h20⟩ := hb e; unfold Sm; refine yD aH.length (fuel_lt (by omega)) (fun i => ∀ j, (hj : j < i) → (h1 : j < aH.length) → gq aH[j]) (fun j hj => by omega) ?_ ?_
 · intro i k hi hI hk; unfold ER; rw [dQ hi, wrap_succ i (by omega)]; refine (abe aH[i] (h20 _ (List.getElem_mem hi))).bind fun n hn => dG.bif (fun _ => .ret fun h => by cases h) fun e2 => hk fun j hj h1 => ?_; by_cases ej : j = i
   · subst ej; exact hn (by simpa using e2)
   exact hI j (by omega) h1
 intro k hI; unfold ER; rw [eY]; exact .ret fun _ => ⟨hl, fun s hs => ⟨h20 s hs, by obtain ⟨j, hj, rfl⟩ := List.getElem_of_mem hs; exact hI j hj hj⟩⟩
theorem lK.of {l : List ah} {aH : List (List aj)} (h1 : l.length ≤ 14 ∧ iP l) (h2 : aH.length ≤ 100 ∧ ∀ s ∈ aH, s.length ≤ 20 ∧ gq s) : lK l aH :=
 ⟨by have := h1.1; omega, h1.2, ⟨h2.1, fun s hs => ⟨by have := (h2.2 s hs).1; omega, (h2.2 s hs).2⟩⟩⟩
end Go.Proofs.YtelpgcaiadpjpaaGreat
end
section
namespace Go.Proofs.YtelpgcaiadpjpaaGreat
open Go.RowKit
def YH (x : ah) (t : Int) : ah := { x with Room := lC, State := true, Time := t }
def qZ (t0 t1 t2 t3 t4 t5 t6 t7 t8 : Int) : List ah := [YH HY t0, YH H6 t1, YH H7 t2, YH H8 t3, YH H9 t4, YH Ia t5, YH Fz t6, YH FB t7, YH FC t8]
theorem Vy (t0 t1 t2 t3 t4 t5 t6 t7 t8 : Int) : GU t0 t1 t2 t3 t4 t5 t6 t7 t8 = some (qZ t0 t1 t2 t3 t4 t5 t6 t7 t8) := by kernel_rfl
def Gn (bob power rules : Int) : List aj := [⟨1, s0, 1⟩, ⟨2, fG, 2⟩, ⟨2, iR, bob⟩, ⟨3, s0, power⟩, ⟨4, s0, rules⟩]
def stN (bob power rules name : Int) : List aj := Gn bob power rules ++ [⟨7, s0, name⟩]
theorem Z7 : nR 6 3 4 0 = some (Gn 6 3 4) := by kernel_rfl
theorem Z8 : nR 5 3 4 7 = some (stN 5 3 4 7) := by kernel_rfl
theorem Z9 : nR 5 8 4 0 = some (Gn 5 8 4) := by kernel_rfl
theorem aac : nR 5 3 9 0 = some (Gn 5 3 9) := by kernel_rfl
theorem aaC (t0 t1 t2 t3 t4 t5 t6 t7 t8 : Int) : lastOf (qZ t0 t1 t2 t3 t4 t5 t6 t7 t8) [Gn 6 3 4, stN 5 3 4 7] = Gn 6 3 4 := by kernel_rfl
end Go.Proofs.YtelpgcaiadpjpaaGreat
end
section
namespace Go.Proofs.YtelpgcaiadpjpaaGreat
open Go.RowKit
section
variable {A B R : Type} {P : B → Prop} {Q : R → Prop}
theorem dG.agq {o : Option A} {f : A → Option B} {g : B → Option R} (h : dG (o.bind f) P) (k : ∀ x, P x → dG (g x) Q) : dG (o.bind fun a => (f a).bind g) Q := by
 rw [← Option.bind_assoc]; exact h.bind k
end
theorem TI (l : List ah) (aH : List (List aj)) : dG ((xZ l 14).bind fun x1 => (bif x1 then some true else (yc aH).bind fun x4 => some (!x4))) (fun b => b = false → lK l aH ∧ aH.length ≤ 4) :=
 (abb l).bind fun b hb => dG.bif (fun _ => .ret fun h => by cases h) fun e => (abf aH).bind fun b2 h2 => .ret fun h => by
  have g := h2 (by simpa using h); exact ⟨lK.of (hb e) ⟨by have := g.1; omega, g.2⟩, g.1⟩
theorem adE {l : List ah} {b : List (List aj)} {s : List aj} (hb : iw b) (hn : b ≠ []) (h : ∀ t ∈ b, t = s) : lastOf l b = s := by
 have hs : s ∈ b := by
  cases b with
  | nil => exact absurd rfl hn
  | cons t b => have := h t (List.mem_cons_self ..); subst this; exact List.mem_cons_self ..
 have h2 : iw [s, s] := ⟨by simp, fun t ht => by have e : t = s := by simpa using ht
                                                 rw [e]; exact hb.each s hs⟩
 have hm : ∀ t, t ∈ b ↔ t ∈ [s, s] := fun t => by
  constructor
  · intro ht; rw [h t ht]; exact List.mem_cons_self ..
  intro ht; have e : t = s := by simpa using ht
  rw [e]; exact hs
 rw [BA hb h2 hm]; exact last_one h2
theorem Nz {l : List ah} {a b : List (List aj)} (ha : iw a) (hb : iw b) (h : ∀ s, s ∈ a ↔ s ∈ b) : sS l a = sS l b := by
 match a, b with
 | [], [] => rfl
 | [], t :: b => exact absurd ((h t).2 (List.mem_cons_self ..)) List.not_mem_nil
 | t :: a, [] => exact absurd ((h t).1 (List.mem_cons_self ..)) List.not_mem_nil
 | [s], [t] => have e : t = s := by simpa using (h t).2 (List.mem_cons_self ..)
               rw [e]
 | [s], t :: u :: b => exact (adE (s := s) hb (List.cons_ne_nil _ _) fun x hx => by simpa using (h x).2 hx).symm
 | t :: u :: a, [s] => exact adE (s := s) ha (List.cons_ne_nil _ _) fun x hx => by simpa using (h x).1 hx
 | s :: t :: a, u :: v :: b => exact BA ha hb h
theorem lK.sub {l : List ah} {a b : List (List aj)} (h : lK l a) (hl : b.length ≤ 100) (hs : ∀ s ∈ b, s ∈ a) : lK l b := ⟨h.len, h.small, hl, fun s hm => h.states.each s (hs s hm)⟩
theorem YI (l : List ah) (a b : List aj) : Ai l a b = some true := by
 unfold Ai; refine dG.eq (dG.agq (TI l [a, b]) fun x hx => dG.bif (fun _ => .ret rfl) fun e => ?_); have h := (hx e).1; have h2 : lK l [b, a] := h.sub (by simp) (by simp); have h3 : lK l [a, a] := h.sub (by simp) (by simp); have e2 : lastOf l [b, a] = lastOf l [a, b] := BA h2.states h.states (by simp [or_comm]); have hbd := Qy h; have hba := (h.states.each a (by simp)).1; rw [qg h, nV h, qg h2, qg h3, e2, last_one h3.states]; simp only [Option.bind_some, sS]; rw [zA _ (by omega), zA _ (by omega), qG]; simp only [Option.bind_some, cond_true]; exact .ret rfl
theorem UW (l : List ah) (aH : List (List aj)) : wK l aH = some true := by
 unfold wK; refine dG.eq (dG.agq (TI l aH) fun b hb => dG.bif (fun _ => .ret rfl) fun e => ?_); obtain ⟨h, h4⟩ := hb e; rw [dM (by simp only [List.length_nil]; omega)]; simp only [Option.bind_some, List.nil_append]; unfold FI; refine PE aH.length (fuel_lt (by omega)) (fun i a => a = aH ++ (aH.reverse.take i)) (by simp) ?_ ?_
 · intro i a k hi hI hk; unfold sF; have w : IntKind.i64.wrap (IntKind.i64.wrap ((aH.length : Int) - 1) - (i : Int)) = ((aH.length - 1 - i : Nat) : Int) := by rw [IntKind.wrap_i64, IntKind.wrap_i64]; omega
   have hg : aH.length - 1 - i < aH.length := by omega
   have hl : a.length ≤ 8 := by rw [hI, List.length_append, List.length_take, List.length_reverse]; omega
   rw [dec_lt hi, w, dA hg]; simp only [Option.bind_some, cond_true]; rw [dM (by simp only [List.length_singleton]; omega), wrap_succ i (by omega)]; simp only [Option.bind_some]; refine hk _ ?_; have hr : i < aH.reverse.length := by rw [List.length_reverse]; exact hi
   rw [hI, List.take_add_one, List.getElem?_eq_getElem hr, List.append_assoc, List.getElem_reverse]; rfl
 intro a k hI; unfold sF; rw [nS]; simp only [cond_false]; have hr : aH.reverse.take aH.length = aH.reverse := List.take_of_length_le (by simp); rw [hr] at hI; subst hI; have o2 : lK l (aH ++ aH.reverse) := h.sub (by simp; omega) (by simp); have o3 : lK l aH.reverse := h.sub (by simp; omega) (by simp); have q2 : sS l (aH ++ aH.reverse) = sS l aH := Nz o2.states h.states (by simp); have q3 : sS l aH.reverse = sS l aH := Nz o3.states h.states (by simp); have hbd := YG h; rw [Nq (by simp)]; rw [show (aH ++ aH.reverse).drop aH.length = aH.reverse by simp]; simp only [Option.bind_some]; rw [nV h, nV o2, nV o3, q2, q3]; simp only [Option.bind_some]; rw [zA _ (by omega), qG]; exact .ret rfl
def adF (e : ah) : Bool := Nat.ble e.jD.length 40 && Nat.ble e.fH.length 40 && Nat.ble e.Content.Allow.length 40 && Nat.ble e.Content.zS.length 40 && Nat.ble e.Content.Levels.Users.length 40 && Nat.ble e.Content.Levels.Kinds.length 40 && Nat.ble e.Room.size 2000 && Nat.ble e.bC.size 2000 && Nat.ble e.Key.size 2000 && Nat.ble e.Content.Text.size 2000 && Nat.ble e.Content.Via.size 2000 && Nat.ble e.Sig.Server.size 2000 && e.Content.Allow.all (fun x => Nat.ble x.size 2000) && e.Content.zS.all (fun x => Nat.ble x.size 2000) && e.Content.Levels.Users.all (fun x => Nat.ble x.User.size 2000)
theorem agr {e : ah} (h : adF e = true) : FM e := by
 unfold adF at h; simp only [Bool.and_eq_true, Nat.ble_eq, List.all_eq_true] at h; obtain ⟨⟨⟨⟨⟨⟨⟨⟨⟨⟨⟨⟨⟨⟨a1, a2⟩, a3⟩, a4⟩, a5⟩, a6⟩, a7⟩, a8⟩, a9⟩, a10⟩, a11⟩, a12⟩, a13⟩, a14⟩, a15⟩ := h; exact ⟨a1, a2, a3, a4, a5, a6, a7, a8, a9, a10, a11, a12, a13, a14, a15⟩
def sortedB : List aj → Bool
 | [] => true
 | x :: l => l.all (fun y => gG x y) && sortedB l
theorem Vz : ∀ {s : List aj}, sortedB s = true → gq s
 | [], _ => .nil
 | x :: l, h => by
   unfold sortedB at h; simp only [Bool.and_eq_true, List.all_eq_true] at h; exact .cons h.1 (Vz h.2)
theorem lK.of_B {l : List ah} {aH : List (List aj)} (h1 : (l.all adF && Nat.ble l.length 100) = true) (h2 : (aH.all (fun s => sortedB s && Nat.ble s.length 100) && Nat.ble aH.length 100) = true) : lK l aH := by
 simp only [Bool.and_eq_true, Nat.ble_eq, List.all_eq_true] at h1 h2; exact ⟨h1.2, fun e he => agr (h1.1 e he), h2.2, fun s hs => ⟨(h2.1 s hs).2, Vz (h2.1 s hs).1⟩⟩
theorem ama (t0 t1 t2 t3 t4 t5 t6 t7 t8 : Int) : lK (qZ t0 t1 t2 t3 t4 t5 t6 t7 t8) [Gn 6 3 4, stN 5 3 4 7] := lK.of_B (by kernel_rfl) (by kernel_rfl)
theorem YJ (t0 t1 t2 t3 t4 t5 t6 t7 t8 : Int) : Aj t0 t1 t2 t3 t4 t5 t6 t7 t8 = some true := by
 have h := ama t0 t1 t2 t3 t4 t5 t6 t7 t8; have h2 : lK (qZ t0 t1 t2 t3 t4 t5 t6 t7 t8) [stN 5 3 4 7, Gn 6 3 4] := h.sub (by simp) (by simp); have e2 := (BA (l := qZ t0 t1 t2 t3 t4 t5 t6 t7 t8) h2.states h.states (by simp [or_comm])).trans (aaC t0 t1 t2 t3 t4 t5 t6 t7 t8); unfold Aj; rw [Vy, Z7, Z8]; simp only [Option.bind_some]; rw [qg h, qg h2, e2, aaC]; simp only [Option.bind_some]; rw [zA _ (Nat.le_of_ble_eq_true (by kernel_rfl)), qG]; rfl
theorem VA {l : List ah} {left : List Int} {b : Int} (n : Nat) (h : zy l left = some b) : uI l (n + 1) left = b :: uI l n (left.filter (· != b)) := by
 show (match zy l left with | none => [] | some b => b :: uI l n (left.filter (· != b))) = _; rw [h]
def ags : List (List aj) := [Gn 5 8 4, Gn 5 3 9]
theorem agt (t0 t1 t2 t3 t4 t5 t6 t7 t8 : Int) : CW (qZ t0 t1 t2 t3 t4 t5 t6 t7 t8) ags = [3, 8, 4, 9] ∨ CW (qZ t0 t1 t2 t3 t4 t5 t6 t7 t8) ags = [3, 4, 8, 9] := by
 have e0 : CW (qZ t0 t1 t2 t3 t4 t5 t6 t7 t8) ags = 3 :: uI (qZ t0 t1 t2 t3 t4 t5 t6 t7 t8) 3 [4, 8, 9] := by kernel_rfl
 have b1 : nU (qZ t0 t1 t2 t3 t4 t5 t6 t7 t8) [4, 8, 9] (some 4) 8 = bif decide (t7 < t3) then some 8 else some 4 := by kernel_rfl
 have b2 : zy (qZ t0 t1 t2 t3 t4 t5 t6 t7 t8) [4, 8, 9] = nU (qZ t0 t1 t2 t3 t4 t5 t6 t7 t8) [4, 8, 9] (nU (qZ t0 t1 t2 t3 t4 t5 t6 t7 t8) [4, 8, 9] (some 4) 8) 9 := by kernel_rfl
 rw [e0]; cases hd : decide (t7 < t3) with
 | true =>
   rw [hd] at b1
   have b3 : zy (qZ t0 t1 t2 t3 t4 t5 t6 t7 t8) [4, 8, 9] = some 8 := by
    rw [b2, b1]; kernel_rfl
   refine .inl ((congrArg (3 :: ·) (VA 2 b3)).trans ?_); kernel_rfl
 | false =>
   rw [hd] at b1
   have b3 : zy (qZ t0 t1 t2 t3 t4 t5 t6 t7 t8) [4, 8, 9] = some 4 := by
    rw [b2, b1]; kernel_rfl
   refine .inr ((congrArg (3 :: ·) (VA 2 b3)).trans ?_); kernel_rfl
theorem TJ (t0 t1 t2 t3 t4 t5 t6 t7 t8 : Int) : lastOf (qZ t0 t1 t2 t3 t4 t5 t6 t7 t8) ags = Gn 5 8 4 := by
 unfold lastOf lV I5 jQ; rcases agt t0 t1 t2 t3 t4 t5 t6 t7 t8 with h | h <;> rw [h] <;> kernel_rfl
theorem ahD (t0 t1 t2 t3 t4 t5 t6 t7 t8 : Int) : lK (qZ t0 t1 t2 t3 t4 t5 t6 t7 t8) [Gn 5 8 4, Gn 5 3 9] := lK.of_B (by kernel_rfl) (by kernel_rfl)
theorem TK (t0 t1 t2 t3 t4 t5 t6 t7 t8 : Int) : vO t0 t1 t2 t3 t4 t5 t6 t7 t8 = some true := by
 have h := ahD t0 t1 t2 t3 t4 t5 t6 t7 t8; have h2 : lK (qZ t0 t1 t2 t3 t4 t5 t6 t7 t8) [Gn 5 3 9, Gn 5 8 4] := h.sub (by simp) (by simp); have e2 := (BA (l := qZ t0 t1 t2 t3 t4 t5 t6 t7 t8) h2.states h.states (by simp [or_comm])).trans (TJ t0 t1 t2 t3 t4 t5 t6 t7 t8); unfold vO; rw [Vy, Z9, aac]; simp only [Option.bind_some]; rw [qg h, qg h2, e2, show lastOf (qZ t0 t1 t2 t3 t4 t5 t6 t7 t8) [Gn 5 8 4, Gn 5 3 9] = Gn 5 8 4 from TJ t0 t1 t2 t3 t4 t5 t6 t7 t8]; simp only [Option.bind_some]; rw [zA _ (Nat.le_of_ble_eq_true (by kernel_rfl)), qG]; rfl
end Go.Proofs.YtelpgcaiadpjpaaGreat
end
section
namespace Go.Proofs.YtelpgcaiadpjpaaGreat
open Go.RowKit
theorem adG (s : List aj) (k : Int) (key : ByteArray) (id : Int) : (⟨k, key, id⟩ : aj) ∈ kV s k key id := by
 unfold kV; exact List.mem_append_right _ (List.mem_cons_self ..)
theorem adH {s : List aj} {k : Int} {key : ByteArray} {id : Int} {y : aj} (hy : y ∈ s) (hk : jJ y ⟨k, key, 0⟩ = false) : y ∈ kV s k key id := by
 unfold kV; obtain ⟨i, hi, rfl⟩ := List.getElem_of_mem hy; by_cases hlt : i < kH s ⟨k, key, 0⟩
 · refine List.mem_append_left _ ?_; rw [List.mem_iff_getElem]; exact ⟨i, by rw [List.length_take]; omega, by rw [List.getElem_take]⟩
 refine List.mem_append_right _ (List.mem_cons_of_mem _ ?_)
 have hne : qA s ⟨k, key, 0⟩ = true → i ≠ kH s ⟨k, key, 0⟩ := fun hh e => by
  subst e; unfold qA at hh; rw [List.getElem?_eq_getElem hi] at hh; have h2 : jJ s[kH s ⟨k, key, 0⟩] ⟨k, key, 0⟩ = true := hh; rw [hk] at h2; cases h2
 rw [List.mem_iff_getElem]; cases hh : qA s ⟨k, key, 0⟩ with
 | true =>
   have := hne hh; refine ⟨i - (kH s ⟨k, key, 0⟩ + 1), by rw [List.length_drop]; simp only [cond_true]; omega, ?_⟩; rw [List.getElem_drop]; simp only [cond_true]; congr 1; omega
 | false =>
   refine ⟨i - kH s ⟨k, key, 0⟩, by rw [List.length_drop]; simp only [cond_false]; omega, ?_⟩; rw [List.getElem_drop]; simp only [cond_false]; congr 1; omega
theorem O7 {x : aj} : ∀ (a s : List aj), x ∈ s → (∀ y ∈ a, jJ x ⟨y.Kind, y.Key, 0⟩ = false) → x ∈ DL s a
 | [], _, h, _ => h
 | y :: a, s, h, hd => O7 a _ (adH h (hd y (List.mem_cons_self ..))) fun z hz => hd z (List.mem_cons_of_mem _ hz)
theorem YK {x : aj} : ∀ (a s : List aj), gq a → x ∈ a → x ∈ DL s a
 | [], _, _, h => absurd h List.not_mem_nil
 | y :: a, s, ha, h => by
   cases ha with
   | cons h1 h2 =>
     rcases List.mem_cons.1 h with rfl | h
     · refine O7 a _ (adG ..) fun z hz => ?_; have hp := h1 z hz; cases hs : jJ x ⟨z.Kind, z.Key, 0⟩ with
       | false => rfl
       | true =>
         have e := sQ.1 hs; rw [Np (a := x) (b := z) (sQ.2 ⟨e.1, e.2⟩)] at hp; cases hp
     exact YK a _ h2 h
theorem QU {x : aj} : ∀ (a s : List aj), x ∈ DL s a → x ∈ a ∨ x ∈ s
 | [], _, h => .inr h
 | y :: a, s, h => by
   rcases QU a _ h with h | h
   · exact .inl (List.mem_cons_of_mem _ h)
   rcases WG h with h | h
   · left; rw [h]; cases y; exact List.mem_cons_self ..
   exact .inr h
def afa (l : List ah) (ids : List Int) (x : aj) : Prop := ∃ id ∈ ids, dP l id = true ∧ DJ (ev l id).Kind = true ∧ x = ⟨(ev l id).Kind, (ev l id).Key, (ev l id).Id⟩
theorem Oe {l : List ah} {x : aj} : ∀ (ids : List Int) (s : List aj), x ∈ zQ l s ids → x ∈ s ∨ afa l ids x
 | [], _, h => .inl h
 | id :: ids, s, h => by
   rcases Oe ids _ h with h | ⟨j, hj, h⟩
   · have h2 : x ∈ bif WO l s id then kV s (ev l id).Kind (ev l id).Key (ev l id).Id else s := h
     cases hm : WO l s id with
     | false => rw [hm] at h2; exact .inl h2
     | true =>
       rw [hm] at h2; rcases WG h2 with h2 | h2
       · unfold WO at hm; simp only [Bool.and_eq_true] at hm; exact .inr ⟨id, List.mem_cons_self .., hm.1, hm.2.1, h2⟩
       exact .inl h2
   exact .inr ⟨j, List.mem_cons_of_mem _ hj, h⟩
theorem aiS {l : List ah} {aH : List (List aj)} {x : Int} (h : x ∈ wM l aH) : x ∈ jP l aH := (adr.1 h).1
theorem agu {l : List ah} {aH : List (List aj)} {x : aj} (h : x ∈ lastOf l aH) : x ∈ jK aH ∨ afa l (jP l aH) x := by
 unfold lastOf at h; rcases QU _ _ h with h | h
 · exact .inl h
 rcases Oe _ _ h with h | ⟨j, hj, h⟩
 · unfold jQ at h; rcases Oe _ _ h with h | ⟨j, hj, h⟩
   · exact .inl h
   exact .inr ⟨j, aiS (yX.1 (Yt _ _ _ hj)).1, h⟩
 exact .inr ⟨j, (Xo.1 (agd.1 hj).1).1, h⟩
theorem QV : ∀ (a s : List aj), gq s → gq (DL s a)
 | [], _, h => h
 | x :: a, s, h => QV a _ (N8 h x.Kind x.Key x.Id)
theorem aeK {l : List ah} {aH : List (List aj)} (h : lK l aH) : gq (lastOf l aH) := QV _ _ (G5 (L9 h))
theorem aeL {k : Int} (h : DJ k = true) : AO k = some true := by
 unfold DJ at h; simp only [Bool.and_eq_true, decide_eq_true_eq] at h; unfold AO; rw [show decide (k ≥ 1) = true by simp; omega]; simp only [cond_true]; simp; omega
theorem WR (l : List ah) (aH : List (List aj)) : yU l aH = some true := by
 unfold yU; refine dG.eq (dG.agq (TI l aH) fun b hb => dG.bind (P := fun c => c = false → lK l aH ∧ 2 ≤ aH.length) (dG.bif (fun _ => .ret fun h => by cases h) fun e => .ret fun h => ⟨(hb e).1, by have := of_decide_eq_false h; omega⟩) fun c hc => dG.bif (fun _ => ?_) fun e => ?_)
 · rw [qG]; exact .ret rfl
 obtain ⟨h, h2⟩ := hc e; have ha : Ak l := fun e he => (h.small e he).auth
 have hr : sS l aH = lastOf l aH := by
  match aH, h2 with
  | [], h2 => simp at h2
  | [_], h2 => simp at h2
  | _ :: _ :: _, _ => rfl
 have hbd := Qy h; have hsl := uD h.states; have hso := aeK h; have hfl := F6 h; have hlen := h.len; rw [Tq aH h.states, aeE l aH (by omega) ha h.states, nV h, hr]; simp only [Option.bind_some]
 have hL2 : zW (lastOf l aH) (jK aH, fK (wL aH)) l (jP l aH) 0 = some true := by
  unfold zW; rw [scan (lastOf l aH) (fuel_lt (by omega)) (fun _ => false) false (some true)]
  · rw [List.any_eq_false.2 fun _ _ h => by cases h]; rfl
  · intro k i hi; unfold uO; rw [dec_lt hi, dA hi]; simp only [Option.bind_some, cond_true]; rw [Qp _ _ _ (by omega)]; simp only [Option.bind_some, pK, jA, cond_false]; rw [wrap_succ i (by omega)]; cases hg : (mY (jK aH) (lastOf l aH)[i].Kind (lastOf l aH)[i].Key).2 with
    | true => rfl
    | false =>
      simp only [cond_false]; rcases agu (List.getElem_mem hi) with hm | ⟨id, hid, hk, hst, hx⟩
      · rw [FV (uF h.states) hm] at hg; cases hg
      have hev := adu hk; have e1 : (lastOf l aH)[i].Kind = (ev l id).Kind := by rw [hx]
      have e2 : (lastOf l aH)[i].Key = (ev l id).Key := by rw [hx]
      have e3 : (lastOf l aH)[i].Id = id := by rw [hx]; exact hev.2
      rw [e1, e2, e3, Qm l id (by omega), o9 hev.1]; simp only [Option.bind_some, Bool.not_true, cond_false]; rw [show ((ev l id).Kind != (ev l id).Kind) = false by simp, show (!((ev l id).Key.toList == (ev l id).Key.toList)) = false by simp, aeL hst, JQ _ _ (by omega), kC.2 hid]; rfl
  intro k; unfold uO; rw [nS, qG]; rfl
 unfold Gm; refine dG.of ?_; rw [scan (jK aH) (fuel_lt (by omega)) (fun _ => false) false (some true)]
 · rw [List.any_eq_false.2 fun _ _ h => by cases h]; rfl
 · intro k i hi; unfold uP; rw [dec_lt hi, dA hi]; simp only [Option.bind_some, cond_true]; rw [Qp _ _ _ (by omega), wrap_succ i (by omega)]; have hm : (jK aH)[i] ∈ lastOf l aH := YK _ _ (uF h.states) (List.getElem_mem hi); rw [FV hso hm]; simp only [Option.bind_some, Bool.not_true, cond_false]; rw [show ((jK aH)[i].Id != (jK aH)[i].Id) = false by simp]; rfl
 intro k; unfold uP; rw [nS, hL2]; rfl
end Go.Proofs.YtelpgcaiadpjpaaGreat
end
section
namespace Go.Proofs.YtelpgcaiadpjpaaGreat
open Go.RowKit
section
variable {H : Type} {enc : TypeId × Value → H} {w : World} {base : Nat} {spare : Nat → Bool} {held : Bool} {P : Program} {t : TypeId}
theorem aaD {α : Type} {n : Nat} {e : TypeId} {en : α → D} {V : α → Prop} (ht : P.underlying t = some (.array n e)) (hc : P.cellsOf e = 1) (hn : P.cellsOf t = n) (hcl : ∀ a, (en a).cells = [en a]) (hR : Opn enc P w base spare held e en V) :
 Opn enc P w base spare held t (eA en) (fun l => l.length = n ∧ ∀ x ∈ l, V x) := by
 intro fuel cs x h; obtain ⟨xs, m, -, -, hlen, hxl, hall⟩ := DataW.trod_array ht h; rw [hn] at hlen
 have hex : ∀ i, i < n → ∃ y : α, V y ∧ bK w [en y] ((cs.drop i).take 1) := fun i hi => by
  have h1 := hall i hi; rw [hc, Nat.mul_one, List.getElem?_eq_getElem (by omega)] at h1; obtain ⟨y, h2, h3⟩ := hR _ _ _ h1; exact ⟨y, h2, by rw [← hcl]; exact h3⟩
 obtain ⟨l, hl, hy⟩ := PD n hex; refine ⟨l, ⟨hl, fun x hx => ?_⟩, ?_⟩
 · obtain ⟨i, hi, rfl⟩ := List.getElem_of_mem hx; exact (hy i hi).1
 show bK w (l.map en) cs; refine ⟨by rw [List.length_map]; omega, fun j hj => ?_⟩; rw [List.length_map] at hj; have h1 := (hy j hj).2.2 0 (by simp); have e1 : (l.map en).getD j dz = en l[j] := by simp [List.getD, hj]
 have e2 : ((cs.drop j).take 1).getD 0 undef = cs.getD j undef := by
  have : j < cs.length := by omega
  simp [List.getD, this]
 rw [e1, ← e2]; exact h1
theorem VB {n : Nat} {e : TypeId} {r : Reach} {v : Value} (ht : P.underlying t = some (.array n e)) (h : Value.okWide P w r base t v) : ∃ cs, v = .agg cs ∧ cs.size = P.cellsOf t := by
 simp only [Value.okWide, ht] at h; obtain ⟨cs, h1, h2, _⟩ := h; exact ⟨cs, h1, h2⟩
theorem gV {α : Type} {l : List α} {n : Nat} (h : l.length = n + 1) : ∃ a t, l = a :: t ∧ t.length = n := by
 cases l with
 | nil => cases h
 | cons a t => exact ⟨a, t, rfl, by simpa using h⟩
theorem VD {α : Type} {l : List α} (h : l.length = 0) : l = [] := List.eq_nil_of_length_eq_zero h
end
end Go.Proofs.YtelpgcaiadpjpaaGreat
end
