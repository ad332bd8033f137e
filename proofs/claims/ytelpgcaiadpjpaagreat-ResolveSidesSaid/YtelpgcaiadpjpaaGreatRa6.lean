/- Part 6 of what the laws' proofs lean on: states of the walk, typed functions of the program and their laws (short forms written by wip/shrink.py; no condition). -/
import Derived.Test.YtelpgcaiadpjpaaGreatRa5
set_option linter.unusedVariables false
set_option linter.unusedSimpArgs false
section
namespace Go.Proofs.YtelpgcaiadpjpaaGreat
open Go.RowKit
def U1 (e : ah) : Bool := bif e.Kind == 2 then (e.Content.N == 0 || e.Content.N == 4) && !(decide (e.Key = e.bf)) else e.Kind == 3 || e.Kind == 4
theorem aiA (e : ah) : Oc e = some (U1 e) := by
 unfold Oc Ee U1; rw [kZ]; by_cases h2 : e.Kind = 2
 · simp [h2]; cases e.Content.N == 0 <;> cases e.Content.N == 4 <;> rfl
 have h2' : (e.Kind == 2) = false := by simpa using h2
 rw [h2']; cases e.Kind == 3 <;> cases e.Kind == 4 <;> rfl
theorem alO (e : ah) : Ws e = some (U1 e) := by
 unfold Ws U1; rw [kZ]; cases e.Kind == 2 <;> cases e.Content.N == 0 <;> cases e.Content.N == 4 <;> cases e.Kind == 3 <;> cases e.Kind == 4 <;> rfl
theorem Qx (l : List Int) (x : Int) (h : l.length ≤ 1099511627776) : nN l x = some (if l.findIdx (· == x) < l.length then ((l.findIdx (· == x) : Nat) : Int) else -1) := by
 unfold nN Ef; rw [wM l (fuel_lt h) (· == x) (fun i => some (i : Int)) (some (-1))]
 · split <;> rfl
 · intro k i hi; unfold qY; rw [dF hi]; have : (x == l[i]) = (l[i] == x) := by rw [Bool.eq_iff_iff]; simp only [beq_iff_eq]; exact eq_comm
   rw [this]
 intro k; unfold qY; rw [dP]
theorem Y3 (l : List Int) (x : Int) : decide (l.findIdx (· == x) < l.length) = hasB l x := by
 rw [Bool.eq_iff_iff, lC, decide_eq_true_eq, List.findIdx_lt_length]; exact ⟨fun ⟨y, h1, h2⟩ => by rw [← (by simpa using h2 : y = x)]; exact h1, fun h => ⟨x, h, by simp⟩⟩
theorem rH (l : List Int) (x : Int) (h : l.length ≤ 1099511627776) : jO l x = some (hasB l x) := by
 unfold jO; rw [Qx l x h, ← Y3]; by_cases hl : l.findIdx (· == x) < l.length
 · rw [if_pos hl, decide_eq_true hl]; simp
 rw [if_neg hl, decide_eq_false hl]; rfl
theorem abu (l : List Int) (x : Int) (h : l.length ≤ 1099511627776) : I7 l x = some (hasB l x) := by
 unfold I7; rw [rH l x h]; rfl
def ev (l : List ah) (id : Int) : ah := (yI l id).1
def pI (l : List ah) (id : Int) : Bool := dS l id && U1 (ev l id)
def FT (l : List ah) (full : List Int) : List Int := full.filter (pI l)
def Xh (l : List ah) (full : List Int) : List Int := gU (FT l full ++ full.filter (hasB (chainOf l (FT l full))))
theorem agV {l : List ah} {full : List Int} {x : Int} : x ∈ Xh l full ↔ x ∈ full ∧ (pI l x = true ∨ Ch l (FT l full) x) := by
 unfold Xh; rw [lU, List.mem_append, List.mem_filter, lC, Q7]; unfold FT; rw [List.mem_filter]; exact ⟨fun h => h.elim (fun h => ⟨h.1, .inl h.2⟩) fun h => ⟨h.1, .inr h.2⟩, fun ⟨h, k⟩ => k.elim (fun k => .inl ⟨h, k⟩) fun k => .inr ⟨h, k⟩⟩
theorem agW (l : List ah) (full : List Int) : Inc (Xh l full) := lq _
theorem Rf (p : Int → Bool) : ∀ (S r : List Int), S.foldl (fun r x => bif p x then r ++ [x] else r) r = r ++ S.filter p
 | [], r => by simp
 | x :: S, r => by
   rw [List.foldl_cons, Rf p S, List.filter_cons]; cases p x <;> simp
theorem agX (l : List ah) (full : List Int) (hl : l.length ≤ 1000) (hs : fH l) (hf : full.length ≤ 120000) (hfl : (FT l full).length ≤ 100000) : Kz l full = some (Xh l full) := by
 unfold Kz V3; rw [mQ (a0 := []) full (by omega) (fun r x => bif pI l x then r ++ [x] else r) (fun i r => r.length ≤ i) (fun r => (qV l r).bind fun x14 => Oe full x14 r 0) (Nat.le_refl _)]
 · have e0 : full.foldl (fun r x => bif pI l x then r ++ [x] else r) [] = FT l full := by rw [Rf]; rfl
   have hc := qM l (FT l full); rw [e0, Jf l _ hl hs.XW hfl]; simp only [Option.bind_some]; unfold Oe; rw [mQ full (by omega) (fun r x => bif hasB (chainOf l (FT l full)) x then r ++ [x] else r) (fun i r => r.length ≤ (FT l full).length + i) (fun r => some (gU r)) (Nat.le_refl _)]
   · rw [Rf]; rfl
   · intro k r i h hI; refine ⟨?_, ?_⟩
     · cases hasB (chainOf l (FT l full)) full[i] with
       | false => show r.length ≤ (FT l full).length + (i + 1); omega
       | true => show (r ++ [full[i]]).length ≤ (FT l full).length + (i + 1); simp; omega
     unfold GL BM; rw [dF h, abu _ _ (by omega)]; simp only [Option.bind_some]; rw [dD (by simp only [List.length_singleton]; omega)]; cases hasB (chainOf l (FT l full)) full[i] <;> rfl
   intro k r hI; unfold GL; rw [dP, vP _ (by omega)]; rfl
 · intro k r i h hI; refine ⟨?_, ?_⟩
   · cases pI l full[i] with
     | false => show r.length ≤ i + 1; omega
     | true => show (r ++ [full[i]]).length ≤ i + 1; simp; omega
   unfold GN BL; rw [dF h, kU l _ (by omega)]; simp only [Option.bind_some]; rw [dD (by simp only [List.length_singleton]; omega)]; unfold pI dS ev; rw [aiA, yJ]; cases (iZ l full[i]).isSome <;> cases U1 (yI l full[i]).1 <;> rfl
 intro k r _; unfold GN; rw [dP]
theorem Ch.aqm {l : List ah} {ids : List Int} {i x : Int} (hi : i ∈ ids) (h : Ch l [i] x) : Ch l ids x := by
 induction h with
 | one h hx hk => rw [List.mem_singleton.1 h] at hx; exact .one hi hx hk
 | more h hx hk ih => exact .more ih hx hk
theorem Ch.split {l : List ah} {ids : List Int} {x : Int} : Ch l ids x ↔ ∃ i ∈ ids, Ch l [i] x := by
 constructor
 · intro h
   induction h with
   | one h hx hk => exact ⟨_, h, .one (List.mem_singleton.2 rfl) hx hk⟩
   | more h hx hk ih => obtain ⟨i, h1, h2⟩ := ih; exact ⟨i, h1, .more h2 hx hk⟩
 rintro ⟨i, h1, h2⟩; exact .aqm h1 h2
theorem Ch.dS {l : List ah} {ids : List Int} {x : Int} (h : Ch l ids x) : dS l x = true := by cases h <;> assumption
def ZY (h r : List Int) (y : Int) : List Int := bif hasB h y then put r y else r
theorem XY (h : List Int) : ∀ (c r : List Int), Inc r → Inc (c.foldl (ZY h) r) ∧ ∀ x, x ∈ c.foldl (ZY h) r ↔ x ∈ r ∨ x ∈ c ∧ x ∈ h
 | [], r, hr => ⟨hr, fun x => by simp⟩
 | y :: c, r, hr => by
   rw [List.foldl_cons]; unfold ZY; cases hy : hasB h y with
   | true =>
     obtain ⟨h1, h2⟩ := XY h c (put r y) (Aj hr); refine ⟨h1, fun x => (h2 x).trans ?_⟩; rw [CY, List.mem_cons]; constructor
     · rintro ((h3 | rfl) | h3)
       · exact .inl h3
       · exact .inr ⟨.inl rfl, lC.1 hy⟩
       exact .inr ⟨.inr h3.1, h3.2⟩
     rintro (h3 | ⟨rfl | h3, h4⟩)
     · exact .inl (.inl h3)
     · exact .inl (.inr rfl)
     exact .inr ⟨h3, h4⟩
   | false =>
     obtain ⟨h1, h2⟩ := XY h c r hr; refine ⟨h1, fun x => (h2 x).trans ⟨fun h3 => h3.imp id fun h3 => ⟨List.mem_cons_of_mem _ h3.1, h3.2⟩, fun h3 => h3.imp id fun h3 => ⟨?_, h3.2⟩⟩⟩; rcases List.mem_cons.1 h3.1 with rfl | h4
     · exact absurd h3.2 (kK.1 hy)
     exact h4
def Ux (l : List ah) (h r : List Int) (x : Int) : List Int := bif U1 (ev l x) then (chainOf l [x]).foldl (ZY h) (put r x) else r
theorem Z4 (l : List ah) (h : List Int) : ∀ (c r : List Int), Inc r → Inc (c.foldl (Ux l h) r) ∧ ∀ x, x ∈ c.foldl (Ux l h) r ↔ x ∈ r ∨ ∃ i ∈ c, U1 (ev l i) = true ∧ (x = i ∨ Ch l [i] x ∧ x ∈ h)
 | [], r, hr => ⟨hr, fun x => by simp⟩
 | y :: c, r, hr => by
   rw [List.foldl_cons]; unfold Ux; cases hy : U1 (ev l y) with
   | true =>
     obtain ⟨g1, g2⟩ := XY h (chainOf l [y]) (put r y) (Aj hr); obtain ⟨h1, h2⟩ := Z4 l h c _ g1; refine ⟨h1, fun x => (h2 x).trans ?_⟩; rw [g2 x, CY, Q7]; constructor
     · rintro (((h3 | rfl) | h3) | ⟨i, h3, h4⟩)
       · exact .inl h3
       · exact .inr ⟨x, List.mem_cons_self .., hy, .inl rfl⟩
       · exact .inr ⟨y, List.mem_cons_self .., hy, .inr h3⟩
       exact .inr ⟨i, List.mem_cons_of_mem _ h3, h4⟩
     rintro (h3 | ⟨i, h3, h4, h5⟩)
     · exact .inl (.inl (.inl h3))
     rcases List.mem_cons.1 h3 with rfl | h3
     · rcases h5 with rfl | h5
       · exact .inl (.inl (.inr rfl))
       exact .inl (.inr h5)
     exact .inr ⟨i, h3, h4, h5⟩
   | false =>
     obtain ⟨h1, h2⟩ := Z4 l h c r hr; refine ⟨h1, fun x => (h2 x).trans ⟨fun h3 => h3.imp id fun ⟨i, h4, h5⟩ => ⟨i, List.mem_cons_of_mem _ h4, h5⟩, fun h3 => h3.imp id fun ⟨i, h4, h5, h6⟩ => ⟨i, ?_, h5, h6⟩⟩⟩; rcases List.mem_cons.1 h4 with rfl | h4
     · rw [hy] at h5; cases h5
     exact h4
theorem alP (l : List ah) (full : List Int) : (gq l full).foldl (Ux l (gq l full)) [] = Xh l full := by
 obtain ⟨h1, h2⟩ := Z4 l (gq l full) (gq l full) [] .nil; refine CZ h1 (agW _ _) fun x => (h2 x).trans ?_; rw [agV, jY, Ch.split]; unfold FT pI; constructor
 · rintro (h3 | ⟨i, h3, h4, h5⟩)
   · exact absurd h3 List.not_mem_nil
   have h3' := jY.1 h3; rcases h5 with rfl | h5
   · exact ⟨h3'.1, .inl (by rw [h3'.2, h4]; rfl)⟩
   exact ⟨h5.2.1, .inr ⟨i, List.mem_filter.2 ⟨h3'.1, by rw [h3'.2, h4]; rfl⟩, h5.1⟩⟩
 rintro ⟨h3, h4 | ⟨i, h4, h5⟩⟩
 · rw [Bool.and_eq_true] at h4; exact .inr ⟨x, jY.2 ⟨h3, h4.1⟩, h4.2, .inl rfl⟩
 rw [List.mem_filter, Bool.and_eq_true] at h4; exact .inr ⟨i, jY.2 ⟨h4.1, h4.2.1⟩, h4.2.2, .inr ⟨h5, h3, h5.dS⟩⟩
theorem akg (l : List ah) (full : List Int) (hl : l.length ≤ 1000) (hs : fH l) (hf : full.length ≤ 100000) : SC l full = some (Xh l full) := by
 unfold SC; rw [WY l full hl hf]; simp only [Option.bind_some]; have hkl : (gq l full).length ≤ l.length := jg (zN l full) fun x hx => (jY.1 hx).2; unfold aa4; rw [mQ (a0 := []) (gq l full) (by omega) (Ux l (gq l full)) (fun _ r => Inc r ∧ ∀ x ∈ r, dS l x = true) (fun r => some r) ⟨.nil, fun x hx => absurd hx List.not_mem_nil⟩]
 · rw [alP]
 · intro k r i h hI; have hki : dS l (gq l full)[i] = true := (jY.1 (List.getElem_mem h)).2; have hrl := jg hI.1 hI.2; have g := XY (gq l full) (chainOf l [(gq l full)[i]]) (put r (gq l full)[i]) (Aj hI.1); refine ⟨?_, ?_⟩
   · unfold Ux; cases U1 (ev l (gq l full)[i]) with
     | false => exact hI
     | true =>
       refine ⟨g.1, fun x hx => ?_⟩; rcases (g.2 x).1 hx with h3 | h3
       · rcases CY.1 h3 with h3 | rfl
         · exact hI.2 x h3
         exact hki
       exact (jY.1 h3.2).2
   unfold Np Dv; rw [dF h, oq l _ (by omega)]; simp only [Option.bind_some]; rw [alO, bT h]; simp only [Option.bind_some]; rw [DF _ _ (by omega)]; simp only [Option.bind_some]; rw [O7 l _ hl hs.XW (by simp)]; simp only [Option.bind_some]; unfold Ux; show (bif U1 (ev l (gq l full)[i]) then _ else _) = _; cases U1 (ev l (gq l full)[i]) with
   | false => rfl
   | true =>
     simp only [cond_true]; have hc := qM l [(gq l full)[i]]; unfold aa3
     rw [mQ (chainOf l [(gq l full)[i]]) (by omega) (ZY (gq l full)) (fun _ r => Inc r ∧ ∀ x ∈ r, dS l x = true) (fun r => k r (IntKind.i64.wrap ((i : Int) + 1))) ⟨Aj hI.1, fun x hx => by
      rcases CY.1 hx with h3 | rfl
      · exact hI.2 x h3
      exact hki⟩]
     · intro k2 r2 j hj hJ; have hr2 := jg hJ.1 hJ.2; refine ⟨?_, ?_⟩
       · unfold ZY; cases hh : hasB (gq l full) (chainOf l [(gq l full)[i]])[j] with
         | false => exact hJ
         | true =>
           refine ⟨Aj hJ.1, fun x hx => ?_⟩; rcases CY.1 hx with h3 | rfl
           · exact hJ.2 x h3
           exact (jY.1 (lC.1 hh)).2
       unfold Nl Hq; rw [dF hj, wG _ _ (by omega), bT hj]; simp only [Option.bind_some]; rw [DF _ _ (by omega)]; unfold ZY; cases hasB (gq l full) (chainOf l [(gq l full)[i]])[j] <;> rfl
     intro k2 r2 _; unfold Nl Dv; rw [dP]
 intro k r _; unfold Np; rw [dP]
theorem JO (l : List ah) (full : List Int) : (Xh l full).length ≤ l.length :=
 jg (agW l full) fun x hx => by
  rcases (agV.1 hx).2 with h | h
  · unfold pI at h; rw [Bool.and_eq_true] at h; exact h.1
  exact h.dS
end Go.Proofs.YtelpgcaiadpjpaaGreat
end
section
namespace Go.Proofs.YtelpgcaiadpjpaaGreat
open Go.RowKit
def gI (l : List ah) (id : Int) : dV := ⟨id, Pj l (ev l id), (ev l id).Time, chainOf l [id]⟩
def XZ (l : List ah) (left : List Int) (x : Int) : Bool := !left.any fun y => hasB (chainOf l [x]) y
def Pm (a b : dV) : Bool := bif a.BA != b.BA then decide (a.BA > b.BA) else decide (a.vg < b.vg)
def jF (l : List ah) (left : List Int) (b : Option Int) (x : Int) : Option Int := bif XZ l left x && (match b with | none => true | some y => Pm (gI l x) (gI l y)) then some x else b
def Lu (l : List ah) (left : List Int) : Option Int := left.foldl (jF l left) none
def wI (l : List ah) : Nat → List Int → List Int
 | 0, _ => []
 | n + 1, left => match Lu l left with
   | none => []
   | some b => b :: wI l n (left.filter (· != b))
theorem Y4 (l : List ah) : ∀ ids : List Int, ids.flatMap (fun id => bif dS l id then [gI l id] else []) = (ids.filter (dS l)).map (gI l)
 | [] => rfl
 | i :: ids => by
   rw [List.flatMap_cons, Y4 l ids, List.filter_cons]; cases dS l i <;> simp
theorem acR (l : List ah) (ids : List Int) (hl : l.length ≤ 1000) (hs : fH l) (hi : ids.length ≤ 100000) : Ep l ids = some ((gq l ids).map (gI l)) := by
 unfold Ep; rw [vP ids (by omega)]; simp only [Option.bind_some]; have hsl := iY ids; unfold Si; rw [mQ (a0 := []) (gU ids) (by omega) (fun r id => r ++ bif dS l id then [gI l id] else []) (fun i r => r.length ≤ i) (fun r => some r) (Nat.le_refl _)]
 · rw [foldl_append (fun id => bif dS l id then [gI l id] else []), List.nil_append, Y4]; rfl
 · intro k r i h hI; refine ⟨?_, ?_⟩
   · cases dS l (gU ids)[i] <;> simp <;> omega
   unfold Dj yj; rw [dF h, kU l _ (by omega)]; simp only [Option.bind_some]; unfold dS; cases hg : iZ l (gU ids)[i] with
   | none => rw [yS hg]; simp
   | some e =>
     have he := hs e (uV hg); have hev : ev l (gU ids)[i] = e := by unfold ev; rw [oL hg]
     rw [oL hg]; simp only [cond_true, Option.isSome_some]; rw [abt l e hl hs he.auth, Jf l _ hl hs.XW (by simp)]; simp only [Option.bind_some]; rw [dD (by simp only [List.length_singleton]; omega)]; unfold gI; rw [hev]; rfl
 intro k r _; unfold Dj; rw [dP]
theorem abv {left : List Int} (hn : left.Nodup) {j : Nat} (hj : j < left.length) : left.take j ++ left.drop (j + 1) = left.filter (· != left[j]) := by
 have e : left = left.take j ++ left[j] :: left.drop (j + 1) := by rw [← List.drop_eq_getElem_cons hj, List.take_append_drop]
 have hn2 : (left.take j ++ left[j] :: left.drop (j + 1)).Nodup := by rw [← e]; exact hn
 have h1 := List.nodup_append.1 hn2; have h2 := List.nodup_cons.1 h1.2.1
 have g1 : (left.take j).filter (· != left[j]) = left.take j := List.filter_eq_self.2 fun x hx => by
  have := h1.2.2 x hx left[j] (List.mem_cons_self ..); simpa using this
 have g2 : (left.drop (j + 1)).filter (· != left[j]) = left.drop (j + 1) := List.filter_eq_self.2 fun x hx => by
  have : x ≠ left[j] := fun e => h2.1 (e ▸ hx); simpa using this
 have : (left.take j ++ left[j] :: left.drop (j + 1)).filter (· != left[j]) = left.take j ++ left.drop (j + 1) := by
  rw [List.filter_append, List.filter_cons, g1, g2]; simp
 rw [← e] at this; exact this.symm
theorem S9 {left : List Int} (hn : left.Nodup) {b : Int} (hb : b ∈ left) : (left.filter (· != b)).length + 1 = left.length := by
 obtain ⟨j, hj, rfl⟩ := List.getElem_of_mem hb; rw [← abv hn hj, List.length_append, List.length_take, List.length_drop]; omega
theorem akh {left : List Int} (h : Inc left) (b : Int) : uz left [b] = left.filter (· != b) := by
 unfold uz; rw [ae1 h]; congr 1; funext x; by_cases e : x = b
 · subst e; simp [hasB]
 simp [hasB, e]
theorem abw (l : List ah) (hl : l.length ≤ 1000) : ∀ (m : Nat) (left acc : List Int) (N : Nat), left.length = m → Inc left → (∀ x ∈ left, dS l x = true) → acc.length + left.length ≤ 1000000 → m < N → bn mP N (left.map (gI l)) acc = some (acc ++ wI l m left) := by
 intro m
 induction m with
 | zero =>
   intro left acc N hm hi hk hacc hN; obtain ⟨N, rfl⟩ : ∃ N', N = N' + 1 := ⟨N - 1, by omega⟩
   have : left = [] := List.eq_nil_of_length_eq_zero hm; subst this; show mP _ _ _ = _; unfold mP wI; simp
 | succ m ih =>
   intro left acc N hm hi hk hacc hN; obtain ⟨N, rfl⟩ : ∃ N', N = N' + 1 := ⟨N - 1, by omega⟩
   have hll := jg hi hk; refine dW.eq ?_; show dW (mP (bn mP N) _ _) _; have ih' := fun left' acc' h1 h2 h3 h4 => ih left' acc' N h1 h2 h3 h4 (by omega); generalize bn mP N = K at ih'; unfold mP; rw [show decide (((left.map (gI l)).length : Int) > 0) = true by rw [List.length_map]; simp; omega]; simp only [cond_true]; unfold Sl; refine Lr (body := Dk (left.map (gI l)) K) (fun m2 a b c => ∃ i : Nat, b = i ∧ i + m2 = left.length ∧ c = acc ∧ ((a = -1 ∧ (left.take i).foldl (jF l left) none = none) ∨ ∃ (j : Nat) (hj : j < left.length), a = (j : Int) ∧ (left.take i).foldl (jF l left) none = some left[j])) ?_ fuel left.length (-1) 0 acc (fuel_lt (by omega)) ⟨0, rfl, by omega, rfl, .inl ⟨rfl, rfl⟩⟩; rintro m2 a b c k ⟨i, rfl, hm2, rfl, hI⟩ hk2; unfold Dk; by_cases hlt : i < left.length
   · have hlt' : i < (left.map (gI l)).length := by rw [List.length_map]; exact hlt
     rw [dec_lt hlt', bT hlt', List.getElem_map]; simp only [cond_true, Option.bind_some]
     have hst : (left.take (i + 1)).foldl (jF l left) none = jF l left ((left.take i).foldl (jF l left) none) left[i] := by
      rw [List.take_succ_eq_append_getElem hlt, List.foldl_append]; rfl
     unfold Sj; have hc := qM l [left[i]]
     have hin : ∀ (k2 : Int → Int → List Int → Option (List Int)), bn (mO (left.map (gI l)) (gI l left[i]) k2 (i : Int) a) fuel 0 c = bif XZ l left left[i] then (bif decide (a < 0) then mM k2 (i : Int) a true c else (aY (left.map (gI l)) a).bind fun x27 => (qj (gI l left[i]) x27).bind fun x28 => mM k2 (i : Int) a x28 c) else oJ k2 (i : Int) a c := by
      intro k2
      have key : ∀ n (j : Nat), j + n = left.length → ∀ m, n < m → bn (mO (left.map (gI l)) (gI l left[i]) k2 (i : Int) a) m (j : Int) c = bif !(left.drop j).any (fun y => hasB (chainOf l [left[i]]) y) then (bif decide (a < 0) then mM k2 (i : Int) a true c else (aY (left.map (gI l)) a).bind fun x27 => (qj (gI l left[i]) x27).bind fun x28 => mM k2 (i : Int) a x28 c) else oJ k2 (i : Int) a c := by
       intro n
       induction n with
       | zero =>
         intro j hj m hm; obtain ⟨m, rfl⟩ : ∃ m', m = m' + 1 := ⟨m - 1, by omega⟩
         have : j = left.length := by omega
         subst this; show mO _ _ _ _ _ _ _ _ = _; unfold mO; rw [show decide ((left.length : Int) < ((left.map (gI l)).length : Int)) = false by rw [List.length_map]; exact jd _, List.drop_length]; rfl
       | succ n ihn =>
         intro j hj m hm; obtain ⟨m, rfl⟩ : ∃ m', m = m' + 1 := ⟨m - 1, by omega⟩
         have hjl : j < left.length := by omega
         have ar4 : j < (left.map (gI l)).length := by rw [List.length_map]; exact hjl
         have ihn' := ihn (j + 1) (by omega) m (by omega); show mO _ _ _ _ _ (bn _ m) _ _ = _; generalize bn (mO (left.map (gI l)) (gI l left[i]) k2 (i : Int) a) m = L at ihn'; unfold mO; rw [dF ar4, List.getElem_map]; show ((I7 (chainOf l [left[i]]) left[j]).bind _) = _; rw [abu _ _ (by omega), wrap_succ j (by omega), List.drop_eq_getElem_cons hjl, List.any_cons]; simp only [Option.bind_some]; cases hasB (chainOf l [left[i]]) left[j] with
         | true => rfl
         | false =>
           simp only [cond_false, Bool.false_or]; exact ihn'
      exact key left.length 0 (by omega) fuel (fuel_lt (by omega))
     rw [hin]; have hw := wrap_succ i (by omega); unfold mM oJ; rw [hw]; cases hfr : XZ l left left[i] with
     | false =>
       simp only [cond_false]; refine hk2 (m2 - 1) _ _ _ (by omega) ⟨i + 1, rfl, by omega, rfl, ?_⟩; have e : jF l left ((left.take i).foldl (jF l left) none) left[i] = (left.take i).foldl (jF l left) none := by unfold jF; rw [hfr]; rfl
       rw [hst, e]; exact hI
     | true =>
       simp only [cond_true]; rcases hI with ⟨rfl, h0⟩ | ⟨j, hj, rfl, h0⟩
       · rw [show decide ((-1 : Int) < 0) = true by decide]; simp only [cond_true]; refine hk2 (m2 - 1) _ _ _ (by omega) ⟨i + 1, rfl, by omega, rfl, .inr ⟨i, hlt, rfl, ?_⟩⟩; rw [hst, h0]; unfold jF; rw [hfr]; rfl
       have hj' : j < (left.map (gI l)).length := by rw [List.length_map]; exact hj
       rw [show decide ((j : Int) < 0) = false by simp, bT hj', List.getElem_map]; simp only [cond_false, Option.bind_some]
       have e1 : qj (gI l left[i]) (gI l left[j]) = some (Pm (gI l left[i]) (gI l left[j])) := by
        unfold qj Pm; cases (gI l left[i]).BA != (gI l left[j]).BA <;> rfl
       rw [e1]; simp only [Option.bind_some]; cases ha : Pm (gI l left[i]) (gI l left[j]) with
       | true =>
         simp only [cond_true]; refine hk2 (m2 - 1) _ _ _ (by omega) ⟨i + 1, rfl, by omega, rfl, .inr ⟨i, hlt, rfl, ?_⟩⟩; rw [hst, h0]; unfold jF; rw [hfr]; simp only [ha]; rfl
       | false =>
         simp only [cond_false]; refine hk2 (m2 - 1) _ _ _ (by omega) ⟨i + 1, rfl, by omega, rfl, .inr ⟨j, hj, rfl, ?_⟩⟩; rw [hst, h0]; unfold jF; rw [hfr]; simp only [ha]; rfl
   have hie : i = left.length := by omega
   subst hie; rw [show decide ((left.length : Int) < ((left.map (gI l)).length : Int)) = false by rw [List.length_map]; exact jd _]; simp only [cond_false]; rw [List.take_length] at hI; have hgoal : wI l (m + 1) left = match Lu l left with | none => [] | some b => b :: wI l m (left.filter (· != b)) := rfl
   rcases hI with ⟨rfl, h0⟩ | ⟨j, hj, rfl, h0⟩
   · rw [show decide ((-1 : Int) < 0) = true by decide]; refine .ret ?_; have h1 : Lu l left = none := h0; rw [hgoal, h1]; simp
   have hj' : j < (left.map (gI l)).length := by rw [List.length_map]; exact hj
   rw [show decide ((j : Int) < 0) = false by simp, bT hj', List.getElem_map]; simp only [cond_false, Option.bind_some]; have h1 : Lu l left = some left[j] := h0; rw [dD (by simp only [List.length_singleton]; omega)]; simp only [Option.bind_some]; rw [Ls (Nat.le_of_lt hj'), wrap_succ j (by omega), wH hj']; simp only [Option.bind_some]; rw [dD (by rw [List.length_take, List.length_drop, List.length_map]; omega)]; simp only [Option.bind_some]
   have e2 : (left.map (gI l)).take j ++ (left.map (gI l)).drop (j + 1) = (left.filter (· != left[j])).map (gI l) := by
    rw [← abv (CJ hi) hj, List.map_append, List.map_take, List.map_drop]
   rw [e2]; have hwl := S9 (CJ hi) (List.getElem_mem hj); rw [ih' (left.filter (· != left[j])) (c ++ [(gI l left[j]).rQ]) (by omega) (hi.sublist List.filter_sublist) (fun x hx => hk x ((List.mem_filter.1 hx).1)) (by simp only [List.length_append, List.length_singleton]; omega)]; refine .ret ?_; rw [hgoal, h1, List.append_assoc]; rfl
theorem acS (l : List ah) (ids : List Int) (hl : l.length ≤ 1000) (hs : fH l) (hi : ids.length ≤ 100000) : Et l ids = some (wI l (gq l ids).length (gq l ids)) := by
 have hkl : (gq l ids).length ≤ l.length := jg (zN l ids) fun x hx => (jY.1 hx).2; unfold Et; rw [acR l ids hl hs hi]; simp only [Option.bind_some]; unfold Sm; rw [abw l hl _ (gq l ids) [] fuel rfl (zN l ids) (fun x hx => (jY.1 hx).2) (by simp only [List.length_nil]; omega) (fuel_lt (by omega))]; rfl
theorem aiB (l : List ah) (left : List Int) (x : Int) (hl : l.length ≤ 1000) (hs : fH l) (hn : left.length ≤ 100000) : OD l left x = some (XZ l left x) := by
 unfold OD; rw [O7 l _ hl hs.XW (by simp)]; simp only [Option.bind_some]; have hc := qM l [x]; unfold YK; rw [scan (chainOf l [x]) (fuel_lt (by omega)) (fun y => hasB left y) false (some true)]
 · unfold XZ
   have e : (chainOf l [x]).any (fun y => hasB left y) = left.any fun y => hasB (chainOf l [x]) y := by
    rw [Bool.eq_iff_iff, List.any_eq_true, List.any_eq_true]; simp only [lC]; exact ⟨fun ⟨y, a, b⟩ => ⟨y, b, a⟩, fun ⟨y, a, b⟩ => ⟨y, b, a⟩⟩
   rw [e]; cases left.any fun y => hasB (chainOf l [x]) y <;> rfl
 · intro k i h; unfold JB; rw [dF h, wG _ _ (by omega)]; simp only [Option.bind_some]
 intro k; unfold JB; rw [dP]
theorem adz {R A B C D : Type} {Q : R → Prop} {body : (A → B → C → D → Option R) → A → B → C → D → Option R} (I : Nat → A → B → C → D → Prop) (hs : ∀ m a b c d k, I m a b c d → (∀ m' a' b' c' d', m' < m → I m' a' b' c' d' → dW (k a' b' c' d') Q) → dW (body k a b c d) Q) :
 ∀ n m a b c d, m < n → I m a b c d → dW (PL body n a b c d) Q
 | 0, m, _, _, _, _, h, _ => by omega
 | n + 1, m, a, b, c, d, h, hi => hs m a b c d _ hi fun m' a' b' c' d' h' hi' => adz I hs n m' a' b' c' d' (by omega) hi'
theorem Uy {l : List ah} {x : Int} (h : dS l x = true) : iZ l x = some (ev l x) ∧ (ev l x).Id = x := by
 unfold dS at h; obtain ⟨e, he⟩ := Option.isSome_iff_exists.1 h; have : ev l x = e := by unfold ev; rw [oL he]
 rw [this]; exact ⟨he, ai9 he⟩
theorem acT (l : List ah) (x y : Int) (hl : l.length ≤ 1000) (hs : fH l) (hx : dS l x = true) (hy : dS l y = true) (hlt : y < x) : EI l (ev l x) (ev l y) = some (Pm (gI l x) (gI l y)) := by
 obtain ⟨e1, i1⟩ := Uy hx; obtain ⟨e2, i2⟩ := Uy hy; unfold EI; rw [U0 l _ hl hs (hs _ (uV e1)).auth, U0 l _ hl hs (hs _ (uV e2)).auth]; simp only [Option.bind_some]; unfold Pm gI; simp only; cases Pj l (ev l x) != Pj l (ev l y) with
 | true => rfl
 | false =>
   simp only [cond_false]; rw [i1, i2]; by_cases ht : (ev l x).Time = (ev l y).Time
   · rw [ht]; simp; omega
   have : ((ev l x).Time != (ev l y).Time) = true := by simpa using ht
   rw [this]; rfl
theorem aeg (l : List ah) (hl : l.length ≤ 1000) (hs : fH l) : ∀ (m : Nat) (left acc : List Int) (N : Nat), left.length = m → Inc left → (∀ x ∈ left, dS l x = true) → acc.length + left.length ≤ 1000000 → m < N → bn (pK l) N left acc = some (acc ++ wI l m left) := by
 intro m
 induction m with
 | zero =>
   intro left acc N hm hi hk hacc hN; obtain ⟨N, rfl⟩ : ∃ N', N = N' + 1 := ⟨N - 1, by omega⟩
   have : left = [] := List.eq_nil_of_length_eq_zero hm; subst this; show pK _ _ _ _ = _; unfold pK wI; simp
 | succ m ih =>
   intro left acc N hm hi hk hacc hN; obtain ⟨N, rfl⟩ : ∃ N', N = N' + 1 := ⟨N - 1, by omega⟩
   have hll := jg hi hk; refine dW.eq ?_; show dW (pK l (bn (pK l) N) _ _) _; have ih' := fun left' acc' h1 h2 h3 h4 => ih left' acc' N h1 h2 h3 h4 (by omega); generalize bn (pK l) N = K at ih'; unfold pK; rw [show decide ((left.length : Int) > 0) = true by simp; omega]; simp only [cond_true]; unfold Wv; refine adz (body := Ht left l K) (fun m2 a b c d => ∃ i : Nat, b = i ∧ i + m2 = left.length ∧ c = acc ∧ ((a = false ∧ (left.take i).foldl (jF l left) none = none) ∨ ∃ (j : Nat) (hj : j < left.length), j < i ∧ a = true ∧ d = ev l left[j] ∧ (left.take i).foldl (jF l left) none = some left[j])) ?_ fuel left.length false 0 acc dh (fuel_lt (by omega)) ⟨0, rfl, by omega, rfl, .inl ⟨rfl, rfl⟩⟩; rintro m2 a b c d k ⟨i, rfl, hm2, rfl, hI⟩ hk2; unfold Ht; by_cases hlt : i < left.length
   · rw [dec_lt hlt, bT hlt]; simp only [cond_true, Option.bind_some]; rw [oq l _ (by omega)]; simp only [Option.bind_some]; rw [aiB l left _ hl hs (by omega)]; simp only [Option.bind_some]
     have hst : (left.take (i + 1)).foldl (jF l left) none = jF l left ((left.take i).foldl (jF l left) none) left[i] := by
      rw [List.take_succ_eq_append_getElem hlt, List.foldl_append]; rfl
     unfold Ci; rw [wrap_succ i (by omega)]; cases hfr : XZ l left left[i] with
     | false =>
       simp only [cond_false, Option.bind_some]; refine hk2 (m2 - 1) _ _ _ _ (by omega) ⟨i + 1, rfl, by omega, rfl, ?_⟩; have e : jF l left ((left.take i).foldl (jF l left) none) left[i] = (left.take i).foldl (jF l left) none := by unfold jF; rw [hfr]; rfl
       rw [hst, e]; rcases hI with h0 | ⟨j, hj, hji, h0⟩
       · exact .inl h0
       exact .inr ⟨j, hj, by omega, h0⟩
     | true =>
       simp only [cond_true]; rcases hI with ⟨rfl, h0⟩ | ⟨j, hj, hji, rfl, rfl, h0⟩
       · simp only [Bool.not_false, cond_true, Option.bind_some]; refine hk2 (m2 - 1) _ _ _ _ (by omega) ⟨i + 1, rfl, by omega, rfl, .inr ⟨i, hlt, by omega, rfl, rfl, ?_⟩⟩; rw [hst, h0]; unfold jF; rw [hfr]; rfl
       simp only [Bool.not_true, cond_false]; have hlt2 : left[j] < left[i] := List.pairwise_iff_getElem.1 hi j i hj hlt hji; have e1 := acT l left[i] left[j] hl hs (hk _ (List.getElem_mem hlt)) (hk _ (List.getElem_mem hj)) hlt2; rw [show (yI l left[i]).1 = ev l left[i] from rfl, e1]; simp only [Option.bind_some]; cases ha : Pm (gI l left[i]) (gI l left[j]) with
       | true =>
         simp only [cond_true]; refine hk2 (m2 - 1) _ _ _ _ (by omega) ⟨i + 1, rfl, by omega, rfl, .inr ⟨i, hlt, by omega, rfl, rfl, ?_⟩⟩; rw [hst, h0]; unfold jF; rw [hfr]; simp only [ha]; rfl
       | false =>
         simp only [cond_false]; refine hk2 (m2 - 1) _ _ _ _ (by omega) ⟨i + 1, rfl, by omega, rfl, .inr ⟨j, hj, by omega, rfl, rfl, ?_⟩⟩; rw [hst, h0]; unfold jF; rw [hfr]; simp only [ha]; rfl
   have hie : i = left.length := by omega
   subst hie; rw [jd]; simp only [cond_false]; rw [List.take_length] at hI; have hgoal : wI l (m + 1) left = match Lu l left with | none => [] | some b => b :: wI l m (left.filter (· != b)) := rfl
   rcases hI with ⟨rfl, h0⟩ | ⟨j, hj, hji, rfl, rfl, h0⟩
   · refine .ret ?_; have h1 : Lu l left = none := h0; rw [hgoal, h1]; simp
   simp only [Bool.not_true, cond_false]; have h1 : Lu l left = some left[j] := h0; have hid := (Uy (hk _ (List.getElem_mem hj))).2; rw [hid, dD (by simp only [List.length_singleton]; omega)]; simp only [Option.bind_some]; rw [Ij _ _ (by omega) (by simp), akh hi]; simp only [Option.bind_some]; have hwl := S9 (CJ hi) (List.getElem_mem hj); rw [ih' (left.filter (· != left[j])) (c ++ [left[j]]) (by omega) (hi.sublist List.filter_sublist) (fun x hx => hk x ((List.mem_filter.1 hx).1)) (by simp only [List.length_append, List.length_singleton]; omega)]; refine .ret ?_; rw [hgoal, h1, List.append_assoc]; rfl
theorem agY (l : List ah) (ids : List Int) (hl : l.length ≤ 1000) (hs : fH l) (hi : ids.length ≤ 100000) : KJ l ids = some (wI l (gq l ids).length (gq l ids)) := by
 have hkl : (gq l ids).length ≤ l.length := jg (zN l ids) fun x hx => (jY.1 hx).2; unfold KJ; rw [WY l ids hl hi]; simp only [Option.bind_some]; unfold Wx; rw [aeg l hl hs _ (gq l ids) [] fuel rfl (zN l ids) (fun x hx => (jY.1 hx).2) (by simp only [List.length_nil]; omega) (fuel_lt (by omega))]; rfl
theorem U2 (l : List ah) : ∀ (n : Nat) (left : List Int), (wI l n left).length ≤ n
 | 0, _ => Nat.le_refl _
 | n + 1, left => by
   unfold wI; cases Lu l left with
   | none => exact Nat.zero_le _
   | some b => have := U2 l n (left.filter (· != b)); simp only [List.length_cons]; omega
end Go.Proofs.YtelpgcaiadpjpaaGreat
end
section
namespace Go.Proofs.YtelpgcaiadpjpaaGreat
open Go.RowKit
def vS (l : List ah) (e : ah) : Option Int := e.eF.find? fun id => dS l id && (ev l id).Kind == 3
def Pn (l : List ah) (e : ah) : Int × Bool := match vS l e with | some x => (x, true) | none => (0, false)
theorem MV (l : List ah) (e : ah) (hl : l.length ≤ 1000) (he : e.eF.length ≤ 40) : uj l e = some (Pn l e) := by
 unfold uj MK; rw [wM e.eF (fuel_lt (by omega)) (fun id => dS l id && (ev l id).Kind == 3) (fun i => some (match e.eF[i]? with | some x => (x, true) | none => (0, false))) (some (0, false))]
 · unfold Pn vS; rw [lg]; by_cases h : e.eF.findIdx (fun id => dS l id && (ev l id).Kind == 3) < e.eF.length
   · rw [if_pos h]
   rw [if_neg h, List.getElem?_eq_none (by omega)]
 · intro k i h; unfold wV; rw [dF h, kU l _ (by omega), List.getElem?_eq_getElem h]; simp only [Option.bind_some]; unfold dS ev; rw [yJ]; cases (iZ l e.eF[i]).isSome <;> rfl
 intro k; unfold wV; rw [dP]
theorem agZ (l : List ah) (e : ah) (hl : l.length ≤ 1000) (he : e.eF.length ≤ 40) : KR l e = some (Pn l e) := by
 unfold KR WM; rw [wM e.eF (fuel_lt (by omega)) (fun id => dS l id && (ev l id).Kind == 3) (fun i => some (match e.eF[i]? with | some x => (x, true) | none => (0, false))) (some (0, false))]
 · unfold Pn vS; rw [lg]; by_cases h : e.eF.findIdx (fun id => dS l id && (ev l id).Kind == 3) < e.eF.length
   · rw [if_pos h]
   rw [if_neg h, List.getElem?_eq_none (by omega)]
 · intro k i h; unfold H9; rw [dF h, oq l _ (by omega), List.getElem?_eq_getElem h, bT h]; simp only [Option.bind_some]; unfold dS ev; rw [yJ]; cases (iZ l e.eF[i]).isSome <;> rfl
 intro k; unfold H9; rw [dP]
def DY (l : List ah) : Nat → List Int → Int → List Int
 | 0, seen, _ => seen
 | n + 1, seen, id => bif hasB seen id || !dS l id then seen else match vS l (ev l id) with
   | none => seen ++ [id]
   | some x => DY l n (seen ++ [id]) x
def X0 (l : List ah) (id : Int) : List Int := DY l l.length [] id
structure Nu (l : List ah) (seen : List Int) : Prop where
 nodup : seen.Nodup
 known : ∀ x ∈ seen, dS l x = true
theorem Nu.length {l : List ah} {seen : List Int} (h : Nu l seen) : seen.length ≤ l.length := by
 rw [← (sV seen).length_eq, adx h.nodup]; exact jg (lq _) fun x hx => h.known x (lU.1 hx)
theorem Nu.snoc {l : List ah} {seen : List Int} (h : Nu l seen) {id : Int} (h1 : id ∉ seen) (h2 : dS l id = true) : Nu l (seen ++ [id]) := by
 refine ⟨List.nodup_append.2 ⟨h.nodup, by simp, fun a ha b hb => ?_⟩, fun x hx => ?_⟩
 · rw [List.mem_singleton.1 hb]; exact fun e => h1 (e ▸ ha)
 rcases List.mem_append.1 hx with hx | hx
 · exact h.known x hx
 rw [List.mem_singleton.1 hx]; exact h2
theorem aja (l : List ah) : ∀ (n : Nat) (seen : List Int) (id : Int), Nu l seen → Nu l (DY l n seen id)
 | 0, _, _, h => h
 | n + 1, seen, id, h => by
   unfold DY; cases hc : hasB seen id || !dS l id with
   | true => exact h
   | false =>
     rw [Bool.or_eq_false_iff, kK] at hc; have h2 := h.snoc hc.1 (by simpa using hc.2); simp only [cond_false]; cases vS l (ev l id) with
     | none => exact h2
     | some x => exact aja l n _ x h2
theorem Y5 (l : List ah) : ∀ (n : Nat) (seen : List Int) (id : Int), ∃ t, DY l n seen id = seen ++ t
 | 0, seen, _ => ⟨[], by simp [DY]⟩
 | n + 1, seen, id => by
   unfold DY; cases hasB seen id || !dS l id with
   | true => exact ⟨[], by simp⟩
   | false =>
     simp only [cond_false]; cases vS l (ev l id) with
     | none => exact ⟨[id], rfl⟩
     | some x =>
       obtain ⟨t, ht⟩ := Y5 l n (seen ++ [id]) x; exact ⟨id :: t, by simp only [ht, List.append_assoc]; rfl⟩
theorem Xi (l : List ah) (id : Int) : (X0 l id).length ≤ l.length := (aja l _ [] id ⟨List.nodup_nil, fun x hx => absurd hx List.not_mem_nil⟩).length
theorem am1 (l : List ah) (hl : l.length ≤ 1000) (hs : fH l) (v8 v9 : List Int) : ∀ (m : Nat) (seen : List Int) (id : Int) (N : Nat), seen.length + m = l.length → Nu l seen → m < N → zf mJ N seen seen v8 v9 id l = some (DY l m seen id) := by
 intro m
 induction m with
 | zero =>
   intro seen id N hm hw hN; obtain ⟨N, rfl⟩ : ∃ N', N = N' + 1 := ⟨N - 1, by omega⟩
   have hwl := hw.length; show mJ _ _ _ _ _ _ _ = _; unfold mJ; rw [rH _ _ (by omega), kU l _ (by omega)]; simp only [Option.bind_some]; rw [yJ]; cases hh : hasB seen id with
   | true => rfl
   | false =>
     cases hk : (iZ l id).isSome with
     | false => rfl
     | true =>
       have h2 := (hw.snoc (kK.1 hh) hk).length; simp only [List.length_append, List.length_singleton] at h2; omega
 | succ m ih =>
   intro seen id N hm hw hN; obtain ⟨N, rfl⟩ : ∃ N', N = N' + 1 := ⟨N - 1, by omega⟩
   have hwl := hw.length; show mJ (zf mJ N) _ _ _ _ _ _ = _; have ih' := fun seen' id' h1 h2 => ih seen' id' N h1 h2 (by omega); generalize zf mJ N = K at ih'; unfold mJ DY; rw [rH _ _ (by omega), kU l _ (by omega)]; simp only [Option.bind_some]; rw [yJ]; cases hh : hasB seen id with
   | true => rfl
   | false =>
     cases hk : (iZ l id).isSome with
     | false => rw [show dS l id = false from hk]; rfl
     | true =>
       obtain ⟨e, he⟩ := Option.isSome_iff_exists.1 hk; rw [show dS l id = true from hk]; simp only [Bool.not_false, Bool.not_true, Bool.or_false, cond_true, cond_false]; rw [dD (by simp only [List.length_singleton]; omega)]; simp only [Option.bind_some]; unfold yg; simp only [cond_false]; rw [dD (by simp only [List.length_singleton]; omega)]; simp only [Option.bind_some]; have hev : (yI l id).1 = ev l id := rfl
       have hea : (ev l id).eF.length ≤ 40 := by
        have : ev l id = e := by unfold ev; rw [oL he]
        rw [this]; exact (hs e (uV he)).auth
       rw [hev, MV l _ hl hea]; simp only [Option.bind_some]; unfold Pn; cases vS l (ev l id) with
       | none => rfl
       | some x => exact ih' (seen ++ [id]) x (by simp only [List.length_append, List.length_singleton]; omega) (hw.snoc (kK.1 hh) hk)
theorem acU (l : List ah) (id : Int) (hl : l.length ≤ 1000) (hs : fH l) : Eo l id = some (X0 l id) := by
 unfold Eo xZ RZ; exact am1 l hl hs [] [] l.length [] id fuel (by simp) ⟨List.nodup_nil, fun x hx => absurd hx List.not_mem_nil⟩ (fuel_lt (by omega))
theorem alQ (l : List ah) (hl : l.length ≤ 1000) (hs : fH l) : ∀ (m : Nat) (seen : List Int) (id : Int) (i N : Nat), i + m = l.length → seen.length ≤ i → m < N → jy (wF l) N seen id (i : Int) = some (DY l m seen id) := by
 intro m
 induction m with
 | zero =>
   intro seen id i N hm hw hN; obtain ⟨N, rfl⟩ : ∃ N', N = N' + 1 := ⟨N - 1, by omega⟩
   have : i = l.length := by omega
   subst this; show wF _ _ _ _ _ = _; unfold wF; rw [jd]; rfl
 | succ m ih =>
   intro seen id i N hm hw hN; obtain ⟨N, rfl⟩ : ∃ N', N = N' + 1 := ⟨N - 1, by omega⟩
   show wF _ (jy (wF l) N) _ _ _ = _; have ih' := fun seen' id' i' h1 h2 => ih seen' id' i' N h1 h2 (by omega); generalize jy (wF l) N = K at ih'; unfold wF DY; rw [dec_lt (by omega), oq l _ (by omega), wG _ _ (by omega)]; simp only [cond_true, Option.bind_some]; rw [yJ]; cases hk : (iZ l id).isSome with
   | false => rw [show dS l id = false from hk]; cases hasB seen id <;> rfl
   | true =>
     rw [show dS l id = true from hk]; cases hh : hasB seen id with
     | true => rfl
     | false =>
       obtain ⟨e, he⟩ := Option.isSome_iff_exists.1 hk; simp only [Bool.not_true, Bool.or_false, cond_false, Option.bind_some]; rw [dD (by simp only [List.length_singleton]; omega)]; simp only [Option.bind_some]; have hev : (yI l id).1 = ev l id := rfl
       have hea : (ev l id).eF.length ≤ 40 := by
        have : ev l id = e := by unfold ev; rw [oL he]
        rw [this]; exact (hs e (uV he)).auth
       rw [hev, agZ l _ hl hea, wrap_succ i (by omega)]; simp only [Option.bind_some]; unfold Pn; cases vS l (ev l id) with
       | none => rfl
       | some x => exact ih' (seen ++ [id]) x (i + 1) (by omega) (by simp only [List.length_append, List.length_singleton]; omega)
theorem adA (l : List ah) (id : Int) (hl : l.length ≤ 1000) (hs : fH l) : SI l id = some (X0 l id) := by
 unfold SI adr; exact alQ l hl hs l.length [] id 0 fuel (by simp) (Nat.le_refl _) (fuel_lt (by omega))
def Po (main way : List Int) : Int := match way.find? (hasB main) with | some x => ((main.findIdx (· == x) : Nat) : Int) | none => (main.length : Int)
def jV (l : List ah) (main : List Int) (id : Int) : Int := Po main (X0 l id)
theorem am2 (l : List ah) (main : List Int) (hl : l.length ≤ 1000) (hs : fH l) (hm : main.length ≤ 100000) : ∀ (m : Nat) (seen : List Int) (z id : Int) (N : Nat), seen.length + m = l.length → Nu l seen → seen.find? (hasB main) = none → m < N → CX jm N seen main z id l = some (Po main (DY l m seen id)) := by
 have hnone : ∀ seen : List Int, seen.find? (hasB main) = none → Po main seen = (main.length : Int) := fun seen h => by unfold Po; rw [h]
 intro m
 induction m with
 | zero =>
   intro seen z id N hm hw hf hN; obtain ⟨N, rfl⟩ : ∃ N', N = N' + 1 := ⟨N - 1, by omega⟩
   have hwl := hw.length; show jm _ _ _ _ _ _ = _; unfold jm; rw [rH _ _ (by omega), kU l _ (by omega)]; simp only [Option.bind_some]; rw [yJ]; have he : Po main (DY l 0 seen id) = (main.length : Int) := hnone seen hf; rw [he]; cases hh : hasB seen id with
   | true => rfl
   | false =>
     cases hk : (iZ l id).isSome with
     | false => rfl
     | true =>
       have h2 := (hw.snoc (kK.1 hh) hk).length; simp only [List.length_append, List.length_singleton] at h2; omega
 | succ m ih =>
   intro seen z id N hm hw hf hN; obtain ⟨N, rfl⟩ : ∃ N', N = N' + 1 := ⟨N - 1, by omega⟩
   have hwl := hw.length; show jm (CX jm N) _ _ _ _ _ = _; have ih' := fun seen' z' id' h1 h2 h3 => ih seen' z' id' N h1 h2 h3 (by omega); generalize CX jm N = K at ih'; unfold jm nO; rw [rH _ _ (by omega), kU l _ (by omega), Qx _ _ (by omega)]; simp only [Option.bind_some]; rw [yJ]; have hun : DY l (m + 1) seen id = bif hasB seen id || !dS l id then seen else match vS l (ev l id) with | none => seen ++ [id] | some x => DY l m (seen ++ [id]) x := rfl
   cases hh : hasB seen id with
   | true => rw [hun, hh]; simp only [Bool.true_or, cond_true, Bool.not_true, cond_false]; rw [hnone seen hf]
   | false =>
     cases hk : (iZ l id).isSome with
     | false => rw [hun, hh, show dS l id = false from hk]; simp only [Bool.false_or, Bool.not_false, cond_true]; rw [hnone seen hf]
     | true =>
       obtain ⟨e, he⟩ := Option.isSome_iff_exists.1 hk; rw [hun, hh, show dS l id = true from hk]; simp only [Bool.not_false, Bool.not_true, Bool.or_false, cond_true, cond_false]; have hfx := Y3 main id; by_cases hlt : main.findIdx (· == id) < main.length
       · rw [if_pos hlt, show decide (((main.findIdx (· == id) : Nat) : Int) ≥ 0) = true by simp]; simp only [cond_true]; rw [decide_eq_true hlt] at hfx
         have hex : ∃ t, (match vS l (ev l id) with | none => seen ++ [id] | some x => DY l m (seen ++ [id]) x) = seen ++ [id] ++ t := by
          cases vS l (ev l id) with
          | none => exact ⟨[], by simp⟩
          | some x => exact Y5 l m (seen ++ [id]) x
         obtain ⟨t, ht⟩ := hex; rw [ht]; unfold Po; rw [List.find?_append, List.find?_append, hf]; simp [← hfx]
       rw [if_neg hlt, show decide ((-1 : Int) ≥ 0) = false by decide]; simp only [cond_false]; rw [decide_eq_false hlt] at hfx; rw [dD (by simp only [List.length_singleton]; omega)]; simp only [Option.bind_some]; have hev : (yI l id).1 = ev l id := rfl
       have hea : (ev l id).eF.length ≤ 40 := by
        have : ev l id = e := by unfold ev; rw [oL he]
        rw [this]; exact (hs e (uV he)).auth
       have hf2 : (seen ++ [id]).find? (hasB main) = none := by rw [List.find?_append, hf]; simp [← hfx]
       rw [hev, MV l _ hl hea]; simp only [Option.bind_some]; unfold Pn; cases vS l (ev l id) with
       | none => simp only [Bool.not_false, cond_true]; rw [hnone _ hf2]
       | some x => exact ih' (seen ++ [id]) z x (by simp only [List.length_append, List.length_singleton]; omega) (hw.snoc (kK.1 hh) hk) hf2
theorem Vj (l : List ah) (main : List Int) (id : Int) (hl : l.length ≤ 1000) (hs : fH l) (hm : main.length ≤ 100000) : uS l main id = some (jV l main id) := by
 unfold uS xZ IQ; exact am2 l main hl hs hm l.length [] 0 id fuel (by simp) ⟨List.nodup_nil, fun x hx => absurd hx List.not_mem_nil⟩ rfl (fuel_lt (by omega))
theorem ag0 (l : List Int) (x : Int) (h : l.length ≤ 100000) : KT l x = some ((l.findIdx (· == x) : Nat) : Int) := by
 unfold KT WO; rw [wM l (fuel_lt (by omega)) (· == x) (fun i => some (i : Int)) (some (l.length : Int))]
 · split
   · rfl
   rename_i h; have : l.findIdx (· == x) ≤ l.length := List.findIdx_le_length; congr 2; omega
 · intro k i hi; unfold Ia; rw [dF hi]
 intro k; unfold Ia; rw [dP]
theorem Tc (l : List ah) (main : List Int) (id : Int) (hl : l.length ≤ 1000) (hs : fH l) (hm : main.length ≤ 100000) : Az l main id = some (jV l main id) := by
 unfold Az; rw [adA l id hl hs]; simp only [Option.bind_some]; have hw := Xi l id; unfold SK jV Po; generalize X0 l id = W at hw; rw [wM W (fuel_lt (by omega)) (hasB main) (fun i => some (match W[i]? with | some x => ((main.findIdx (· == x) : Nat) : Int) | none => 0)) (some (main.length : Int))]
 · rw [lg]; by_cases h : W.findIdx (hasB main) < W.length
   · rw [if_pos h, List.getElem?_eq_getElem h]
   rw [if_neg h, List.getElem?_eq_none (by omega)]
 · intro k i h; unfold Dz; rw [dF h, wG _ _ (by omega), bT h, List.getElem?_eq_getElem h]; simp only [Option.bind_some]; rw [ag0 _ _ hm]; rfl
 intro k; unfold Dz; rw [dP]
def fA (l : List ah) (main : List Int) (id : Int) : cO := ⟨id, jV l main id, (ev l id).Time⟩
def abx (x : cO) : Int × Int × Int := (x.rQ, x.su, x.vg)
def leI (x y : cO) : Bool := D9 (abx x) (abx y)
def LC (l : List ah) (main ids : List Int) : List Int := (xH leI ((ids.filter (dS l)).map (fA l main))).map (·.rQ)
theorem Y6 (l : List ah) (main : List Int) : ∀ ids : List Int, ids.flatMap (fun id => bif dS l id then [fA l main id] else []) = (ids.filter (dS l)).map (fA l main)
 | [] => rfl
 | i :: ids => by
   rw [List.flatMap_cons, Y6 l main ids, List.filter_cons]; cases dS l i <;> simp
theorem Z5 (s : List cO) (hs : s.length ≤ 1000000) (hn : (s.map (·.rQ)).Nodup) : gB s = some s := by
 unfold gB; by_cases h2 : s.length < 2
 · rw [show decide ((s.length : Int) < 2) = true by simp; omega]; rfl
 rw [show decide ((s.length : Int) < 2) = false by simp; omega]; simp only [cond_false]; unfold oK; refine dW.eq ?_; refine Ko (body := iQ) (fun m a b => ∃ i : Nat, a = i ∧ i + m = s.length ∧ 0 < i ∧ b = s) ?_ fuel (s.length - 1) 1 s (fuel_lt (by omega)) ⟨1, rfl, by omega, by omega, rfl⟩; rintro m a b k ⟨i, rfl, hm, hi, rfl⟩ hk; unfold iQ; by_cases hlt : i < b.length
 · rw [dec_lt hlt, bT hlt]; simp only [cond_true, Option.bind_some]; have w : IntKind.i64.wrap ((i : Int) - 1) = ((i - 1 : Nat) : Int) := by rw [IntKind.wrap_i64]; omega
   have hlt1 : i - 1 < b.length := by omega
   rw [w, bT hlt1]; simp only [Option.bind_some]
   have hne : b[i].rQ ≠ b[i - 1].rQ := by
    have := List.pairwise_iff_getElem.1 hn (i - 1) i (by rw [List.length_map]; omega) (by rw [List.length_map]; omega) (by omega); simp only [List.getElem_map] at this; exact fun e => this e.symm
   have hq : zU b[i] b[i - 1] = false := by
    unfold zU; rw [show (b[i].rQ == b[i - 1].rQ) = false by simpa using hne]; rfl
   rw [hq, wrap_succ i (by omega)]; exact hk (m - 1) _ _ (by omega) ⟨i + 1, rfl, by omega, by omega, rfl⟩
 have : i = b.length := by omega
 subst this; rw [jd]; exact .ret rfl
theorem adB (l : List ah) (main : List Int) (ids : List Int) : (ids.map (fA l main)).map (·.rQ) = ids := by
 rw [List.map_map]; exact List.map_id' ids
theorem Yu (l : List ah) (main ids : List Int) (hl : l.length ≤ 1000) (hs : fH l) (hm : main.length ≤ 100000) (hi : ids.length ≤ 100000) (hn : ids.Nodup) : yw l main ids = some (LC l main ids) := by
 unfold yw MN; rw [mQ (a0 := []) ids (by omega) (fun r id => r ++ bif dS l id then [fA l main id] else []) (fun i r => r.length ≤ i) (fun v1 => (iG v1).bind fun x12 => (gB x12).bind fun fQ => DU fQ [] 0) (Nat.le_refl _)]
 · rw [foldl_append (fun id => bif dS l id then [fA l main id] else []), List.nil_append, Y6]; have hfl := List.length_filter_le (dS l) ids; have hil : ((ids.filter (dS l)).map (fA l main)).length ≤ 100000 := by rw [List.length_map]; omega
   unfold iG PX; rw [if_pos (by omega)]; simp only [Option.bind_some]; have e : (xH (fun x y : cO => D9 (x.rQ, x.su, x.vg) (y.rQ, y.su, y.vg)) ((ids.filter (dS l)).map (fA l main))) = xH leI ((ids.filter (dS l)).map (fA l main)) := rfl; rw [e]; unfold LC; have hp := D8 leI ((ids.filter (dS l)).map (fA l main))
   have hnd : ((xH leI ((ids.filter (dS l)).map (fA l main))).map (·.rQ)).Nodup := by
    rw [(hp.map (·.rQ)).nodup_iff, adB]; exact hn.sublist List.filter_sublist
   have hsl : (xH leI ((ids.filter (dS l)).map (fA l main))).length ≤ 100000 := by rw [hp.length_eq]; exact hil
   generalize xH leI ((ids.filter (dS l)).map (fA l main)) = S at hnd hsl; rw [Z5 S (by omega) hnd]; simp only [Option.bind_some]; unfold DU; rw [mQ (a0 := []) S (by omega) (fun r x => r ++ [x.rQ]) (fun i r => r.length ≤ i) (fun r => some r) (Nat.le_refl _)]
   · rw [foldl_append (fun x : cO => [x.rQ]), List.nil_append]; congr 1; clear hnd hsl
     induction S with
     | nil => rfl
     | cons x S ih => rw [List.flatMap_cons, ih]; rfl
   · intro k r i h hI; refine ⟨by rw [List.length_append]; simp only [List.length_singleton]; omega, ?_⟩; unfold wW; rw [dF h, dD (by simp only [List.length_singleton]; omega)]; rfl
   intro k r _; unfold wW; rw [dP]
 · intro k r i h hI; refine ⟨?_, ?_⟩
   · cases dS l ids[i] <;> simp <;> omega
   unfold wX sS; rw [dF h, kU l _ (by omega)]; simp only [Option.bind_some]; rw [yJ, Vj l main _ hl hs hm]; simp only [Option.bind_some]; rw [dD (by simp only [List.length_singleton]; omega)]; unfold dS; cases (iZ l ids[i]).isSome with
   | true => rfl
   | false => simp
 intro k r _; unfold wX; rw [dP]
theorem ag1 (l : List ah) (main : List Int) (a b : Int) (hl : l.length ≤ 1000) (hs : fH l) (hm : main.length ≤ 100000) : KU l main a b = some (!leI (fA l main b) (fA l main a)) := by
 unfold KU; rw [Tc l main a hl hs hm, Tc l main b hl hs hm, oq l a (by omega), oq l b (by omega)]; simp only [Option.bind_some]
 have hnot : (!leI (fA l main b) (fA l main a)) = decide (jV l main b < jV l main a ∨ jV l main a = jV l main b ∧ ((ev l a).Time < (ev l b).Time ∨ (ev l a).Time = (ev l b).Time ∧ a < b)) := by
  rw [Bool.eq_iff_iff, Bool.not_eq_true', decide_eq_true_eq]; exact aiZ (abx (fA l main b)) (abx (fA l main a))
 rw [hnot]; show (bif jV l main a != jV l main b then some (decide (jV l main a > jV l main b)) else bif (ev l a).Time != (ev l b).Time then some (decide ((ev l a).Time < (ev l b).Time)) else some (decide (a < b))) = _; by_cases h1 : jV l main a = jV l main b
 · rw [show (jV l main a != jV l main b) = false by simp [h1]]; simp only [cond_false]; by_cases h2 : (ev l a).Time = (ev l b).Time
   · rw [show ((ev l a).Time != (ev l b).Time) = false by simp [h2]]; simp only [cond_false]; congr 1; rw [decide_eq_decide]; constructor
     · intro h; exact .inr ⟨h1, .inr ⟨h2, h⟩⟩
     rintro (h | ⟨_, h | ⟨_, h⟩⟩)
     · omega
     · omega
     exact h
   rw [show ((ev l a).Time != (ev l b).Time) = true by simp [h2]]; simp only [cond_true]; congr 1; rw [decide_eq_decide]; constructor
   · intro h; exact .inr ⟨h1, .inl h⟩
   rintro (h | ⟨_, h | ⟨h, _⟩⟩)
   · omega
   · exact h
   exact absurd h h2
 rw [show (jV l main a != jV l main b) = true by simp [h1]]; simp only [cond_true]; congr 1; rw [decide_eq_decide]; constructor
 · intro h; exact .inl h
 rintro (h | ⟨h, _⟩)
 · exact h
 exact absurd h h1
theorem Xj (x y z : cO) (h : leI x y = true) (k : leI y z = true) : leI x z = true := VG _ _ _ h k
theorem adC (x y : cO) (h : leI x y = false) : leI y x = true := adk _ _ h
theorem am3 (x y : cO) (h : leI x y = true) (k : leI y x = true) : x = y := by
 have := afh _ _ h k; unfold abx at this; cases x; cases y; simp only [Prod.mk.injEq] at this; obtain ⟨a, b, c⟩ := this; subst a b c; rfl
def Xk (l : List ah) (main : List Int) (out : List Int) (x : Int) : List Int := out.take (out.findIdx fun a => leI (fA l main x) (fA l main a)) ++ x :: out.drop (out.findIdx fun a => leI (fA l main x) (fA l main a))
theorem adD (l : List ah) (main out : List Int) (x : Int) : (Xk l main out x).Perm (x :: out) := by
 unfold Xk; refine List.perm_middle.trans ?_; rw [List.take_append_drop]
theorem aiC (l : List ah) (main out : List Int) (x : Int) (h : out.Pairwise fun a b => leI (fA l main a) (fA l main b) = true) : (Xk l main out x).Pairwise fun a b => leI (fA l main a) (fA l main b) = true := by
 unfold Xk
 have hb : ∀ a ∈ out.take (out.findIdx fun a => leI (fA l main x) (fA l main a)), leI (fA l main a) (fA l main x) = true := by
  intro a ha; obtain ⟨i, hi, rfl⟩ := List.getElem_of_mem ha; have hi' : i < out.findIdx fun a => leI (fA l main x) (fA l main a) := by simp at hi; omega
  have := List.not_of_lt_findIdx hi'; rw [List.getElem_take]; exact adC _ _ (by simpa using this)
 have ha : ∀ d ∈ out.drop (out.findIdx fun a => leI (fA l main x) (fA l main a)), leI (fA l main x) (fA l main d) = true := by
  intro d hd; obtain ⟨i, hi, rfl⟩ := List.getElem_of_mem hd; rw [List.length_drop] at hi; have hlt : (out.findIdx fun a => leI (fA l main x) (fA l main a)) < out.length := by omega
  have h0 := List.findIdx_getElem (w := hlt); rw [List.getElem_drop]; rcases Nat.eq_zero_or_pos i with rfl | hp
  · simpa using h0
  exact Xj _ _ _ h0 (List.pairwise_iff_getElem.1 h _ _ hlt (by omega) (by omega))
 refine List.pairwise_append.2 ⟨h.sublist (List.take_sublist _ _), List.pairwise_cons.2 ⟨ha, h.sublist (List.drop_sublist _ _)⟩, fun a h1 b h2 => ?_⟩; rcases List.mem_cons.1 h2 with rfl | h2
 · exact hb a h1
 exact Xj _ _ _ (hb a h1) (ha b h2)
def Qy (l : List ah) (main : List Int) (out : List Int) (x : Int) : List Int := bif dS l x then Xk l main out x else out
theorem aiD (l : List ah) (main ids : List Int) : ids.foldl (Qy l main) [] = LC l main ids := by
 have key : ∀ (ids out : List Int), out.Pairwise (fun a b => leI (fA l main a) (fA l main b) = true) → (ids.foldl (Qy l main) out).Pairwise (fun a b => leI (fA l main a) (fA l main b) = true) ∧ (ids.foldl (Qy l main) out).Perm (ids.filter (dS l) ++ out) := by
  intro ids
  induction ids with
  | nil => intro out h; exact ⟨h, .refl _⟩
  | cons x ids ih =>
    intro out h; rw [List.foldl_cons, List.filter_cons]; unfold Qy; cases dS l x with
    | false => exact ih out h
    | true =>
      obtain ⟨h1, h2⟩ := ih (Xk l main out x) (aiC l main out x h); refine ⟨h1, h2.trans ?_⟩; simp only [if_true, List.cons_append]; exact ((adD l main out x).append_left _).trans List.perm_middle
 obtain ⟨h1, h2⟩ := key ids [] .nil; rw [List.append_nil] at h2; unfold LC
 have h3 : (ids.foldl (Qy l main) []).map (fA l main) = xH leI ((ids.filter (dS l)).map (fA l main)) :=
  YC Xj adC am3 (h2.map _) (List.pairwise_map.2 h1)
 rw [← h3, adB]
theorem ag2 (l : List ah) (main ids : List Int) (hl : l.length ≤ 1000) (hs : fH l) (hm : main.length ≤ 100000) (hi : ids.length ≤ 100000) (hn : ids.Nodup) : KW l main ids = some (LC l main ids) := by
 unfold KW WT; rw [mQ (a0 := []) ids (by omega) (Qy l main) (fun i r => r.length ≤ i ∧ ∀ x ∈ r, x ∈ ids.take i) (fun r => some r) ⟨Nat.le_refl _, fun x hx => absurd hx List.not_mem_nil⟩]
 · rw [aiD]
 · intro k r i h ⟨hI, hI2⟩; have htake : ids.take (i + 1) = ids.take i ++ [ids[i]] := List.take_succ_eq_append_getElem h
   have hno : hasB r ids[i] = false := kK.2 fun hm => by
    obtain ⟨j, hj, e⟩ := List.getElem_of_mem (hI2 _ hm); rw [List.getElem_take] at e; rw [List.length_take] at hj; exact List.pairwise_iff_getElem.1 hn j i (by omega) h (by omega) e
   refine ⟨?_, ?_⟩
   · unfold Qy; cases dS l ids[i] with
     | false => exact ⟨by show r.length ≤ i + 1; omega, fun x hx => by rw [htake]; exact List.mem_append_left _ (hI2 x hx)⟩
     | true =>
       have hp := adD l main r ids[i]; refine ⟨?_, fun x hx => ?_⟩
       · show (Xk l main r ids[i]).length ≤ i + 1; rw [hp.length_eq, List.length_cons]; omega
       rw [htake]; rcases List.mem_cons.1 (hp.mem_iff.1 hx) with rfl | hx
       · exact List.mem_append_right _ (List.mem_singleton.2 rfl)
       exact List.mem_append_left _ (hI2 x hx)
   unfold Ic yG; rw [dF h, oq l _ (by omega), bT h]; simp only [Option.bind_some]; rw [wG _ _ (by omega), hno, yJ]; unfold Qy dS; cases (iZ l ids[i]).isSome with
   | false => rfl
   | true =>
     simp only [Bool.not_true, cond_false, Option.bind_some, cond_true]; unfold WS
     have hfin : ∀ (k2 : Int → Option (List Int)) (j : Nat), j ≤ r.length → yH k2 (j : Int) r ids (i : Int) k false = k (r.take j ++ ids[i] :: r.drop j) (IntKind.i64.wrap ((i : Int) + 1)) := by
      intro k2 j hj; unfold yH yG; simp only [cond_false]; rw [wH hj]; simp only [Option.bind_some]; rw [dD (by simp; omega)]; simp only [Option.bind_some, List.nil_append]; rw [Ls hj, bT h]; simp only [Option.bind_some]; rw [dD (by simp; omega)]; simp only [Option.bind_some]; rw [dD (by simp; omega)]; simp
     rw [wM r (fuel_lt (by omega)) (fun a => leI (fA l main ids[i]) (fA l main a)) (fun j => k (r.take j ++ ids[i] :: r.drop j) (IntKind.i64.wrap ((i : Int) + 1))) (k (r.take r.length ++ ids[i] :: r.drop r.length) (IntKind.i64.wrap ((i : Int) + 1)))]
     · unfold Xk; split
       · rfl
       rename_i h2
       have : (r.findIdx fun a => leI (fA l main ids[i]) (fA l main a)) = r.length := by
        have := List.findIdx_le_length (p := fun a => leI (fA l main ids[i]) (fA l main a)) (xs := r); omega
       rw [this]
     · intro k2 j hj; unfold Ib; rw [dec_lt hj, bT hj, bT h]; simp only [cond_true, Option.bind_some]; rw [ag1 l main _ _ hl hs hm]; simp only [Option.bind_some]; cases leI (fA l main ids[i]) (fA l main r[j]) with
       | true => simp only [Bool.not_true, cond_true]; rw [hfin k2 j (Nat.le_of_lt hj)]
       | false => rfl
     intro k2; unfold Ib; rw [jd]; simp only [cond_false]; rw [hfin k2 r.length (Nat.le_refl _)]
 intro k r _; unfold Ic; rw [dP]
theorem aeh (l : List ah) (main ids : List Int) : (LC l main ids).length ≤ ids.length := by
 unfold LC; rw [List.length_map, (D8 _ _).length_eq, List.length_map]; exact List.length_filter_le _ _
end Go.Proofs.YtelpgcaiadpjpaaGreat
end
section
namespace Go.Proofs.YtelpgcaiadpjpaaGreat
open Go.RowKit
def je (c : Int) : Bool := (decide (c ≥ 97) && decide (c ≤ 122)) || (decide (c ≥ 48) && decide (c ≤ 57))
theorem L9 (c : Int) : wu c = some (je c) := by
 unfold wu je; cases decide (c ≥ 97) <;> cases decide (c ≤ 122) <;> cases decide (c ≥ 48) <;> cases decide (c ≤ 57) <;> rfl
theorem Mc (c : Int) : wE c = some (je c) := by
 unfold wE je; cases decide (c ≥ 97) <;> cases decide (c ≤ 122) <;> cases decide (c ≥ 48) <;> cases decide (c ≤ 57) <;> rfl
def Ir (l : List Int) (p : Int → Bool) : Bool := decide ((l.length : Int) ≥ 1) && decide ((l.length : Int) ≤ 32) && l.all fun c => je c || p c
def isLocal (c : Int) : Bool := c == 95 || c == 46 || c == 45 || c == 61
def qO (c : Int) : Bool := c == 46 || c == 45
def Pq (l : List Int) : Bool := Ir l isLocal
def Ji (l : List Int) : Bool := Ir l qO && je (l.getD 0 0) && je (l.getD (l.length - 1) 0)
theorem Td {n : Nat} (h : n ≤ 9223372036854) : n < fuel := by have : fuel = 4611686018427387904 := rfl; omega
theorem Xl {s : ByteArray} (hs : s.size ≤ 9223372036854) : oH s = some (Ir (bg s) isLocal) := by
 have hl : uM s 0 = some ((bg s).all fun c => je c || isLocal c) := by
  unfold uM; rw [scan (bg s) (by rw [dG]; exact Td hs) (fun c => !(je c || isLocal c)) false (some true) ?_ ?_, uU, DI]
  · intro k i h; have h' : i < s.size := by rw [dG] at h; exact h
    have hf : Aq (bg s)[i] = some (isLocal (bg s)[i]) := by unfold Aq isLocal; cases (bg s)[i] == 95 <;> cases (bg s)[i] == 46 <;> cases (bg s)[i] == 45 <;> cases (bg s)[i] == 61 <;> rfl
    simp only [pJ, dec_lt h', cond_true, FQ h, L9, hf, Option.bind_some]; cases je (bg s)[i] <;> cases isLocal (bg s)[i] <;> rfl
  intro k; simp only [pJ, dG, jd, cond_false]
 unfold oH Ir; rw [hl, dG]; have e1 : decide ((s.size : Int) ≥ 1) = !decide ((s.size : Int) < 1) := by by_cases h : (s.size : Int) < 1 <;> simp [h] <;> omega
 have e2 : decide ((s.size : Int) ≤ 32) = !decide ((s.size : Int) > 32) := by by_cases h : (s.size : Int) > 32 <;> simp [h] <;> omega
 rw [e1, e2]; cases decide ((s.size : Int) < 1) <;> cases decide ((s.size : Int) > 32) <;> rfl
theorem Vk {s : ByteArray} (hs : s.size ≤ 9223372036854) : nR s = some (Ir (bg s) qO) := by
 have hl : tq s 0 = some ((bg s).all fun c => je c || qO c) := by
  unfold tq; rw [scan (bg s) (by rw [dG]; exact Td hs) (fun c => !(je c || qO c)) false (some true) ?_ ?_, uU, DI]
  · intro k i h; have h' : i < s.size := by rw [dG] at h; exact h
    have hf : xP (bg s)[i] = some (qO (bg s)[i]) := by unfold xP qO; cases (bg s)[i] == 46 <;> cases (bg s)[i] == 45 <;> rfl
    simp only [oN, dec_lt h', cond_true, FQ h, L9, hf, Option.bind_some]; cases je (bg s)[i] <;> cases qO (bg s)[i] <;> rfl
  intro k; simp only [oN, dG, jd, cond_false]
 unfold nR Ir; rw [hl, dG]; have e1 : decide ((s.size : Int) ≥ 1) = !decide ((s.size : Int) < 1) := by by_cases h : (s.size : Int) < 1 <;> simp [h] <;> omega
 have e2 : decide ((s.size : Int) ≤ 32) = !decide ((s.size : Int) > 32) := by by_cases h : (s.size : Int) > 32 <;> simp [h] <;> omega
 rw [e1, e2]; cases decide ((s.size : Int) < 1) <;> cases decide ((s.size : Int) > 32) <;> rfl
theorem ag3 {s : ByteArray} (hs : s.size ≤ 9223372036854) : KC s = some (Pq (bg s)) := by
 unfold KC Pq; rw [Xl hs]; rfl
theorem Qz {s : ByteArray} (h : 0 < s.size) : mF s 0 = some ((bg s).getD 0 0) := by
 have h' : 0 < (bg s).length := by rw [dG]; exact h
 rw [aj8 h']; simp [List.getD, h']
theorem adE {s : ByteArray} (h : 0 < s.size) (hs : s.size ≤ 9223372036854) : mF s (IntKind.i64.wrap ((s.size : Int) - 1)) = some ((bg s).getD ((bg s).length - 1) 0) := by
 have h' : s.size - 1 < (bg s).length := by rw [dG]; omega
 rw [XG (by omega) (by omega), show (s.size : Int) - 1 = ((s.size - 1 : Nat) : Int) by omega, FQ h']; have h2 : (bg s).length - 1 = s.size - 1 := by rw [dG]
 rw [h2]; simp [List.getD, h']
theorem alR {l : List Int} {p : Int → Bool} (h : Ir l p = true) : 0 < l.length ∧ l.length ≤ 32 := by
 unfold Ir at h; simp only [Bool.and_eq_true, decide_eq_true_eq] at h; omega
theorem aei {s : ByteArray} (hs : s.size ≤ 9223372036854) : GR s = some (Ji (bg s)) := by
 unfold GR Ji; rw [Vk hs]; simp only [Option.bind_some]; cases hn : Ir (bg s) qO with
 | false => rfl
 | true =>
   have hp : 0 < s.size := by have := (alR hn).1; rwa [dG] at this
   simp only [cond_true, Qz hp, adE hp hs, L9, Option.bind_some]; cases je ((bg s).getD 0 0) <;> simp
theorem aej {s : ByteArray} (hs : s.size ≤ 9223372036854) : Hy s = some (bif Ji (bg s) then 0 else 3) := by
 have hl : LV s 0 = some (bif (bg s).all fun c => je c || qO c then 0 else 3) := by
  unfold LV; rw [scan (bg s) (by rw [dG]; exact Td hs) (fun c => !(je c || qO c)) 3 (some 0) ?_ ?_, uU, ← DI]
  · cases ((bg s).any fun c => !(je c || qO c)) <;> rfl
  · intro k i h; have h' : i < s.size := by rw [dG] at h; exact h
    simp only [Fg, dec_lt h', cond_true, FQ h, Mc, Option.bind_some, qO, bne]; cases je (bg s)[i] <;> cases (bg s)[i] == 46 <;> cases (bg s)[i] == 45 <;> rfl
  intro k; simp only [Fg, dG, jd, cond_false]
 have e1 : decide ((s.size : Int) ≥ 1) = !decide ((s.size : Int) < 1) := by by_cases h : (s.size : Int) < 1 <;> simp [h] <;> omega
 have e2 : decide ((s.size : Int) ≤ 32) = !decide ((s.size : Int) > 32) := by by_cases h : (s.size : Int) > 32 <;> simp [h] <;> omega
 unfold Hy Ji Ir; rw [hl]; rw [show ((bg s).length : Int) = (s.size : Int) by rw [dG], e1, e2]; by_cases h1 : (s.size : Int) < 1
 · simp [h1]
 have hp : 0 < s.size := by omega
 simp only [Qz hp, adE hp hs, Mc, Option.bind_some]; cases decide ((s.size : Int) < 1) <;> cases decide ((s.size : Int) > 32) <;> cases je ((bg s).getD 0 0) <;> cases je ((bg s).getD ((bg s).length - 1) 0) <;> cases ((bg s).all fun c => je c || qO c) <;> rfl
end Go.Proofs.YtelpgcaiadpjpaaGreat
end
section
namespace Go.Proofs.YtelpgcaiadpjpaaGreat
open Go.RowKit
theorem ag4 {s : ByteArray} (hs : s.size ≤ 9223372036854) : KL s = some (Pq (bg s)) := by
 unfold KL WB; rw [scan (bg s) (by rw [dG]; exact Td hs) (fun c => !(je c || isLocal c)) false (some (decide ((s.size : Int) ≥ 1) && decide ((s.size : Int) ≤ 32))) ?_ ?_]
 · unfold Pq Ir; rw [← DI, dG]; cases ((bg s).any fun c => !(je c || isLocal c)) <;> cases decide ((s.size : Int) ≥ 1) <;> cases decide ((s.size : Int) ≤ 32) <;> rfl
 · intro k i h; have h' : i < s.size := by rw [dG] at h; exact h
   simp only [Hw, dec_lt h', cond_true, FQ h, Mc, Option.bind_some, isLocal, bne]; cases je (bg s)[i] <;> cases (bg s)[i] == 95 <;> cases (bg s)[i] == 46 <;> cases (bg s)[i] == 45 <;> cases (bg s)[i] == 61 <;> rfl
 intro k; simp only [Hw, dG, jd, cond_false]; cases decide ((s.size : Int) ≥ 1) <;> cases decide ((s.size : Int) ≤ 32) <;> rfl
theorem Tf (s : ByteArray) : (bg s).length = s.data.toList.length := by simp [bg]
def jQ (s : ByteArray) : Nat := (bg s).findIdx (· == 58)
theorem acV (s : ByteArray) : jQ s ≤ s.size := by unfold jQ; rw [← dG]; exact List.findIdx_le_length
theorem Xm {s : ByteArray} (hs : s.size ≤ 9223372036854) : Gj s = some (jQ s : Int) := by
 unfold Gj Wy; rw [wM (bg s) (by rw [dG]; exact Td hs) (· == 58) (fun i => some (i : Int)) (some (s.size : Int)) ?_ ?_]
 · have := acV s; by_cases h : (bg s).findIdx (· == 58) < (bg s).length
   · rw [if_pos h]; rfl
   rw [if_neg h]; congr 2; unfold jQ at this ⊢; rw [dG] at h; omega
 · intro k i h; have h' : i < s.size := by rw [dG] at h; exact h
   simp only [Hu, dec_lt h', cond_true, FQ h, Option.bind_some, bne]; cases (bg s)[i] == 58 <;> rfl
 intro k; simp only [Hu, dG, jd, cond_false, Option.bind_some]
def Uz (s : ByteArray) : ByteArray := s.extract 1 (jQ s)
def JQ (s : ByteArray) : ByteArray := s.extract (jQ s + 1) s.size
def UA (s : ByteArray) : Bool := decide (jQ s < s.size) && Pq (bg (Uz s)) && Ji (bg (JQ s))
def uw (s : ByteArray) (m : Int) : Bool := decide (0 < s.size) && (bg s).getD 0 0 == m && UA s
theorem extract_size (s : ByteArray) (a b : Nat) : (s.extract a b).size ≤ s.size := by rw [ByteArray.size_extract]; omega
theorem ag5 {s : ByteArray} (h : 0 < s.size) (hm : (bg s).getD 0 0 ≠ 58) : 1 ≤ jQ s := by
 unfold jQ; have hl : 0 < (bg s).length := by rw [dG]; exact h
 match he : bg s with
 | [] => rw [he] at hl; simp at hl
 | c :: l =>
   rw [he] at hm; simp only [List.getD_cons_zero] at hm; rw [List.findIdx_cons, show (c == 58) = false from by simpa using hm]; simp
theorem U3 {s : ByteArray} (hs : s.size ≤ 9223372036854) {m : Int} (hm : m ≠ 58) : Dy s m = some (uw s m) := by
 unfold Dy uw; by_cases h0 : 0 < s.size
 · rw [show decide ((s.size : Int) < 1) = false from by simp; omega, show decide (0 < s.size) = true by simpa using h0]; simp only [cond_false, Qz h0, Option.bind_some, bne]; cases hh : (bg s).getD 0 0 == m with
   | false => rfl
   | true =>
     have hh' : (bg s).getD 0 0 = m := by simpa using hh
     have h1 := ag5 h0 (by rw [hh']; exact hm); have h2 := acV s; simp only [Bool.not_true, cond_false, Xm hs, Option.bind_some, Bool.true_and]; unfold UA; by_cases h3 : jQ s < s.size
     · have e1 : Bo s 1 (jQ s : Int) = some (Uz s) := NG (lo := 1) h1 h2
       have e2 : Bo s (IntKind.i64.wrap ((jQ s : Int) + 1)) (s.size : Int) = some (JQ s) := by
        rw [XG (by omega) (by omega), show (jQ s : Int) + 1 = ((jQ s + 1 : Nat) : Int) by omega]; exact NG (by omega) (Nat.le_refl _)
       rw [show decide ((jQ s : Int) < (s.size : Int)) = true from by simpa using h3, show decide (jQ s < s.size) = true by simpa using h3]; have g1 : (Uz s).size ≤ 9223372036854 := Nat.le_trans (extract_size _ _ _) hs; have g2 : (JQ s).size ≤ 9223372036854 := Nat.le_trans (extract_size _ _ _) hs; simp only [cond_true, e1, e2, ag4 g1, aej g2, Option.bind_some]; cases Pq (bg (Uz s)) <;> cases Ji (bg (JQ s)) <;> rfl
     rw [show decide ((jQ s : Int) < (s.size : Int)) = false from by simpa using h3, show decide (jQ s < s.size) = false by simpa using h3]; rfl
 rw [show decide ((s.size : Int) < 1) = true from by simp; omega, show decide (0 < s.size) = false by simpa using h0]; rfl
def splitB (s : ByteArray) (b : Bool) : ByteArray × ByteArray × Bool := bif b then (Uz s, JQ s, true) else (s0, s0, false)
theorem aoK (b c : UInt8) : (b == c) = (((b.toNat : Nat) : Int) == ((c.toNat : Nat) : Int)) := by
 by_cases h : b = c
 · subst h; simp
 have : ¬ b.toNat = c.toNat := fun e => h (UInt8.toNat_inj.1 e); have h1 : (b == c) = false := by simpa using h
 rw [h1]; symm; simp; omega
theorem U4 (s : ByteArray) (c : UInt8) : s.data.toList.findIdx (· == c) = (bg s).findIdx (· == ((c.toNat : Nat) : Int)) := by
 unfold bg; rw [List.findIdx_map]; congr 1; funext b; exact aoK b c
theorem alS (s : ByteArray) : ∀ x ∈ bg s, 0 ≤ x ∧ x < 256 := by
 intro x hx; unfold bg at hx; rw [List.mem_map] at hx; obtain ⟨c, _, rfl⟩ := hx; have := c.toNat_lt; omega
theorem getD_mem {s : ByteArray} (h : 0 < s.size) : (bg s).getD 0 0 ∈ bg s := by
 have hl : 0 < (bg s).length := by rw [dG]; exact h
 have e : (bg s).getD 0 0 = (bg s)[0] := by simp [List.getD, hl]
 rw [e]; exact List.getElem_mem hl
theorem alT (marks : ByteArray) {c : Int} (h0 : 0 ≤ c) (h1 : c < 256) : decide (Lib.indexByte marks.data.toList c.toNat.toUInt8 < 0) = !(bg marks).contains c := by
 have e : (((c.toNat.toUInt8).toNat : Nat) : Int) = c := by
  rw [Nat.toUInt8, UInt8.toNat_ofNat']; omega
 rw [Je, U4, e, ← Tf marks]; by_cases hm : c ∈ bg marks
 · have hlt : (bg marks).findIdx (· == c) < (bg marks).length := List.findIdx_lt_length_of_exists ⟨c, hm, by simp⟩; rw [if_pos hlt, show (bg marks).contains c = true by simpa using hm]; simp
 have hnl : ¬ (bg marks).findIdx (· == c) < (bg marks).length := fun h => by
  have := List.findIdx_getElem (w := h); simp only [beq_iff_eq] at this; exact hm (this ▸ List.getElem_mem h)
 rw [if_neg hnl, show (bg marks).contains c = false by simpa using hm]; rfl
theorem Pv (s : ByteArray) (a b : Nat) : (s.extract 1 s.size).extract a b = s.extract (1 + a) (min (1 + b) s.size) := by
 refine bytes_inj ?_; simp only [SV]; have : (bg s).take s.size = bg s := List.take_of_length_le (by rw [dG]; omega); rw [this, List.take_drop, List.drop_drop]; congr 1; have : min (1 + b) s.size = min (1 + b) (bg s).length := by rw [dG]
 rw [this, List.take_eq_take_min]
theorem aek {s : ByteArray} (h : 0 < s.size) (hm : (bg s).getD 0 0 ≠ 58) : (bg (s.extract 1 s.size)).findIdx (· == 58) + 1 = jQ s := by
 unfold jQ; rw [SV]; have : (bg s).take s.size = bg s := List.take_of_length_le (by rw [dG]; omega); rw [this]; have hl : 0 < (bg s).length := by rw [dG]; exact h
 match he : bg s with
 | [] => rw [he] at hl; simp at hl
 | c :: l =>
   rw [he] at hm; simp only [List.getD_cons_zero] at hm; rw [List.findIdx_cons, show (c == 58) = false from by simpa using hm]; rfl
theorem aqn {s : ByteArray} (hs : s.size ≤ 9223372036854) (h : 0 < s.size) (hm : (bg s).getD 0 0 ≠ 58) : ∃ a b, strings_Cut (s.extract 1 s.size) XJ = some (a, b, decide (jQ s < s.size)) ∧ (jQ s < s.size → a = Uz s ∧ b = JQ s) := by
 have h1 := ag5 h hm; have h2 := acV s; have hj := aek h hm; have hsz : (s.extract 1 s.size).size = s.size - 1 := by rw [ByteArray.size_extract]; omega
 have hI : nV (s.extract 1 s.size) XJ = some (if jQ s < s.size then ((jQ s - 1 : Nat) : Int) else -1) := by
  show some (Lib.indexByte (s.extract 1 s.size).data.toList 58) = _; rw [Je, U4, ← Tf (s.extract 1 s.size)]; show some (if (bg (s.extract 1 s.size)).findIdx (· == 58) < _ then (((bg (s.extract 1 s.size)).findIdx (· == 58) : Nat) : Int) else -1) = _; rw [dG, hsz]; have e : (bg (s.extract 1 s.size)).findIdx (· == 58) = jQ s - 1 := by omega
  rw [e]; congr 1; by_cases h3 : jQ s < s.size
  · rw [if_pos h3, if_pos (by omega)]
  rw [if_neg h3, if_neg (by omega)]
 unfold strings_Cut pF; rw [hI, Option.bind_some]; by_cases h3 : jQ s < s.size
 · rw [if_pos h3, show decide (((jQ s - 1 : Nat) : Int) ≥ 0) = true from by simp, show decide (jQ s < s.size) = true by simpa using h3]; have e1 : Bo (s.extract 1 s.size) 0 ((jQ s - 1 : Nat) : Int) = some ((s.extract 1 s.size).extract 0 (jQ s - 1)) := NG (lo := 0) (by omega) (by omega)
   have e2 : Bo (s.extract 1 s.size) (IntKind.i64.wrap (((jQ s - 1 : Nat) : Int) + (XJ.size : Int))) ((s.extract 1 s.size).size : Int) = some ((s.extract 1 s.size).extract (jQ s) (s.size - 1)) := by
    rw [show (XJ.size : Int) = 1 from rfl, XG (by omega) (by omega), show ((jQ s - 1 : Nat) : Int) + 1 = ((jQ s : Nat) : Int) by omega, hsz]; exact NG (by omega) (by omega)
   simp only [cond_true, e1, e2, Option.bind_some]; refine ⟨_, _, rfl, fun _ => ⟨?_, ?_⟩⟩
   · rw [Pv]; unfold Uz; congr 1; omega
   rw [Pv]; unfold JQ; rw [Nat.add_comm 1 (jQ s)]; congr 1; omega
 rw [if_neg h3, show decide ((-1 : Int) ≥ 0) = false from rfl, show decide (jQ s < s.size) = false by simpa using h3]; exact ⟨_, _, rfl, fun h => absurd h h3⟩
theorem am4 {s : ByteArray} (hs : s.size ≤ 9223372036854) {marks : ByteArray} (hmk : ∀ m ∈ bg marks, m ≠ 58) : F9 s marks = some (splitB s ((bg marks).any fun m => uw s m)) := by
 unfold F9; by_cases h0 : 0 < s.size
 · have hne : (s.toList == s0.toList) = false := by
    rw [kZ]; simp only [decide_eq_false_iff_not]; intro e; rw [e] at h0; exact absurd h0 (by decide)
   have hc := alS s _ (getD_mem h0)
   have hany : ((bg marks).any fun m => uw s m) = ((bg marks).contains ((bg s).getD 0 0) && UA s) := by
    unfold uw; rw [show decide (0 < s.size) = true by simpa using h0]
    induction bg marks with
    | nil => rfl
    | cons m l ih => rw [List.any_cons, ih, List.contains_cons]; cases (bg s).getD 0 0 == m <;> cases UA s <;> simp
   rw [hne, hany]; simp only [cond_false, Qz h0, Option.bind_some, strings_IndexByte, alT marks hc.1 hc.2]; cases hk : (bg marks).contains ((bg s).getD 0 0) with
   | false => rfl
   | true =>
     have hm : (bg s).getD 0 0 ≠ 58 := hmk _ (by simpa using hk); obtain ⟨a, b, e1, e2⟩ := aqn hs h0 hm; have eg : Bo s 1 (s.size : Int) = some (s.extract 1 s.size) := NG (lo := 1) (by omega) (Nat.le_refl _); simp only [Bool.not_true, cond_false, eg, e1, Option.bind_some, Bool.true_and]; unfold UA; cases h3 : decide (jQ s < s.size) with
     | false => rfl
     | true =>
       obtain ⟨rfl, rfl⟩ := e2 (of_decide_eq_true h3); have g1 : (Uz s).size ≤ 9223372036854 := Nat.le_trans (extract_size _ _ _) hs; have g2 : (JQ s).size ≤ 9223372036854 := Nat.le_trans (extract_size _ _ _) hs; simp only [Bool.not_true, cond_false, ag3 g1, aei g2, Option.bind_some]; cases Pq (bg (Uz s)) <;> cases Ji (bg (JQ s)) <;> rfl
 have hz : s.size = 0 := by omega
 have he : s = s0 := bytes_inj (by
  have h1 : bg s = [] := List.eq_nil_of_length_eq_zero (by rw [dG]; exact hz)
  rw [h1]; rfl)
 have hany : ((bg marks).any fun m => uw s m) = false := by
  rw [List.any_eq_false]; intro m _; unfold uw; rw [show decide (0 < s.size) = false by simpa using h0]; simp
 rw [hany, he, show (s0.toList == s0.toList) = true from by simp]; rfl
def Ti (s : ByteArray) : Bool := uw s 64 || (uw s 33 || false)
theorem aki {s : ByteArray} (hs : s.size ≤ 9223372036854) : F9 s NZ = some (splitB s (Ti s)) :=
 am4 hs (marks := NZ) (by rw [show bg NZ = [64, 33] from rfl]; intro m hm; simp only [List.mem_cons, List.not_mem_nil, or_false] at hm; omega)
theorem ag6 {s : ByteArray} (h : UA s = true) : jQ s < s.size := by unfold UA at h; simp only [Bool.and_eq_true, decide_eq_true_eq] at h; exact h.1.1
theorem JR {s : ByteArray} (hs : s.size ≤ 9223372036854) : xQ s = some (splitB s (Ti s)).2.1 ∧ yD s = some (splitB s (Ti s)).2.1 := by
 have eh : jQ s < s.size → Bo s (IntKind.i64.wrap ((jQ s : Int) + 1)) (s.size : Int) = some (JQ s) := fun h3 => by
  rw [XG (by omega) (by omega), show (jQ s : Int) + 1 = ((jQ s + 1 : Nat) : Int) by omega]; exact NG (by omega) (Nat.le_refl _)
 unfold xQ yD; rw [aki hs, U3 hs (by decide), U3 hs (by decide), Xm hs]; refine ⟨rfl, ?_⟩; unfold Ti; cases h64 : uw s 64 with
 | true =>
   have h0 := ag6 (s := s) (by unfold uw at h64; simp only [Bool.and_eq_true] at h64; exact h64.2); simp only [Option.bind_some, Bool.not_true, cond_false, eh h0, Bool.true_or]; rfl
 | false =>
   cases h33 : uw s 33 with
   | true =>
     have h0 := ag6 (s := s) (by unfold uw at h33; simp only [Bool.and_eq_true] at h33; exact h33.2); simp only [Option.bind_some, Bool.not_true, Bool.not_false, cond_false, cond_true, eh h0, Bool.false_or, Bool.true_or]; rfl
   | false => rfl
end Go.Proofs.YtelpgcaiadpjpaaGreat
end
section
namespace Go.Proofs.YtelpgcaiadpjpaaGreat
open Go.RowKit
theorem ag7 {R A α : Type} {body : (Int → A → Option R) → Int → A → Option R} (l : List α) (hl : l.length < fuel) (p : α → Bool) (g : Nat → Option R) (rest : Option R) (a0 : A)
 (hb : ∀ k (i : Nat) (h : i < l.length), body k (i : Int) a0 = bif p l[i] then g i else k (IntKind.i64.wrap ((i : Int) + 1)) a0) (he : ∀ k, body k (l.length : Int) a0 = rest) :
 bn body fuel 0 a0 = if l.findIdx p < l.length then g (l.findIdx p) else rest := by
 have hf : fuel = 4611686018427387904 := rfl
 have key : ∀ n (i : Nat), i + n = l.length → ∀ m, n < m → bn body m (i : Int) a0 = if (l.drop i).findIdx p + i < l.length then g ((l.drop i).findIdx p + i) else rest := by
  intro n
  induction n with
  | zero =>
    intro i hi m hm; obtain ⟨m, rfl⟩ : ∃ m', m = m' + 1 := ⟨m - 1, by omega⟩
    have : i = l.length := by omega
    subst this; show body (bn body m) _ _ = _; rw [he, List.drop_length, if_neg (by simp)]
  | succ n ih =>
    intro i hi m hm; obtain ⟨m, rfl⟩ : ∃ m', m = m' + 1 := ⟨m - 1, by omega⟩
    have hlt : i < l.length := by omega
    show body (bn body m) _ _ = _; rw [hb _ i hlt, wrap_succ i (by omega), ih (i + 1) (by omega) m (by omega), List.drop_eq_getElem_cons hlt, List.findIdx_cons]; cases p l[i] with
    | true => simp only [cond_true, Nat.zero_add]; rw [if_pos hlt]
    | false =>
      simp only [cond_false]; rw [show (l.drop (i + 1)).findIdx p + (i + 1) = (l.drop (i + 1)).findIdx p + 1 + i by omega]
 have := key l.length 0 (by omega) fuel hl; simpa using this
def kH (l : List ah) : ah × Bool := match l.find? fun x => x.Kind == 1 with | some x => (x, true) | none => (dh, false)
theorem UC (l : List ah) (p : ah → Bool) : (if l.findIdx p < l.length then (some (match l[l.findIdx p]? with | some x => (x, true) | none => (dh, false))) else some (dh, false)) = some (match l.find? p with | some x => (x, true) | none => (dh, false)) := by
 rw [lg]; by_cases h : l.findIdx p < l.length
 · rw [if_pos h]
 rw [if_neg h, List.getElem?_eq_none (by omega)]
theorem QA (l : List ah) (hl : l.length ≤ 1000) : xO l = some (kH l) := by
 unfold xO P9; rw [ag7 l (fuel_lt (by omega)) (fun x => x.Kind == 1) (fun i => some (match l[i]? with | some x => (x, true) | none => (dh, false))) (some (dh, false))]
 · exact UC l _
 · intro k i h; unfold AY; rw [dF h, List.getElem?_eq_getElem h]
 intro k; unfold AY; rw [dP]
theorem QB (l : List ah) (hl : l.length ≤ 1000) : yC l = some (kH l) := by
 unfold yC Qn; rw [ag7 l (fuel_lt (by omega)) (fun x => x.Kind == 1) (fun i => some (match l[i]? with | some x => (x, true) | none => (dh, false))) (some (dh, false))]
 · exact UC l _
 · intro k i h; unfold Bd; rw [dF h, bT h, List.getElem?_eq_getElem h]; rfl
 intro k; unfold Bd; rw [dP]
def QC (u : ByteArray) (x : ah) : Bool := x.Kind == 2 && decide (x.Key = u)
def kC (l : List ah) (u : ByteArray) : Int := match l.find? (QC u) with | some x => x.Content.N | none => 0
theorem aby (u : ByteArray) (x : ah) : (bif (x.Kind == 2) then some (x.Key.toList == u.toList) else some false) = some (QC u x) := by
 unfold QC; rw [kZ]; cases x.Kind == 2 <;> rfl
theorem Md (l : List ah) (u : ByteArray) (hl : l.length ≤ 1000) : zq l u = some (kC l u) := by
 unfold zq UK kC; rw [wM l (fuel_lt (by omega)) (QC u) (fun i => some (match l[i]? with | some x => x.Content.N | none => 0)) (some 0)]
 · rw [lg]; by_cases h : l.findIdx (QC u) < l.length
   · rw [if_pos h]
   rw [if_neg h, List.getElem?_eq_none (by omega)]
 · intro k i h; unfold E8; rw [dF h, bT h, List.getElem?_eq_getElem h]; simp only [Option.bind_some]; rw [aby]; rfl
 intro k; unfold E8; rw [dP]
theorem Xn (l : List ah) (u : ByteArray) (hl : l.length ≤ 1000) : OO l u = some (kC l u) := by
 unfold OO adp kC; rw [wM l (fuel_lt (by omega)) (QC u) (fun i => some (match l[i]? with | some x => x.Content.N | none => 0)) (some 0)]
 · rw [lg]; by_cases h : l.findIdx (QC u) < l.length
   · rw [if_pos h]
   rw [if_neg h, List.getElem?_eq_none (by omega)]
 · intro k i h; unfold Qq; rw [dF h, bT h, List.getElem?_eq_getElem h]; simp only [Option.bind_some]; rw [aby]; rfl
 intro k; unfold Qq; rw [dP]
def Tj (e : ah) (l : List ah) : Bool :=
 (kH l).2 && (e.iF.length == 1 && (e.iF.getD 0 0 == (kH l).1.Id && (decide (e.bf = (kH l).1.bf) && (decide (e.Key = (kH l).1.bf) && (e.Content.N == 3 && !l.any (QC e.Key))))))
theorem ael (e : ah) (l : List ah) (hl : l.length ≤ 1000) : GU e l = some (Tj e l) := by
 have hL : LQ l e 0 = some (!l.any (QC e.Key)) := by
  unfold LQ; rw [scan l (fuel_lt (by omega)) (QC e.Key) false (some true)]
  · cases l.any (QC e.Key) <;> rfl
  · intro k i h; unfold E5; rw [dF h, aby]; rfl
  intro k; unfold E5; rw [dP]
 unfold GU Tj og; rw [QA l hl]; simp only [Option.bind_some]; rw [hL, kZ, kZ]; cases (kH l).2 with
 | false => rfl
 | true =>
   by_cases hp : e.iF.length = 1
   · have h0 : 0 < e.iF.length := by omega
     have e1 : ((e.iF.length : Int) != 1) = false := by rw [hp]; rfl
     have e2 : (e.iF.length == 1) = true := by simpa using hp
     have e3 : aY e.iF 0 = some (e.iF.getD 0 0) := by
      have : aY e.iF ((0 : Nat) : Int) = some e.iF[0] := bT h0; rw [show ((0 : Nat) : Int) = 0 from rfl] at this; rw [this]; simp [List.getD, h0]
     rw [e1, e2, e3]; simp only [Option.bind_some, bne]; cases e.iF.getD 0 0 == (kH l).1.Id <;> cases decide (e.bf = (kH l).1.bf) <;> cases decide (e.Key = (kH l).1.bf) <;> cases e.Content.N == 3 <;> rfl
   have e1 : ((e.iF.length : Int) != 1) = true := by simp; omega
   have e2 : (e.iF.length == 1) = false := by simpa using hp
   rw [e1, e2]; rfl
theorem ag8 (e : ah) (l : List ah) (hl : l.length ≤ 1000) : KN e l = some (Tj e l) := by
 have hL : Ad l e.Key = some (l.any (QC e.Key)) := by
  unfold Ad OM; rw [scan l (fuel_lt (by omega)) (QC e.Key) true (some false)]
  · cases l.any (QC e.Key) <;> rfl
  · intro k i h; unfold zI; rw [dF h, bT h]; simp only [Option.bind_some]; rw [aby]; rfl
  intro k; unfold zI; rw [dP]
 unfold KN Tj nT; rw [QB l hl]; simp only [Option.bind_some]; rw [hL, kZ, kZ]; cases (kH l).2 with
 | false => rfl
 | true =>
   by_cases hp : e.iF.length = 1
   · have h0 : 0 < e.iF.length := by omega
     have e1 : ((e.iF.length : Int) == 1) = true := by rw [hp]; rfl
     have e2 : (e.iF.length == 1) = true := by simpa using hp
     have e3 : aY e.iF 0 = some (e.iF.getD 0 0) := by
      have : aY e.iF ((0 : Nat) : Int) = some e.iF[0] := bT h0; rw [show ((0 : Nat) : Int) = 0 from rfl] at this; rw [this]; simp [List.getD, h0]
     rw [e1, e2, e3]; simp only [Option.bind_some]; cases e.iF.getD 0 0 == (kH l).1.Id <;> cases decide (e.bf = (kH l).1.bf) <;> cases decide (e.Key = (kH l).1.bf) <;> cases e.Content.N == 3 <;> rfl
   have e1 : ((e.iF.length : Int) == 1) = false := by simp; omega
   have e2 : (e.iF.length == 1) = false := by simpa using hp
   rw [e1, e2]; rfl
def moveB (f t : Int) (s : Bool) : Bool :=
 bif decide (f < 0) || decide (f > 4) then false else bif t == 3 then s && f != 4 else bif t == 0 then f == 1 || f == 2 || f == 3 || (f == 4 && !s) else bif t == 2 then s && (f == 0 || f == 2) else bif t == 1 then !s && (f == 0 || f == 2 || f == 1) else bif t == 4 then !s else false
theorem Y7 (f t : Int) (s : Bool) : zJ f t s = some (moveB f t s) := by
 unfold zJ moveB; simp only [uU, Option.bind_some, agK, XT]
theorem abz (f t : Int) (s : Bool) : rD f t s = some (moveB f t s) := by
 rw [← Y7]; by_cases hf0 : f < 0
 · unfold rD zJ; rw [decide_eq_true hf0]; rfl
 by_cases hf4 : f > 4
 · unfold rD zJ; rw [decide_eq_true hf4]; cases decide (f < 0) <;> rfl
 by_cases ht0 : t < 0
 · unfold rD zJ; rw [decide_eq_true ht0, decide_eq_false hf0, decide_eq_false hf4, show (t == 3) = false by simp; omega, show (t == 0) = false by simp; omega, show (t == 2) = false by simp; omega, show (t == 1) = false by simp; omega, show (t == 4) = false by simp; omega]; rfl
 by_cases ht4 : t > 4
 · unfold rD zJ; rw [decide_eq_true ht4, decide_eq_false ht0, decide_eq_false hf0, decide_eq_false hf4, show (t == 3) = false by simp; omega, show (t == 0) = false by simp; omega, show (t == 2) = false by simp; omega, show (t == 1) = false by simp; omega, show (t == 4) = false by simp; omega]; rfl
 have hf : f = 0 ∨ f = 1 ∨ f = 2 ∨ f = 3 ∨ f = 4 := by omega
 have ht : t = 0 ∨ t = 1 ∨ t = 2 ∨ t = 3 ∨ t = 4 := by omega
 rcases hf with rfl | rfl | rfl | rfl | rfl <;> rcases ht with rfl | rfl | rfl | rfl | rfl <;> cases s <;> decide
def Tm (l : List ah) : Int × List ByteArray := match l.find? fun x => x.Kind == 4 with | some x => (x.Content.N, x.Content.Allow) | none => (0, [])
theorem aiE (l : List ah) (hl : l.length ≤ 1000) (hs : fH l) : Ol l = some (Tm l) := by
 unfold Ol YF Tm; rw [wM l (fuel_lt (by omega)) (fun x => x.Kind == 4) (fun i => some (match l[i]? with | some x => (x.Content.N, x.Content.Allow) | none => (0, []))) (some (0, []))]
 · rw [lg]; by_cases h : l.findIdx (fun x => x.Kind == 4) < l.length
   · rw [if_pos h]
   rw [if_neg h, List.getElem?_eq_none (by omega)]
 · intro k i h; have ha := (hs _ (List.getElem_mem h)).allow; unfold Jv; rw [dF h, List.getElem?_eq_getElem h, dD (by simp only [List.length_nil]; omega)]; rfl
 intro k; unfold Jv; rw [dP]
theorem alU (l : List ah) (hl : l.length ≤ 1000) (hs : fH l) : WE l = some (Tm l) := by
 unfold WE adq Tm; rw [wM l (fuel_lt (by omega)) (fun x => x.Kind == 4) (fun i => some (match l[i]? with | some x => (x.Content.N, x.Content.Allow) | none => (0, []))) (some (0, []))]
 · rw [lg]; by_cases h : l.findIdx (fun x => x.Kind == 4) < l.length
   · rw [if_pos h]
   rw [if_neg h, List.getElem?_eq_none (by omega)]
 · intro k i h; have ha := (hs _ (List.getElem_mem h)).allow; unfold Qr; rw [dF h, bT h, List.getElem?_eq_getElem h]; simp only [Option.bind_some]; rw [dD (by simp only [List.length_nil]; omega)]; rfl
 intro k; unfold Qr; rw [dP]
def abA (rule now : Int) : Int := bif now == 3 || rule == 1 then 0 else bif now == 1 && (rule == 0 || rule == 2 || rule == 3) then 0 else 21
def Xo (rule now : Int) : Int := bif rule == 2 && (now == 0 || now == 2) then 0 else 21
theorem aem (r n : Int) : GV r n = some (abA r n) := by
 unfold GV vK Aa abA; cases n == 3 <;> cases r == 1 <;> cases r == 2 <;> cases r == 3 <;> cases r == 0 <;> cases n == 1 <;> rfl
theorem aiF (r n : Int) : OQ r n = some (abA r n) := by
 unfold OQ abA; cases n == 3 <;> cases r == 1 <;> cases r == 2 <;> cases r == 3 <;> cases r == 0 <;> cases n == 1 <;> rfl
theorem acW (r n : Int) : Em r n = some (Xo r n) := by
 unfold Em xR Xo bne; cases r == 2 <;> cases n == 0 <;> cases n == 2 <;> rfl
theorem ag9 (r n : Int) : KO r n = some (Xo r n) := by
 unfold KO Xo; cases r == 2 <;> cases n == 0 <;> cases n == 2 <;> rfl
def aha (m now : Int) (l : List ah) : Int := bif m == 3 then abA (Tm l).1 now else bif m == 2 then Xo (Tm l).1 now else 0
theorem aiG (m now : Int) (l : List ah) (hl : l.length ≤ 1000) (hs : fH l) : Om m now l = some (aha m now l) := by
 unfold Om aha; rw [aiE l hl hs]; simp only [Option.bind_some]; rw [aem, acW]; cases m == 3 <;> cases m == 2 <;> rfl
theorem aiH (e : ah) (now : Int) (l : List ah) (hl : l.length ≤ 1000) (hs : fH l) : OT e l now = some (aha e.Content.N now l) := by
 unfold OT aha; rw [alU l hl hs]; simp only [Option.bind_some]; rw [aiF, ag9]; cases e.Content.N == 3 <;> cases e.Content.N == 2 <;> rfl
def Ag (k : Int) : Bool := decide (k ≥ 1) && decide (k ≤ 10)
theorem Px (k : Int) : vI k = some (Ag k) := by
 unfold vI Ag; cases decide (k ≥ 1) <;> rfl
theorem Xp (k : Int) : Gi k = some (Ag k) := by
 unfold Gi Ag; cases decide (k ≥ 1) <;> rfl
def DK (v : aN) (k : Int) : Int := match v.Kinds.find? fun x => x.Kind == k with | some x => x.N | none => bif Ag k then v.State else v.Message
theorem Iu (v : aN) (k : Int) (h : v.Kinds.length ≤ 1000) : uO v k = some (DK v k) := by
 unfold uO Qe DK; rw [wM v.Kinds (fuel_lt (by omega)) (fun x => x.Kind == k) (fun i => some (match v.Kinds[i]? with | some x => x.N | none => 0)) (some (bif Ag k then v.State else v.Message))]
 · rw [lg]; by_cases h : v.Kinds.findIdx (fun x => x.Kind == k) < v.Kinds.length
   · rw [if_pos h, List.getElem?_eq_getElem h]
   rw [if_neg h, List.getElem?_eq_none (by omega)]
 · intro k2 i h; unfold AZ; rw [dF h, List.getElem?_eq_getElem h]
 intro k2; unfold AZ; rw [dP, Px]; cases Ag k <;> rfl
theorem CP (v : aN) (k : Int) (h : v.Kinds.length ≤ 1000) : Cj v k = some (DK v k) := by
 unfold Cj WG DK; rw [wM v.Kinds (fuel_lt (by omega)) (fun x => x.Kind == k) (fun i => some (match v.Kinds[i]? with | some x => x.N | none => 0)) (some (bif Ag k then v.State else v.Message))]
 · rw [lg]; by_cases h : v.Kinds.findIdx (fun x => x.Kind == k) < v.Kinds.length
   · rw [if_pos h, List.getElem?_eq_getElem h]
   rw [if_neg h, List.getElem?_eq_none (by omega)]
 · intro k2 i h; unfold HY; rw [dF h, bT h, List.getElem?_eq_getElem h]; rfl
 intro k2; unfold HY; rw [dP, Xp]; cases Ag k <;> rfl
def Rh (own was MW : Int) : Bool := was == MW || (decide (was ≤ own) && decide (MW ≤ own))
def numsOf (v : aN) : List Int := [v.User, v.Message, v.State, v.iJ, v.lD, v.oP, v.iV]
def ahb (own : Int) (p : Int × Int) : Bool := !Rh own p.1 p.2
def Ri (own : Int) (old new : aN) (x : fV) : Bool := !Rh own (DK old x.Kind) (DK new x.Kind)
def badU (own : Int) (old new : aN) (user : ByteArray) (x : eG) : Bool := !(Rh own (dQ old x.User) (dQ new x.User) && (dQ old x.User == dQ new x.User || decide (x.User = user) || decide (dQ old x.User < own)))
def Tn (old new : aN) (user : ByteArray) : Int :=
 bif ((numsOf old).zip (numsOf new)).any (ahb (dQ old user)) then 20 else bif (old.Kinds ++ new.Kinds).any (Ri (dQ old user) old new) then 20 else bif (old.Users ++ new.Users).any (badU (dQ old user) old new user) then 20 else 0
theorem Xq (own was MW : Int) : kE was MW own = some (!Rh own was MW) := by
 unfold kE Rh; have h1 : (was != MW) = !(was == MW) := rfl; have h2 : decide (was > own) = !decide (was ≤ own) := by by_cases h : was ≤ own <;> simp [h] <;> omega
 have h3 : decide (MW > own) = !decide (MW ≤ own) := by by_cases h : MW ≤ own <;> simp [h] <;> omega
 rw [h1, h2, h3]; cases was == MW <;> cases decide (was ≤ own) <;> cases decide (MW ≤ own) <;> rfl
theorem Nv (own was MW : Int) : Jb was MW own = some (Rh own was MW) := by
 unfold Jb Rh; cases was == MW <;> cases decide (was ≤ own) <;> rfl
structure LD (v : aN) : Prop where
 users : v.Users.length ≤ 40
 kinds : v.Kinds.length ≤ 40
theorem NH (a b : aN) : ((numsOf a).zip (numsOf b)).length = 7 := rfl
theorem Z7 (old new : aN) (user : ByteArray) (ho : LD old) (hn : LD new) : Ac old new user = some (Tn old new user) := by
 have o1 := ho.users; have o2 := ho.kinds; have n1 := hn.users; have n2 := hn.kinds; unfold Ac; rw [qN old user (by omega)]; unfold xY; simp only [Option.bind_some]; unfold Tn; generalize hown : dQ old user = own
 have hU : zB old new own user false 0 = some (bif (old.Users ++ new.Users).any (badU own old new user) then 20 else 0) := by
  unfold zB; rw [ake ([old.Users, new.Users] : List (List eG)) (fuel_lt (by simp)) (fun us => us.any (badU own old new user)) (fun _ => some 20) (some 0) false]
  · have e : (old.Users ++ new.Users).any (badU own old new user) = ([old.Users, new.Users] : List (List eG)).any (fun us => us.any (badU own old new user)) := by simp
    rw [e]
    have hf : ∀ L : List (List eG), (if L.findIdx (fun us => us.any (badU own old new user)) < L.length then some (20 : Int) else some 0) = some (bif L.any (fun us => us.any (badU own old new user)) then 20 else 0) := fun L => by
     by_cases h : L.findIdx (fun us => us.any (badU own old new user)) < L.length
     · rw [if_pos h]; have : L.any (fun us => us.any (badU own old new user)) = true := List.any_eq_true.2 ((List.findIdx_lt_length).1 h); rw [this]; rfl
     rw [if_neg h]
     have : L.any (fun us => us.any (badU own old new user)) = false := by
      rw [Bool.eq_false_iff]; exact fun k => h (List.findIdx_lt_length.2 (List.any_eq_true.1 k))
     rw [this]; rfl
    exact hf _
  · intro k i h
    have hus : ([old.Users, new.Users] : List (List eG))[i].length ≤ 40 := by
     have : ([old.Users, new.Users] : List (List eG))[i] ∈ [old.Users, new.Users] := List.getElem_mem h; simp only [List.mem_cons, List.not_mem_nil, or_false] at this; rcases this with e | e <;> rw [e] <;> assumption
    unfold zA; rw [show decide ((i : Int) < 2) = true by simp only [List.length_cons, List.length_nil] at h; simp; omega, bT h]; simp only [cond_true, Option.bind_some]; generalize ([old.Users, new.Users] : List (List eG))[i] = us at hus; unfold Ou; rw [ake us (fuel_lt (by omega)) (badU own old new user) (fun _ => some 20) (k false (IntKind.i64.wrap ((i : Int) + 1))) false]
    · by_cases h2 : us.findIdx (badU own old new user) < us.length
      · rw [if_pos h2]; have : us.any (badU own old new user) = true := List.any_eq_true.2 ((List.findIdx_lt_length).1 h2); rw [this]; rfl
      rw [if_neg h2]
      have : us.any (badU own old new user) = false := by
       rw [Bool.eq_false_iff]; exact fun k => h2 (List.findIdx_lt_length.2 (List.any_eq_true.1 k))
      rw [this]; rfl
    · intro k2 j hj; unfold zy qK; rw [dF hj, qN old _ (by omega), qN new _ (by omega)]; simp only [Option.bind_some]; rw [Xq, kZ]; unfold badU; have h2 : decide (dQ old us[j].User ≥ own) = !decide (dQ old us[j].User < own) := by by_cases h : dQ old us[j].User < own <;> simp [h] <;> omega
      have h3 : (dQ old us[j].User != dQ new us[j].User) = !(dQ old us[j].User == dQ new us[j].User) := rfl; simp only [Option.bind_some]; rw [h2, h3]; cases Rh own (dQ old us[j].User) (dQ new us[j].User) <;> cases dQ old us[j].User == dQ new us[j].User <;> cases decide (us[j].User = user) <;> cases decide (dQ old us[j].User < own) <;> rfl
    intro k2; unfold zy; rw [dP]
  intro k; unfold zA qK; rw [show decide (((([old.Users, new.Users] : List (List eG)).length : Nat) : Int) < 2) = false from rfl]; rfl
 have hK : zF old new own user 0 = some (bif (old.Kinds ++ new.Kinds).any (Ri own old new) then 20 else bif (old.Users ++ new.Users).any (badU own old new user) then 20 else 0) := by
  unfold zF; rw [scan ([old.Kinds, new.Kinds] : List (List fV)) (fuel_lt (by simp)) (fun ks => ks.any (Ri own old new)) 20 (zB old new own user false 0)]
  · rw [hU]; have e : (old.Kinds ++ new.Kinds).any (Ri own old new) = ([old.Kinds, new.Kinds] : List (List fV)).any (fun ks => ks.any (Ri own old new)) := by simp
    rw [e]; cases ([old.Kinds, new.Kinds] : List (List fV)).any (fun ks => ks.any (Ri own old new)) <;> rfl
  · intro k i h
    have hks : ([old.Kinds, new.Kinds] : List (List fV))[i].length ≤ 40 := by
     have : ([old.Kinds, new.Kinds] : List (List fV))[i] ∈ [old.Kinds, new.Kinds] := List.getElem_mem h; simp only [List.mem_cons, List.not_mem_nil, or_false] at this; rcases this with e | e <;> rw [e] <;> assumption
    unfold zC; rw [show decide ((i : Int) < 2) = true by simp only [List.length_cons, List.length_nil] at h; simp; omega, bT h]; simp only [cond_true, Option.bind_some]; generalize ([old.Kinds, new.Kinds] : List (List fV))[i] = ks at hks; unfold Ot; rw [scan ks (fuel_lt (by omega)) (Ri own old new) 20 (k (IntKind.i64.wrap ((i : Int) + 1)))]
    · intro k2 j hj; unfold zx; rw [dF hj, Iu old _ (by omega), Iu new _ (by omega)]; simp only [Option.bind_some]; rw [Xq]; rfl
    intro k2; unfold zx; rw [dP]
  intro k; unfold zC; rw [show decide (((([old.Kinds, new.Kinds] : List (List fV)).length : Nat) : Int) < 2) = false from rfl]; rfl
 unfold Ov; rw [scan ((numsOf old).zip (numsOf new)) (by rw [NH]; exact fuel_lt (by decide)) (ahb own) 20 (zF old new own user 0)]
 · rw [hK]; cases ((numsOf old).zip (numsOf new)).any (ahb own) <;> rfl
 · intro k i h; have h7 : i < 7 := by rw [NH] at h; exact h
   have e1 : aY [old.User, old.Message, old.State, old.iJ, old.lD, old.oP, old.iV] (i : Int) = some ((numsOf old)[i]'h7) := bT (l := numsOf old) h7; have e2 : aY [new.User, new.Message, new.State, new.iJ, new.lD, new.oP, new.iV] (i : Int) = some ((numsOf new)[i]'h7) := bT (l := numsOf new) h7; unfold zG; rw [show decide ((i : Int) < 7) = true by simp; omega, e1, e2]; simp only [cond_true, Option.bind_some]; rw [Xq, List.getElem_zip]; rfl
 intro k; unfold zG; rw [NH, show decide (((7 : Nat) : Int) < 7) = false from rfl]; rfl
theorem acX (old new : aN) (u user : ByteArray) (ho : LD old) (hn : LD new) : wL old new u user = some (Rh (dQ old user) (dQ old u) (dQ new u) && (dQ old u == dQ new u || decide (u = user) || decide (dQ old u < dQ old user))) := by
 have o1 := ho.users; have n1 := hn.users; unfold wL; rw [tZ old user (by omega), tZ old u (by omega), tZ new u (by omega)]; simp only [Option.bind_some]; rw [Nv, kZ]; simp only [Option.bind_some]; cases Rh (dQ old user) (dQ old u) (dQ new u) <;> cases dQ old u == dQ new u <;> cases decide (u = user) <;> cases decide (dQ old u < dQ old user) <;> rfl
theorem aen (old new : aN) (user : ByteArray) (ho : LD old) (hn : LD new) : H6 old new user = some (Tn old new user) := by
 have o1 := ho.users; have o2 := ho.kinds; have n1 := hn.users; have n2 := hn.kinds; unfold H6; rw [tZ old user (by omega)]; unfold EL; simp only [Option.bind_some]; unfold Tn
 have hmu : ∀ x : eG, (wL old new x.User user) = some (!badU (dQ old user) old new user x) := fun x => by
  rw [acX old new _ _ ho hn]; unfold badU; rw [Bool.not_not]
 generalize hown : dQ old user = own at hmu
 have hU2 : LW new old user 0 = some (bif new.Users.any (badU own old new user) then 20 else 0) := by
  unfold LW; rw [scan new.Users (fuel_lt (by omega)) (badU own old new user) 20 (some 0)]
  · cases new.Users.any (badU own old new user) <;> rfl
  · intro k i h; unfold Fh; rw [dF h, hmu]; simp only [Option.bind_some, Bool.not_not]
  intro k; unfold Fh; rw [dP]
 have hU : LX old new user 0 = some (bif (old.Users ++ new.Users).any (badU own old new user) then 20 else 0) := by
  unfold LX; rw [scan old.Users (fuel_lt (by omega)) (badU own old new user) 20 (some (bif new.Users.any (badU own old new user) then 20 else 0))]
  · rw [List.any_append]; cases old.Users.any (badU own old new user) <;> rfl
  · intro k i h; unfold Fj; rw [dF h, hmu]; simp only [Option.bind_some, Bool.not_not]
  intro k; unfold Fj; rw [dP, hU2]
 have hK : Fq old new own user 0 = some (bif (old.Kinds ++ new.Kinds).any (Ri own old new) then 20 else bif (old.Users ++ new.Users).any (badU own old new user) then 20 else 0) := by
  unfold Fq; have hw : IntKind.i64.wrap ((old.Kinds.length : Int) + (new.Kinds.length : Int)) = (((old.Kinds ++ new.Kinds).length : Nat) : Int) := by rw [List.length_append, IntKind.wrap_i64]; omega
  rw [scan (old.Kinds ++ new.Kinds) (fuel_lt (by rw [List.length_append]; omega)) (Ri own old new) 20 (some (bif (old.Users ++ new.Users).any (badU own old new user) then 20 else 0))]
  · cases (old.Kinds ++ new.Kinds).any (Ri own old new) <;> rfl
  · intro k i h; unfold Fp Af; rw [hw, dec_lt h]; simp only [cond_true]; by_cases hi : i < old.Kinds.length
    · rw [dec_lt hi, bT hi]; simp only [cond_true, Option.bind_some]; rw [CP old _ (by omega), CP new _ (by omega)]; simp only [Option.bind_some]; rw [Nv, List.getElem_append_left hi]; rfl
    have hj : i - old.Kinds.length < new.Kinds.length := by rw [List.length_append] at h; omega
    have w : IntKind.i64.wrap ((i : Int) - (old.Kinds.length : Int)) = ((i - old.Kinds.length : Nat) : Int) := by rw [List.length_append] at h; rw [IntKind.wrap_i64]; omega
    rw [show decide ((i : Int) < (old.Kinds.length : Int)) = false by simp; omega, w, bT hj]; simp only [cond_false, Option.bind_some]; rw [CP old _ (by omega), CP new _ (by omega)]; simp only [Option.bind_some]; rw [Nv, List.getElem_append_right (by omega)]; rfl
  intro k; unfold Fp; rw [hw, jd, hU]; rfl
 unfold UR; rw [scan ((numsOf old).zip (numsOf new)) (by rw [NH]; exact fuel_lt (by decide)) (ahb own) 20 (Fq old new own user 0)]
 · rw [hK]; cases ((numsOf old).zip (numsOf new)).any (ahb own) <;> rfl
 · intro k i h; have h7 : i < 7 := by rw [NH] at h; exact h
   have e1 : aY [old.User, old.Message, old.State, old.iJ, old.lD, old.oP, old.iV] (i : Int) = some ((numsOf old)[i]'h7) := bT (l := numsOf old) h7; have e2 : aY [new.User, new.Message, new.State, new.iJ, new.lD, new.oP, new.iV] (i : Int) = some ((numsOf new)[i]'h7) := bT (l := numsOf new) h7; unfold Fv; rw [show decide ((i : Int) < (([old.User, old.Message, old.State, old.iJ, old.lD, old.oP, old.iV] : List Int).length : Int)) = true from dec_lt (n := 7) h7, e1, e2]; simp only [cond_true, Option.bind_some]; rw [Nv, List.getElem_zip]; rfl
 intro k; unfold Fv; rw [NH]; rfl
end Go.Proofs.YtelpgcaiadpjpaaGreat
end
section
namespace Go.Proofs.YtelpgcaiadpjpaaGreat
open Go.RowKit
def Xr (e : ah) (l : List ah) (now : Int) : Int :=
 bif !(kC l e.bf == 3) then 18 else
 bif e.Content.N == 1 && decide (dQ (eX l) e.bf < (eX l).iJ) then 20 else
 bif e.Content.N == 0 && ((now == 4 && decide (dQ (eX l) e.bf < (eX l).oP)) || decide (dQ (eX l) e.bf < (eX l).lD) || decide (dQ (eX l) e.Key ≥ dQ (eX l) e.bf)) then 20 else
 bif e.Content.N == 4 && (decide (dQ (eX l) e.bf < (eX l).oP) || decide (dQ (eX l) e.Key ≥ dQ (eX l) e.bf)) then 20 else 0
def Tq (e : ah) (l : List ah) : Int :=
 bif Tj e l then 0 else
 bif decide (e.Key = e.bf) && kC l e.Key == 4 then 19 else
 bif !moveB (kC l e.Key) e.Content.N (decide (e.Key = e.bf)) then 18 else
 bif decide (e.Key = e.bf) then aha e.Content.N (kC l e.Key) l else Xr e l (kC l e.Key)
def Xt (e : ah) (l : List ah) : Int :=
 bif decide (dQ (eX l) e.bf < DK (eX l) e.Kind) then 20 else bif e.Kind == 3 then Tn (eX l) e.Content.Levels e.bf else 0
def ajb (s : ByteArray) : ByteArray := (splitB s (Ti s)).2.1
def FU (e : ah) (l : List ah) : Int :=
 bif e.Kind == 1 then (bif !(kH l).2 && (ajb e.bf).toList == (ajb e.Room).toList then 0 else 17) else
 bif !(kH l).2 then 17 else bif e.Kind == 2 then Tq e l else bif !(kC l e.bf == 3) then 18 else Xt e l
theorem QD {l : List ah} (h : fH l) : LD (eX l) := ⟨(uq h).1, (uq h).2⟩
theorem EO.levels {e : ah} (h : EO e) : LD e.Content.Levels := ⟨h.users, h.kinds⟩
theorem aeo (e : ah) (l : List ah) (hl : l.length ≤ 1000) (hs : fH l) (he : EO e) : GZ e l = some (Xt e l) := by
 have hS := QD hs; have h1 := hS.users; have h2 := hS.kinds; unfold GZ Xt; rw [Ph l hl hs]; simp only [Option.bind_some]; rw [qN _ _ (by omega), Iu _ _ (by omega)]; simp only [Option.bind_some]; rw [Z7 _ _ _ hS he.levels]; cases decide (dQ (eX l) e.bf < DK (eX l) e.Kind) <;> cases e.Kind == 3 <;> rfl
theorem ahc (e : ah) (l : List ah) (hl : l.length ≤ 1000) (hs : fH l) (he : EO e) : KQ e l = some (Xt e l) := by
 have hS := QD hs; have h1 := hS.users; have h2 := hS.kinds; unfold KQ Xt; rw [Xg l hl]; simp only [Option.bind_some]; rw [tZ _ _ (by omega), CP _ _ (by omega)]; simp only [Option.bind_some]; rw [aen _ _ _ hS he.levels]; cases decide (dQ (eX l) e.bf < DK (eX l) e.Kind) <;> cases e.Kind == 3 <;> rfl
def er (x : Int) : Except Value Unit := .error (.iface 187 (.agg #[.int .i64 x]))
theorem adF (x : Int) : tV x = some (er x) := rfl
theorem acY (b : Bool) (x : Int) : nG b x = some (bif b then .ok () else er x) := by cases b <;> rfl
theorem Z8 (b : Bool) (x : Int) (f : Unit → Option (Except Value Unit)) : xG (bif b then .ok () else er x) f = bif b then f () else some (er x) := by cases b <;> rfl
theorem ajc (x : Int) (f : Unit → Option (Except Value Unit)) : xG (er x) f = some (er x) := rfl
theorem aqo (a b : Int) : decide (a ≥ b) = !decide (a < b) := by by_cases h : a < b <;> simp [h] <;> omega
theorem akj (e : ah) (l : List ah) (now : Int) (hl : l.length ≤ 1000) (hs : fH l) : (oz l e now).bind lW = some (Xr e l now) := by
 have h1 := (uq hs).1; unfold oz Xr; rw [Md l _ hl, Ph l hl hs]; simp only [Option.bind_some]; rw [qN _ _ (by omega), qN _ _ (by omega)]; simp only [acY, Option.bind_some, Z8, aqo]
 have h2 : decide (dQ (eX l) e.Key < dQ (eX l) e.bf) = !decide (dQ (eX l) e.bf ≤ dQ (eX l) e.Key) := by
  by_cases h : dQ (eX l) e.Key < dQ (eX l) e.bf <;> simp [h] <;> omega
 have h3 : (now != 4) = !(now == 4) := rfl; rw [h3]; generalize decide (dQ (eX l) e.Key < dQ (eX l) e.bf) = t; generalize decide (dQ (eX l) e.bf < (eX l).iJ) = i; generalize decide (dQ (eX l) e.bf < (eX l).oP) = b; generalize decide (dQ (eX l) e.bf < (eX l).lD) = k; generalize (now == 4) = n; cases kC l e.bf == 3 with
 | false => rfl
 | true =>
   by_cases n1 : e.Content.N = 1
   · rw [n1]; cases i <;> rfl
   rw [show (e.Content.N == 1) = false by simpa using n1]; by_cases n0 : e.Content.N = 0
   · rw [n0]; cases n <;> cases b <;> cases k <;> cases t <;> rfl
   rw [show (e.Content.N == 0) = false by simpa using n0]; cases e.Content.N == 4 <;> cases b <;> cases t <;> rfl
theorem ahd (e : ah) (l : List ah) (now : Int) (hl : l.length ≤ 1000) (hs : fH l) : KP e l now = some (Xr e l now) := by
 have h1 := (uq hs).1; unfold KP Xr; rw [Xn l _ hl, Xg l hl]; simp only [Option.bind_some]; rw [tZ _ _ (by omega), tZ _ _ (by omega)]; simp only [Option.bind_some, uU, agK, XT, bne]
theorem acZ (e : ah) (l : List ah) (hl : l.length ≤ 1000) (hs : fH l) : En e l = some (Tq e l) := by
 unfold En Tq; rw [ael e l hl]; simp only [Option.bind_some]; cases Tj e l with
 | true => rfl
 | false =>
   simp only [cond_false]
   have hb : ∀ o : Option (Except Value Unit), (o.bind fun x3 => (lW x3).bind fun x4 => some x4) = o.bind lW := fun o => by
    cases o with
    | none => rfl
    | some x => cases h : lW x <;> simp [h]
   rw [hb]; have ho := akj e l (kC l e.Key) hl hs; unfold Fa; rw [Md l _ hl, kZ]; simp only [Option.bind_some]; rw [abz, aiG _ _ _ hl hs]; simp only [Option.bind_some, acY, adF, Z8, ajc, uU]; have h3 : (kC l e.Key != 4) = !(kC l e.Key == 4) := rfl; rw [h3]; generalize oz l e (kC l e.Key) = J at ho; generalize decide (e.Key = e.bf) = s; cases s with
   | true =>
     cases kC l e.Key == 4 with
     | true => rfl
     | false => cases moveB (kC l e.Key) e.Content.N true <;> rfl
   | false =>
     cases moveB (kC l e.Key) e.Content.N false with
     | false => rfl
     | true => exact ho
theorem aep (e : ah) (l : List ah) (hl : l.length ≤ 1000) (hs : fH l) : Hz e l = some (Tq e l) := by
 unfold Hz Tq; rw [ag8 e l hl, Xn l _ hl]; simp only [Option.bind_some]; rw [Y7, aiH e _ l hl hs, ahd e l _ hl hs, kZ]; simp only [Option.bind_some, uU, XT]
theorem abB (e : ah) (l : List ah) (hl : l.length ≤ 1000) (hs : fH l) (he : EO e) : BR e l = some (FU e l) := by
 have h1 := he.sender; have h2 := he.room; unfold BR FU
 have hb : ∀ o : Option (Except Value Unit), (o.bind fun x3 => (lW x3).bind fun x4 => some x4) = o.bind lW := fun o => by
  cases o with
  | none => rfl
  | some x => cases h : lW x <;> simp [h]
 rw [hb]; unfold Di sQ sO sN; rw [QA l hl, (JR (s := e.bf) (by omega)).1, (JR (s := e.Room) (by omega)).1, Md l _ hl, aeo e l hl hs he, acZ e l hl hs]; simp only [Option.bind_some, acY, adF, Z8, ajc]; show _ = some (bif e.Kind == 1 then (bif !(kH l).2 && (splitB e.bf (Ti e.bf)).2.1.toList == (splitB e.Room (Ti e.Room)).2.1.toList then 0 else 17) else _); cases e.Kind == 1 with
 | true =>
   cases (kH l).2 with
   | true => rfl
   | false => cases (splitB e.bf (Ti e.bf)).2.1.toList == (splitB e.Room (Ti e.Room)).2.1.toList <;> rfl
 | false =>
   cases (kH l).2 with
   | false => rfl
   | true =>
     cases e.Kind == 2 with
     | true => rfl
     | false => cases kC l e.bf == 3 <;> rfl
theorem ac0 (e : ah) (l : List ah) (hl : l.length ≤ 1000) (hs : fH l) (he : EO e) : EM e l = some (FU e l) := by
 have h1 := he.sender; have h2 := he.room; unfold EM yE FU; rw [QB l hl, (JR (s := e.bf) (by omega)).2, (JR (s := e.Room) (by omega)).2, Xn l _ hl, ahc e l hl hs he, aep e l hl hs]; simp only [Option.bind_some]; show _ = some (bif e.Kind == 1 then (bif !(kH l).2 && (splitB e.bf (Ti e.bf)).2.1.toList == (splitB e.Room (Ti e.Room)).2.1.toList then 0 else 17) else _); cases e.Kind == 1 with
 | true =>
   cases (kH l).2 with
   | true => rfl
   | false => cases (splitB e.bf (Ti e.bf)).2.1.toList == (splitB e.Room (Ti e.Room)).2.1.toList <;> rfl
 | false =>
   cases (kH l).2 with
   | false => rfl
   | true =>
     cases e.Kind == 2 with
     | true => rfl
     | false => unfold bne; cases kC l e.bf == 3 <;> rfl
end Go.Proofs.YtelpgcaiadpjpaaGreat
end
section
namespace Go.Proofs.YtelpgcaiadpjpaaGreat
open Go.RowKit
def ac1 (named : List ah) (k : ay) : ah × Bool := match named.find? (uY k) with | some x => (x, true) | none => (dh, false)
def X3 (l : List ah) (s : List ay) (e : ah) (k : ay) : ah × Bool := bif (rE s k.Kind k.Key).2 then yI l (rE s k.Kind k.Key).1 else ac1 (ofIds l e.eF) k
def Iw (l : List ah) (s : List ay) (e : ah) (k : ay) : List ah := bif (X3 l s e k).2 then [(X3 l s e k).1] else []
def Iy (l : List ah) (s : List ay) (e : ah) : List ah := (keysOf e).flatMap (Iw l s e)
theorem Py (l : List ah) (s : List ay) (e : ah) (k : ay) : (Iw l s e k).length ≤ 1 := by
 unfold Iw; cases (X3 l s e k).2 <;> simp
theorem U5 (l : List ah) (s : List ay) (e : ah) : (Iy l s e).length ≤ 5 := by
 have h1 := flat_length (f := Iw l s e) (n := 1) (Py l s e) (keysOf e); have h2 := sF e; unfold Iy; omega
theorem akk {l : List ah} {s : List ay} {e x : ah} (h : x ∈ Iy l s e) : x ∈ l := by
 obtain ⟨k, _, h⟩ := List.mem_flatMap.1 h; unfold Iw X3 ac1 at h; cases hg : (rE s k.Kind k.Key).2 with
 | true =>
   rw [hg] at h; simp only [cond_true] at h; cases hp : iZ l (rE s k.Kind k.Key).1 with
   | none => rw [yS hp] at h; exact absurd h List.not_mem_nil
   | some y => rw [oL hp] at h; rw [List.mem_singleton.1 h]; exact uV hp
 | false =>
   rw [hg] at h; simp only [cond_false] at h; cases hf : (ofIds l e.eF).find? (uY k) with
   | none => rw [hf] at h; exact absurd h List.not_mem_nil
   | some y => rw [hf] at h; rw [List.mem_singleton.1 h]; exact ady (List.mem_of_find?_eq_some hf)
theorem fH.base {l : List ah} (h : fH l) (s : List ay) (e : ah) : fH (Iy l s e) := fun x hx => h x (akk hx)
theorem ac2 (named : List ah) (k : ay) (hn : named.length ≤ 1000) : Ej named k = some (ac1 named k) := by
 unfold Ej; rw [O4 named (by omega) (fun a0 => vJ a0 k) (uY k) fun e => by unfold vJ uY; rw [kZ]; cases e.Kind == k.Kind <;> rfl]; exact found_eq named (uY k) rfl
theorem aiI (named : List ah) (k : ay) (hn : named.length ≤ 1000) : OI named k.Kind k.Key = some (ac1 named k) := by
 unfold OI YP; rw [ag7 named (fuel_lt (by omega)) (uY k) (fun i => some (match named[i]? with | some x => (x, true) | none => (dh, false))) (some (dh, false))]
 · exact UC named _
 · intro k2 i h; unfold JE; rw [dF h, bT h, List.getElem?_eq_getElem h]; simp only [Option.bind_some]; rw [kZ]; unfold uY; cases named[i].Kind == k.Kind <;> cases decide (named[i].Key = k.Key) <;> rfl
 intro k2; unfold JE; rw [dP]
theorem abC (l : List ah) (s : List ay) (e : ah) (hl : l.length ≤ 1000) (he : e.eF.length ≤ 40) (hs : jS s) (hsl : s.length ≤ 1000000) : BN l s e = some (Iy l s e) := by
 unfold BN; have ho := O5 l e.eF; have hk := sF e; have hm : wP 376 dh 0 5 = some [] := by unfold wP; rw [if_pos (by constructor <;> omega)]; rfl
 rw [aip l _ hl (by omega), hm, Qv]; simp only [Option.bind_some]; unfold P8; rw [mQ (keysOf e) (by omega) (fun r k => r ++ Iw l s e k) (fun i r => r.length ≤ i) (fun r => some r) (Nat.le_refl _)]
 · rw [foldl_append (Iw l s e), List.nil_append]; rfl
 · intro k r i h hI; have hp := Py l s e (keysOf e)[i]; refine ⟨by rw [List.length_append]; omega, ?_⟩; unfold AX wo vZ; rw [dF h, ac2 _ _ (by omega), Io s _ _ hsl hs]; simp only [Option.bind_some]; rw [kU l _ (by omega), dD (by simp only [List.length_singleton]; omega)]; simp only [Option.bind_some]; rw [dD (by simp only [List.length_singleton]; omega)]; unfold Iw X3; cases (rE s (keysOf e)[i].Kind (keysOf e)[i].Key).2 with
   | true =>
     simp only [cond_true]; cases (yI l (rE s (keysOf e)[i].Kind (keysOf e)[i].Key).1).2 with
     | true => rfl
     | false => simp
   | false =>
     simp only [cond_false]; cases (ac1 (ofIds l e.eF) (keysOf e)[i]).2 with
     | true => rfl
     | false => simp
 intro k r _; unfold AX; rw [dP]
theorem aiJ (l : List ah) (s : List ay) (e : ah) (hl : l.length ≤ 1000) (he : e.eF.length ≤ 40) (hsl : s.length ≤ 1000000) : OJ l s e = some (Iy l s e) := by
 unfold OJ; have ho := O5 l e.eF; have hk := sF e; rw [Y2, adu l _ hl (by omega)]; simp only [Option.bind_some]; unfold YQ; rw [mQ (a0 := []) (keysOf e) (by omega) (fun r k => r ++ Iw l s e k) (fun i r => r.length ≤ i) (fun r => some r) (Nat.le_refl _)]
 · rw [foldl_append (Iw l s e), List.nil_append]; rfl
 · intro k r i h hI; have hp := Py l s e (keysOf e)[i]; refine ⟨by rw [List.length_append]; omega, ?_⟩; unfold JF EK EJ; rw [dec_lt h, bT h]; simp only [cond_true, Option.bind_some]; rw [aiI _ _ (by omega), Ut s _ _ hsl]; simp only [Option.bind_some]; rw [oq l _ (by omega), dD (by simp only [List.length_singleton]; omega)]; simp only [Option.bind_some]; rw [dD (by simp only [List.length_singleton]; omega)]; unfold Iw X3; cases (rE s (keysOf e)[i].Kind (keysOf e)[i].Key).2 with
   | true =>
     simp only [cond_true]; cases (yI l (rE s (keysOf e)[i].Kind (keysOf e)[i].Key).1).2 with
     | true => rfl
     | false => simp
   | false =>
     simp only [cond_false]; cases (ac1 (ofIds l e.eF) (keysOf e)[i]).2 with
     | true => rfl
     | false => simp
 intro k r _; unfold JF; rw [jd]; rfl
def ahe (l : List ah) (s : List ay) (id : Int) : Bool := dS l id && (Ag (ev l id).Kind && FU (ev l id) (Iy l s (ev l id)) == 0)
def Ah (l : List ah) (s : List ay) (id : Int) : List ay := bif ahe l s id then kM s (ev l id).Kind (ev l id).Key (ev l id).Id else s
def vT (l : List ah) (s : List ay) (ids : List Int) : List ay := ids.foldl (Ah l) s
theorem U6 {l : List ah} {s : List ay} (h : jS s) (id : Int) : jS (Ah l s id) := by
 unfold Ah; cases ahe l s id with
 | true => exact aiw h _ _ _
 | false => exact h
theorem Tt {l : List ah} : ∀ {ids : List Int} {s : List ay}, jS s → jS (vT l s ids)
 | [], _, h => h
 | id :: ids, s, h => Tt (ids := ids) (U6 h id)
theorem Me (l : List ah) (s : List ay) (id : Int) : (Ah l s id).length ≤ s.length + 1 := by
 unfold Ah; cases ahe l s id with
 | true => exact jP _ _ _ _
 | false => exact Nat.le_succ _
theorem yM (l : List ah) : ∀ (ids : List Int) (s : List ay), (vT l s ids).length ≤ s.length + ids.length
 | [], s => Nat.le_refl _
 | id :: ids, s => by
   have h1 := yM l ids (Ah l s id); have h2 := Me l s id; show (vT l (Ah l s id) ids).length ≤ _; rw [List.length_cons]; omega
theorem ahf {l : List ah} (hs : fH l) {id : Int} (h : dS l id = true) : EO (ev l id) := hs _ (uV (Uy h).1)
theorem abD (l : List ah) (s : List ay) (id : Int) (hl : l.length ≤ 1000) (hs : fH l) (hso : jS s) (hsl : s.length ≤ 1000000) : BU l s id = some (Ah l s id) := by
 unfold BU Jw uh Ah ahe; have akl : EW s (.error (.iface 146 (.agg #[])) : Except Value (List ay)) = some s := rfl; rw [kU l _ (by omega)]; simp only [Option.bind_some]; rw [yJ]; cases hk : (iZ l id).isSome with
 | false => rw [show dS l id = false from hk]; exact akl
 | true =>
   have hks : dS l id = true := hk; have he := ahf hs hks; have hev : (yI l id).1 = ev l id := rfl; rw [hks, hev, Px]; simp only [Option.bind_some, Bool.not_true, cond_false, Bool.true_and]; cases Ag (ev l id).Kind with
   | false => exact akl
   | true =>
     have hb := U5 l s (ev l id); rw [abC l s _ hl he.auth hso hsl]; simp only [Option.bind_some, Bool.not_true, cond_false, Bool.true_and]; rw [abB _ _ (by omega) (hs.base s _) he]; simp only [Option.bind_some]; rw [pR s _ _ _ hsl]; unfold bne; cases FU (ev l id) (Iy l s (ev l id)) == 0 with
     | true => rfl
     | false => exact akl
theorem Pz (l : List ah) (s : List ay) (ids : List Int) (hl : l.length ≤ 1000) (hs : fH l) (hso : jS s) (hsl : s.length + ids.length ≤ 1000000) : qh l s ids = some (vT l s ids) := by
 unfold qh lQ; rw [dD (by simp only [List.length_nil]; omega)]; simp only [Option.bind_some, List.nil_append]; unfold Ox; rw [mQ ids (by omega) (Ah l) (fun i r => jS r ∧ r.length ≤ s.length + i) (fun r => some r) ⟨hso, Nat.le_refl _⟩]
 · rfl
 · intro k r i h hI; have h1 := Me l r ids[i]; refine ⟨⟨U6 hI.1 _, by omega⟩, ?_⟩; unfold zH; rw [dF h, abD l r _ hl hs hI.1 (by omega)]; rfl
 intro k r _; unfold zH; rw [dP]
theorem Xu (l : List ah) (s : List ay) (ids : List Int) (hl : l.length ≤ 1000) (hs : fH l) (hsl : s.length + ids.length ≤ 1000000) : yR l s ids = some (vT l s ids) := by
 unfold yR; rw [dD (by simp only [List.length_nil]; omega)]; simp only [Option.bind_some, List.nil_append]; unfold WJ; rw [mQ ids (by omega) (Ah l) (fun i r => r.length ≤ s.length + i) (fun r => some r) (Nat.le_refl _)]
 · rfl
 · intro k r i h hI; have h1 := Me l r ids[i]; refine ⟨by omega, ?_⟩; unfold H8 yF Cm Ah ahe; rw [dF h, oq l _ (by omega)]; simp only [Option.bind_some]; rw [yJ]; cases hk : (iZ l ids[i]).isSome with
   | false => rw [show dS l ids[i] = false from hk]; rfl
   | true =>
     have hks : dS l ids[i] = true := hk; have he := ahf hs hks; have hev : (yI l ids[i]).1 = ev l ids[i] := rfl; rw [hks, hev, Xp]; simp only [Option.bind_some, cond_true, Bool.true_and]; cases Ag (ev l ids[i]).Kind with
     | false => rfl
     | true =>
       have hb := U5 l r (ev l ids[i]); rw [aiJ l r _ hl he.auth (by omega)]; simp only [Option.bind_some, cond_true, Bool.true_and]; rw [ac0 _ _ (by omega) (hs.base r _) he]; simp only [Option.bind_some]; rw [abk r _ _ _ (by omega)]; cases FU (ev l ids[i]) (Iy l r (ev l ids[i])) == 0 <;> rfl
 intro k r _; unfold H8; rw [dP]
def xA (l : List ah) (aS : List (List ay)) : List Int := Xh l (qC l aS)
def CQ (l : List ah) (aS : List (List ay)) : List Int := wI l (gq l (xA l aS)).length (gq l (xA l aS))
def jh (l : List ah) (aS : List (List ay)) : List ay := vT l (lM aS) (CQ l aS)
def LG (l : List ah) (aS : List (List ay)) : List Int := bif (rE (jh l aS) 3 s0).2 then X0 l (rE (jh l aS) 3 s0).1 else []
def kD (l : List ah) (aS : List (List ay)) : List Int := LC l (LG l aS) (uz (qC l aS) (xA l aS))
def Xv (s a : List ay) : List ay := a.foldl (fun s x => kM s x.Kind x.Key x.Id) s
def lastOf (l : List ah) (aS : List (List ay)) : List ay := Xv (vT l (jh l aS) (kD l aS)) (lM aS)
structure sG (l : List ah) (aS : List (List ay)) : Prop where
 len : l.length ≤ 100
 small : fH l
 states : pU aS
theorem DL {l : List ah} {aS : List (List ay)} (h : sG l aS) : (qC l aS).length ≤ 40000 := by
 have h0 := h.len; have g1 := Ip h.states; have g2 := iY (FB aS); have h1 := Bf l aS [] fun s hs => (h.states.2 s hs).1; have h2 := h.states.1; have h3 := List.length_filter_le (fun x => decide (qA l aS x < aS.length)) (allOf l aS); have h4 : aS.length * (100 + l.length) ≤ 100 * 200 := Nat.mul_le_mul h2 (by omega); have h5 := LZ (gU (FB aS)) (CG l aS)
 have h6 : (CG l aS).length ≤ 20000 := by
  unfold CG; unfold allOf at h3 ⊢; simp only [List.length_nil] at h1; omega
 unfold qC; omega
theorem akm {l : List ah} {aS : List (List ay)} (h : sG l aS) : (FT l (qC l aS)).length ≤ 40000 := Nat.le_trans (List.length_filter_le _ _) (DL h)
theorem UD {l : List ah} {aS : List (List ay)} (h : sG l aS) : (CQ l aS).length ≤ 100 := by
 have h1 := U2 l (gq l (xA l aS)).length (gq l (xA l aS)); have h2 : (gq l (xA l aS)).length ≤ l.length := jg (zN _ _) fun x hx => (jY.1 hx).2; have h3 := h.len; unfold CQ; omega
theorem EP {l : List ah} {aS : List (List ay)} (h : sG l aS) : (jh l aS).length ≤ 200 := by
 have h1 := yM l (CQ l aS) (lM aS); have h2 := UD h; have h3 := rG h.states; unfold jh; omega
theorem Xw {l : List ah} {aS : List (List ay)} (h : sG l aS) : jS (jh l aS) := Tt (Xb h.states)
theorem abE {l : List ah} {aS : List (List ay)} (h : sG l aS) : (LG l aS).length ≤ 100 := by
 have h1 := Xi l (rE (jh l aS) 3 s0).1; have h2 := h.len; unfold LG; cases (rE (jh l aS) 3 s0).2 with
 | true => simp only [cond_true]; omega
 | false => exact Nat.zero_le _
theorem Iz {l : List ah} {aS : List (List ay)} (h : sG l aS) : (kD l aS).length ≤ 40000 := by
 have h1 := aeh l (LG l aS) (uz (qC l aS) (xA l aS)); have h2 := LY (qC l aS) (xA l aS); have h3 := DL h; unfold kD; omega
theorem aiK {l : List ah} {aS : List (List ay)} (h : sG l aS) : pX (qC l aS) (xA l aS) l (jh l aS, CQ l aS) (lM aS, gU (FB aS)) (LG l aS) = some ⟨lastOf l aS, CQ l aS, kD l aS⟩ := by
 have h0 := h.len; have h1 := DL h; have h2 := JO l (qC l aS); have h3 := abE h; have h4 := LY (qC l aS) (xA l aS); have h5 := EP h; have h6 := Iz h; have h7 := rG h.states; unfold pX lK qy; rw [agJ _ _ (by omega) (by unfold xA; omega)]; simp only [Option.bind_some]; rw [Yu l _ _ (by omega) h.small (by omega) (by omega) (CJ (TP _ _))]; simp only [Option.bind_some]; show ((qh l (jh l aS) (kD l aS)).bind _).bind _ = _; rw [Pz l _ _ (by omega) h.small (Xw h) (by omega)]; simp only [Option.bind_some]; unfold MO; have hb := yM l (kD l aS) (jh l aS); show bn _ fuel 0 (⟨vT l (jh l aS) (kD l aS), CQ l aS, kD l aS⟩ : gY) = _; rw [abb (lM aS) (by omega) (fun v x => ({ v with xI := kM v.xI x.Kind x.Key x.Id } : gY)) (fun i v => v.xI.length ≤ (vT l (jh l aS) (kD l aS)).length + i) (fun v => some v) (Nat.le_refl _)]
 · congr 1; unfold lastOf Xv
   have key : ∀ (a : List ay) (v : gY), a.foldl (fun v x => ({ v with xI := kM v.xI x.Kind x.Key x.Id } : gY)) v = ⟨a.foldl (fun s x => kM s x.Kind x.Key x.Id) v.xI, v.Nz, v.aaA⟩ := by
    intro a
    induction a with
    | nil => intro v; rfl
    | cons x a ih => intro v; rw [List.foldl_cons, ih]; rfl
   rw [key]
 · intro k v i hi hI; have hl2 := jP v.xI (lM aS)[i].Kind (lM aS)[i].Key (lM aS)[i].Id; refine ⟨by show (kM _ _ _ _).length ≤ _; omega, ?_⟩; unfold wY; rw [dF hi, pR _ _ _ _ (by omega)]; rfl
 intro k v _; unfold wY; rw [dP]
theorem adG {l : List ah} {aS : List (List ay)} (h : sG l aS) : um l aS = some ⟨lastOf l aS, CQ l aS, kD l aS⟩ := by
 have h0 := h.len; have h1 := DL h; have h2 := JO l (qC l aS); have h3 := akm h; have h5 := EP h; have h6 := UD h; have h7 := rG h.states; have ht := aiK h; unfold um; rw [MS aS h.states, ZW l aS (by omega) h.small.XW h.states]; simp only [Option.bind_some]; rw [agX l _ (by omega) h.small (by omega) (by omega)]; simp only [Option.bind_some]; unfold nH tu; rw [acS l _ (by omega) h.small (by omega)]; simp only [Option.bind_some]; have ha : qh l (lM aS) (CQ l aS) = some (jh l aS) := Pz l _ _ (by omega) h.small (Xb h.states) (by omega); unfold CQ xA at ha; rw [ha]; simp only [Option.bind_some]; rw [Io _ _ _ (by omega) (Xw h)]; simp only [Option.bind_some]; rw [acU l _ (by omega) h.small]; unfold LG at ht; cases hg : (rE (jh l aS) 3 s0).2 with
 | true => rw [hg] at ht; exact ht
 | false => rw [hg] at ht; exact ht
theorem ahg {l : List ah} {aS : List (List ay)} (h : sG l aS) : uo (qC l aS) (xA l aS) l (lM aS, gU (FB aS)) (CQ l aS) (jh l aS) (LG l aS) = some ⟨lM aS, CQ l aS, jh l aS, kD l aS, lastOf l aS⟩ := by
 have h0 := h.len; have h1 := DL h; have h2 := JO l (qC l aS); have h3 := abE h; have h4 := LY (qC l aS) (xA l aS); have h5 := EP h; have h6 := Iz h; have h7 := rG h.states; unfold uo; rw [Ij _ _ (by omega) (by unfold xA; omega)]; simp only [Option.bind_some]; rw [ag2 l _ _ (by omega) h.small (by omega) (by omega) (CJ (TP _ _))]; simp only [Option.bind_some]; show (yR l (jh l aS) (kD l aS)).bind _ = _; rw [Xu l _ _ (by omega) h.small (by omega)]; simp only [Option.bind_some]; unfold SN; have hb := yM l (kD l aS) (jh l aS); show bn _ fuel 0 (⟨lM aS, CQ l aS, jh l aS, kD l aS, vT l (jh l aS) (kD l aS)⟩ : fP) = _; rw [abb (lM aS) (by omega) (fun v x => ({ v with Last := kM v.Last x.Kind x.Key x.Id } : fP)) (fun i v => v.Same = lM aS ∧ v.Last.length ≤ (vT l (jh l aS) (kD l aS)).length + i) (fun v => some v) ⟨rfl, Nat.le_refl _⟩]
 · congr 1; unfold lastOf Xv
   have key : ∀ (a : List ay) (v : fP), a.foldl (fun v x => ({ v with Last := kM v.Last x.Kind x.Key x.Id } : fP)) v = ⟨v.Same, v.Power, v.First, v.Others, a.foldl (fun s x => kM s x.Kind x.Key x.Id) v.Last⟩ := by
    intro a
    induction a with
    | nil => intro v; rfl
    | cons x a ih => intro v; rw [List.foldl_cons, ih]; rfl
   rw [key]
 · intro k v i hi hI; have hl2 := jP v.Last (lM aS)[i].Kind (lM aS)[i].Key (lM aS)[i].Id; refine ⟨⟨hI.1, by show (kM _ _ _ _).length ≤ _; omega⟩, ?_⟩; unfold DC; rw [hI.1, dec_lt hi, bT hi]; simp only [cond_true, Option.bind_some]; rw [abk _ _ _ _ (by omega)]; rfl
 intro k v hI; unfold DC; rw [hI.1, jd]; rfl
theorem abG {l : List ah} {aS : List (List ay)} (h : sG l aS) : AA l aS = some ⟨lM aS, CQ l aS, jh l aS, kD l aS, lastOf l aS⟩ := by
 have h0 := h.len; have h1 := DL h; have h2 := JO l (qC l aS); have h5 := EP h; have h6 := UD h; have h7 := rG h.states; have ht := ahg h; unfold AA; rw [Xc aS h.states, aiy l aS (by omega) h.small.XW h.states]; simp only [Option.bind_some]; rw [akg l _ (by omega) h.small (by omega)]; simp only [Option.bind_some]; rw [agY l _ (by omega) h.small (by omega)]; simp only [Option.bind_some]; have ha : yR l (lM aS) (CQ l aS) = some (jh l aS) := Xu l _ _ (by omega) h.small (by omega); unfold CQ xA at ha; rw [ha]; simp only [Option.bind_some]; rw [Ut _ _ _ (by omega)]; simp only [Option.bind_some]; rw [adA l _ (by omega) h.small]; unfold LG at ht; cases hg : (rE (jh l aS) 3 s0).2 with
 | true => rw [hg] at ht; exact ht
 | false => rw [hg] at ht; exact ht
end Go.Proofs.YtelpgcaiadpjpaaGreat
end
section
namespace Go.Proofs.YtelpgcaiadpjpaaGreat
open Go.RowKit
theorem aer (a : List ay) (h : a.length ≤ 1000000) : CB a a = some true := by
 unfold CB; rw [show ((a.length : Int) != (a.length : Int)) = false by simp]; simp only [cond_false]; unfold YR; have hany : a.any (fun _ => false) = false := by rw [List.any_eq_false]; exact fun _ _ h => by cases h
 rw [scan a (fuel_lt (by omega)) (fun _ => false) false (some true)]
 · rw [hany]; rfl
 · intro k i hi; unfold JG AB; rw [dec_lt hi, bT hi]; simp only [cond_true, Option.bind_some]; rw [show (a[i].Kind != a[i].Kind) = false by simp, show (!(a[i].Key.toList == a[i].Key.toList)) = false by simp, show (a[i].Id != a[i].Id) = false by simp]; rfl
 intro k; unfold JG; rw [jd]; rfl
theorem U7 (a : List Int) (h : a.length ≤ 1000000) : zL a a = some true := by
 rw [aio a a (by omega)]; unfold aa9; simp
def Xx (l : List ah) (aS : List (List ay)) : List ay := match aS with
 | [] => []
 | [s] => s
 | _ => lastOf l aS
theorem Xy {l : List ah} {aS : List (List ay)} (h : sG l aS) : nI l aS = some (Xx l aS) := by
 match aS, h with
 | [], _ => rfl
 | [s], h =>
   have hs := (h.states.2 s (List.mem_cons_self ..)).1; have e0 : aY [s] 0 = some s := rfl; show ((aY [s] 0).bind fun x3 => (eP 32 [] x3).bind fun x4 => some x4) = some s; rw [e0]; simp only [Option.bind_some]; rw [dD (by simp only [List.length_nil]; omega)]; rfl
 | s :: t :: aS, h =>
   unfold nI; have e0 : (((s :: t :: aS).length : Int) == 0) = false := by simp only [List.length_cons]; simp; omega
   have e1 : (((s :: t :: aS).length : Int) == 1) = false := by simp only [List.length_cons]; simp; omega
   rw [e0, e1, adG h]; rfl
theorem ac3 {l : List ah} {aS : List (List ay)} (h : sG l aS) : EN l aS = some (Xx l aS) := by
 match aS, h with
 | [], _ => rfl
 | [s], _ => rfl
 | s :: t :: aS, h =>
   unfold EN; have e0 : (((s :: t :: aS).length : Int) == 0) = false := by simp only [List.length_cons]; simp; omega
   have e1 : (((s :: t :: aS).length : Int) == 1) = false := by simp only [List.length_cons]; simp; omega
   rw [e0, e1, abG h]; rfl
theorem U8 : ∀ (a s : List ay), (Xv s a).length ≤ s.length + a.length
 | [], s => Nat.le_refl _
 | x :: a, s => by
   have h1 := U8 a (kM s x.Kind x.Key x.Id); have h2 := jP s x.Kind x.Key x.Id; show (Xv (kM s x.Kind x.Key x.Id) a).length ≤ _; rw [List.length_cons]; omega
theorem akn {l : List ah} {aS : List (List ay)} (h : sG l aS) : (lastOf l aS).length ≤ 100000 := by
 have h1 := U8 (lM aS) (vT l (jh l aS) (kD l aS)); have h2 := yM l (kD l aS) (jh l aS); have h3 := Iz h; have h4 := EP h; have h5 := rG h.states; unfold lastOf; omega
theorem abH {l : List ah} {aS : List (List ay)} (h : sG l aS) : (Xx l aS).length ≤ 100000 := by
 match aS, h with
 | [], _ => exact Nat.zero_le _
 | [s], h => have := (h.states.2 s (List.mem_cons_self ..)).1; show s.length ≤ _; omega
 | s :: t :: aS, h => exact akn h
def Jj (l : List ah) (aS : List (List ay)) : List Int × List Int := if aS.length < 2 then ([], []) else (CQ l aS, kD l aS)
theorem Z9 {l : List ah} {aS : List (List ay)} (h : sG l aS) : vO l aS = some (Jj l aS) := by
 unfold vO Jj; by_cases h2 : aS.length < 2
 · rw [if_pos h2, show decide ((aS.length : Int) < 2) = true by simp; omega]; rfl
 rw [if_neg h2, show decide ((aS.length : Int) < 2) = false by simp; omega, adG h]; rfl
theorem ahh {l : List ah} {aS : List (List ay)} (h : sG l aS) : Lm l aS = some (Jj l aS) := by
 unfold Lm Jj; by_cases h2 : aS.length < 2
 · rw [if_pos h2, show decide ((aS.length : Int) < 2) = true by simp; omega]; rfl
 rw [if_neg h2, show decide ((aS.length : Int) < 2) = false by simp; omega, abG h]; rfl
theorem aiL {l : List ah} {aS : List (List ay)} (h : sG l aS) : (Jj l aS).1.length ≤ 100 ∧ (Jj l aS).2.length ≤ 40000 := by
 unfold Jj; by_cases h2 : aS.length < 2
 · rw [if_pos h2]; exact ⟨Nat.zero_le _, Nat.zero_le _⟩
 rw [if_neg h2]; exact ⟨UD h, Iz h⟩
theorem aes (l : List ah) : dW (BF l 14) (fun b => b = false → l.length ≤ 14 ∧ fH l) := by
 unfold BF; refine dW.bif (fun _ => .ret fun h => by cases h) fun e => ?_; have hl : l.length ≤ 14 := by have := of_decide_eq_false e; omega
 unfold VO; refine wJ l.length (fuel_lt (by omega)) (fun i => ∀ j, (hj : j < i) → (h1 : j < l.length) → EO l[j]) (fun j hj => by omega) ?_ ?_
 · intro i k hi hI hk; unfold Gv; rw [dF hi, wrap_succ i (by omega)]; refine (agL l[i]).bind fun b hb => dW.bif (fun _ => .ret fun h => by cases h) fun e2 => hk fun j hj h1 => ?_; by_cases ej : j = i
   · subst ej; exact hb e2
   exact hI j (by omega) h1
 intro k hI; unfold Gv; rw [dP]; exact .ret fun _ => ⟨hl, WV fun j h => hI j h h⟩
theorem aeu (aS : List (List ay)) : dW (Kw aS) (fun b => b = false → aS.length ≤ 4 ∧ ∀ s ∈ aS, s.length ≤ 20) := by
 unfold Kw; refine dW.bif (fun _ => .ret fun h => by cases h) fun e => ?_; have hl : aS.length ≤ 4 := by have := of_decide_eq_false e; omega
 unfold VR; refine wJ aS.length (fuel_lt (by omega)) (fun i => ∀ j, (hj : j < i) → (h1 : j < aS.length) → aS[j].length ≤ 20) (fun j hj => by omega) ?_ ?_
 · intro i k hi hI hk; unfold Gx; rw [dF hi]; refine dW.bif (fun _ => .ret fun h => by cases h) fun e2 => ?_; have h20 : aS[i].length ≤ 20 := by have := of_decide_eq_false e2; omega
   unfold VQ; refine wJ aS[i].length (fuel_lt (by omega)) (fun _ => True) trivial ?_ ?_
   · intro j k2 hj _ hk2; unfold Gw; rw [bT hi]; simp only [Option.bind_some]; rw [dF hj, wrap_succ j (by omega)]; exact dW.bif (fun _ => .ret fun h => by cases h) fun _ => hk2 trivial
   intro k2 _; unfold Gw; rw [bT hi]; simp only [Option.bind_some]; rw [dP, wrap_succ i (by omega)]; refine hk fun j hj h1 => ?_; by_cases ej : j = i
   · subst ej; exact h20
   exact hI j (by omega) h1
 intro k hI; unfold Gx; rw [dP]; exact .ret fun _ => ⟨hl, WV fun j h => hI j h h⟩
theorem ac4 {s : List ay} (h : ∀ j, (h1 : j + 1 < s.length) → gV s[j] s[j + 1] = true) : jS s := by
 refine List.pairwise_iff_getElem.2 fun i j hi hj hij => ?_; obtain ⟨d, rfl⟩ : ∃ d, j = i + 1 + d := ⟨j - i - 1, by omega⟩
 induction d with
 | zero => exact h i hj
 | succ d ih => exact Us (ih (by omega) (by omega)) (h (i + 1 + d) hj)
theorem aev (s : List ay) (hs : s.length ≤ 20) : dW (Ky s) (fun n => n = 0 → jS s) := by
 have hL2 : jS s → dW (Oa s 0) (fun n => n = 0 → jS s) := fun hso => by
  unfold Oa; refine wJ s.length (fuel_lt (by omega)) (fun _ => True) trivial ?_ ?_
  · intro i k hi _ hk; unfold Gy; rw [dF hi, wrap_succ i (by omega), bT hi]; have hK : ∃ b, N9 s[i].Kind = some b := by unfold N9; cases decide (s[i].Kind ≥ 1) <;> exact ⟨_, rfl⟩
    obtain ⟨b, hb⟩ := hK; rw [hb]; simp only [Option.bind_some]; rw [uU]; simp only [Option.bind_some]; exact dW.bif (fun _ => .ret fun _ => hso) fun _ => hk trivial
  intro k _; unfold Gy; rw [dP]; exact dW.bif (fun _ => .ret fun _ => hso) fun _ => .ret fun _ => hso
 unfold Ky VU; refine Vu (body := Gz s) (fun m a => ∃ i : Nat, a = i ∧ 1 ≤ i ∧ m = s.length - i ∧ ∀ j, j + 1 < i → (h1 : j + 1 < s.length) → gV s[j] s[j + 1] = true) ?_ fuel (s.length - 1) 1 (fuel_lt (by omega)) ⟨1, rfl, Nat.le_refl _, rfl, fun j hj => by omega⟩; rintro m a k ⟨i, rfl, hi1, rfl, hI⟩ hk; unfold Gz; refine dW.bif (fun e => ?_) fun e => ?_
 · have hi : i < s.length := by simpa using e
   have hp : i - 1 < s.length := by omega
   have w : IntKind.i64.wrap ((i : Int) - 1) = ((i - 1 : Nat) : Int) := by rw [IntKind.wrap_i64]; omega
   rw [w, bT hp, bT hi, wrap_succ i (by omega)]; simp only [Option.bind_some]; rw [Xa _ _ _ _ s[i - 1].Id s[i].Id]; simp only [Option.bind_some]; refine dW.bif (fun _ => .ret fun h => by cases h) fun e2 => hk (s.length - (i + 1)) _ (by omega) ⟨i + 1, rfl, by omega, rfl, fun j hj h1 => ?_⟩; by_cases ej : j + 1 = i
   · subst ej; have : gV s[j] s[j + 1] = true := by simpa using e2
     exact this
   exact hI j (by omega) h1
 have hi : s.length ≤ i := by have : ¬ i < s.length := by simpa using e
                              omega
 exact hL2 (ac4 fun j h1 => hI j (by omega) h1)
theorem aew (aS : List (List ay)) : dW (BG aS) (fun b => b = true → aS.length ≤ 4 ∧ ∀ s ∈ aS, s.length ≤ 20 ∧ jS s) := by
 unfold BG; refine (aeu aS).bind fun b hb => dW.bif (fun _ => .ret fun h => by cases h) fun e => ?_; obtain ⟨hl, h20⟩ := hb e; unfold VW; refine wJ aS.length (fuel_lt (by omega)) (fun i => ∀ j, (hj : j < i) → (h1 : j < aS.length) → jS aS[j]) (fun j hj => by omega) ?_ ?_
 · intro i k hi hI hk; unfold GH; rw [dF hi, wrap_succ i (by omega)]; refine (aev aS[i] (h20 _ (List.getElem_mem hi))).bind fun n hn => dW.bif (fun _ => .ret fun h => by cases h) fun e2 => hk fun j hj h1 => ?_; by_cases ej : j = i
   · subst ej; exact hn (by simpa using e2)
   exact hI j (by omega) h1
 intro k hI; unfold GH; rw [dP]; exact .ret fun _ => ⟨hl, fun s hs => ⟨h20 s hs, by obtain ⟨j, hj, rfl⟩ := List.getElem_of_mem hs; exact hI j hj hj⟩⟩
theorem sG.of {l : List ah} {aS : List (List ay)} (h1 : l.length ≤ 14 ∧ fH l) (h2 : aS.length ≤ 100 ∧ ∀ s ∈ aS, s.length ≤ 20 ∧ jS s) : sG l aS :=
 ⟨by have := h1.1; omega, h1.2, ⟨h2.1, fun s hs => ⟨by have := (h2.2 s hs).1; omega, (h2.2 s hs).2⟩⟩⟩
end Go.Proofs.YtelpgcaiadpjpaaGreat
end
section
namespace Go.Proofs.YtelpgcaiadpjpaaGreat
open Go.RowKit
section
variable {A B R : Type} {P : B → Prop} {Q : R → Prop}
theorem dW.anP {o : Option A} {f : A → Option B} {g : B → Option R} (h : dW (o.bind f) P) (k : ∀ x, P x → dW (g x) Q) : dW (o.bind fun a => (f a).bind g) Q := by
 rw [← Option.bind_assoc]; exact h.bind k
end
theorem adH (l : List ah) (aS : List (List ay)) : dW ((BF l 14).bind fun x1 => (bif x1 then some true else (BG aS).bind fun x4 => some (!x4))) (fun b => b = false → sG l aS ∧ aS.length ≤ 4) :=
 (aes l).bind fun b hb => dW.bif (fun _ => .ret fun h => by cases h) fun e => (aew aS).bind fun b2 h2 => .ret fun h => by
  have g := h2 (by simpa using h); exact ⟨sG.of (hb e) ⟨by have := g.1; omega, g.2⟩, g.1⟩
theorem Yv (l : List ah) (aS : List (List ay)) : xw l aS = some true := by
 unfold xw; refine dW.eq (dW.anP (adH l aS) fun b hb => dW.bif (fun _ => .ret rfl) fun e => ?_); have h := (hb e).1; rw [Xy h, ac3 h]; simp only [Option.bind_some]; rw [aer _ (by have := abH h; omega), Ih]; simp only [Option.bind_some, cond_true]; exact .ret rfl
theorem aac (l : List ah) (aS : List (List ay)) : zM l aS = some true := by
 unfold zM; refine dW.eq (dW.anP (adH l aS) fun b hb => dW.bif (fun _ => .ret rfl) fun e => ?_); have h := (hb e).1; have hb2 := aiL h; rw [Z9 h, ahh h]; simp only [Option.bind_some]; rw [U7 _ (by have := hb2.1; omega), U7 _ (by have := hb2.2; omega), Ih]; simp only [Option.bind_some, cond_true]; exact .ret rfl
theorem sG.sub {l : List ah} {a b : List (List ay)} (h : sG l a) (hl : b.length ≤ 100) (hs : ∀ s ∈ b, s ∈ a) : sG l b := ⟨h.len, h.small, hl, fun s hm => h.states.each s (hs s hm)⟩
end Go.Proofs.YtelpgcaiadpjpaaGreat
end
