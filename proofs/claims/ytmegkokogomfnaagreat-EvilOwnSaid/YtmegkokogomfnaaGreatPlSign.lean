/- Sums, stripped contents, identifiers and signatures: the program's and the reference's are one and the same, for events within the bounds. -/
import Derived.Test.YtmegkokogomfnaaGreatPlEnc
namespace Go.Proofs.YtmegkokogomfnaaGreat
open Go.RowKit

def sumI (l : List Int) : Int := IntKind.i64.wrap (l.foldl foldStep ((IntKind.u64.wrap 860922984064492325).tmod 4611686018427387904))
theorem sums_Sum_eq {l : List Int} (hl : l.length ≤ 1000000) : sums_Sum l = some (sumI l) := by
  have hf : fuel = 4611686018427387904 := rfl
  unfold sums_Sum sums_Start
  rw [Option.bind_some]
  unfold sums_Fold sums_Fold_L1
  rw [loop2_flip, gBits_bits _ _ _ _ (.inl rfl), mask62]
  have := loopF (R := Int) (body := fun k s a => sums_Fold_B1 l (fun a s => k s a) a s) l (by omega) foldStep (fun _ _ => True) (fun s => some (IntKind.i64.wrap s)) (fun k i h s _ => by
    refine ⟨?_, trivial⟩
    show sums_Fold_B1 l (fun a s => k s a) s (i : Int) = _
    simp only [sums_Fold_B1, dec_lt h, cond_true, gIdx_lt h, Option.bind_some, gBits_bits _ _ _ _ (.inl rfl), gBits_bits _ _ _ _ (.inr (.inr rfl)), foldStep_mask]) (fun k s _ => by
    show sums_Fold_B1 l (fun a s => k s a) s (l.length : Int) = _
    simp only [sums_Fold_B1, dec_nlt, cond_false]) ((IntKind.u64.wrap 860922984064492325).tmod 4611686018427387904) trivial
  rw [this.1]; rfl
theorem R04_Sum_eq {l : List Int} (hl : l.length ≤ 1000000) : R04_Sum l = some (sumI l) := by
  have hf : fuel = 4611686018427387904 := rfl
  unfold R04_Sum
  rw [show R04_Start = some 860922984064492325 from rfl, Option.bind_some]
  unfold R04_Fold R04_Fold_L1
  rw [show gRemK (IntKind.u64.wrap 860922984064492325) 4611686018427387904 = some ((IntKind.u64.wrap 860922984064492325).tmod 4611686018427387904) from rfl, Option.bind_some, loop2_flip]
  have := loopF (R := Int) (body := fun k s a => R04_Fold_B1 l (fun a s => k s a) a s) l (by omega) foldStep (fun _ _ => True) (fun s => some (IntKind.i64.wrap s)) (fun k i h s _ => by
    refine ⟨?_, trivial⟩
    show R04_Fold_B1 l (fun a s => k s a) s (i : Int) = _
    have e : gRemK (IntKind.u64.wrap ((gBits .xor .u64 s (IntKind.u64.wrap l[i])) * 1099511628211)) 4611686018427387904 = some (foldStep s l[i]) := rfl
    simp only [R04_Fold_B1, dec_lt h, cond_true, gIdx_lt h, Option.bind_some, e]) (fun k s _ => by
    show R04_Fold_B1 l (fun a s => k s a) s (l.length : Int) = _
    simp only [R04_Fold_B1, dec_nlt, cond_false]) ((IntKind.u64.wrap 860922984064492325).tmod 4611686018427387904) trivial
  rw [this.1]; rfl

/-! What a redaction leaves. -/
def stripC (k : Int) (c : ApiContent) : ApiContent :=
  if k = 1 then c else if k = 2 then { zApiContent with N := c.N, Via := c.Via } else if k = 3 then { zApiContent with Levels := c.Levels } else if k = 4 then { zApiContent with N := c.N, Allow := c.Allow } else
  if k = 5 then { zApiContent with N := c.N } else if k = 6 then { zApiContent with Allow := c.Allow, Deny := c.Deny } else if k = 14 then { zApiContent with Target := c.Target } else zApiContent
theorem bif_eqI {R : Type} (a b : Int) (x y : R) : (bif a == b then x else y) = if a = b then x else y := by
  by_cases h : a = b
  · subst h; simp
  · have : (a == b) = false := by simpa using h
    rw [this, if_neg h]; rfl
theorem ite_some {R : Type} (p : Prop) [Decidable p] (x y : R) : (if p then some x else some y) = some (if p then x else y) := by split <;> rfl
theorem R06_Strip_eq (k : Int) (c : ApiContent) : R06_Strip k c = some (stripC k c) := by
  unfold R06_Strip stripC
  simp only [bif_eqI, ite_some]
theorem texts_eq {l : List ByteArray} (h : l.length ≤ 40) : content_texts l = some l := by
  unfold content_texts
  rw [gApp_cap (by omega) (by rw [List.nil_append]; omega)]; rfl
theorem copied_eq {l : ApiLevels} (h1 : l.Users.length ≤ 40) (h2 : l.Kinds.length ≤ 40) : content_copied l = some l := by
  unfold content_copied
  rw [gApp_cap (by omega) (by rw [List.nil_append]; omega), Option.bind_some, gApp_cap (by omega) (by rw [List.nil_append]; exact Nat.le_trans h2 (by omega))]; rfl
def keepsI (k : Int) : Int := if k = 2 then 18 else if k = 3 then 128 else if k = 4 then 34 else if k = 5 then 2 else if k = 6 then 96 else if k = 14 then 4 else 0
theorem keeps_eq (k : Int) : content_keeps k = some (keepsI k) := by
  by_cases h2 : k = 2; · subst h2; rfl
  by_cases h3 : k = 3; · subst h3; rfl
  by_cases h4 : k = 4; · subst h4; rfl
  by_cases h5 : k = 5; · subst h5; rfl
  by_cases h6 : k = 6; · subst h6; rfl
  unfold content_keeps content_keeps_j1 keepsI
  simp only [bif_eqI, h2, h3, h4, h5, h6, if_false, show (k == 6) = false from by simpa using h6, cond_false, ite_some]
theorem Strip_eq (k : Int) {c : ApiContent} (hc : SmallC c) : content_Strip k c = some (stripC k c) := by
  by_cases h1 : k = 1
  · subst h1
    show (content_texts c.Allow).bind (fun x2 => (content_texts c.Deny).bind fun x3 => (content_copied c.Levels).bind fun x4 => some ({ { { c with Allow := x2 } with Deny := x3 } with Levels := x4 })) = _
    rw [texts_eq hc.allow, Option.bind_some, texts_eq hc.deny, Option.bind_some, copied_eq hc.users hc.kinds]; rfl
  unfold content_Strip
  rw [show (k == 1) = false from by simpa using h1, cond_false, keeps_eq, Option.bind_some]
  by_cases h2 : k = 2; · subst h2; rfl
  by_cases h3 : k = 3
  · subst h3
    show (content_copied c.Levels).bind (fun x => some { zApiContent with Levels := x }) = _
    rw [copied_eq hc.users hc.kinds]; rfl
  by_cases h4 : k = 4
  · subst h4
    show (content_texts c.Allow).bind (fun x => some { zApiContent with N := c.N, Allow := x }) = _
    rw [texts_eq hc.allow]; rfl
  by_cases h5 : k = 5; · subst h5; rfl
  by_cases h6 : k = 6
  · subst h6
    show (content_texts c.Allow).bind (fun x => (content_texts c.Deny).bind fun y => some { zApiContent with Allow := x, Deny := y }) = _
    rw [texts_eq hc.allow, Option.bind_some, texts_eq hc.deny]; rfl
  by_cases h14 : k = 14; · subst h14; rfl
  have e1 : keepsI k = 0 := by unfold keepsI; simp only [h2, h3, h4, h5, h6, h14, if_false]
  have e2 : stripC k c = zApiContent := by unfold stripC; simp only [h1, h2, h3, h4, h5, h6, h14, if_false]
  rw [e1, e2]; rfl
theorem SmallC.strip {c : ApiContent} (h : SmallC c) (k : Int) : SmallC (stripC k c) := by
  have hz : (0 : Nat) ≤ 2000 := by omega
  unfold stripC
  repeat' split
  all_goals first | exact h | exact ⟨by simp [zApiContent, zApiLevels, h.allow], by simp [zApiContent, zApiLevels, h.deny], by simp [zApiContent, zApiLevels, h.users], by simp [zApiContent, zApiLevels, h.kinds], by first | exact h.text | exact hz, by first | exact h.via | exact hz, by first | exact h.allows | simp [zApiContent], by first | exact h.denies | simp [zApiContent], by first | exact h.names | simp [zApiContent, zApiLevels]⟩

/-! Events. -/
def stripE (e : ApiEvent) : ApiEvent := { e with Content := stripC e.Kind e.Content }
theorem EStrip_eq {e : ApiEvent} (he : SmallE e) : event_Strip e = some (stripE e) ∧ R07_Strip e = some (stripE e) := by
  unfold event_Strip R07_Strip
  rw [Strip_eq _ he.content, R06_Strip_eq]
  exact ⟨rfl, rfl⟩
def hashE (e : ApiEvent) : Int := sumI (encC e.Content)
def bareE (e : ApiEvent) : ApiEvent := { { stripE e with Id := 0 } with Sig := zApiSig }
def idE (e : ApiEvent) : Int := sumI (encE (bareE e))
theorem SmallE.bare {e : ApiEvent} (h : SmallE e) : SmallE (bareE e) := by
  have hc := h.content.strip e.Kind
  exact ⟨h.prev, h.auth, hc.allow, hc.deny, hc.users, hc.kinds, h.room, h.sender, h.key, hc.text, hc.via, by show (0 : Nat) ≤ 2000; omega, hc.allows, hc.denies, hc.names⟩
theorem Hash_eq {e : ApiEvent} (he : SmallE e) : event_Hash e = some (hashE e) ∧ R07_Hash e = some (hashE e) := by
  obtain ⟨a, b, h⟩ := Content_eq he.content
  unfold event_Hash R07_Hash
  rw [a, b, Option.bind_some, Option.bind_some, sums_Sum_eq (by omega), R04_Sum_eq (by omega)]
  exact ⟨rfl, rfl⟩
theorem IdOf_eq {e : ApiEvent} (he : SmallE e) : event_IdOf e = some (idE e) ∧ R07_IdOf e = some (idE e) := by
  obtain ⟨a, b⟩ := EStrip_eq he
  obtain ⟨c, d, h⟩ := Encode_eq he.bare
  unfold event_IdOf R07_IdOf
  rw [a, b, Option.bind_some, Option.bind_some]
  show (event_Encode (bareE e)).bind _ = _ ∧ (R07_Encode (bareE e)).bind _ = _
  rw [c, d, Option.bind_some, Option.bind_some, sums_Sum_eq (by omega), R04_Sum_eq (by omega)]
  exact ⟨rfl, rfl⟩
def signE (e : ApiEvent) (s : ByteArray) : ApiEvent := { e with Hash := hashE e, Id := idE { e with Hash := hashE e }, Sig := ⟨s, idE { e with Hash := hashE e }⟩ }
theorem SmallE.hash {e : ApiEvent} (h : SmallE e) (n : Int) : SmallE { e with Hash := n } := ⟨h.prev, h.auth, h.allow, h.deny, h.users, h.kinds, h.room, h.sender, h.key, h.text, h.via, h.server, h.allows, h.denies, h.names⟩
theorem Sign_eq {e : ApiEvent} (he : SmallE e) (s : ByteArray) : event_Sign e s = some (signE e s) ∧ R07_Sign e s = some (signE e s) := by
  obtain ⟨a, b⟩ := Hash_eq he
  obtain ⟨c, d⟩ := IdOf_eq (he.hash (hashE e))
  unfold event_Sign R07_Sign signE
  rw [a, b, Option.bind_some, Option.bind_some]
  obtain ⟨n, hn⟩ : ∃ n, n = idE { e with Hash := hashE e } := ⟨_, rfl⟩
  obtain ⟨m, hm⟩ : ∃ m, m = hashE e := ⟨_, rfl⟩
  rw [← hn] at c d ⊢
  rw [← hm] at c d ⊢
  rw [c, d]
  exact ⟨rfl, rfl⟩

/-! Numbers. -/
def clipI (n : Int) : Int := if n < -1000000000000 then -1000000000000 else if n > 1000000000000 then 1000000000000 else n
theorem num_bound_eq (n : Int) : num_bound n = some (clipI n) := by
  unfold num_bound num_Clip num_Clip_j1 num_Clip_j2 clipI
  by_cases h1 : n > 1000000000000
  · have : ¬ n < -1000000000000 := by omega
    simp [h1, this]
  · by_cases h2 : n < -1000000000000 <;> simp [h1, h2]
theorem R01_Clip_eq (n : Int) : R01_Clip n (-1000000000000) 1000000000000 = some (clipI n) := by
  unfold R01_Clip clipI
  by_cases h2 : n < -1000000000000
  · simp [h2]
  · by_cases h1 : n > 1000000000000 <;> simp [h1, h2]
def addI (a b : Int) : Int := clipI (IntKind.i64.wrap (clipI a + clipI b))
theorem num_Add_eq (a b : Int) : num_Add a b = some (addI a b) := by
  unfold num_Add addI
  rw [num_bound_eq, Option.bind_some, num_bound_eq, Option.bind_some, num_bound_eq]; rfl
theorem R01_Add_eq (a b : Int) : R01_Add a b = some (addI a b) := by
  unfold R01_Add addI
  rw [R01_Clip_eq, Option.bind_some, R01_Clip_eq, Option.bind_some, R01_Clip_eq]; rfl
end Go.Proofs.YtmegkokogomfnaaGreat
