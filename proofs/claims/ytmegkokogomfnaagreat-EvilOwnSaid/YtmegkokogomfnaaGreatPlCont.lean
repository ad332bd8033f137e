/- Checks of contents: the program's and the reference's are one and the same, kind by kind, within the bounds (printed by gen_cont.py). -/
import Derived.Test.YtmegkokogomfnaaGreatPlChk
namespace Go.Proofs.YtmegkokogomfnaaGreat
open Go.RowKit

theorem nil_of_len {α : Type} {l : List α} (h : ((l.length : Int) == 0) = true) : l = [] := List.eq_nil_of_length_eq_zero (by have := eq_of_beq h; omega)
def plainB (l : ApiLevels) : Bool := ((l.Users.length : Int) == 0) && ((l.Kinds.length : Int) == 0) && (l.User == 0) && (l.Message == 0) && (l.State == 0) && (l.Invite == 0) && (l.Kick == 0) && (l.Ban == 0) && (l.Redact == 0)
theorem bare_eq (l : ApiLevels) : content_bare l = some (plainB l) := by
  unfold content_bare plainB
  simp only [bif_some, Option.bind_some, bif_and]
theorem SameLevels_nil (l : ApiLevels) : R06_SameLevels l zApiLevels = some (plainB l) := by
  unfold R06_SameLevels plainB
  show (bif ((l.Users.length : Int) != 0) then some true else some ((l.Kinds.length : Int) != 0)).bind _ = _
  simp only [bne]
  cases hu : ((l.Users.length : Int) == 0) with
  | false => rfl
  | true =>
    cases hk : ((l.Kinds.length : Int) == 0) with
    | false => rfl
    | true =>
      have e1 := nil_of_len hu
      have e2 := nil_of_len hk
      have h3 : R06_SameLevels_L3 l zApiLevels 0 = some ((l.User == 0) && (l.Message == 0) && (l.State == 0) && (l.Invite == 0) && (l.Kick == 0) && (l.Ban == 0) && (l.Redact == 0)) := by
        unfold R06_SameLevels_L3
        refine same_loop l.Kinds (by rw [e2]; simp) _ (fun k i h => by rw [e2] at h; simp at h) (fun k => ?_)
        simp only [R06_SameLevels_B3, dec_nlt, cond_false, bif_some, Option.bind_some, bif_and]
        rfl
      have h1 : R06_SameLevels_L1 l zApiLevels 0 = some ((l.User == 0) && (l.Message == 0) && (l.State == 0) && (l.Invite == 0) && (l.Kick == 0) && (l.Ban == 0) && (l.Redact == 0)) := by
        unfold R06_SameLevels_L1
        refine same_loop l.Users (by rw [e1]; simp) _ (fun k i h => by rw [e1] at h; simp at h) (fun k => ?_)
        simp only [R06_SameLevels_B1, dec_nlt, cond_false]
        exact h3
      simp only [Bool.not_true, cond_false, Option.bind_some, h1, Bool.true_and]
theorem plain_eq (l : ApiLevels) : R06_plain l = some (plainB l) := by
  unfold R06_plain
  rw [SameLevels_nil]; rfl
theorem SameTexts_nil (l : List ByteArray) : R06_SameTexts l [] = some ((l.length : Int) == 0) := by
  cases h : ((l.length : Int) == 0) with
  | true => rw [nil_of_len h]; exact R06_SameTexts_refl (l := []) (by simp)
  | false =>
    unfold R06_SameTexts
    show (bif ((l.length : Int) != 0) then some false else _) = _
    simp only [bne, h, Bool.not_false, cond_true]
def allB (a0 a1 a2 a3 a4 a5 a6 a7 : Bool) : Bool := a0 && a1 && a2 && a3 && a4 && a5 && a6 && a7
theorem Same_nil (c : ApiContent) : R06_Same c zApiContent = some (allB (c.Text.toList == s0.toList) (c.N == 0) (c.Target == 0) (!c.Thread) (c.Via.toList == s0.toList) ((c.Allow.length : Int) == 0) ((c.Deny.length : Int) == 0) (plainB c.Levels)) := by
  unfold R06_Same allB
  show (bif c.Text.toList == s0.toList then some (c.N == 0) else some false).bind _ = _
  simp only [show zApiContent.Allow = [] from rfl, show zApiContent.Deny = [] from rfl, show zApiContent.Levels = zApiLevels from rfl, show zApiContent.Target = 0 from rfl, show zApiContent.Thread = false from rfl, show zApiContent.Via = s0 from rfl, SameTexts_nil, SameLevels_nil, bif_some, Option.bind_some, bif_and]
  congr 1
  cases c.Thread <;> simp
def setI (a0 a1 a2 a3 a4 a5 a6 a7 : Bool) : Int :=
  let v := bif !a0 then gBits .or .i64 0 1 else 0
  let v := bif !a1 then gBits .or .i64 v 2 else v
  let v := bif !a2 then gBits .or .i64 v 4 else v
  let v := bif !a3 then gBits .or .i64 v 8 else v
  let v := bif !a4 then gBits .or .i64 v 16 else v
  let v := bif !a5 then gBits .or .i64 v 32 else v
  let v := bif !a6 then gBits .or .i64 v 64 else v
  bif !a7 then gBits .or .i64 v 128 else v
theorem pos_eq {α : Type} (l : List α) : decide ((l.length : Int) > 0) = !((l.length : Int) == 0) := by
  cases h : ((l.length : Int) == 0) with
  | true => have := eq_of_beq h; rw [Bool.not_true, decide_eq_false_iff_not]; omega
  | false => have := ne_of_beq_false h; rw [Bool.not_false, decide_eq_true_eq]; omega
theorem set_eq (c : ApiContent) : content_set c = some (setI (c.Text.toList == s0.toList) (c.N == 0) (c.Target == 0) (!c.Thread) (c.Via.toList == s0.toList) ((c.Allow.length : Int) == 0) ((c.Deny.length : Int) == 0) (plainB c.Levels)) := by
  unfold content_set content_set_j1 content_set_j2 content_set_j3 content_set_j4 content_set_j5 content_set_j6 content_set_j7 content_set_j8 setI
  rw [bare_eq, pos_eq, pos_eq]
  simp only [Option.bind_some, bne, Bool.not_not]
  generalize (c.Text.toList == s0.toList) = b0
  generalize (c.N == 0) = b1
  generalize (c.Target == 0) = b2
  generalize c.Thread = b3
  generalize (c.Via.toList == s0.toList) = b4
  generalize ((c.Allow.length : Int) == 0) = b5
  generalize ((c.Deny.length : Int) == 0) = b6
  generalize plainB c.Levels = b7
  cases b0 <;> cases b1 <;> cases b2 <;> cases b3 <;> cases b4 <;> cases b5 <;> cases b6 <;> cases b7 <;> rfl
theorem set_zero : ∀ a0 a1 a2 a3 a4 a5 a6 a7 : Bool, (setI a0 a1 a2 a3 a4 a5 a6 a7 == 0) = allB a0 a1 a2 a3 a4 a5 a6 a7 := by decide +kernel
def onlyB (u0 u1 u2 u3 u4 u5 u6 u7 a0 a1 a2 a3 a4 a5 a6 a7 : Bool) : Bool := (a0 || u0) && (a1 || u1) && (a2 || u2) && (a3 || u3) && (a4 || u4) && (a5 || u5) && (a6 || u6) && (a7 || u7)
theorem only_eq {K : Int} {c : ApiContent} {u0 u1 u2 u3 u4 u5 u6 u7 : Bool} (h0 : R06_uses K s_Text = some u0) (h1 : R06_uses K s_N = some u1) (h2 : R06_uses K s_Target = some u2) (h3 : R06_uses K s_Thread = some u3) (h4 : R06_uses K s_Via = some u4) (h5 : R06_uses K s_Allow = some u5) (h6 : R06_uses K s_Deny = some u6) (h7 : R06_uses K s_Levels = some u7) : R06_only K c = some (onlyB u0 u1 u2 u3 u4 u5 u6 u7 (c.Text.toList == s0.toList) (c.N == 0) (c.Target == 0) (!c.Thread) (c.Via.toList == s0.toList) ((c.Allow.length : Int) == 0) ((c.Deny.length : Int) == 0) (plainB c.Levels)) := by
  unfold R06_only onlyB
  simp only [h0, h1, h2, h3, h4, h5, h6, h7, plain_eq, bif_some, Option.bind_some, bif_or, bif_and]

/-- An error ends; else what comes behind. -/
def thenI (x r : Option Int) : Option Int := x.bind fun v => bif v != 0 then some v else r
theorem then_zero {x r : Option Int} (h : x = some 0) : thenI x r = r := by rw [h]; rfl
theorem then_both {x y r s : Option Int} (h : Both x y) (k : Both r s) : Both (thenI x r) (thenI y s) := Both.bind h fun _ => Both.bif (fun _ => .ret _) fun _ => k
theorem then_last (x : Option Int) : thenI x (some 0) = x := by
  cases x with
  | none => rfl
  | some v =>
    show (bif v != 0 then some v else some 0) = some v
    by_cases h : v = 0
    · subst h; rfl
    · rw [show (v != 0) = true from by simpa using h]; rfl
theorem bind_some_self {A : Type} (x : Option A) : (x.bind fun v => some v) = x := by cases x <;> rfl
/-- What the reference asks behind the fields. -/
def tailI (K : Int) (c : ApiContent) : Option Int := thenI (R06_text K c) (thenI (R06_number K c.N) (thenI (R06_target K c) (thenI (R06_via c) (bif K == 4 then R06_rooms c else thenI (R06_patterns c.Allow) (thenI (R06_patterns c.Deny) (R06_Levels c.Levels))))))
theorem frame {K M kp : Int} {br : Bool} {c : ApiContent} {u0 u1 u2 u3 u4 u5 u6 u7 : Bool} (hU : content_uses K = some M) (hk : (decide (K ≥ 1) && decide (K ≤ 14)) = true) (hkp : content_keeps K = some kp) (hb : R06_bare K = some br) (h0 : R06_uses K s_Text = some u0) (h1 : R06_uses K s_N = some u1) (h2 : R06_uses K s_Target = some u2) (h3 : R06_uses K s_Thread = some u3) (h4 : R06_uses K s_Via = some u4) (h5 : R06_uses K s_Allow = some u5) (h6 : R06_uses K s_Deny = some u6) (h7 : R06_uses K s_Levels = some u7)
    (hM : ∀ a0 a1 a2 a3 a4 a5 a6 a7 : Bool, (gBits .andNot .i64 (setI a0 a1 a2 a3 a4 a5 a6 a7) M != 0) = !onlyB u0 u1 u2 u3 u4 u5 u6 u7 a0 a1 a2 a3 a4 a5 a6 a7) (hbr : (br = true → kp = 0)) (hA : kp = 0 → br = false → content_Check_L1 M K 0 c = some 0)
    (hB : onlyB u0 u1 u2 u3 u4 u5 u6 u7 (c.Text.toList == s0.toList) (c.N == 0) (c.Target == 0) (!c.Thread) (c.Via.toList == s0.toList) ((c.Allow.length : Int) == 0) ((c.Deny.length : Int) == 0) (plainB c.Levels) = true → Both (content_Check_L1 M K 0 c) (tailI K c)) : Both (content_Check K c) (R06_Check K c) := by
  have ht : R06_Check K c = (R06_known K).bind fun x1 => (bif (!x1) then some true else (R06_only K c).bind fun x4 => some (!x4)).bind fun x2 => (bif x2 then some 1 else (R06_bare K).bind fun x6 => (bif x6 then (R06_Same c zApiContent).bind fun x9 => some x9 else some false).bind fun x7 => (bif x7 then some 0 else tailI K c)) := by
    unfold R06_Check tailI thenI
    simp only [bind_some_self]
  rw [ht]
  unfold content_Check
  obtain ⟨k1, k2⟩ := known_eq K
  rw [hk] at k1 k2
  rw [hU, k1, k2, set_eq, hkp, hb, only_eq h0 h1 h2 h3 h4 h5 h6 h7, Same_nil]
  simp only [Option.bind_some, Bool.not_true, cond_false, hM, set_zero]
  cases ho : onlyB u0 u1 u2 u3 u4 u5 u6 u7 (c.Text.toList == s0.toList) (c.N == 0) (c.Target == 0) (!c.Thread) (c.Via.toList == s0.toList) ((c.Allow.length : Int) == 0) ((c.Deny.length : Int) == 0) (plainB c.Levels) with
  | false => exact .ret _
  | true =>
    simp only [Bool.not_true, cond_false]
    have hB := hB ho
    cases ha : allB (c.Text.toList == s0.toList) (c.N == 0) (c.Target == 0) (!c.Thread) (c.Via.toList == s0.toList) ((c.Allow.length : Int) == 0) ((c.Deny.length : Int) == 0) (plainB c.Levels) with
    | false =>
      simp only [cond_false, Option.bind_some]
      cases br <;> exact hB
    | true =>
      simp only [cond_true, Option.bind_some]
      cases hz : kp == 0 with
      | false =>
        cases br with
        | false => exact hB
        | true => rw [hbr rfl] at hz; cases hz
      | true =>
        cases br with
        | true => exact .ret _
        | false =>
          have e := hA (eq_of_beq hz) rfl
          rw [e] at hB
          exact hB
/-- One field of the program's table. -/
def stepI (M b : Int) (x r : Option Int) : Option Int := bif gBits .and .i64 M b == 0 then r else thenI x r
theorem loop2_succ {S B R : Type} (body : (S → B → Option R) → S → B → Option R) (n : Nat) (a : S) (b : B) : loop2 body (n + 1) a b = body (loop2 body n) a b := rfl
theorem fields_eq (M K : Int) (c : ApiContent) : content_Check_L1 M K 0 c = stepI M 1 (content_checkText K c) (stepI M 2 (content_checkN K c) (stepI M 4 (content_checkTarget K c) (stepI M 8 (content_checkThread K c) (stepI M 16 (content_checkVia K c) (stepI M 32 (content_checkAllow K c)
    (bif gBits .and .i64 M 64 != 0 then content_patterns c.Deny else bif gBits .and .i64 M 128 != 0 then content_Levels c.Levels else some 0)))))) := by
  have hf : fuel = 4611686018427387897 + 1 + 1 + 1 + 1 + 1 + 1 + 1 := rfl
  have b0 : ∀ k, content_Check_B1 M K k 0 c = stepI M 1 (content_checkText K c) (k 1 c) := fun k => rfl
  have b1 : ∀ k, content_Check_B1 M K k 1 c = stepI M 2 (content_checkN K c) (k 2 c) := fun k => rfl
  have b2 : ∀ k, content_Check_B1 M K k 2 c = stepI M 4 (content_checkTarget K c) (k 3 c) := fun k => rfl
  have b3 : ∀ k, content_Check_B1 M K k 3 c = stepI M 8 (content_checkThread K c) (k 4 c) := fun k => rfl
  have b4 : ∀ k, content_Check_B1 M K k 4 c = stepI M 16 (content_checkVia K c) (k 5 c) := fun k => rfl
  have b5 : ∀ k, content_Check_B1 M K k 5 c = stepI M 32 (content_checkAllow K c) (k 6 c) := fun k => rfl
  have b6 : ∀ k, content_Check_B1 M K k 6 c = (bif gBits .and .i64 M 64 != 0 then (content_patterns c.Deny).bind fun x => some x else bif gBits .and .i64 M 128 != 0 then (content_Levels c.Levels).bind fun x => some x else some 0) := fun k => rfl
  unfold content_Check_L1
  rw [hf, loop2_succ, b0, loop2_succ, b1, loop2_succ, b2, loop2_succ, b3, loop2_succ, b4, loop2_succ, b5, loop2_succ, b6, bind_some_self, bind_some_self]

/-! What is empty is right. -/
section
variable {c : ApiContent} {K : Int}
theorem text0 (h : (c.Text.toList == s0.toList) = true) (hK : K ≠ 12) : R06_text K c = some 0 := by
  have hz : (c.Text.size : Int) = 0 := by rw [empty_size] at h; exact eq_of_beq h
  unfold R06_text
  rw [h, hz, show (K == 12) = false from by simpa using hK]
  cases K == 9 <;> rfl
theorem target0 (h : R06_uses K s_Target = some false) (h3 : (!c.Thread) = true) : R06_target K c = some 0 := by
  unfold R06_target
  rw [h, show c.Thread = false from by simpa using h3]; rfl
theorem via0 (h : (c.Via.toList == s0.toList) = true) : R06_via c = some 0 := by unfold R06_via; rw [h]; rfl
theorem pat0 {l : List ByteArray} (h : ((l.length : Int) == 0) = true) : R06_patterns l = some 0 := by
  rw [nil_of_len h]
  unfold R06_patterns R06_patterns_L1
  show loop1 (R06_patterns_B1 []) fuel 0 = some 0
  rw [scan ([] : List ByteArray) (by decide) (fun _ => false) 0 (some 0) (fun k i h => by simp at h) (fun k => rfl)]; rfl
theorem lev0 {l : ApiLevels} (h : plainB l = true) : R06_Levels l = some 0 := by
  unfold plainB at h
  simp only [Bool.and_eq_true] at h
  obtain ⟨⟨⟨⟨⟨⟨⟨⟨h1, h2⟩, h3⟩, h4⟩, h5⟩, h6⟩, h7⟩, h8⟩, h9⟩ := h
  have u0 : R06_users [] = some 0 := by
    unfold R06_users R06_users_L1
    show loop1 (R06_users_B1 []) fuel 0 = some 0
    rw [scan ([] : List ByteArray) (by decide) (fun _ => false) 0 (some 0) (fun k i h => by simp at h) (fun k => rfl)]; rfl
  have k0 : R06_kinds [] = some 0 := by
    unfold R06_kinds R06_kinds_L1
    show loop1 (R06_kinds_B1 []) fuel 0 = some 0
    rw [scan ([] : List ByteArray) (by decide) (fun _ => false) 0 (some 0) (fun k i h => by simp at h) (fun k => rfl)]; rfl
  unfold R06_Levels
  rw [nil_of_len h1, nil_of_len h2, u0, k0, eq_of_beq h3, eq_of_beq h4, eq_of_beq h5, eq_of_beq h6, eq_of_beq h7, eq_of_beq h8, eq_of_beq h9]
  rfl
theorem text_both (hc : SmallC c) : Both (content_checkText K c) (R06_text K c) := by
  have h1 := hc.text
  obtain ⟨g1, g2⟩ := glob_eq (s := c.Text) (by omega)
  unfold content_checkText content_checkText_j1 R06_text
  rw [g1, g2]
  have e := empty_size c.Text
  by_cases h9 : K = 9
  · subst h9
    cases h : (c.Text.toList == s0.toList) with
    | false => exact .ret _
    | true =>
      have hz : (c.Text.size : Int) = 0 := by rw [e] at h; exact eq_of_beq h
      rw [hz]
      exact .ret _
  · rw [show (K == 9) = false from by simpa using h9]
    cases K == 12 <;> cases (c.Text.toList == s0.toList) <;> cases decide ((c.Text.size : Int) > 32) <;> cases decide ((c.Text.size : Int) > 400) <;> exact .ret _
theorem via_both (hc : SmallC c) : Both (content_checkVia K c) (R06_via c) := by
  have h1 := hc.via
  obtain ⟨g1, g2⟩ := User_eq (s := c.Via) (by omega)
  unfold content_checkVia R06_via
  rw [g1, g2]
  exact Both.bif (fun _ => .ret _) fun _ => Both.bif (fun _ => .ret _) fun _ => .ret _
theorem target_both (h : R06_uses K s_Target = some true) (h3 : (!c.Thread) = true) : Both (content_checkTarget K c) (R06_target K c) := by
  unfold content_checkTarget R06_target
  rw [h, show c.Thread = false from by simpa using h3]
  cases decide (c.Target < 0) <;> cases c.Target == 0 <;> cases K != 11 <;> exact .ret _
theorem target_both' (h : R06_uses K s_Target = some true) : Both (thenI (content_checkTarget K c) (content_checkThread K c)) (R06_target K c) := by
  unfold content_checkTarget content_checkThread R06_target thenI
  rw [h]
  cases decide (c.Target < 0) <;> cases c.Target == 0 <;> cases K != 11 <;> cases c.Thread <;> exact .ret _
theorem allow6 (hc : SmallC c) : Both (content_checkAllow 6 c) (R06_patterns c.Allow) := by
  have h1 := hc.allow
  have := patterns_both (l := c.Allow) (by omega) hc.allows
  show Both ((content_patterns c.Allow).bind fun x => some x) _
  rw [bind_some_self]; exact this
end
theorem n_lt (a b : Int) : decide (a ≥ b) = !decide (a < b) := by by_cases h : a < b <;> simp [h] <;> omega
theorem n_le (a b : Int) : decide (a ≤ b) = !decide (a > b) := by by_cases h : a > b <;> simp [h] <;> omega

theorem chk_1 {c : ApiContent} (hc : SmallC c) : Both (content_Check 1 c) (R06_Check 1 c) := by
  have h0 : R06_uses 1 s_Text = some false := by kernel_rfl
  have h1 : R06_uses 1 s_N = some false := by kernel_rfl
  have h2 : R06_uses 1 s_Target = some false := by kernel_rfl
  have h3 : R06_uses 1 s_Thread = some false := by kernel_rfl
  have h4 : R06_uses 1 s_Via = some false := by kernel_rfl
  have h5 : R06_uses 1 s_Allow = some false := by kernel_rfl
  have h6 : R06_uses 1 s_Deny = some false := by kernel_rfl
  have h7 : R06_uses 1 s_Levels = some false := by kernel_rfl
  refine frame (M := 0) (kp := 0) (br := false) rfl rfl rfl rfl h0 h1 h2 h3 h4 h5 h6 h7 (by decide +kernel) (fun h => by cases h) (fun h h' => rfl) fun ho => ?_
  unfold onlyB at ho
  simp only [Bool.or_true, Bool.or_false, Bool.and_true, Bool.true_and, Bool.and_eq_true] at ho
  obtain ⟨⟨⟨⟨⟨⟨⟨e0, e1⟩, e2⟩, e3⟩, e4⟩, e5⟩, e6⟩, e7⟩ := ho
  have hL : content_Check_L1 0 1 0 c = (some 0) := by rw [fields_eq]; rfl
  rw [hL]
  unfold tailI
  rw [then_zero (text0 e0 (by decide)), then_zero (show R06_number 1 c.N = some 0 from rfl), then_zero (target0 h2 e3), then_zero (via0 e4), show ((1 : Int) == 4) = false from rfl, cond_false, then_zero (pat0 e5), then_zero (pat0 e6), lev0 e7]
  exact .ret _
theorem num_2 (c : ApiContent) : Both (content_checkN 2 c) (R06_number 2 c.N) := by
  show Both ((bif decide (c.N < 0) then some true else some (decide (c.N > 4))).bind fun x3 => (bif x3 then some 2 else some 0)) ((bif decide (c.N ≥ 0) then some (decide (c.N ≤ 4)) else some false).bind fun x9 => (bif (!x9) then some 2 else some 0))
  rw [n_lt, n_le]
  cases decide (c.N < 0) <;> cases decide (c.N > 4) <;> exact .ret _
theorem chk_2 {c : ApiContent} (hc : SmallC c) : Both (content_Check 2 c) (R06_Check 2 c) := by
  have h0 : R06_uses 2 s_Text = some true := by kernel_rfl
  have h1 : R06_uses 2 s_N = some true := by kernel_rfl
  have h2 : R06_uses 2 s_Target = some false := by kernel_rfl
  have h3 : R06_uses 2 s_Thread = some false := by kernel_rfl
  have h4 : R06_uses 2 s_Via = some true := by kernel_rfl
  have h5 : R06_uses 2 s_Allow = some false := by kernel_rfl
  have h6 : R06_uses 2 s_Deny = some false := by kernel_rfl
  have h7 : R06_uses 2 s_Levels = some false := by kernel_rfl
  refine frame (M := 19) (kp := 18) (br := false) rfl rfl rfl rfl h0 h1 h2 h3 h4 h5 h6 h7 (by decide +kernel) (fun h => by cases h) (fun h h' => by cases h) fun ho => ?_
  unfold onlyB at ho
  simp only [Bool.or_true, Bool.or_false, Bool.and_true, Bool.true_and, Bool.and_eq_true] at ho
  obtain ⟨⟨⟨⟨e2, e3⟩, e5⟩, e6⟩, e7⟩ := ho
  have hL : content_Check_L1 19 2 0 c = (thenI (content_checkText 2 c) (thenI (content_checkN 2 c) (thenI (content_checkVia 2 c) (some 0)))) := by rw [fields_eq]; rfl
  rw [hL]
  unfold tailI
  rw [then_zero (target0 h2 e3), show ((2 : Int) == 4) = false from rfl, cond_false, then_zero (pat0 e5), then_zero (pat0 e6), lev0 e7]
  exact then_both (text_both hc) (then_both (num_2 c) (then_both (via_both hc) (.ret _)))
theorem chk_3 {c : ApiContent} (hc : SmallC c) : Both (content_Check 3 c) (R06_Check 3 c) := by
  have h0 : R06_uses 3 s_Text = some false := by kernel_rfl
  have h1 : R06_uses 3 s_N = some false := by kernel_rfl
  have h2 : R06_uses 3 s_Target = some false := by kernel_rfl
  have h3 : R06_uses 3 s_Thread = some false := by kernel_rfl
  have h4 : R06_uses 3 s_Via = some false := by kernel_rfl
  have h5 : R06_uses 3 s_Allow = some false := by kernel_rfl
  have h6 : R06_uses 3 s_Deny = some false := by kernel_rfl
  have h7 : R06_uses 3 s_Levels = some true := by kernel_rfl
  refine frame (M := 128) (kp := 128) (br := false) rfl rfl rfl rfl h0 h1 h2 h3 h4 h5 h6 h7 (by decide +kernel) (fun h => by cases h) (fun h h' => by cases h) fun ho => ?_
  unfold onlyB at ho
  simp only [Bool.or_true, Bool.or_false, Bool.and_true, Bool.true_and, Bool.and_eq_true] at ho
  obtain ⟨⟨⟨⟨⟨⟨e0, e1⟩, e2⟩, e3⟩, e4⟩, e5⟩, e6⟩ := ho
  have hL : content_Check_L1 128 3 0 c = (content_Levels c.Levels) := by rw [fields_eq]; rfl
  rw [hL]
  unfold tailI
  rw [then_zero (text0 e0 (by decide)), then_zero (show R06_number 3 c.N = some 0 from rfl), then_zero (target0 h2 e3), then_zero (via0 e4), show ((3 : Int) == 4) = false from rfl, cond_false, then_zero (pat0 e5), then_zero (pat0 e6)]
  exact Levels_both hc.users hc.kinds hc.names
theorem num_4 (c : ApiContent) : Both (content_checkN 4 c) (R06_number 4 c.N) := by
  show Both ((bif decide (c.N < 0) then some true else some (decide (c.N > 3))).bind fun x3 => (bif x3 then some 2 else some 0)) ((bif decide (c.N ≥ 0) then some (decide (c.N ≤ 3)) else some false).bind fun x9 => (bif (!x9) then some 2 else some 0))
  rw [n_lt, n_le]
  cases decide (c.N < 0) <;> cases decide (c.N > 3) <;> exact .ret _
theorem chk_4 {c : ApiContent} (hc : SmallC c) : Both (content_Check 4 c) (R06_Check 4 c) := by
  have h0 : R06_uses 4 s_Text = some false := by kernel_rfl
  have h1 : R06_uses 4 s_N = some true := by kernel_rfl
  have h2 : R06_uses 4 s_Target = some false := by kernel_rfl
  have h3 : R06_uses 4 s_Thread = some false := by kernel_rfl
  have h4 : R06_uses 4 s_Via = some false := by kernel_rfl
  have h5 : R06_uses 4 s_Allow = some true := by kernel_rfl
  have h6 : R06_uses 4 s_Deny = some false := by kernel_rfl
  have h7 : R06_uses 4 s_Levels = some false := by kernel_rfl
  refine frame (M := 34) (kp := 34) (br := false) rfl rfl rfl rfl h0 h1 h2 h3 h4 h5 h6 h7 (by decide +kernel) (fun h => by cases h) (fun h h' => by cases h) fun ho => ?_
  unfold onlyB at ho
  simp only [Bool.or_true, Bool.or_false, Bool.and_true, Bool.true_and, Bool.and_eq_true] at ho
  obtain ⟨⟨⟨⟨⟨e0, e2⟩, e3⟩, e4⟩, e6⟩, e7⟩ := ho
  have hL : content_Check_L1 34 4 0 c = (thenI (content_checkN 4 c) (thenI (content_checkAllow 4 c) (some 0))) := by rw [fields_eq]; rfl
  rw [hL]
  unfold tailI
  rw [then_zero (text0 e0 (by decide)), then_zero (target0 h2 e3), then_zero (via0 e4), show ((4 : Int) == 4) = true from rfl, cond_true]
  rw [then_last]
  exact then_both (num_4 c) (rooms_both hc)
theorem num_5 (c : ApiContent) : Both (content_checkN 5 c) (R06_number 5 c.N) := by
  show Both ((bif decide (c.N < 0) then some true else some (decide (c.N > 3))).bind fun x3 => (bif x3 then some 2 else some 0)) ((bif decide (c.N ≥ 0) then some (decide (c.N ≤ 3)) else some false).bind fun x9 => (bif (!x9) then some 2 else some 0))
  rw [n_lt, n_le]
  cases decide (c.N < 0) <;> cases decide (c.N > 3) <;> exact .ret _
theorem chk_5 {c : ApiContent} (hc : SmallC c) : Both (content_Check 5 c) (R06_Check 5 c) := by
  have h0 : R06_uses 5 s_Text = some false := by kernel_rfl
  have h1 : R06_uses 5 s_N = some true := by kernel_rfl
  have h2 : R06_uses 5 s_Target = some false := by kernel_rfl
  have h3 : R06_uses 5 s_Thread = some false := by kernel_rfl
  have h4 : R06_uses 5 s_Via = some false := by kernel_rfl
  have h5 : R06_uses 5 s_Allow = some false := by kernel_rfl
  have h6 : R06_uses 5 s_Deny = some false := by kernel_rfl
  have h7 : R06_uses 5 s_Levels = some false := by kernel_rfl
  refine frame (M := 2) (kp := 2) (br := false) rfl rfl rfl rfl h0 h1 h2 h3 h4 h5 h6 h7 (by decide +kernel) (fun h => by cases h) (fun h h' => by cases h) fun ho => ?_
  unfold onlyB at ho
  simp only [Bool.or_true, Bool.or_false, Bool.and_true, Bool.true_and, Bool.and_eq_true] at ho
  obtain ⟨⟨⟨⟨⟨⟨e0, e2⟩, e3⟩, e4⟩, e5⟩, e6⟩, e7⟩ := ho
  have hL : content_Check_L1 2 5 0 c = (thenI (content_checkN 5 c) (some 0)) := by rw [fields_eq]; rfl
  rw [hL]
  unfold tailI
  rw [then_zero (text0 e0 (by decide)), then_zero (target0 h2 e3), then_zero (via0 e4), show ((5 : Int) == 4) = false from rfl, cond_false, then_zero (pat0 e5), then_zero (pat0 e6), lev0 e7]
  exact then_both (num_5 c) (.ret _)
theorem chk_6 {c : ApiContent} (hc : SmallC c) : Both (content_Check 6 c) (R06_Check 6 c) := by
  have h0 : R06_uses 6 s_Text = some false := by kernel_rfl
  have h1 : R06_uses 6 s_N = some false := by kernel_rfl
  have h2 : R06_uses 6 s_Target = some false := by kernel_rfl
  have h3 : R06_uses 6 s_Thread = some false := by kernel_rfl
  have h4 : R06_uses 6 s_Via = some false := by kernel_rfl
  have h5 : R06_uses 6 s_Allow = some true := by kernel_rfl
  have h6 : R06_uses 6 s_Deny = some true := by kernel_rfl
  have h7 : R06_uses 6 s_Levels = some false := by kernel_rfl
  refine frame (M := 96) (kp := 96) (br := false) rfl rfl rfl rfl h0 h1 h2 h3 h4 h5 h6 h7 (by decide +kernel) (fun h => by cases h) (fun h h' => by cases h) fun ho => ?_
  unfold onlyB at ho
  simp only [Bool.or_true, Bool.or_false, Bool.and_true, Bool.true_and, Bool.and_eq_true] at ho
  obtain ⟨⟨⟨⟨⟨e0, e1⟩, e2⟩, e3⟩, e4⟩, e7⟩ := ho
  have hL : content_Check_L1 96 6 0 c = (thenI (content_checkAllow 6 c) (content_patterns c.Deny)) := by rw [fields_eq]; rfl
  rw [hL]
  unfold tailI
  rw [then_zero (text0 e0 (by decide)), then_zero (show R06_number 6 c.N = some 0 from rfl), then_zero (target0 h2 e3), then_zero (via0 e4), show ((6 : Int) == 4) = false from rfl, cond_false, lev0 e7]
  have h1 := hc.deny
  rw [then_last]
  exact then_both (allow6 hc) (patterns_both (by omega) hc.denies)
theorem chk_7 {c : ApiContent} (hc : SmallC c) : Both (content_Check 7 c) (R06_Check 7 c) := by
  have h0 : R06_uses 7 s_Text = some true := by kernel_rfl
  have h1 : R06_uses 7 s_N = some false := by kernel_rfl
  have h2 : R06_uses 7 s_Target = some false := by kernel_rfl
  have h3 : R06_uses 7 s_Thread = some false := by kernel_rfl
  have h4 : R06_uses 7 s_Via = some false := by kernel_rfl
  have h5 : R06_uses 7 s_Allow = some false := by kernel_rfl
  have h6 : R06_uses 7 s_Deny = some false := by kernel_rfl
  have h7 : R06_uses 7 s_Levels = some false := by kernel_rfl
  refine frame (M := 1) (kp := 0) (br := true) rfl rfl rfl rfl h0 h1 h2 h3 h4 h5 h6 h7 (by decide +kernel) (fun h => rfl) (fun h h' => by cases h') fun ho => ?_
  unfold onlyB at ho
  simp only [Bool.or_true, Bool.or_false, Bool.and_true, Bool.true_and, Bool.and_eq_true] at ho
  obtain ⟨⟨⟨⟨⟨⟨e1, e2⟩, e3⟩, e4⟩, e5⟩, e6⟩, e7⟩ := ho
  have hL : content_Check_L1 1 7 0 c = (thenI (content_checkText 7 c) (some 0)) := by rw [fields_eq]; rfl
  rw [hL]
  unfold tailI
  rw [then_zero (show R06_number 7 c.N = some 0 from rfl), then_zero (target0 h2 e3), then_zero (via0 e4), show ((7 : Int) == 4) = false from rfl, cond_false, then_zero (pat0 e5), then_zero (pat0 e6), lev0 e7]
  exact then_both (text_both hc) (.ret _)
theorem num_8 (c : ApiContent) : Both (content_checkN 8 c) (R06_number 8 c.N) := by
  show Both ((bif decide (c.N < 0) then some true else some (decide (c.N > 1000000000))).bind fun x3 => (bif x3 then some 2 else some 0)) ((bif decide (c.N ≥ 0) then some (decide (c.N ≤ 1000000000)) else some false).bind fun x9 => (bif (!x9) then some 2 else some 0))
  rw [n_lt, n_le]
  cases decide (c.N < 0) <;> cases decide (c.N > 1000000000) <;> exact .ret _
theorem chk_8 {c : ApiContent} (hc : SmallC c) : Both (content_Check 8 c) (R06_Check 8 c) := by
  have h0 : R06_uses 8 s_Text = some false := by kernel_rfl
  have h1 : R06_uses 8 s_N = some true := by kernel_rfl
  have h2 : R06_uses 8 s_Target = some false := by kernel_rfl
  have h3 : R06_uses 8 s_Thread = some false := by kernel_rfl
  have h4 : R06_uses 8 s_Via = some false := by kernel_rfl
  have h5 : R06_uses 8 s_Allow = some false := by kernel_rfl
  have h6 : R06_uses 8 s_Deny = some false := by kernel_rfl
  have h7 : R06_uses 8 s_Levels = some false := by kernel_rfl
  refine frame (M := 2) (kp := 0) (br := true) rfl rfl rfl rfl h0 h1 h2 h3 h4 h5 h6 h7 (by decide +kernel) (fun h => rfl) (fun h h' => by cases h') fun ho => ?_
  unfold onlyB at ho
  simp only [Bool.or_true, Bool.or_false, Bool.and_true, Bool.true_and, Bool.and_eq_true] at ho
  obtain ⟨⟨⟨⟨⟨⟨e0, e2⟩, e3⟩, e4⟩, e5⟩, e6⟩, e7⟩ := ho
  have hL : content_Check_L1 2 8 0 c = (thenI (content_checkN 8 c) (some 0)) := by rw [fields_eq]; rfl
  rw [hL]
  unfold tailI
  rw [then_zero (text0 e0 (by decide)), then_zero (target0 h2 e3), then_zero (via0 e4), show ((8 : Int) == 4) = false from rfl, cond_false, then_zero (pat0 e5), then_zero (pat0 e6), lev0 e7]
  exact then_both (num_8 c) (.ret _)
theorem num_9 (c : ApiContent) : Both (content_checkN 9 c) (R06_number 9 c.N) := by
  show Both ((bif (c.N == 1) then some true else some (c.N == 2)).bind fun x11 => (bif x11 then some true else some (c.N == 6)).bind fun x13 => (bif x13 then some 0 else some 2)) ((bif (c.N == 1) then some true else some (c.N == 2)).bind fun x18 => (bif x18 then some true else some (c.N == 6)).bind fun x20 => (bif (!x20) then some 2 else some 0))
  cases c.N == 1 <;> cases c.N == 2 <;> cases c.N == 6 <;> exact .ret _
theorem chk_9 {c : ApiContent} (hc : SmallC c) : Both (content_Check 9 c) (R06_Check 9 c) := by
  have h0 : R06_uses 9 s_Text = some true := by kernel_rfl
  have h1 : R06_uses 9 s_N = some true := by kernel_rfl
  have h2 : R06_uses 9 s_Target = some false := by kernel_rfl
  have h3 : R06_uses 9 s_Thread = some false := by kernel_rfl
  have h4 : R06_uses 9 s_Via = some false := by kernel_rfl
  have h5 : R06_uses 9 s_Allow = some false := by kernel_rfl
  have h6 : R06_uses 9 s_Deny = some false := by kernel_rfl
  have h7 : R06_uses 9 s_Levels = some false := by kernel_rfl
  refine frame (M := 3) (kp := 0) (br := true) rfl rfl rfl rfl h0 h1 h2 h3 h4 h5 h6 h7 (by decide +kernel) (fun h => rfl) (fun h h' => by cases h') fun ho => ?_
  unfold onlyB at ho
  simp only [Bool.or_true, Bool.or_false, Bool.and_true, Bool.true_and, Bool.and_eq_true] at ho
  obtain ⟨⟨⟨⟨⟨e2, e3⟩, e4⟩, e5⟩, e6⟩, e7⟩ := ho
  have hL : content_Check_L1 3 9 0 c = (thenI (content_checkText 9 c) (thenI (content_checkN 9 c) (some 0))) := by rw [fields_eq]; rfl
  rw [hL]
  unfold tailI
  rw [then_zero (target0 h2 e3), then_zero (via0 e4), show ((9 : Int) == 4) = false from rfl, cond_false, then_zero (pat0 e5), then_zero (pat0 e6), lev0 e7]
  exact then_both (text_both hc) (then_both (num_9 c) (.ret _))
theorem num_10 (c : ApiContent) : Both (content_checkN 10 c) (R06_number 10 c.N) := by
  show Both ((bif decide (c.N < 1) then some true else some (decide (c.N > 10000))).bind fun x3 => (bif x3 then some 2 else some 0)) ((bif decide (c.N ≥ 1) then some (decide (c.N ≤ 10000)) else some false).bind fun x9 => (bif (!x9) then some 2 else some 0))
  rw [n_lt, n_le]
  cases decide (c.N < 1) <;> cases decide (c.N > 10000) <;> exact .ret _
theorem chk_10 {c : ApiContent} (hc : SmallC c) : Both (content_Check 10 c) (R06_Check 10 c) := by
  have h0 : R06_uses 10 s_Text = some false := by kernel_rfl
  have h1 : R06_uses 10 s_N = some true := by kernel_rfl
  have h2 : R06_uses 10 s_Target = some false := by kernel_rfl
  have h3 : R06_uses 10 s_Thread = some false := by kernel_rfl
  have h4 : R06_uses 10 s_Via = some false := by kernel_rfl
  have h5 : R06_uses 10 s_Allow = some false := by kernel_rfl
  have h6 : R06_uses 10 s_Deny = some false := by kernel_rfl
  have h7 : R06_uses 10 s_Levels = some false := by kernel_rfl
  refine frame (M := 2) (kp := 0) (br := true) rfl rfl rfl rfl h0 h1 h2 h3 h4 h5 h6 h7 (by decide +kernel) (fun h => rfl) (fun h h' => by cases h') fun ho => ?_
  unfold onlyB at ho
  simp only [Bool.or_true, Bool.or_false, Bool.and_true, Bool.true_and, Bool.and_eq_true] at ho
  obtain ⟨⟨⟨⟨⟨⟨e0, e2⟩, e3⟩, e4⟩, e5⟩, e6⟩, e7⟩ := ho
  have hL : content_Check_L1 2 10 0 c = (thenI (content_checkN 10 c) (some 0)) := by rw [fields_eq]; rfl
  rw [hL]
  unfold tailI
  rw [then_zero (text0 e0 (by decide)), then_zero (target0 h2 e3), then_zero (via0 e4), show ((10 : Int) == 4) = false from rfl, cond_false, then_zero (pat0 e5), then_zero (pat0 e6), lev0 e7]
  exact then_both (num_10 c) (.ret _)
theorem chk_11 {c : ApiContent} (hc : SmallC c) : Both (content_Check 11 c) (R06_Check 11 c) := by
  have h0 : R06_uses 11 s_Text = some true := by kernel_rfl
  have h1 : R06_uses 11 s_N = some false := by kernel_rfl
  have h2 : R06_uses 11 s_Target = some true := by kernel_rfl
  have h3 : R06_uses 11 s_Thread = some true := by kernel_rfl
  have h4 : R06_uses 11 s_Via = some false := by kernel_rfl
  have h5 : R06_uses 11 s_Allow = some false := by kernel_rfl
  have h6 : R06_uses 11 s_Deny = some false := by kernel_rfl
  have h7 : R06_uses 11 s_Levels = some false := by kernel_rfl
  refine frame (M := 13) (kp := 0) (br := true) rfl rfl rfl rfl h0 h1 h2 h3 h4 h5 h6 h7 (by decide +kernel) (fun h => rfl) (fun h h' => by cases h') fun ho => ?_
  unfold onlyB at ho
  simp only [Bool.or_true, Bool.or_false, Bool.and_true, Bool.true_and, Bool.and_eq_true] at ho
  obtain ⟨⟨⟨⟨e1, e4⟩, e5⟩, e6⟩, e7⟩ := ho
  have hL : content_Check_L1 13 11 0 c = (thenI (content_checkText 11 c) (thenI (content_checkTarget 11 c) (thenI (content_checkThread 11 c) (some 0)))) := by rw [fields_eq]; rfl
  rw [hL]
  unfold tailI
  rw [then_zero (show R06_number 11 c.N = some 0 from rfl), then_zero (via0 e4), show ((11 : Int) == 4) = false from rfl, cond_false, then_zero (pat0 e5), then_zero (pat0 e6), lev0 e7]
  rw [then_last, then_last]
  exact then_both (text_both hc) (target_both' h2)
theorem chk_12 {c : ApiContent} (hc : SmallC c) : Both (content_Check 12 c) (R06_Check 12 c) := by
  have h0 : R06_uses 12 s_Text = some true := by kernel_rfl
  have h1 : R06_uses 12 s_N = some false := by kernel_rfl
  have h2 : R06_uses 12 s_Target = some true := by kernel_rfl
  have h3 : R06_uses 12 s_Thread = some false := by kernel_rfl
  have h4 : R06_uses 12 s_Via = some false := by kernel_rfl
  have h5 : R06_uses 12 s_Allow = some false := by kernel_rfl
  have h6 : R06_uses 12 s_Deny = some false := by kernel_rfl
  have h7 : R06_uses 12 s_Levels = some false := by kernel_rfl
  refine frame (M := 5) (kp := 0) (br := true) rfl rfl rfl rfl h0 h1 h2 h3 h4 h5 h6 h7 (by decide +kernel) (fun h => rfl) (fun h h' => by cases h') fun ho => ?_
  unfold onlyB at ho
  simp only [Bool.or_true, Bool.or_false, Bool.and_true, Bool.true_and, Bool.and_eq_true] at ho
  obtain ⟨⟨⟨⟨⟨e1, e3⟩, e4⟩, e5⟩, e6⟩, e7⟩ := ho
  have hL : content_Check_L1 5 12 0 c = (thenI (content_checkText 12 c) (thenI (content_checkTarget 12 c) (some 0))) := by rw [fields_eq]; rfl
  rw [hL]
  unfold tailI
  rw [then_zero (show R06_number 12 c.N = some 0 from rfl), then_zero (via0 e4), show ((12 : Int) == 4) = false from rfl, cond_false, then_zero (pat0 e5), then_zero (pat0 e6), lev0 e7]
  exact then_both (text_both hc) (then_both (target_both h2 e3) (.ret _))
theorem chk_13 {c : ApiContent} (hc : SmallC c) : Both (content_Check 13 c) (R06_Check 13 c) := by
  have h0 : R06_uses 13 s_Text = some true := by kernel_rfl
  have h1 : R06_uses 13 s_N = some false := by kernel_rfl
  have h2 : R06_uses 13 s_Target = some true := by kernel_rfl
  have h3 : R06_uses 13 s_Thread = some false := by kernel_rfl
  have h4 : R06_uses 13 s_Via = some false := by kernel_rfl
  have h5 : R06_uses 13 s_Allow = some false := by kernel_rfl
  have h6 : R06_uses 13 s_Deny = some false := by kernel_rfl
  have h7 : R06_uses 13 s_Levels = some false := by kernel_rfl
  refine frame (M := 5) (kp := 0) (br := true) rfl rfl rfl rfl h0 h1 h2 h3 h4 h5 h6 h7 (by decide +kernel) (fun h => rfl) (fun h h' => by cases h') fun ho => ?_
  unfold onlyB at ho
  simp only [Bool.or_true, Bool.or_false, Bool.and_true, Bool.true_and, Bool.and_eq_true] at ho
  obtain ⟨⟨⟨⟨⟨e1, e3⟩, e4⟩, e5⟩, e6⟩, e7⟩ := ho
  have hL : content_Check_L1 5 13 0 c = (thenI (content_checkText 13 c) (thenI (content_checkTarget 13 c) (some 0))) := by rw [fields_eq]; rfl
  rw [hL]
  unfold tailI
  rw [then_zero (show R06_number 13 c.N = some 0 from rfl), then_zero (via0 e4), show ((13 : Int) == 4) = false from rfl, cond_false, then_zero (pat0 e5), then_zero (pat0 e6), lev0 e7]
  exact then_both (text_both hc) (then_both (target_both h2 e3) (.ret _))
theorem chk_14 {c : ApiContent} (hc : SmallC c) : Both (content_Check 14 c) (R06_Check 14 c) := by
  have h0 : R06_uses 14 s_Text = some true := by kernel_rfl
  have h1 : R06_uses 14 s_N = some false := by kernel_rfl
  have h2 : R06_uses 14 s_Target = some true := by kernel_rfl
  have h3 : R06_uses 14 s_Thread = some false := by kernel_rfl
  have h4 : R06_uses 14 s_Via = some false := by kernel_rfl
  have h5 : R06_uses 14 s_Allow = some false := by kernel_rfl
  have h6 : R06_uses 14 s_Deny = some false := by kernel_rfl
  have h7 : R06_uses 14 s_Levels = some false := by kernel_rfl
  refine frame (M := 5) (kp := 4) (br := false) rfl rfl rfl rfl h0 h1 h2 h3 h4 h5 h6 h7 (by decide +kernel) (fun h => by cases h) (fun h h' => by cases h) fun ho => ?_
  unfold onlyB at ho
  simp only [Bool.or_true, Bool.or_false, Bool.and_true, Bool.true_and, Bool.and_eq_true] at ho
  obtain ⟨⟨⟨⟨⟨e1, e3⟩, e4⟩, e5⟩, e6⟩, e7⟩ := ho
  have hL : content_Check_L1 5 14 0 c = (thenI (content_checkText 14 c) (thenI (content_checkTarget 14 c) (some 0))) := by rw [fields_eq]; rfl
  rw [hL]
  unfold tailI
  rw [then_zero (show R06_number 14 c.N = some 0 from rfl), then_zero (via0 e4), show ((14 : Int) == 4) = false from rfl, cond_false, then_zero (pat0 e5), then_zero (pat0 e6), lev0 e7]
  exact then_both (text_both hc) (then_both (target_both h2 e3) (.ret _))
theorem Check_both (k : Int) {c : ApiContent} (hc : SmallC c) : Both (content_Check k c) (R06_Check k c) := by
  cases hk : decide (k ≥ 1) && decide (k ≤ 14) with
  | false =>
    obtain ⟨k1, k2⟩ := known_eq k
    rw [hk] at k1 k2
    have f : ∀ n : Int, 1 ≤ n → n ≤ 14 → (k == n) = false := fun n h1 h2 => by
      rw [beq_eq_false_iff_ne]
      rintro rfl
      rw [decide_eq_true (show k ≥ 1 from h1), decide_eq_true h2] at hk
      cases hk
    have hm : content_uses k = some 0 := by
      unfold content_uses content_uses_j1 content_uses_j2
      rw [f 2 (by decide) (by decide), f 3 (by decide) (by decide), f 4 (by decide) (by decide), f 5 (by decide) (by decide), f 8 (by decide) (by decide), f 10 (by decide) (by decide), f 6 (by decide) (by decide), f 7 (by decide) (by decide), f 9 (by decide) (by decide), f 11 (by decide) (by decide), f 12 (by decide) (by decide), f 13 (by decide) (by decide), f 14 (by decide) (by decide)]
      rfl
    unfold content_Check R06_Check
    rw [hm, k1, k2]
    exact .ret _
  | true =>
    simp only [Bool.and_eq_true, decide_eq_true_eq] at hk
    have : k = 1 ∨ k = 2 ∨ k = 3 ∨ k = 4 ∨ k = 5 ∨ k = 6 ∨ k = 7 ∨ k = 8 ∨ k = 9 ∨ k = 10 ∨ k = 11 ∨ k = 12 ∨ k = 13 ∨ k = 14 := by omega
    rcases this with rfl | rfl | rfl | rfl | rfl | rfl | rfl | rfl | rfl | rfl | rfl | rfl | rfl | rfl
    · exact chk_1 hc
    · exact chk_2 hc
    · exact chk_3 hc
    · exact chk_4 hc
    · exact chk_5 hc
    · exact chk_6 hc
    · exact chk_7 hc
    · exact chk_8 hc
    · exact chk_9 hc
    · exact chk_10 hc
    · exact chk_11 hc
    · exact chk_12 hc
    · exact chk_13 hc
    · exact chk_14 hc
end Go.Proofs.YtmegkokogomfnaaGreat
