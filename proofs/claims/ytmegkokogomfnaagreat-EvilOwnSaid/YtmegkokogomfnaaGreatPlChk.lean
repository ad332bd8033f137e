/- Checks of frames, patterns, levels: the program's and the reference's are one and the same, within the bounds. -/
import Derived.Test.YtmegkokogomfnaaGreatPlSame
namespace Go.Proofs.YtmegkokogomfnaaGreat
open Go.RowKit

/-- Two loops over the same places that do the same. -/
theorem loop1_congr {R : Type} {f g : (Int → Option R) → Int → Option R} (n : Nat) (hn : n < fuel) (hs : ∀ k k' (i : Nat), i < n → k ((i + 1 : Nat) : Int) = k' ((i + 1 : Nat) : Int) → f k (i : Int) = g k' (i : Int)) (he : ∀ k k', f k (n : Int) = g k' (n : Int)) : loop1 f fuel 0 = loop1 g fuel 0 := by
  have key : ∀ m (i : Nat), i + m = n → ∀ a, m < a → loop1 f a (i : Int) = loop1 g a (i : Int) := by
    intro m
    induction m with
    | zero =>
      intro i hi a ha
      obtain ⟨a, rfl⟩ : ∃ a', a = a' + 1 := ⟨a - 1, by omega⟩
      have : i = n := by omega
      subst this
      exact he _ _
    | succ m ih =>
      intro i hi a ha
      obtain ⟨a, rfl⟩ : ∃ a', a = a' + 1 := ⟨a - 1, by omega⟩
      exact hs _ _ i (by omega) (ih (i + 1) (by omega) a (by omega))
  exact key n 0 (by omega) fuel hn

theorem State_eq (k : Int) : content_State k = R06_State k := rfl
theorem known_eq (k : Int) : content_known k = some (decide (k ≥ 1) && decide (k ≤ 14)) ∧ R06_known k = some (decide (k ≥ 1) && decide (k ≤ 14)) := by
  unfold content_known R06_known
  cases decide (k ≥ 1) <;> cases decide (k ≤ 14) <;> exact ⟨rfl, rfl⟩
def wideB (n : Int) : Bool := decide (n < -1000) || decide (n > 1000)
theorem wide_eq (n : Int) : content_high n = some (wideB n) ∧ R06_wide n = some (wideB n) := by
  unfold content_high R06_wide wideB
  cases decide (n < -1000) <;> cases decide (n > 1000) <;> exact ⟨rfl, rfl⟩

/-! Signs of keys and patterns. -/
def signB (c : Int) : Bool := decide (c < 33) || decide (c > 126)
theorem empty_size (s : ByteArray) : (s.toList == s0.toList) = ((s.size : Int) == 0) := by
  rw [eqS_iff]
  by_cases h : s = s0
  · subst h; rfl
  · have : ¬ s.size = 0 := fun hz => h (bytes_inj (by
      have h1 : sBytes s = [] := List.eq_nil_of_length_eq_zero (by rw [sBytes_length]; exact hz)
      rw [h1]; rfl))
    rw [decide_eq_false h]; symm; rw [beq_eq_false_iff_ne]; omega
def globI (s : ByteArray) : Int := if s.size = 0 then 9 else if s.size > 64 then 7 else bif (sBytes s).any signB then 3 else 0
theorem glob_eq {s : ByteArray} (hs : s.size ≤ 9223372036854) : glob_Check s = some (globI s) ∧ R03_Check s = some (globI s) := by
  have l1 : glob_Check_L1 s 0 = some (bif (sBytes s).any signB then 3 else 0) := by
    unfold glob_Check_L1
    rw [scan (sBytes s) (by rw [sBytes_length]; exact lt_fuel hs) signB 3 (some 0) (fun k i h => ?_) (fun k => ?_), bif_some]
    · have h' : i < s.size := by rw [sBytes_length] at h; exact h
      simp only [glob_Check_B1, dec_lt h', cond_true, gByte_at h, Option.bind_some, signB]
      cases decide ((sBytes s)[i] < 33) <;> cases decide ((sBytes s)[i] > 126) <;> rfl
    · simp only [glob_Check_B1, sBytes_length, dec_nlt, cond_false]
  have l2 : R03_Check_L1 s 0 = some (bif (sBytes s).any signB then 3 else 0) := by
    unfold R03_Check_L1
    rw [scan (sBytes s) (by rw [sBytes_length]; exact lt_fuel hs) signB 3 (some 0) (fun k i h => ?_) (fun k => ?_), bif_some]
    · have h' : i < s.size := by rw [sBytes_length] at h; exact h
      simp only [R03_Check_B1, dec_lt h', cond_true, gByte_at h, Option.bind_some, signB]
      cases decide ((sBytes s)[i] < 33) <;> cases decide ((sBytes s)[i] > 126) <;> rfl
    · simp only [R03_Check_B1, sBytes_length, dec_nlt, cond_false]
  unfold glob_Check R03_Check globI
  rw [empty_size, l1, l2]
  by_cases h0 : s.size = 0
  · simp [h0]
  · have : ((s.size : Int) == 0) = false := by rw [beq_eq_false_iff_ne]; omega
    rw [this, if_neg h0]
    by_cases h1 : s.size > 64
    · have : decide ((s.size : Int) > 64) = true := by simp; omega
      rw [this, if_pos h1]; exact ⟨rfl, rfl⟩
    · have : decide ((s.size : Int) > 64) = false := by simp; omega
      rw [this, if_neg h1]; exact ⟨rfl, rfl⟩
def policyB (s : ByteArray) : Bool := decide ((s.size : Int) ≥ 1) && decide ((s.size : Int) ≤ 32) && !(sBytes s).any signB
theorem policy_eq {s : ByteArray} (hs : s.size ≤ 9223372036854) : event_isPolicy s = some (policyB s) := by
  unfold event_isPolicy event_isPolicy_L1
  rw [scan (sBytes s) (by rw [sBytes_length]; exact lt_fuel hs) signB false (some (decide ((s.size : Int) ≥ 1) && decide ((s.size : Int) ≤ 32))) (fun k i h => ?_) (fun k => ?_)]
  · unfold policyB
    cases (sBytes s).any signB <;> cases decide ((s.size : Int) ≥ 1) <;> cases decide ((s.size : Int) ≤ 32) <;> rfl
  · have h' : i < s.size := by rw [sBytes_length] at h; exact h
    simp only [event_isPolicy_B1, dec_lt h', cond_true, gByte_at h, Option.bind_some, signB]
    cases decide ((sBytes s)[i] < 33) <;> cases decide ((sBytes s)[i] > 126) <;> rfl
  · simp only [event_isPolicy_B1, sBytes_length, dec_nlt, cond_false]
    cases decide ((s.size : Int) ≥ 1) <;> cases decide ((s.size : Int) ≤ 32) <;> rfl
def keyB (k : Int) (s : ByteArray) : Bool := if k = 2 then userI s == 0 else if k = 9 then policyB s else true
theorem Key_eq {k : Int} {s : ByteArray} (hs : s.size ≤ 9223372036854) : R07_Key k s = some (keyB k s) := by
  have l1 : R07_Key_L1 s 0 = some (bif (sBytes s).any signB then false else true) := by
    unfold R07_Key_L1
    rw [scan (sBytes s) (by rw [sBytes_length]; exact lt_fuel hs) signB false (some true) (fun k i h => ?_) (fun k => ?_), bif_some]
    · have h' : i < s.size := by rw [sBytes_length] at h; exact h
      simp only [R07_Key_B1, dec_lt h', cond_true, gByte_at h, Option.bind_some, signB]
      cases decide ((sBytes s)[i] < 33) <;> cases decide ((sBytes s)[i] > 126) <;> rfl
    · simp only [R07_Key_B1, sBytes_length, dec_nlt, cond_false]
  unfold R07_Key keyB
  rw [(User_eq hs).2, l1]
  by_cases h2 : k = 2
  · subst h2; rfl
  · rw [show (k == 2) = false from by simpa using h2, if_neg h2, cond_false]
    by_cases h9 : k = 9
    · subst h9
      unfold policyB
      have e1 : decide ((s.size : Int) ≥ 1) = !decide ((s.size : Int) < 1) := by by_cases h : (s.size : Int) < 1 <;> simp [h] <;> omega
      have e2 : decide ((s.size : Int) ≤ 32) = !decide ((s.size : Int) > 32) := by by_cases h : (s.size : Int) > 32 <;> simp [h] <;> omega
      rw [e1, e2]
      cases decide ((s.size : Int) < 1) <;> cases decide ((s.size : Int) > 32) <;> cases (sBytes s).any signB <;> rfl
    · rw [show (k != 9) = true from by simpa using h9, if_neg h9]; rfl
theorem named_eq {e : ApiEvent} (he : SmallE e) : event_named e = some (roomI e.Room == 0 && userI e.Sender == 0 && keyB e.Kind e.Key) := by
  have h1 := he.room; have h2 := he.sender; have h3 := he.key
  unfold event_named keyB
  rw [(Room_eq (by omega)).1, (User_eq (s := e.Sender) (by omega)).1, (User_eq (s := e.Key) (by omega)).1, policy_eq (by omega)]
  simp only [Option.bind_some, bne]
  cases roomI e.Room == 0 with
  | false => rfl
  | true =>
    cases userI e.Sender == 0 with
    | false => rfl
    | true =>
      by_cases k2 : e.Kind = 2
      · rw [k2]; rfl
      · by_cases k9 : e.Kind = 9
        · rw [k9]; rfl
        · rw [show (e.Kind == 2) = false from by simpa using k2, show (e.Kind == 9) = false from by simpa using k9, if_neg k2, if_neg k9]; rfl

/-! Two computations that give the same. -/
def Both {R : Type} (x y : Option R) : Prop := ∃ r, x = some r ∧ y = some r
section
variable {A R : Type}
theorem Both.ret (r : R) : Both (some r) (some r) := ⟨r, rfl, rfl⟩
theorem Both.bind {a b : Option A} {f g : A → Option R} (h : Both a b) (k : ∀ x, Both (f x) (g x)) : Both (a.bind f) (b.bind g) := by
  obtain ⟨x, rfl, rfl⟩ := h; exact k x
theorem Both.bif {c : Bool} {x y x' y' : Option R} (h1 : c = true → Both x x') (h2 : c = false → Both y y') : Both (bif c then x else y) (bif c then x' else y') := by
  cases c with
  | true => exact h1 rfl
  | false => exact h2 rfl
theorem Both.of {x y : Option R} {r : R} (h1 : x = some r) (h2 : y = some r) : Both x y := ⟨r, h1, h2⟩
theorem Both.loop {f g : (Int → Option R) → Int → Option R} (n : Nat) (hn : n ≤ 1000) (hs : ∀ k k' (i : Nat), i < n → Both (k ((i + 1 : Nat) : Int)) (k' ((i + 1 : Nat) : Int)) → Both (f k (i : Int)) (g k' (i : Int))) (he : ∀ k k', Both (f k (n : Int)) (g k' (n : Int))) : Both (loop1 f fuel 0) (loop1 g fuel 0) := by
  have hf : fuel = 4611686018427387904 := rfl
  have key : ∀ m (i : Nat), i + m = n → ∀ a, m < a → Both (loop1 f a (i : Int)) (loop1 g a (i : Int)) := by
    intro m
    induction m with
    | zero =>
      intro i hi a ha
      obtain ⟨a, rfl⟩ : ∃ a', a = a' + 1 := ⟨a - 1, by omega⟩
      have : i = n := by omega
      subst this
      exact he _ _
    | succ m ih =>
      intro i hi a ha
      obtain ⟨a, rfl⟩ : ∃ a', a = a' + 1 := ⟨a - 1, by omega⟩
      exact hs _ _ i (by omega) (ih (i + 1) (by omega) a (by omega))
  exact key n 0 (by omega) fuel (by omega)
end
theorem wrapS {i : Nat} (h : i ≤ 1000) : IntKind.i64.wrap ((i : Int) + 1) = ((i + 1 : Nat) : Int) := wrap_succ i (by omega)
theorem prev_idx {α : Type} {l : List α} {i : Nat} (h : i < l.length) (hl : l.length ≤ 1000) (h0 : decide ((i : Int) > 0) = true) : gIdx l (IntKind.i64.wrap ((i : Int) - 1)) = some (l[i - 1]'(by omega)) := by
  have h0 : 0 < i := by simpa using h0
  rw [wrap_id (by omega) (by omega), show (i : Int) - 1 = ((i - 1 : Nat) : Int) by omega]
  exact gIdx_lt (by omega)

theorem rising_both {l : List Int} (hl : l.length ≤ 1000) : Both (event_ordered l) (R07_Rising l) := by
  unfold event_ordered event_ordered_L1 R07_Rising R07_Rising_L1
  refine Both.loop l.length hl (fun k k' i h hk => ?_) (fun k k' => ?_)
  · simp only [event_ordered_B1, R07_Rising_B1, R07_Rising_j2, dec_lt h, cond_true, gIdx_lt h, Option.bind_some, wrapS (show i ≤ 1000 by omega)]
    cases decide (l[i] < 0) with
    | true => exact .ret _
    | false =>
      simp only [cond_false]
      cases h0 : decide ((i : Int) > 0) with
      | true =>
        simp only [cond_true, prev_idx h hl h0, Option.bind_some, ge_iff_le]
        cases decide (l[i] ≤ l[i - 1]) with
        | true => exact .ret _
        | false => exact hk
      | false => exact hk
  · simp only [event_ordered_B1, R07_Rising_B1, dec_nlt, cond_false]
    exact .ret _
theorem patterns_both {l : List ByteArray} (hl : l.length ≤ 1000) (hs : ∀ s ∈ l, s.size ≤ 2000) : Both (content_patterns l) (R06_patterns l) := by
  unfold content_patterns R06_patterns
  refine Both.bif (fun _ => .ret _) fun _ => ?_
  unfold content_patterns_L1 R06_patterns_L1
  refine Both.loop l.length hl (fun k k' i h hk => ?_) (fun k k' => ?_)
  · obtain ⟨e1, e2⟩ := glob_eq (s := l[i]) (by have := hs _ (List.getElem_mem h); omega)
    simp only [content_patterns_B1, R06_patterns_B1, dec_lt h, cond_true, gIdx_lt h, Option.bind_some, e1, e2, wrapS (show i ≤ 1000 by omega)]
    exact Both.bif (fun _ => .ret _) fun _ => hk
  · simp only [content_patterns_B1, R06_patterns_B1, dec_nlt, cond_false]
    exact .ret _
theorem rooms_both {c : ApiContent} (hc : SmallC c) : Both (content_checkAllow 4 c) (R06_rooms c) := by
  have hl := hc.allow
  unfold content_checkAllow R06_rooms
  rw [show ((4 : Int) == 6) = false from rfl, cond_false]
  refine Both.bind (Both.bif (fun _ => .ret _) fun _ => .ret _) fun x => Both.bif (fun _ => .ret _) fun _ => Both.bif (fun _ => .ret _) fun _ => ?_
  unfold content_checkAllow_L1 R06_rooms_L1
  refine Both.loop c.Allow.length (by omega) (fun k k' i h hk => ?_) (fun k k' => ?_)
  · obtain ⟨e1, e2⟩ := Room_eq (s := c.Allow[i]) (by have := hc.allows _ (List.getElem_mem h); omega)
    simp only [content_checkAllow_B1, R06_rooms_B1, R06_rooms_j2, dec_lt h, cond_true, gIdx_lt h, Option.bind_some, e1, e2, wrapS (show i ≤ 1000 by omega)]
    refine Both.bif (fun _ => .ret _) fun _ => ?_
    cases h0 : decide ((i : Int) > 0) with
    | true =>
      simp only [cond_true, prev_idx h (show c.Allow.length ≤ 1000 by omega) h0, Option.bind_some]
      exact Both.bif (fun _ => .ret _) fun _ => hk
    | false => exact hk
  · simp only [content_checkAllow_B1, R06_rooms_B1, dec_nlt, cond_false]
    exact .ret _
theorem users_both {l : List ApiLevel} (hl : l.length ≤ 1000) (hs : ∀ u ∈ l, u.User.size ≤ 2000) : Both (content_users l) (R06_users l) := by
  unfold content_users R06_users
  refine Both.bif (fun _ => .ret _) fun _ => ?_
  unfold content_users_L1 R06_users_L1
  refine Both.loop l.length hl (fun k k' i h hk => ?_) (fun k k' => ?_)
  · obtain ⟨e1, e2⟩ := User_eq (s := l[i].User) (by have := hs _ (List.getElem_mem h); omega)
    obtain ⟨w1, w2⟩ := wide_eq l[i].N
    simp only [content_users_B1, R06_users_B1, content_users_j2, R06_users_j2, dec_lt h, cond_true, gIdx_lt h, Option.bind_some, e1, e2, w1, w2, wrapS (show i ≤ 1000 by omega)]
    refine Both.bif (fun _ => .ret _) fun _ => ?_
    cases h0 : decide ((i : Int) > 0) with
    | true =>
      simp only [cond_true, prev_idx h hl h0, Option.bind_some]
      exact Both.bif (fun _ => .ret _) fun _ => Both.bif (fun _ => .ret _) fun _ => hk
    | false =>
      simp only [cond_false]
      exact Both.bif (fun _ => .ret _) fun _ => hk
  · simp only [content_users_B1, R06_users_B1, dec_nlt, cond_false]
    exact .ret _
theorem kinds_both {l : List ApiKindLevel} (hl : l.length ≤ 1000) : Both (content_kinds l) (R06_kinds l) := by
  unfold content_kinds R06_kinds
  refine Both.bif (fun _ => .ret _) fun _ => ?_
  unfold content_kinds_L1 R06_kinds_L1
  refine Both.loop l.length hl (fun k k' i h hk => ?_) (fun k k' => ?_)
  · obtain ⟨e1, e2⟩ := known_eq l[i].Kind
    obtain ⟨w1, w2⟩ := wide_eq l[i].N
    simp only [content_kinds_B1, R06_kinds_B1, content_kinds_j2, R06_kinds_j2, dec_lt h, cond_true, gIdx_lt h, Option.bind_some, e1, e2, w1, w2, wrapS (show i ≤ 1000 by omega)]
    refine Both.bif (fun _ => .ret _) fun _ => ?_
    cases h0 : decide ((i : Int) > 0) with
    | true =>
      simp only [cond_true, prev_idx h hl h0, Option.bind_some]
      exact Both.bif (fun _ => .ret _) fun _ => Both.bif (fun _ => .ret _) fun _ => hk
    | false =>
      simp only [cond_false]
      exact Both.bif (fun _ => .ret _) fun _ => hk
  · simp only [content_kinds_B1, R06_kinds_B1, dec_nlt, cond_false]
    exact .ret _
theorem Levels_both {l : ApiLevels} (h1 : l.Users.length ≤ 40) (h2 : l.Kinds.length ≤ 40) (h3 : ∀ u ∈ l.Users, u.User.size ≤ 2000) : Both (content_Levels l) (R06_Levels l) := by
  have hL : content_Levels_L1 l 0 = some (bif (restL l).any wideB then 2 else 0) := by
    unfold content_Levels_L1
    rw [scan (restL l) (by have : fuel = 4611686018427387904 := rfl; simp [restL, this]) wideB 2 (some 0) (fun k i h => ?_) (fun k => rfl), bif_some]
    have h7 : i < 7 := h
    have hx : gIdx ([l.User, l.Message, l.State, l.Invite, l.Kick, l.Ban, l.Redact] : List Int) (i : Int) = some ((restL l)[i]'h) := gIdx_lt h
    simp only [content_Levels_B1, show decide ((i : Int) < 7) = true from by simp; omega, cond_true, hx, Option.bind_some, (wide_eq _).1]
  unfold content_Levels R06_Levels
  refine Both.bind (users_both (by omega) h3) fun x => Both.bif (fun _ => .ret _) fun _ => Both.bind (kinds_both (by omega)) fun y => Both.bif (fun _ => .ret _) fun _ => ?_
  rw [hL]
  simp only [(wide_eq _).2, Option.bind_some, restL, List.any_cons, List.any_nil]
  cases wideB l.User <;> cases wideB l.Message <;> cases wideB l.State <;> cases wideB l.Invite <;> cases wideB l.Kick <;> cases wideB l.Ban <;> cases wideB l.Redact <;> exact .ret _
end Go.Proofs.YtmegkokogomfnaaGreat
