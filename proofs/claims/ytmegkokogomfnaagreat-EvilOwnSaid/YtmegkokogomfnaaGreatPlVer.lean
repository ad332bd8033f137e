/- Verification of events: the program's and the reference's are one and the same, within the bounds; and what a verified event is. -/
import Derived.Test.YtmegkokogomfnaaGreatPlCont
namespace Go.Proofs.YtmegkokogomfnaaGreat
open Go.RowKit

/-! Lists compared element by element. -/
def eqL {α : Type} (p : α → α → Bool) (a b : List α) : Bool := ((a.length : Int) == (b.length : Int)) && !((a.zip b).any fun x => !p x.1 x.2)
theorem zip_loop {α R : Type} {body : (Int → Option R) → Int → Option R} (p : α → α → Bool) (a b : List α) (ha : a.length ≤ 1000) (hab : a.length = b.length) (bad : R) (rest : Option R)
    (hb : ∀ k (i : Nat) (h : i < a.length) (h' : i < b.length), body k (i : Int) = bif !p a[i] b[i] then some bad else k (IntKind.i64.wrap ((i : Int) + 1))) (he : ∀ k, body k (a.length : Int) = rest) : loop1 body fuel 0 = bif (a.zip b).any fun x => !p x.1 x.2 then some bad else rest := by
  have hl : (a.zip b).length = a.length := by simp; omega
  refine scan (a.zip b) (by rw [hl]; exact lt_fuel (by omega)) (fun x => !p x.1 x.2) bad rest (fun k i h => ?_) (fun k => by rw [hl]; exact he k)
  have h1 : i < a.length := by omega
  have h2 : i < b.length := by omega
  rw [hb k i h1 h2, List.getElem_zip]
theorem len_eq {α : Type} {a b : List α} (h : ((a.length : Int) == (b.length : Int)) = true) : a.length = b.length := by have := eq_of_beq h; omega
def pS (x y : ByteArray) : Bool := x.toList == y.toList
def pU (x y : ApiLevel) : Bool := x.User.toList == y.User.toList && x.N == y.N
def pK (x y : ApiKindLevel) : Bool := x.Kind == y.Kind && x.N == y.N
theorem alike_S {a b : List ByteArray} (ha : a.length ≤ 1000) : content_alike_string a b = some (eqL pS a b) ∧ R06_SameTexts a b = some (eqL pS a b) := by
  unfold content_alike_string R06_SameTexts eqL
  simp only [bne]
  cases h : ((a.length : Int) == (b.length : Int)) with
  | false => exact ⟨rfl, rfl⟩
  | true =>
    have hab := len_eq h
    simp only [Bool.not_true, cond_false, Bool.true_and]
    unfold content_alike_string_L1 R06_SameTexts_L1
    rw [zip_loop pS a b ha hab false (some true) (fun k i h h' => by simp only [content_alike_string_B1, dec_lt h, cond_true, gIdx_lt h, gIdx_lt h', Option.bind_some]; rfl) (fun k => by simp only [content_alike_string_B1, dec_nlt, cond_false]),
      zip_loop pS a b ha hab false (some true) (fun k i h h' => by simp only [R06_SameTexts_B1, dec_lt h, cond_true, gIdx_lt h, gIdx_lt h', Option.bind_some]; rfl) (fun k => by simp only [R06_SameTexts_B1, dec_nlt, cond_false])]
    cases (a.zip b).any fun x => !pS x.1 x.2 <;> exact ⟨rfl, rfl⟩
theorem alike_U {a b : List ApiLevel} (ha : a.length ≤ 1000) : content_alike_apiLevel a b = some (eqL pU a b) := by
  unfold content_alike_apiLevel eqL
  simp only [bne]
  cases h : ((a.length : Int) == (b.length : Int)) with
  | false => rfl
  | true =>
    have hab := len_eq h
    simp only [Bool.not_true, cond_false, Bool.true_and]
    unfold content_alike_apiLevel_L1
    rw [zip_loop pU a b ha hab false (some true) (fun k i h h' => by simp only [content_alike_apiLevel_B1, dec_lt h, cond_true, gIdx_lt h, gIdx_lt h', Option.bind_some, qApiLevel, pU, Bool.and_true]) (fun k => by simp only [content_alike_apiLevel_B1, dec_nlt, cond_false])]
    cases (a.zip b).any fun x => !pU x.1 x.2 <;> rfl
theorem alike_K {a b : List ApiKindLevel} (ha : a.length ≤ 1000) : content_alike_apiKindLevel a b = some (eqL pK a b) := by
  unfold content_alike_apiKindLevel eqL
  simp only [bne]
  cases h : ((a.length : Int) == (b.length : Int)) with
  | false => rfl
  | true =>
    have hab := len_eq h
    simp only [Bool.not_true, cond_false, Bool.true_and]
    unfold content_alike_apiKindLevel_L1
    rw [zip_loop pK a b ha hab false (some true) (fun k i h h' => by simp only [content_alike_apiKindLevel_B1, dec_lt h, cond_true, gIdx_lt h, gIdx_lt h', Option.bind_some, qApiKindLevel, pK, Bool.and_true]) (fun k => by simp only [content_alike_apiKindLevel_B1, dec_nlt, cond_false])]
    cases (a.zip b).any fun x => !pK x.1 x.2 <;> rfl
def sevenB (a b : ApiLevels) : Bool := (a.User == b.User) && (a.Message == b.Message) && (a.State == b.State) && (a.Invite == b.Invite) && (a.Kick == b.Kick) && (a.Ban == b.Ban) && (a.Redact == b.Redact)
def sameL (a b : ApiLevels) : Bool := eqL pU a.Users b.Users && (eqL pK a.Kinds b.Kinds && sevenB a b)
theorem SameLevels_eq {a b : ApiLevels} (h1 : a.Users.length ≤ 1000) (h2 : a.Kinds.length ≤ 1000) : R06_SameLevels a b = some (sameL a b) := by
  unfold R06_SameLevels sameL eqL
  simp only [bne]
  cases hu : ((a.Users.length : Int) == (b.Users.length : Int)) with
  | false => rfl
  | true =>
    cases hk : ((a.Kinds.length : Int) == (b.Kinds.length : Int)) with
    | false => simp
    | true =>
      have eu := len_eq hu
      have ek := len_eq hk
      have h3 : R06_SameLevels_L3 a b 0 = bif (a.Kinds.zip b.Kinds).any fun x => !pK x.1 x.2 then some false else some (sevenB a b) := by
        unfold R06_SameLevels_L3
        refine zip_loop pK a.Kinds b.Kinds h2 ek false (some (sevenB a b)) (fun k i h h' => ?_) (fun k => ?_)
        · simp only [R06_SameLevels_B3, dec_lt h, cond_true, gIdx_lt h, gIdx_lt h', Option.bind_some, R06_SameLevels_j4, pK, bne]
          cases a.Kinds[i].Kind == b.Kinds[i].Kind <;> cases a.Kinds[i].N == b.Kinds[i].N <;> rfl
        · simp only [R06_SameLevels_B3, dec_nlt, cond_false, bif_some, Option.bind_some, bif_and]
          rfl
      simp only [Bool.not_true, cond_false, Option.bind_some, Bool.true_and]
      unfold R06_SameLevels_L1
      rw [zip_loop pU a.Users b.Users h1 eu false (R06_SameLevels_L3 a b 0) (fun k i h h' => by
        simp only [R06_SameLevels_B1, dec_lt h, cond_true, gIdx_lt h, gIdx_lt h', Option.bind_some, R06_SameLevels_j2, pU, bne]
        cases a.Users[i].User.toList == b.Users[i].User.toList <;> cases a.Users[i].N == b.Users[i].N <;> rfl) (fun k => by simp only [R06_SameLevels_B1, dec_nlt, cond_false]), h3]
      cases (a.Users.zip b.Users).any fun x => !pU x.1 x.2 <;> cases (a.Kinds.zip b.Kinds).any fun x => !pK x.1 x.2 <;> rfl
def sameC (a b : ApiContent) : Bool := (a.Text.toList == b.Text.toList) && (a.N == b.N) && (a.Target == b.Target) && (a.Thread == b.Thread) && (a.Via.toList == b.Via.toList) && eqL pS a.Allow b.Allow && eqL pS a.Deny b.Deny && sameL a.Levels b.Levels
theorem R06_Same_eq {a : ApiContent} (b : ApiContent) (ha : SmallC a) : R06_Same a b = some (sameC a b) := by
  have h1 := ha.allow; have h2 := ha.deny; have h3 := ha.users; have h4 := ha.kinds
  unfold R06_Same sameC
  rw [(alike_S (a := a.Allow) (by omega)).2, (alike_S (a := a.Deny) (by omega)).2, SameLevels_eq (a := a.Levels) (by omega) (by omega)]
  simp only [bif_some, Option.bind_some, bif_and]
theorem content_Same_eq {a : ApiContent} (b : ApiContent) (ha : SmallC a) : content_Same a b = some (sameC a b) := by
  have h1 := ha.allow; have h2 := ha.deny; have h3 := ha.users; have h4 := ha.kinds
  unfold content_Same sameC sameL sevenB
  rw [(alike_S (a := a.Allow) (by omega)).1, (alike_S (a := a.Deny) (by omega)).1, alike_U (a := a.Levels.Users) (by omega), alike_K (a := a.Levels.Kinds) (by omega)]
  simp only [bif_some, Option.bind_some, bif_and, bif_or, bne]
  generalize (a.Text.toList == b.Text.toList) = x1
  generalize (a.N == b.N) = x2
  generalize (a.Target == b.Target) = x3
  generalize (a.Thread == b.Thread) = x4
  generalize (a.Via.toList == b.Via.toList) = x5
  generalize eqL pS a.Allow b.Allow = x6
  generalize eqL pS a.Deny b.Deny = x7
  generalize eqL pU a.Levels.Users b.Levels.Users = x8
  generalize eqL pK a.Levels.Kinds b.Levels.Kinds = x9
  cases x1 <;> cases x2 <;> cases x3 <;> cases x4 <;> cases x5 <;> cases x6 <;> cases x7 <;> first | rfl | (simp only [Bool.not_true, Bool.or_self, cond_false, Bool.true_and, Bool.and_self, Bool.and_assoc])

/-! Frames. -/
theorem frame_both {e : ApiEvent} (he : SmallE e) (v : Bool) : Both (event_Check_j1 e v) ((R07_Frame_j1 e v).bind fun x1 => (bif (x1 != 0) then some x1 else (R06_Check e.Kind e.Content).bind fun x3 => some x3)) := by
  have h1 := he.room; have h2 := he.sender; have h3 := he.key; have h4 := he.prev; have h5 := he.auth
  unfold event_Check_j1 R07_Frame_j1
  rw [named_eq he, (Room_eq (s := e.Room) (by omega)).2, (User_eq (s := e.Sender) (by omega)).2, Key_eq (by omega)]
  cases v with
  | true => exact .ret _
  | false =>
    simp only [cond_false, Option.bind_some, bne, bif_some, bif_or]
    generalize (roomI e.Room == 0) = a
    generalize (userI e.Sender == 0) = b
    generalize keyB e.Kind e.Key = kb
    cases a with
    | false => exact .ret _
    | true =>
      cases b with
      | false => exact .ret _
      | true =>
        cases kb with
        | false => exact .ret _
        | true =>
          simp only [Bool.not_true, Bool.or_self, Bool.and_self, cond_false, bif_bind]
          refine Both.bif (fun _ => .ret _) fun _ => Both.bif (fun _ => .ret _) fun _ => ?_
          obtain ⟨r1, p1, q1⟩ := rising_both (l := e.Prev) (by omega)
          obtain ⟨r2, p2, q2⟩ := rising_both (l := e.Auth) (by omega)
          rw [p1, p2, q1, q2]
          simp only [Option.bind_some, bif_some, bif_or, bif_bind]
          cases r1 with
          | false => exact .ret _
          | true =>
          cases r2 with
          | false => exact .ret _
          | true =>
          simp only [Bool.not_true, cond_false]
          have hs : decide ((IntKind.i64.wrap ((e.Prev.length : Int) + (e.Auth.length : Int))) > 0) = (decide ((e.Prev.length : Int) > 0) || decide ((e.Auth.length : Int) > 0)) := by
            rw [wrap_id (by omega) (by omega)]
            by_cases g1 : (e.Prev.length : Int) > 0
            · rw [decide_eq_true g1, decide_eq_true (by omega)]; rfl
            · by_cases g2 : (e.Auth.length : Int) > 0
              · rw [decide_eq_true g2, decide_eq_true (by omega), Bool.or_true]
              · rw [decide_eq_false g1, decide_eq_false g2, decide_eq_false (by omega)]; rfl
          rw [hs]
          generalize (bif ((e.Prev.length : Int) == 0) then !e.Kind == 1 else false) = p
          generalize (bif (e.Kind == 1) then (decide ((e.Prev.length : Int) > 0) || decide ((e.Auth.length : Int) > 0)) else false) = q
          cases p with
          | true => exact .ret _
          | false =>
            cases q with
            | true => exact .ret _
            | false => exact Both.bind (Check_both e.Kind he.content) fun x => .ret _
theorem ECheck_both {e : ApiEvent} (he : SmallE e) : Both (event_Check e) (R07_Check e) := by
  have hf := frame_both he
  unfold event_Check R07_Check R07_Frame
  rw [show content_State e.Kind = R06_State e.Kind from rfl]
  simp only [bif_bind, bne, bif_some, Option.bind_some]
  refine Both.bif (fun _ => hf _) fun _ => Both.bif (fun _ => hf _) fun _ => ?_
  have hs : ∃ b, R06_State e.Kind = some b := by unfold R06_State; cases decide (e.Kind ≥ 1) <;> cases decide (e.Kind ≤ 10) <;> exact ⟨_, rfl⟩
  obtain ⟨b, hb⟩ := hs
  rw [hb]
  simp only [Option.bind_some, bif_bind]
  refine Both.bif (fun _ => hf _) fun _ => Both.bif (fun _ => ?_) fun _ => hf _
  cases e.Kind == 2 with
  | true => exact hf _
  | false => exact hf _
theorem Whole_eq {e : ApiEvent} (he : SmallE e) : event_Whole e = some (hashE e == e.Hash) ∧ R07_Whole e = some (hashE e == e.Hash) := by
  unfold event_Whole R07_Whole
  rw [(Hash_eq he).1, (Hash_eq he).2]
  exact ⟨rfl, rfl⟩
theorem Verify_j1_both {e : ApiEvent} (he : SmallE e) (v : Bool) : Both (event_Verify_j1 e v) (R07_Verify_j1 e v) := by
  have h2 := he.sender
  unfold event_Verify_j1 R07_Verify_j1
  obtain ⟨i1, i2⟩ := IdOf_eq he
  obtain ⟨s1, s2⟩ := ServerOf_eq (s := e.Sender) (by omega)
  rw [i1, i2, s1, s2]
  refine Both.bif (fun _ => .ret _) fun _ => ?_
  simp only [Option.bind_some]
  refine Both.bif (fun _ => .ret _) fun _ => ?_
  unfold R07_Verify_j2 qApiSig
  show Both (bif !((e.Sig.Server.toList == (splitB e.Sender (idB e.Sender)).2.1.toList) && ((e.Sig.Sum == e.Id) && true)) then some 12 else some 0) _
  simp only [bne]
  cases (e.Sig.Server.toList == (splitB e.Sender (idB e.Sender)).2.1.toList) <;> cases (e.Sig.Sum == e.Id) <;> exact .ret _
theorem Verify_both {e : ApiEvent} (he : SmallE e) : Both (event_Verify e) (R07_Verify e) := by
  unfold event_Verify R07_Verify
  refine Both.bind (ECheck_both he) fun x => Both.bif (fun _ => .ret _) fun _ => ?_
  rw [(Whole_eq he).1, (Whole_eq he).2, Strip_eq _ he.content, R06_Strip_eq]
  simp only [Option.bind_some]
  rw [content_Same_eq _ he.content, R06_Same_eq _ he.content]
  simp only [Option.bind_some]
  exact Both.bif (fun _ => Verify_j1_both he _) fun _ => Verify_j1_both he _

/-! What a verified event is. -/
theorem some_ne {a : Int} {x : Option Int} (h : (bif a != 0 then some a else x) = some 0) : a = 0 ∧ x = some 0 := by
  by_cases ha : a = 0
  · subst ha; exact ⟨rfl, h⟩
  · rw [show (a != 0) = true from by simpa using ha] at h
    exact absurd (Option.some.inj h) ha
theorem Check_user {e : ApiEvent} (he : SmallE e) (h : event_Check e = some 0) : markedB e.Sender 64 = true := by
  have hj : ∀ v, event_Check_j1 e v = some 0 → markedB e.Sender 64 = true := by
    intro v hv
    unfold event_Check_j1 at hv
    cases v with
    | true => cases hv
    | false =>
      rw [cond_false, named_eq he, Option.bind_some] at hv
      cases hn : (roomI e.Room == 0 && userI e.Sender == 0 && keyB e.Kind e.Key) with
      | false => rw [hn] at hv; cases hv
      | true =>
        simp only [Bool.and_eq_true, beq_iff_eq] at hn
        have hu := hn.1.2
        unfold userI at hu
        cases hm : markedB e.Sender 64 with
        | true => rfl
        | false => rw [hm] at hu; cases hu
  unfold event_Check at h
  simp only [bif_some, Option.bind_some] at h
  obtain ⟨b, hb⟩ : ∃ b, content_State e.Kind = some b := by unfold content_State; cases decide (e.Kind ≥ 1) <;> cases decide (e.Kind ≤ 10) <;> exact ⟨_, rfl⟩
  rw [hb, Option.bind_some] at h
  cases c1 : decide (e.Kind < 1) with
  | true => rw [c1, cond_true] at h; exact hj _ h
  | false =>
    cases c2 : decide (e.Kind > 14) with
    | true => rw [c1, c2, cond_false, cond_true] at h; exact hj _ h
    | false =>
      rw [c1, c2, cond_false, cond_false] at h
      cases c3 : (!(e.State == b)) with
      | true => rw [c3, cond_true] at h; exact hj _ h
      | false =>
        rw [c3, cond_false] at h
        cases c4 : (!(e.Key.toList == s0.toList)) with
        | true => rw [c4, cond_true] at h; exact hj _ h
        | false => rw [c4, cond_false] at h; exact hj _ h
theorem Verify_ok {e : ApiEvent} (he : SmallE e) (h : event_Verify e = some 0) : e.Sig.Server = (splitB e.Sender (idB e.Sender)).2.1 ∧ e.Sig.Sum = e.Id ∧ markedB e.Sender 64 = true := by
  have h2 := he.sender
  have hj : ∀ v, event_Verify_j1 e v = some 0 → e.Sig.Server = (splitB e.Sender (idB e.Sender)).2.1 ∧ e.Sig.Sum = e.Id := by
    intro v hv
    unfold event_Verify_j1 at hv
    rw [(IdOf_eq he).1, (ServerOf_eq (s := e.Sender) (by omega)).1] at hv
    cases v with
    | true => cases hv
    | false =>
      rw [cond_false, Option.bind_some] at hv
      cases c1 : (idE e != e.Id) with
      | true => rw [c1] at hv; cases hv
      | false =>
        rw [c1, cond_false, Option.bind_some] at hv
        have hv : (bif !((e.Sig.Server.toList == (splitB e.Sender (idB e.Sender)).2.1.toList) && ((e.Sig.Sum == e.Id) && true)) then some 12 else some 0) = some (0 : Int) := hv
        cases c2 : (e.Sig.Server.toList == (splitB e.Sender (idB e.Sender)).2.1.toList) with
        | false => rw [c2] at hv; cases hv
        | true =>
          cases c3 : (e.Sig.Sum == e.Id) with
          | false => rw [c2, c3] at hv; cases hv
          | true => exact ⟨toList_inj (eq_of_beq c2), eq_of_beq c3⟩
  unfold event_Verify at h
  obtain ⟨x, hx, h⟩ := of_bind h
  obtain ⟨h0, h'⟩ := some_ne h
  subst h0
  clear h
  have h := h'
  clear h'
  have hu := Check_user he hx
  rw [(Whole_eq he).1, Option.bind_some, Strip_eq _ he.content, Option.bind_some, content_Same_eq _ he.content, Option.bind_some] at h
  cases c : (!(hashE e == e.Hash)) with
  | true => rw [c, cond_true] at h; obtain ⟨a, b⟩ := hj _ h; exact ⟨a, b, hu⟩
  | false => rw [c, cond_false] at h; obtain ⟨a, b⟩ := hj _ h; exact ⟨a, b, hu⟩
end Go.Proofs.YtmegkokogomfnaaGreat
