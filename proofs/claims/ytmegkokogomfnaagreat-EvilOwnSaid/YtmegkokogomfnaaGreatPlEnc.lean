/- Bytes of contents and events: the program's and the reference's are one and the same, for events within the bounds. -/
import Derived.Test.YtmegkokogomfnaaGreatPlCod
import Derived.Test.YtmegkokogomfnaaGreatPlLong
namespace Go.Proofs.YtmegkokogomfnaaGreat
open Go.RowKit

section
variable {S R A α : Type}
/-- A loop over a list by its places, that changes what it carries by each element. -/
theorem loopF {body : (Int → S → Option R) → Int → S → Option R} (l : List α) (hl : l.length < fuel) (step : S → α → S) (I : Nat → S → Prop) (rest : S → Option R)
    (hb : ∀ k (i : Nat) (h : i < l.length) s, I i s → body k (i : Int) s = k (IntKind.i64.wrap ((i : Int) + 1)) (step s l[i]) ∧ I (i + 1) (step s l[i])) (he : ∀ k s, I l.length s → body k (l.length : Int) s = rest s) (s0 : S) (h0 : I 0 s0) :
    loop2 body fuel 0 s0 = rest (l.foldl step s0) ∧ I l.length (l.foldl step s0) := by
  have hf : fuel = 4611686018427387904 := rfl
  have key : ∀ n (i : Nat) s, i + n = l.length → I i s → ∀ m, n < m → loop2 body m (i : Int) s = rest ((l.drop i).foldl step s) ∧ I l.length ((l.drop i).foldl step s) := by
    intro n
    induction n with
    | zero =>
      intro i s hi hI m hm
      obtain ⟨m, rfl⟩ : ∃ m', m = m' + 1 := ⟨m - 1, by omega⟩
      have : i = l.length := by omega
      subst this
      rw [List.drop_length]
      exact ⟨he _ _ hI, hI⟩
    | succ n ih =>
      intro i s hi hI m hm
      obtain ⟨m, rfl⟩ : ∃ m', m = m' + 1 := ⟨m - 1, by omega⟩
      have hlt : i < l.length := by omega
      obtain ⟨h1, h2⟩ := hb (loop2 body m) i hlt s hI
      rw [List.drop_eq_getElem_cons hlt, List.foldl_cons]
      show body (loop2 body m) _ _ = _ ∧ _
      rw [h1, wrap_succ i (by omega)]
      exact ih (i + 1) _ (by omega) h2 m (by omega)
  exact key l.length 0 s0 (by omega) h0 fuel hl
theorem loop2_flip (body : (A → S → Option R) → A → S → Option R) : ∀ n a s, loop2 body n a s = loop2 (fun k s a => body (fun a s => k s a) a s) n s a
  | 0, _, _ => rfl
  | n + 1, a, s => by
    show body (loop2 body n) a s = body (fun a s => loop2 (fun k s a => body (fun a s => k s a) a s) n s a) a s
    congr 1; funext a s; exact loop2_flip body n a s
theorem loop3_pair {B C : Type} (body : (A → B → C → Option R) → A → B → C → Option R) : ∀ n a b c, loop3 body n a b c = loop2 (fun k b (p : A × C) => body (fun a b c => k b (a, c)) p.1 b p.2) n b (a, c)
  | 0, _, _, _ => rfl
  | n + 1, a, b, c => by
    show body (loop3 body n) a b c = body (fun a b c => loop2 (fun k b (p : A × C) => body (fun a b c => k b (a, c)) p.1 b p.2) n b (a, c)) a b c
    congr 1; funext a b c; exact loop3_pair body n a b c
end
theorem foldl_app {α : Type} (g : α → List Int) : ∀ (l : List α) (b : List Int), l.foldl (fun b x => b ++ g x) b = b ++ l.flatMap g
  | [], b => by simp
  | x :: l, b => by rw [List.foldl_cons, foldl_app g l, List.flatMap_cons, List.append_assoc]
theorem foldl_pair {α C : Type} (g : α → List Int) : ∀ (l : List α) (b : List Int) (c : C), l.foldl (fun p x => (p.1 ++ g x, p.2)) (b, c) = (b ++ l.flatMap g, c)
  | [], b, c => by simp
  | x :: l, b, c => by rw [List.foldl_cons, foldl_pair g l, List.flatMap_cons, List.append_assoc]

/-- The bounds of a content. -/
structure SmallC (c : ApiContent) : Prop where
  allow : c.Allow.length ≤ 40
  deny : c.Deny.length ≤ 40
  users : c.Levels.Users.length ≤ 40
  kinds : c.Levels.Kinds.length ≤ 40
  text : c.Text.size ≤ 2000
  via : c.Via.size ≤ 2000
  allows : ∀ x ∈ c.Allow, x.size ≤ 2000
  denies : ∀ x ∈ c.Deny, x.size ≤ 2000
  names : ∀ x ∈ c.Levels.Users, x.User.size ≤ 2000
theorem SmallE.content {e : ApiEvent} (h : SmallE e) : SmallC e.Content := ⟨h.allow, h.deny, h.users, h.kinds, h.text, h.via, h.allows, h.denies, h.names⟩

/-! One part after the other. -/
section
variable {b : List Int} {k : Nat}
theorem sI (h : b.length ≤ k) (hk : k ≤ 1000000000) (n : Int) : codec_PutInt b n = some (b ++ enc n) ∧ R05_PutInt b n = some (b ++ enc n) ∧ (b ++ enc n).length ≤ k + 10 := by
  have := enc_length n
  exact ⟨PutInt_eq (by omega), PutInt_eq' (by omega), by rw [List.length_append]; omega⟩
theorem sB (h : b.length ≤ k) (hk : k ≤ 1000000000) (is : Bool) : codec_PutBool b is = some (b ++ [bif is then 1 else 0]) ∧ R05_PutBool b is = some (b ++ [bif is then 1 else 0]) ∧ (b ++ [bif is then (1 : Int) else 0]).length ≤ k + 10 :=
  ⟨PutBool_eq (by omega), PutBool_eq' (by omega), by rw [List.length_append]; simp; omega⟩
theorem sS (h : b.length ≤ k) (hk : k ≤ 1000000000) {s : ByteArray} (m : Nat) (hs : s.size ≤ m) (hm : m ≤ 1000000000) : codec_PutText b s = some (b ++ encS s) ∧ R05_PutText b s = some (b ++ encS s) ∧ (b ++ encS s).length ≤ k + m + 10 := by
  have := encS_length s
  exact ⟨PutText_eq (by omega), PutText_eq' (by omega), by rw [List.length_append]; omega⟩
theorem sIs (h : b.length ≤ k) (hk : k ≤ 1000000000) {l : List Int} (hl : l.length ≤ 40) : codec_PutInts b l = some (b ++ encIs l) ∧ R05_PutInts b l = some (b ++ encIs l) ∧ (b ++ encIs l).length ≤ k + 410 := by
  have := encIs_length l
  exact ⟨PutInts_eq (by omega) (by omega), PutInts_eq' (by omega) (by omega), by rw [List.length_append]; omega⟩
theorem sSs (h : b.length ≤ k) (hk : k ≤ 1000000000) {l : List ByteArray} (hl : l.length ≤ 40) (hs : ∀ s ∈ l, s.size ≤ 2000) : codec_PutTexts b l = some (b ++ encSs l) ∧ R05_PutTexts b l = some (b ++ encSs l) ∧ (b ++ encSs l).length ≤ k + 100000 := by
  have := encSs_length hs
  exact ⟨PutTexts_eq (by omega) (by omega) hs, PutTexts_eq' (by omega) (by omega) hs, by rw [List.length_append]; omega⟩
end

def encU (u : ApiLevel) : List Int := encS u.User ++ enc u.N
def encK (u : ApiKindLevel) : List Int := enc u.Kind ++ enc u.N
def restL (l : ApiLevels) : List Int := [l.User, l.Message, l.State, l.Invite, l.Kick, l.Ban, l.Redact]
/-- The bytes of power levels, behind others. -/
def encL (b : List Int) (l : ApiLevels) : List Int := b ++ enc l.Users.length ++ l.Users.flatMap encU ++ enc l.Kinds.length ++ l.Kinds.flatMap encK ++ (restL l).flatMap enc
/-- The bytes of a content. -/
def encC (c : ApiContent) : List Int := encL ([] ++ encS c.Text ++ enc c.N ++ enc c.Target ++ [bif c.Thread then 1 else 0] ++ encS c.Via ++ encSs c.Allow ++ encSs c.Deny) c.Levels

theorem encU_le {u : ApiLevel} (h : u.User.size ≤ 2000) : (encU u).length ≤ 2020 := by
  have := encS_length u.User; have := enc_length u.N
  unfold encU; rw [List.length_append]; omega
theorem encK_le (u : ApiKindLevel) : (encK u).length ≤ 20 := by
  have := enc_length u.Kind; have := enc_length u.N
  unfold encK; rw [List.length_append]; omega

theorem content_L3 (l : ApiLevels) (b : List Int) (hb : b.length ≤ 500000) : content_Encode_L3 l b 0 = some (b ++ (restL l).flatMap enc) ∧ (b ++ (restL l).flatMap enc).length ≤ 500070 := by
  unfold content_Encode_L3
  rw [loop2_flip]
  have := loopF (R := List Int) (body := fun k s a => content_Encode_B3 l (fun a s => k s a) a s) (restL l) (by have : fuel = 4611686018427387904 := rfl; simp [restL, this]) (fun b x => b ++ enc x) (fun i s => s.length ≤ 500000 + i * 10) some ?_ ?_ b (by omega)
  · rw [foldl_app] at this
    exact ⟨this.1, by have := this.2; simpa [restL] using this⟩
  · intro k i h s hI
    have h7 : i < 7 := h
    obtain ⟨e1, _, e3⟩ := sI (b := s) hI (by omega) ((restL l)[i]'h)
    refine ⟨?_, by omega⟩
    show content_Encode_B3 l (fun a s => k s a) s (i : Int) = _
    have hx : gIdx ([l.User, l.Message, l.State, l.Invite, l.Kick, l.Ban, l.Redact] : List Int) (i : Int) = some ((restL l)[i]'h) := gIdx_lt h
    simp only [content_Encode_B3, show decide ((i : Int) < 7) = true from by simp; omega, cond_true, hx, e1, Option.bind_some]
  · intro k s _
    show content_Encode_B3 l (fun a s => k s a) s ((7 : Nat) : Int) = _
    rfl
theorem R06_L3 (l : ApiLevels) (b : List Int) (hb : b.length ≤ 500000) : R06_Encode_L3 (restL l) b 0 = some (b ++ (restL l).flatMap enc) := by
  unfold R06_Encode_L3
  rw [loop2_flip]
  have := loopF (R := List Int) (body := fun k s a => R06_Encode_B3 (restL l) (fun a s => k s a) a s) (restL l) (by have : fuel = 4611686018427387904 := rfl; simp [restL, this]) (fun b x => b ++ enc x) (fun i s => s.length ≤ 500000 + i * 10) some ?_ ?_ b (by omega)
  · rw [foldl_app] at this
    exact this.1
  · intro k i h s hI
    have h7 : i < 7 := h
    obtain ⟨_, e1, e3⟩ := sI (b := s) hI (by omega) ((restL l)[i]'h)
    refine ⟨?_, by omega⟩
    show R06_Encode_B3 (restL l) (fun a s => k s a) s (i : Int) = _
    simp only [R06_Encode_B3, dec_lt h, cond_true, gIdx_lt h, e1, Option.bind_some]
  · intro k s _
    show R06_Encode_B3 (restL l) (fun a s => k s a) s ((restL l).length : Int) = _
    simp only [R06_Encode_B3, dec_nlt, cond_false]

theorem content_B2 (l : ApiLevels) (hl : l.Kinds.length ≤ 40) (k : Int → List Int × ApiLevels → Option (List Int)) (i : Nat) (h : i < l.Kinds.length) (s : List Int) (hI : s.length ≤ 400000 + i * 20) :
    content_Encode_B2 l (fun a b c => k b (a, c)) s (i : Int) l = k (IntKind.i64.wrap ((i : Int) + 1)) (s ++ encK l.Kinds[i], l) ∧ (s ++ encK l.Kinds[i]).length ≤ 400000 + (i + 1) * 20 := by
  obtain ⟨e1, _, e2⟩ := sI (b := s) hI (by omega) l.Kinds[i].Kind
  obtain ⟨e3, _, e4⟩ := sI e2 (by omega) l.Kinds[i].N
  have ha : s ++ enc l.Kinds[i].Kind ++ enc l.Kinds[i].N = s ++ encK l.Kinds[i] := by simp [encK]
  rw [ha] at e3 e4
  refine ⟨?_, by omega⟩
  simp only [content_Encode_B2, dec_lt h, cond_true, gIdx_lt h, e1, e3, Option.bind_some]
theorem content_B2e (l : ApiLevels) (k : Int → List Int × ApiLevels → Option (List Int)) (s : List Int) (t : ApiLevels) : content_Encode_B2 l (fun a b c => k b (a, c)) s (l.Kinds.length : Int) t = content_Encode_L3 t s 0 := by
  simp only [content_Encode_B2, dec_nlt, cond_false]
theorem content_L2 (l : ApiLevels) (b : List Int) (hb : b.length ≤ 400000) (hk : l.Kinds.length ≤ 40) : content_Encode_L2 l b 0 l = some (b ++ l.Kinds.flatMap encK ++ (restL l).flatMap enc) ∧ (b ++ l.Kinds.flatMap encK ++ (restL l).flatMap enc).length ≤ 500070 := by
  have hf : fuel = 4611686018427387904 := rfl
  unfold content_Encode_L2
  rw [loop3_pair]
  have := loopF (R := List Int) (body := fun k b (p : List Int × ApiLevels) => content_Encode_B2 l (fun a b c => k b (a, c)) p.1 b p.2) l.Kinds (by omega) (fun p x => (p.1 ++ encK x, p.2)) (fun i p => p.1.length ≤ 400000 + i * 20 ∧ p.2 = l) (fun p => content_Encode_L3 p.2 p.1 0)
    (fun k i h p hp => by
      obtain ⟨s, t⟩ := p
      obtain ⟨h1, h2⟩ := hp
      simp only at h1 h2
      rw [h2]
      have := content_B2 l hk k i h s h1
      exact ⟨this.1, this.2, rfl⟩) (fun k p _ => content_B2e l k p.1 p.2) (b, l) ⟨by simpa using hb, rfl⟩
  rw [foldl_pair] at this
  obtain ⟨t1, t2, _⟩ := this
  simp only at t2
  have h3 := content_L3 l (b ++ l.Kinds.flatMap encK) (by omega)
  refine ⟨?_, h3.2⟩
  rw [t1]
  simp only
  exact h3.1
theorem R06_L2 (c : ApiContent) (b : List Int) (hb : b.length ≤ 400000) (hk : c.Levels.Kinds.length ≤ 40) : R06_Encode_L2 c b 0 = some (b ++ c.Levels.Kinds.flatMap encK ++ (restL c.Levels).flatMap enc) := by
  have hf : fuel = 4611686018427387904 := rfl
  unfold R06_Encode_L2
  rw [loop2_flip]
  have := loopF (R := List Int) (body := fun k s a => R06_Encode_B2 c (fun a s => k s a) a s) c.Levels.Kinds (by omega) (fun b x => b ++ encK x) (fun i s => s.length ≤ 400000 + i * 20) (fun s => R06_Encode_L3 (restL c.Levels) s 0) ?_ ?_ b (by omega)
  · rw [foldl_app] at this
    rw [this.1]
    exact R06_L3 c.Levels _ (by have := this.2; omega)
  · intro k i h s hI
    obtain ⟨_, e1, e2⟩ := sI (b := s) hI (by omega) c.Levels.Kinds[i].Kind
    obtain ⟨_, e3, e4⟩ := sI e2 (by omega) c.Levels.Kinds[i].N
    have ha : s ++ enc c.Levels.Kinds[i].Kind ++ enc c.Levels.Kinds[i].N = s ++ encK c.Levels.Kinds[i] := by simp [encK]
    rw [ha] at e3 e4
    refine ⟨?_, by omega⟩
    show R06_Encode_B2 c (fun a s => k s a) s (i : Int) = _
    simp only [R06_Encode_B2, dec_lt h, cond_true, gIdx_lt h, e1, e3, Option.bind_some]
  · intro k s _
    show R06_Encode_B2 c (fun a s => k s a) s (c.Levels.Kinds.length : Int) = _
    simp only [R06_Encode_B2, dec_nlt, cond_false, show R06_rest c.Levels = some (restL c.Levels) from rfl, Option.bind_some]

theorem content_L1 (c : ApiContent) (b : List Int) (hb : b.length ≤ 300000) (hc : SmallC c) : content_Encode_L1 c b 0 c.Levels = some (b ++ c.Levels.Users.flatMap encU ++ enc c.Levels.Kinds.length ++ c.Levels.Kinds.flatMap encK ++ (restL c.Levels).flatMap enc) ∧
    (b ++ c.Levels.Users.flatMap encU ++ enc c.Levels.Kinds.length ++ c.Levels.Kinds.flatMap encK ++ (restL c.Levels).flatMap enc).length ≤ 500070 := by
  have hf : fuel = 4611686018427387904 := rfl
  have hu := hc.users
  unfold content_Encode_L1
  rw [loop3_pair]
  have := loopF (R := List Int) (body := fun k b (p : List Int × ApiLevels) => content_Encode_B1 c (fun a b c => k b (a, c)) p.1 b p.2) c.Levels.Users (by omega) (fun p x => (p.1 ++ encU x, p.2)) (fun i p => p.1.length ≤ 300000 + i * 2020 ∧ p.2 = c.Levels)
    (fun p => (codec_PutInt p.1 (p.2.Kinds.length : Int)).bind fun x17 => content_Encode_L2 p.2 x17 0 p.2) ?_ ?_ (b, c.Levels) ⟨by simpa using hb, rfl⟩
  · rw [foldl_pair] at this
    obtain ⟨e1, _, e2⟩ := sI this.2.1 (by omega) (c.Levels.Kinds.length : Int)
    have h2 := content_L2 c.Levels _ (show (b ++ c.Levels.Users.flatMap encU ++ enc c.Levels.Kinds.length).length ≤ 400000 by simp only at e2; omega) hc.kinds
    refine ⟨?_, h2.2⟩
    rw [this.1]
    show (codec_PutInt (b ++ c.Levels.Users.flatMap encU) (c.Levels.Kinds.length : Int)).bind _ = _
    rw [e1, Option.bind_some]
    exact h2.1
  · rintro k i h ⟨s, t⟩ ⟨hI, rfl⟩
    simp only at hI
    have hn := hc.names _ (List.getElem_mem h)
    obtain ⟨e1, _, e2⟩ := sS (b := s) hI (by omega) 2000 hn (by omega)
    obtain ⟨e3, _, e4⟩ := sI e2 (by omega) c.Levels.Users[i].N
    have ha : s ++ encS c.Levels.Users[i].User ++ enc c.Levels.Users[i].N = s ++ encU c.Levels.Users[i] := by simp [encU]
    rw [ha] at e3 e4
    refine ⟨?_, by simp only; omega, rfl⟩
    show content_Encode_B1 c (fun a b c => k b (a, c)) s (i : Int) c.Levels = _
    simp only [content_Encode_B1, dec_lt h, cond_true, gIdx_lt h, e1, e3, Option.bind_some]
  · rintro k ⟨s, t⟩ _
    show content_Encode_B1 c (fun a b c => k b (a, c)) s (c.Levels.Users.length : Int) t = _
    simp only [content_Encode_B1, dec_nlt, cond_false]
theorem R06_L1 (c : ApiContent) (b : List Int) (hb : b.length ≤ 300000) (hc : SmallC c) : R06_Encode_L1 c b 0 = some (b ++ c.Levels.Users.flatMap encU ++ enc c.Levels.Kinds.length ++ c.Levels.Kinds.flatMap encK ++ (restL c.Levels).flatMap enc) := by
  have hf : fuel = 4611686018427387904 := rfl
  have hu := hc.users
  unfold R06_Encode_L1
  rw [loop2_flip]
  have := loopF (R := List Int) (body := fun k s a => R06_Encode_B1 c (fun a s => k s a) a s) c.Levels.Users (by omega) (fun b x => b ++ encU x) (fun i s => s.length ≤ 300000 + i * 2020) (fun s => (R05_PutInt s (c.Levels.Kinds.length : Int)).bind fun x17 => R06_Encode_L2 c x17 0) ?_ ?_ b (by omega)
  · rw [foldl_app] at this
    obtain ⟨_, e1, e2⟩ := sI this.2 (by omega) (c.Levels.Kinds.length : Int)
    rw [this.1]
    show (R05_PutInt (b ++ c.Levels.Users.flatMap encU) (c.Levels.Kinds.length : Int)).bind _ = _
    rw [e1, Option.bind_some]
    exact R06_L2 c _ (by omega) hc.kinds
  · intro k i h s hI
    have hn := hc.names _ (List.getElem_mem h)
    obtain ⟨_, e1, e2⟩ := sS (b := s) hI (by omega) 2000 hn (by omega)
    obtain ⟨_, e3, e4⟩ := sI e2 (by omega) c.Levels.Users[i].N
    have ha : s ++ encS c.Levels.Users[i].User ++ enc c.Levels.Users[i].N = s ++ encU c.Levels.Users[i] := by simp [encU]
    rw [ha] at e3 e4
    refine ⟨?_, by omega⟩
    show R06_Encode_B1 c (fun a s => k s a) s (i : Int) = _
    simp only [R06_Encode_B1, dec_lt h, cond_true, gIdx_lt h, e1, e3, Option.bind_some]
  · intro k s _
    show R06_Encode_B1 c (fun a s => k s a) s (c.Levels.Users.length : Int) = _
    simp only [R06_Encode_B1, dec_nlt, cond_false]

theorem seven {R A B C D E F G : Type} {o1 : Option A} {o2 : A → Option B} {o3 : B → Option C} {o4 : C → Option D} {o5 : D → Option E} {o6 : E → Option F} {o7 : F → Option G} {f : G → Option R} {x1 x2 x3 x4 x5 x6 x7} {r : Option R} (h1 : o1 = some x1) (h2 : o2 x1 = some x2) (h3 : o3 x2 = some x3) (h4 : o4 x3 = some x4) (h5 : o5 x4 = some x5) (h6 : o6 x5 = some x6) (h7 : o7 x6 = some x7) (h : f x7 = r) :
    (o1.bind fun x1 => (o2 x1).bind fun x2 => (o3 x2).bind fun x3 => (o4 x3).bind fun x4 => (o5 x4).bind fun x5 => (o6 x5).bind fun x6 => (o7 x6).bind f) = r := by
  rw [h1, Option.bind_some, h2, Option.bind_some, h3, Option.bind_some, h4, Option.bind_some, h5, Option.bind_some, h6, Option.bind_some, h7, Option.bind_some, h]
theorem Content_eq {c : ApiContent} (hc : SmallC c) : content_Encode c = some (encC c) ∧ R06_Encode c = some (encC c) ∧ (encC c).length ≤ 500070 := by
  obtain ⟨a1, b1, h1⟩ := sS (b := []) (k := 0) (Nat.le_refl _) (by omega) 2000 hc.text (by omega)
  obtain ⟨a2, b2, h2⟩ := sI h1 (by omega) c.N
  obtain ⟨a3, b3, h3⟩ := sI h2 (by omega) c.Target
  obtain ⟨a4, b4, h4⟩ := sB h3 (by omega) c.Thread
  obtain ⟨a5, b5, h5⟩ := sS h4 (by omega) 2000 hc.via (by omega)
  obtain ⟨a6, b6, h6⟩ := sSs h5 (by omega) hc.allow hc.allows
  obtain ⟨a7, b7, h7⟩ := sSs h6 (by omega) hc.deny hc.denies
  obtain ⟨a8, b8, h8⟩ := sI h7 (by omega) (c.Levels.Users.length : Int)
  have h8' := Nat.le_trans h8 (show _ ≤ 300000 by omega)
  obtain ⟨a9, h9⟩ := content_L1 c _ h8' hc
  have b9 := R06_L1 c _ h8' hc
  refine ⟨?_, ?_, h9⟩
  · unfold content_Encode
    rw [a1, Option.bind_some, a2, Option.bind_some, a3, Option.bind_some, a4, Option.bind_some, a5, Option.bind_some, a6, Option.bind_some, a7, Option.bind_some, a8, Option.bind_some]
    exact a9
  · unfold R06_Encode
    rw [b1, Option.bind_some, b2, Option.bind_some, b3, Option.bind_some, b4, Option.bind_some, b5, Option.bind_some, b6, Option.bind_some, b7, Option.bind_some, b8, Option.bind_some]
    exact b9

/-! Events. -/
def encE (e : ApiEvent) : List Int :=
  [] ++ enc e.Id ++ encS e.Room ++ encS e.Sender ++ enc e.Kind ++ [bif e.State then 1 else 0] ++ encS e.Key ++ enc e.Time ++ enc e.Depth ++ encIs e.Prev ++ encIs e.Auth ++ encS (sOf (encC e.Content)) ++ enc e.Hash ++ encS e.Sig.Server ++ enc e.Sig.Sum
theorem sOf_size (l : List Int) : (sOf l).size = l.length := by
  have key : ∀ (l : List Int) (r : ByteArray), (l.foldl (fun r n => r.push (UInt8.ofNat n.toNat)) r).size = r.size + l.length := by
    intro l
    induction l with
    | nil => intro r; rfl
    | cons x l ih => intro r; rw [List.foldl_cons, ih, ByteArray.size_push, List.length_cons]; omega
  unfold sOf
  rw [key]; simp
theorem all_step {S α : Type} {body : (Int → S → Option S) → Int → S → Option S} (l : List α) (hl : l.length < 1000) (f : S → α → Option S)
    (hb : ∀ k (i : Nat) (h : i < l.length) s, body k (i : Int) s = (f s l[i]).bind fun x => k (IntKind.i64.wrap ((i : Int) + 1)) x) (he : ∀ k s, body k (l.length : Int) s = some s) (s : S) : loop2 body fuel 0 s = l.foldlM f s := by
  have hf : fuel = 4611686018427387904 := rfl
  have key : ∀ n (i : Nat) s, i + n = l.length → ∀ m, n < m → loop2 body m (i : Int) s = (l.drop i).foldlM f s := by
    intro n
    induction n with
    | zero =>
      intro i s hi m hm
      obtain ⟨m, rfl⟩ : ∃ m', m = m' + 1 := ⟨m - 1, by omega⟩
      have : i = l.length := by omega
      subst this
      rw [List.drop_length]
      exact he _ _
    | succ n ih =>
      intro i s hi m hm
      obtain ⟨m, rfl⟩ : ∃ m', m = m' + 1 := ⟨m - 1, by omega⟩
      have hlt : i < l.length := by omega
      rw [List.drop_eq_getElem_cons hlt, List.foldlM_cons]
      show body (loop2 body m) _ _ = (f s l[i]).bind _
      rw [hb _ i hlt, wrap_succ i (by omega)]
      congr 1; funext x; exact ih (i + 1) x (by omega) m (by omega)
  exact key l.length 0 s (by omega) fuel (by omega)
theorem all_number (w : EventWriter) (l : List Int) (hl : l.length < 1000) : event_all_int_event_writer_number w l = l.foldlM event_writer_number w := by
  unfold event_all_int_event_writer_number event_all_int_event_writer_number_L1
  exact all_step l hl _ (fun k i h s => by simp only [event_all_int_event_writer_number_B1, dec_lt h, cond_true, gIdx_lt h, Option.bind_some]) (fun k s => by simp only [event_all_int_event_writer_number_B1, dec_nlt, cond_false]) w
theorem all_text (w : EventWriter) (l : List ByteArray) (hl : l.length < 1000) : event_all_string_event_writer_text w l = l.foldlM event_writer_text w := by
  unfold event_all_string_event_writer_text event_all_string_event_writer_text_L1
  exact all_step l hl _ (fun k i h s => by simp only [event_all_string_event_writer_text_B1, dec_lt h, cond_true, gIdx_lt h, Option.bind_some]) (fun k s => by simp only [event_all_string_event_writer_text_B1, dec_nlt, cond_false]) w
theorem all_flag (w : EventWriter) (l : List Bool) (hl : l.length < 1000) : event_all_bool_event_writer_flag w l = l.foldlM event_writer_flag w := by
  unfold event_all_bool_event_writer_flag event_all_bool_event_writer_flag_L1
  exact all_step l hl _ (fun k i h s => by simp only [event_all_bool_event_writer_flag_B1, dec_lt h, cond_true, gIdx_lt h, Option.bind_some]) (fun k s => by simp only [event_all_bool_event_writer_flag_B1, dec_nlt, cond_false]) w
theorem all_numbers (w : EventWriter) (l : List (List Int)) (hl : l.length < 1000) : event_all_int_event_writer_numbers w l = l.foldlM event_writer_numbers w := by
  unfold event_all_int_event_writer_numbers event_all_int_event_writer_numbers_L1
  exact all_step l hl _ (fun k i h s => by simp only [event_all_int_event_writer_numbers_B1, dec_lt h, cond_true, gIdx_lt h, Option.bind_some]) (fun k s => by simp only [event_all_int_event_writer_numbers_B1, dec_nlt, cond_false]) w
theorem w_number {b c : List Int} {n : Int} (h : codec_PutInt b n = some c) : event_writer_number ⟨b⟩ n = some ⟨c⟩ := by unfold event_writer_number; rw [h]; rfl
theorem w_text {b c : List Int} {n : ByteArray} (h : codec_PutText b n = some c) : event_writer_text ⟨b⟩ n = some ⟨c⟩ := by unfold event_writer_text; rw [h]; rfl
theorem w_flag {b c : List Int} {n : Bool} (h : codec_PutBool b n = some c) : event_writer_flag ⟨b⟩ n = some ⟨c⟩ := by unfold event_writer_flag; rw [h]; rfl
theorem w_numbers {b c : List Int} {n : List Int} (h : codec_PutInts b n = some c) : event_writer_numbers ⟨b⟩ n = some ⟨c⟩ := by unfold event_writer_numbers; rw [h]; rfl

theorem one_number {b c : List Int} {n : Int} (h : codec_PutInt b n = some c) : event_all_int_event_writer_number ⟨b⟩ [n] = some ⟨c⟩ := by
  rw [all_number _ _ (by simp), List.foldlM_cons, w_number h]; rfl
theorem two_number {b c d : List Int} {n m : Int} (h : codec_PutInt b n = some c) (k : codec_PutInt c m = some d) : event_all_int_event_writer_number ⟨b⟩ [n, m] = some ⟨d⟩ := by
  rw [all_number _ _ (by simp), List.foldlM_cons, w_number h]
  show (event_writer_number ⟨c⟩ m).bind _ = _
  rw [w_number k]; rfl
theorem one_text {b c : List Int} {n : ByteArray} (h : codec_PutText b n = some c) : event_all_string_event_writer_text ⟨b⟩ [n] = some ⟨c⟩ := by
  rw [all_text _ _ (by simp), List.foldlM_cons, w_text h]; rfl
theorem two_text {b c d : List Int} {n m : ByteArray} (h : codec_PutText b n = some c) (k : codec_PutText c m = some d) : event_all_string_event_writer_text ⟨b⟩ [n, m] = some ⟨d⟩ := by
  rw [all_text _ _ (by simp), List.foldlM_cons, w_text h]
  show (event_writer_text ⟨c⟩ m).bind _ = _
  rw [w_text k]; rfl
theorem one_flag {b c : List Int} {n : Bool} (h : codec_PutBool b n = some c) : event_all_bool_event_writer_flag ⟨b⟩ [n] = some ⟨c⟩ := by
  rw [all_flag _ _ (by simp), List.foldlM_cons, w_flag h]; rfl
theorem two_numbers {b c d : List Int} {n m : List Int} (h : codec_PutInts b n = some c) (k : codec_PutInts c m = some d) : event_all_int_event_writer_numbers ⟨b⟩ [n, m] = some ⟨d⟩ := by
  rw [all_numbers _ _ (by simp), List.foldlM_cons, w_numbers h]
  show (event_writer_numbers ⟨c⟩ m).bind _ = _
  rw [w_numbers k]; rfl

theorem Encode_eq {e : ApiEvent} (he : SmallE e) : event_Encode e = some (encE e) ∧ R07_Encode e = some (encE e) ∧ (encE e).length ≤ 600000 := by
  obtain ⟨ac, bc, hc⟩ := Content_eq he.content
  obtain ⟨a1, b1, h1⟩ := sI (b := []) (k := 0) (Nat.le_refl _) (by omega) e.Id
  obtain ⟨a2, b2, h2⟩ := sS h1 (by omega) 2000 he.room (by omega)
  obtain ⟨a3, b3, h3⟩ := sS h2 (by omega) 2000 he.sender (by omega)
  obtain ⟨a4, b4, h4⟩ := sI h3 (by omega) e.Kind
  obtain ⟨a5, b5, h5⟩ := sB h4 (by omega) e.State
  obtain ⟨a6, b6, h6⟩ := sS h5 (by omega) 2000 he.key (by omega)
  obtain ⟨a7, b7, h7⟩ := sI h6 (by omega) e.Time
  obtain ⟨a8, b8, h8⟩ := sI h7 (by omega) e.Depth
  obtain ⟨a9, b9, h9⟩ := sIs h8 (by omega) he.prev
  obtain ⟨a10, b10, h10⟩ := sIs h9 (by omega) he.auth
  obtain ⟨a11, b11, h11⟩ := sS h10 (by omega) (s := sOf (encC e.Content)) 500070 (by rw [sOf_size]; exact hc) (by omega)
  obtain ⟨a12, b12, h12⟩ := sI h11 (by omega) e.Hash
  obtain ⟨a13, b13, h13⟩ := sS h12 (by omega) 2000 he.server (by omega)
  obtain ⟨a14, b14, h14⟩ := sI h13 (by omega) e.Sig.Sum
  refine ⟨?_, ?_, Nat.le_trans h14 (by omega)⟩
  · unfold event_Encode
    rw [show event_all_int_event_writer_number zEventWriter [e.Id] = _ from one_number a1, Option.bind_some, two_text a2 a3, Option.bind_some, one_number a4, Option.bind_some, one_flag a5, Option.bind_some, one_text a6, Option.bind_some, two_number a7 a8, Option.bind_some, two_numbers a9 a10, Option.bind_some,
      ac, Option.bind_some, one_text a11, Option.bind_some, one_number a12, Option.bind_some, one_text a13, Option.bind_some, one_number a14, Option.bind_some]
    rfl
  · unfold R07_Encode
    rw [b1, Option.bind_some, b2, Option.bind_some, b3, Option.bind_some, b4, Option.bind_some, b5, Option.bind_some, b6, Option.bind_some, b7, Option.bind_some, b8, Option.bind_some, b9, Option.bind_some, b10, Option.bind_some, bc, Option.bind_some, b11, Option.bind_some, b12, Option.bind_some, b13, Option.bind_some, b14, Option.bind_some]
    rfl
end Go.Proofs.YtmegkokogomfnaaGreat
