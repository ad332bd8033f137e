/- What the reference's bounds say of rooms and events. No condition. -/
import Derived.Test.YtdhhcmdofnjhiaaPlNum
namespace Go.Proofs.Ytdhhcmdofnjhiaa
open Go.RowKit

/-- The lists and texts of an event are small. -/
structure SmallE (e : ApiEvent) : Prop where
  prev : e.Prev.length ≤ 40
  auth : e.Auth.length ≤ 40
  allow : e.Content.Allow.length ≤ 40
  deny : e.Content.Deny.length ≤ 40
  users : e.Content.Levels.Users.length ≤ 40
  kinds : e.Content.Levels.Kinds.length ≤ 40
  room : e.Room.size ≤ 2000
  sender : e.Sender.size ≤ 2000
  key : e.Key.size ≤ 2000
  text : e.Content.Text.size ≤ 2000
  via : e.Content.Via.size ≤ 2000
  server : e.Sig.Server.size ≤ 2000
  allows : ∀ x ∈ e.Content.Allow, x.size ≤ 2000
  denies : ∀ x ∈ e.Content.Deny, x.size ≤ 2000
  names : ∀ x ∈ e.Content.Levels.Users, x.User.size ≤ 2000

theorem le_of_dec {a b : Int} (h : decide (a > b) = false) : a ≤ b := by have := of_decide_eq_false h; omega
theorem all_of_at {α : Type} {l : List α} {P : α → Prop} (h : ∀ j, (hl : j < l.length) → P l[j]) : ∀ x ∈ l, P x := fun x hx => by
  obtain ⟨j, hj, rfl⟩ := List.getElem_of_mem hx; exact h j hj

/-- A loop that looks for one that is too large. -/
theorem seek_tri {α : Type} {body : (Int → Option Bool) → Int → Option Bool} (l : List α) (hl : l.length < fuel) (big : α → Bool) (rest : Option Bool) {P : Prop}
    (hb : ∀ (k : Int → Option Bool) (i : Nat) (h : i < l.length), body k (i : Int) = bif big l[i] then some true else k (IntKind.i64.wrap ((i : Int) + 1))) (he : ∀ k, body k (l.length : Int) = rest)
    (hr : (∀ x ∈ l, big x = false) → Tri rest (fun b => b = false → P)) : Tri (loop1 body fuel 0) (fun b => b = false → P) := by
  refine loop1_at l.length hl (fun i => ∀ j, (hj : j < i) → (hl : j < l.length) → big l[j] = false) (fun j hj => by omega) ?_ ?_
  · intro i k hi hI hk
    have hf : fuel = 4611686018427387904 := rfl
    rw [hb k i hi, wrap_succ i (by omega)]
    refine Tri.bif (fun _ => .ret (fun h => by cases h)) fun e => hk fun j hj hl' => ?_
    by_cases ej : j = i
    · subst ej; exact e
    · exact hI j (by omega) hl'
  · intro k hI
    rw [he]
    exact hr (all_of_at fun j hj => hI j hj hj)

theorem step_at {α R : Type} {l : List α} {i : Nat} (h : i < l.length) (f : α → Option R) (z : Option R) : (bif decide ((i : Int) < (l.length : Int)) then (gIdx l (i : Int)).bind f else z) = f l[i] := by
  rw [show decide ((i : Int) < (l.length : Int)) = true by simpa using h, gIdx_lt h]; rfl
theorem end_at {α R : Type} {l : List α} (y z : Option R) : (bif decide ((l.length : Int) < (l.length : Int)) then y else z) = z := by
  rw [show decide ((l.length : Int) < (l.length : Int)) = false by simp]; rfl

theorem R08_Long_tri (e : ApiEvent) : Tri (R08_Long e) (fun b => b = false → SmallE e) := by
  have hf : fuel = 4611686018427387904 := rfl
  have no : ∀ {P : Prop}, Tri (some true) (fun b => b = false → P) := .ret fun h => by cases h
  unfold R08_Long
  refine Tri.bif (fun _ => no) fun a1 => Tri.bif (fun _ => no) fun a2 => Tri.bif (fun _ => no) fun a3 => Tri.bif (fun _ => no) fun a4 => Tri.bif (fun _ => no) fun a5 => ?_
  unfold R08_Long_j1
  refine Tri.bif (fun _ => no) fun a6 => Tri.bif (fun _ => no) fun b1 => Tri.bif (fun _ => no) fun b2 => Tri.bif (fun _ => no) fun b3 => Tri.bif (fun _ => no) fun b4 => Tri.bif (fun _ => no) fun b5 => ?_
  unfold R08_Long_j2
  refine Tri.bif (fun _ => no) fun b6 => ?_
  have a1 := le_of_dec a1; have a2 := le_of_dec a2; have a3 := le_of_dec a3; have a4 := le_of_dec a4; have a5 := le_of_dec a5; have a6 := le_of_dec a6
  have b1 := le_of_dec b1; have b2 := le_of_dec b2; have b3 := le_of_dec b3; have b4 := le_of_dec b4; have b5 := le_of_dec b5; have b6 := le_of_dec b6
  unfold R08_Long_L3
  refine seek_tri e.Content.Allow (by omega) (fun x => decide ((x.size : Int) > 2000)) (R08_Long_L4 e 0) (fun k i h => ?_) (fun k => ?_) fun c1 => ?_
  · unfold R08_Long_B3; rw [step_at h]
  · unfold R08_Long_B3; rw [end_at]
  unfold R08_Long_L4
  refine seek_tri e.Content.Deny (by omega) (fun x => decide ((x.size : Int) > 2000)) (R08_Long_L5 e 0) (fun k i h => ?_) (fun k => ?_) fun c2 => ?_
  · unfold R08_Long_B4; rw [step_at h]
  · unfold R08_Long_B4; rw [end_at]
  unfold R08_Long_L5
  refine seek_tri e.Content.Levels.Users (by omega) (fun x => decide ((x.User.size : Int) > 2000)) (some false) (fun k i h => ?_) (fun k => ?_) fun c3 => ?_
  · unfold R08_Long_B5; rw [step_at h]
  · unfold R08_Long_B5; rw [end_at]
  refine .ret fun _ => ⟨by omega, by omega, by omega, by omega, by omega, by omega, by omega, by omega, by omega, by omega, by omega, by omega, fun x hx => ?_, fun x hx => ?_, fun x hx => ?_⟩
  · have := le_of_dec (c1 x hx); omega
  · have := le_of_dec (c2 x hx); omega
  · have := le_of_dec (c3 x hx); omega

theorem R08_Great_tri (l : List ApiEvent) (n : Nat) (hn : n < 4611686018427387904) : Tri (R08_Great l n) (fun b => b = false → l.length ≤ n ∧ ∀ e ∈ l, SmallE e) := by
  have hf : fuel = 4611686018427387904 := rfl
  unfold R08_Great
  refine Tri.bif (fun _ => .ret fun h => by cases h) fun a1 => ?_
  have a1 := le_of_dec a1
  unfold R08_Great_L1
  refine loop1_at l.length (by omega) (fun i => ∀ j, (hj : j < i) → (hl : j < l.length) → SmallE l[j]) (fun j hj => by omega) ?_ ?_
  · intro i k hi hI hk
    unfold R08_Great_B1
    rw [step_at hi, wrap_succ i (by omega)]
    refine (R08_Long_tri l[i]).bind fun b hb => Tri.bif (fun _ => .ret fun h => by cases h) fun e => hk fun j hj hl' => ?_
    by_cases ej : j = i
    · subst ej; exact hb e
    · exact hI j (by omega) hl'
  · intro k hI
    unfold R08_Great_B1
    rw [end_at]
    exact .ret fun _ => ⟨by omega, all_of_at fun j hj => hI j hj hj⟩
end Go.Proofs.Ytdhhcmdofnjhiaa
