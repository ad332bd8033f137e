/- Every event and every packet is the same as itself, for the reference, within the bounds. -/
import Derived.Test.YtmegkokogomfnaaGreatPlForge
namespace Go.Proofs.YtmegkokogomfnaaGreat
open Go.RowKit

theorem any_false {α : Type} (l : List α) : (l.any fun _ => false) = false := by simp
/-- A loop that compares each element of a list with itself. -/
theorem same_loop {α : Type} {body : (Int → Option Bool) → Int → Option Bool} (l : List α) (hl : l.length ≤ 1000) (rest : Option Bool) (hb : ∀ k (i : Nat) (h : i < l.length), body k (i : Int) = k (IntKind.i64.wrap ((i : Int) + 1))) (he : ∀ k, body k (l.length : Int) = rest) : loop1 body fuel 0 = rest := by
  rw [scan l (lt_fuel (by omega)) (fun _ => false) false rest (fun k i h => by rw [hb k i h]; rfl) he, any_false]; rfl
theorem R01_Same_refl {l : List Int} (h : l.length ≤ 1000) : R01_Same l l = some true := by
  unfold R01_Same R01_Same_L1
  rw [show ((l.length : Int) != (l.length : Int)) = false from by simp, cond_false]
  exact same_loop l h _ (fun k i h => by simp only [R01_Same_B1, dec_lt h, cond_true, gIdx_lt h, Option.bind_some, bne_self_eq_false, cond_false]) (fun k => by simp only [R01_Same_B1, dec_nlt, cond_false])
theorem R06_SameTexts_refl {l : List ByteArray} (h : l.length ≤ 1000) : R06_SameTexts l l = some true := by
  unfold R06_SameTexts R06_SameTexts_L1
  rw [show ((l.length : Int) != (l.length : Int)) = false from by simp, cond_false]
  exact same_loop l h _ (fun k i h => by simp only [R06_SameTexts_B1, dec_lt h, cond_true, gIdx_lt h, Option.bind_some, beq_self_eq_true, Bool.not_true, cond_false]) (fun k => by simp only [R06_SameTexts_B1, dec_nlt, cond_false])
theorem R06_SameLevels_refl {l : ApiLevels} (h1 : l.Users.length ≤ 1000) (h2 : l.Kinds.length ≤ 1000) : R06_SameLevels l l = some true := by
  have h3 : R06_SameLevels_L3 l l 0 = some true := by
    unfold R06_SameLevels_L3
    exact same_loop l.Kinds h2 _ (fun k i h => by simp only [R06_SameLevels_B3, dec_lt h, cond_true, gIdx_lt h, Option.bind_some, bne_self_eq_false, cond_false, R06_SameLevels_j4]) (fun k => by simp only [R06_SameLevels_B3, dec_nlt, cond_false, beq_self_eq_true, cond_true, Option.bind_some])
  unfold R06_SameLevels
  rw [show ((l.Users.length : Int) != (l.Users.length : Int)) = false from by simp, show ((l.Kinds.length : Int) != (l.Kinds.length : Int)) = false from by simp, cond_false, Option.bind_some, cond_false]
  unfold R06_SameLevels_L1
  exact same_loop l.Users h1 _ (fun k i h => by simp only [R06_SameLevels_B1, dec_lt h, cond_true, gIdx_lt h, Option.bind_some, beq_self_eq_true, Bool.not_true, bne_self_eq_false, cond_false, R06_SameLevels_j2]) (fun k => by simp only [R06_SameLevels_B1, dec_nlt, cond_false]; exact h3)
theorem R06_Same_refl {c : ApiContent} (h : SmallC c) : R06_Same c c = some true := by
  have := h.allow; have := h.deny; have := h.users; have := h.kinds
  unfold R06_Same
  simp only [beq_self_eq_true, cond_true, Option.bind_some, R06_SameTexts_refl (l := c.Allow) (by omega), R06_SameTexts_refl (l := c.Deny) (by omega), R06_SameLevels_refl (l := c.Levels) (by omega) (by omega)]
theorem R07_Same_refl {e : ApiEvent} (h : SmallE e) : R07_Same e e = some true := by
  have := h.prev; have := h.auth
  unfold R07_Same
  simp only [beq_self_eq_true, cond_true, Option.bind_some, R01_Same_refl (l := e.Prev) (by omega), R01_Same_refl (l := e.Auth) (by omega), R06_Same_refl h.content]
theorem R07_SameAll_refl {l : List ApiEvent} (h : l.length ≤ 1000) (hs : ∀ e ∈ l, SmallE e) : R07_SameAll l l = some true := by
  unfold R07_SameAll R07_SameAll_L1
  rw [show ((l.length : Int) != (l.length : Int)) = false from by simp, cond_false]
  exact same_loop l h _ (fun k i h => by simp only [R07_SameAll_B1, dec_lt h, cond_true, gIdx_lt h, Option.bind_some, R07_Same_refl (hs _ (List.getElem_mem h)), Bool.not_true, cond_false]) (fun k => by simp only [R07_SameAll_B1, dec_nlt, cond_false])
theorem R33_Same_refl {name : ByteArray} {l : List ApiPacket} (h : l.length ≤ 1000) (hs : ∀ q ∈ l, PacketOk name q) : R33_Same l l = some true := by
  unfold R33_Same R33_Same_L1
  rw [show ((l.length : Int) != (l.length : Int)) = false from by simp, cond_false]
  refine same_loop l h _ (fun k i h => ?_) (fun k => by simp only [R33_Same_B1, dec_nlt, cond_false])
  have hq := hs _ (List.getElem_mem h)
  obtain ⟨e, he, hf⟩ := hq.events
  have e1 : R07_SameAll l[i].Events l[i].Events = some true := R07_SameAll_refl (by rw [he]; simp) (by rw [he]; intro x hx; simp only [List.mem_cons, List.not_mem_nil, or_false] at hx; subst hx; exact hf.small)
  have e2 : R01_Same l[i].Ids l[i].Ids = some true := R01_Same_refl (by rw [hq.ids]; simp)
  have e3 : R07_SameAll l[i].Auth l[i].Auth = some true := R07_SameAll_refl (by rw [hq.auth]; simp) (by rw [hq.auth]; simp)
  simp only [R33_Same_B1, dec_lt h, cond_true, gIdx_lt h, Option.bind_some, beq_self_eq_true, Bool.not_true, bne_self_eq_false, cond_false, e1, e2, e3, R33_Same_j2]
end Go.Proofs.YtmegkokogomfnaaGreat
