/- The laws EvilSigned and EvilOwn over the typed functions: true. No condition. -/
import Derived.Test.YtmegkokogomfnaaGreatPlVer
import Derived.Test.YtmegkokogomfnaaGreatPlGr33
import Derived.Test.YtmegkokogomfnaaGreatPlGreat
namespace Go.Proofs.YtmegkokogomfnaaGreat
open Go.RowKit

theorem Signed_both {server : ByteArray} {l : List ApiEvent} (hl : l.length ≤ 1000) (hs : ∀ e ∈ l, SmallE e) : Both (evil_Signed server l) (R33_Signed server l) := by
  unfold evil_Signed evil_Signed_L1 R33_Signed R33_Signed_L1
  refine Both.loop l.length hl (fun k k' i h hk => ?_) (fun k k' => ?_)
  · have he := hs _ (List.getElem_mem h)
    have h2 := he.sender
    obtain ⟨s1, s2⟩ := ServerOf_eq (s := l[i].Sender) (by omega)
    simp only [evil_Signed_B1, R33_Signed_B1, dec_lt h, cond_true, gIdx_lt h, Option.bind_some, s1, s2, wrapS (show i ≤ 1000 by omega)]
    exact Both.bind (Verify_both he) fun x => Both.bind (Both.bif (fun _ => .ret _) fun _ => .ret _) fun y => Both.bif (fun _ => .ret _) fun _ => hk
  · simp only [evil_Signed_B1, R33_Signed_B1, dec_nlt, cond_false]
    exact .ret _

theorem evilSigned_law (server : ByteArray) (l : List ApiEvent) : L33_EvilSigned server l = some true := by
  unfold L33_EvilSigned
  refine Tri.eq (Tri.bind (P := fun b => b = false → l.length ≤ 14 ∧ ∀ e ∈ l, SmallE e) ?_ fun b hb => Tri.bif (fun _ => .ret rfl) fun h => ?_)
  · exact Tri.bif (fun _ => .ret fun h => by cases h) fun _ => Tri.bind (R08_Great_tri l 14 (by omega)) fun b hb => .ret hb
  · obtain ⟨h1, h2⟩ := hb h
    obtain ⟨r, e1, e2⟩ := Signed_both (server := server) (l := l) (by omega) h2
    rw [e1, Option.bind_some, e2, Option.bind_some]
    simp only [beq_self_eq_true, cond_true, L33_live_val, Option.bind_some]
    exact .ret rfl

/-- A forged event is refused, or of the server's own user. -/
theorem Forged_signed {name : ByteArray} {e : ApiEvent} (h : Forged name e) : evil_Signed name [e] = some true := by
  have he := h.small
  have h2 := he.sender
  obtain ⟨s1, _⟩ := ServerOf_eq (s := e.Sender) (by omega)
  obtain ⟨v, hv, _⟩ := Verify_both he
  unfold evil_Signed evil_Signed_L1
  rw [scan [e] (lt_fuel (by simp)) (fun _ => false) false (some true) (fun k i hi => ?_) (fun k => by simp only [evil_Signed_B1, dec_nlt, cond_false]), any_false]
  · rfl
  · have h0 : i = 0 := by simp at hi; exact hi
    subst h0
    simp only [evil_Signed_B1, dec_lt hi, cond_true, gIdx_lt hi, List.getElem_cons_zero, Option.bind_some, hv, s1]
    cases hz : v == 0 with
    | false => rfl
    | true =>
      have hv0 : v = 0 := eq_of_beq hz
      subst hv0
      obtain ⟨a, b, c⟩ := Verify_ok he hv
      have hn : (splitB e.Sender (idB e.Sender)).2.1 = name := by
        rcases h.sig with h1 | h1 | h1
        · rw [← a]; exact h1
        · exact absurd b h1
        · exfalso
          have hid : idB e.Sender = true := by unfold idB; rw [c]; rfl
          rw [hid] at a
          have hr : restB e.Sender = true := by unfold markedB at c; simp only [Bool.and_eq_true] at c; exact c.2
          have hser : serverL (sBytes (hostB e.Sender)) = true := by unfold restB at hr; simp only [Bool.and_eq_true] at hr; exact hr.2
          have hz : hostB e.Sender = s0 := by rw [← h1, a]; rfl
          rw [hz] at hser
          exact absurd hser (by decide)
      rw [hn]
      simp only [cond_true, beq_self_eq_true, Bool.not_true, Option.bind_some]
theorem Forged_signed' {name : ByteArray} {e : ApiEvent} (h : Forged name e) : R33_Signed name [e] = some true := by
  obtain ⟨r, e1, e2⟩ := Signed_both (server := name) (l := [e]) (by simp) (by intro x hx; simp only [List.mem_cons, List.not_mem_nil, or_false] at hx; subst hx; exact h.small)
  rw [Forged_signed h] at e1
  rw [e2, ← Option.some.inj e1]
theorem evilOwn_law (s : ApiServer) (d : ApiDeed) : L33_EvilOwn s d = some true := by
  unfold L33_EvilOwn
  refine Tri.eq ((great_tri s d).bind fun b hb => Tri.bif (fun _ => .ret rfl) fun h => ?_)
  obtain ⟨h1, h2, h3⟩ := hb h
  obtain ⟨p, e1, _, e3, e4⟩ := Forge_eq h1 h2 h3
  rw [e1, Option.bind_some]
  unfold L33_EvilOwn_L1
  refine Tri.of ?_
  rw [scan p.1 (lt_fuel (by omega)) (fun _ => false) false (some true) (fun k i hi => ?_) (fun k => ?_), any_false]
  · rfl
  · obtain ⟨⟨e, he, hf⟩, _, _⟩ := e4 _ (List.getElem_mem hi)
    simp only [L33_EvilOwn_B1, dec_lt hi, cond_true, gIdx_lt hi, Option.bind_some, he, Forged_signed hf, Forged_signed' hf, Bool.not_true, cond_false, L33_EvilOwn_j2]
  · simp only [L33_EvilOwn_B1, dec_nlt, cond_false, L33_live_val, Option.bind_some]
end Go.Proofs.YtmegkokogomfnaaGreat
