/- The law EvilRights over the typed functions: true. No condition. -/
import Derived.Test.YtmegkokogomfnaaPlIds
import Derived.Test.YtmegkokogomfnaaPlLong
namespace Go.Proofs.Ytmegkokogomfnaa
open Go.RowKit

theorem great_tri (s : ApiServer) (d : ApiDeed) : Tri (L33_great s d) (fun b => b = false → s.Name.size ≤ 2000 ∧ d.To.size ≤ 2000 ∧ SmallE d.Event) := by
  unfold L33_great
  simp only [bif_some, Option.bind_some, bif_or]
  refine Tri.bind (P := fun b => b = false → s.Name.size ≤ 2000 ∧ d.To.size ≤ 2000 ∧ SmallE d.Event) ?_ fun b hb => .ret hb
  refine Tri.bif (fun _ => .ret fun h => by cases h) fun a => ?_
  simp only [Bool.or_eq_false_iff] at a
  have a1 := le_of_dec a.1
  have a2 := le_of_dec a.2
  refine Tri.bind (R08_Long_tri d.Event) fun b hb => .ret fun h => ⟨by omega, by omega, hb h⟩

theorem evilRights_law (s : ApiServer) (d : ApiDeed) : L33_EvilRights s d = some true := by
  unfold L33_EvilRights
  refine Tri.eq ((great_tri s d).bind fun b hb => Tri.bif (fun _ => .ret rfl) fun h => ?_)
  obtain ⟨_, h2, _⟩ := hb h
  obtain ⟨n, e1, e2⟩ := Right_eq s d (by omega)
  rw [e1, Option.bind_some, e2, Option.bind_some]
  simp only [beq_self_eq_true, cond_true, L33_live_val, Option.bind_some, L33_EvilRights_j1]
  exact .ret rfl
end Go.Proofs.Ytmegkokogomfnaa
