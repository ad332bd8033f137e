/- The law EvilForges over the typed functions: true. No condition. -/
import Derived.Test.YtmegkokogomfnaaGreatPlSame
import Derived.Test.YtmegkokogomfnaaGreatPlGr33
namespace Go.Proofs.YtmegkokogomfnaaGreat
open Go.RowKit

theorem evilForges_law (s : ApiServer) (d : ApiDeed) : L33_EvilForges s d = some true := by
  unfold L33_EvilForges
  refine Tri.eq ((great_tri s d).bind fun b hb => Tri.bif (fun _ => .ret rfl) fun h => ?_)
  obtain ⟨h1, h2, h3⟩ := hb h
  obtain ⟨p, e1, e2, e3, e4⟩ := Forge_eq h1 h2 h3
  rw [e1, Option.bind_some, e2, Option.bind_some]
  simp only [beq_self_eq_true, cond_true, R33_Same_refl (show p.1.length ≤ 1000 by omega) e4, L33_live_val, Option.bind_some]
  exact .ret rfl
end Go.Proofs.YtmegkokogomfnaaGreat
