/- What the bounds of the laws of layer 33 say. No condition. -/
import Derived.Test.YtmegkokogomfnaaGreatPlLong
namespace Go.Proofs.YtmegkokogomfnaaGreat
open Go.RowKit

theorem great_tri (s : ApiServer) (d : ApiDeed) : Tri (L33_great s d) (fun b => b = false → s.Name.size ≤ 2000 ∧ d.To.size ≤ 2000 ∧ SmallE d.Event) := by
  unfold L33_great
  simp only [bif_some, Option.bind_some, bif_or]
  refine Tri.bind (P := fun b => b = false → s.Name.size ≤ 2000 ∧ d.To.size ≤ 2000 ∧ SmallE d.Event) ?_ fun b hb => .ret hb
  refine Tri.bif (fun _ => .ret fun h => by cases h) fun a => ?_
  simp only [Bool.or_eq_false_iff] at a
  have a1 := le_of_dec a.1
  have a2 := le_of_dec a.2
  refine Tri.bind (R08_Long_tri d.Event) fun b hb => .ret fun h => ⟨by omega, by omega, hb h⟩

end Go.Proofs.YtmegkokogomfnaaGreat
