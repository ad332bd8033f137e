/- What the reference's bounds say of lists of events. No condition. -/
import Derived.Test.YtmegkokogomfnaaGreatPlLong
namespace Go.Proofs.YtmegkokogomfnaaGreat
open Go.RowKit

theorem R08_Great_tri (l : List ApiEvent) (n : Nat) (hn : n < 4611686018427387904) : Tri (R08_Great l n) (fun b => b = false → l.length ≤ n ∧ ∀ e ∈ l, SmallE e) := by
  have hf : fuel = 4611686018427387904 := rfl
  unfold R08_Great
  refine Tri.bif (fun _ => .ret fun h => by cases h) fun a1 => ?_
  have a1 := le_of_dec a1
  unfold R08_Great_L1
  refine loop1_at l.length (by omega) (fun i => ∀ j, (hj : j < i) → (hl : j < l.length) → SmallE l[j]) (fun j hj => by omega) ?_ ?_
  · intro i k hi hI hk
    unfold R08_Great_B1
    rw [step_at hi, wrap_succ i (by omega)]
    refine (R08_Long_tri l[i]).bind fun b hb => Tri.bif (fun _ => .ret fun h => by cases h) fun e => hk fun j hj hl' => ?_
    by_cases ej : j = i
    · subst ej; exact hb e
    · exact hI j (by omega) hl'
  · intro k hI
    unfold R08_Great_B1
    rw [end_at]
    exact .ret fun _ => ⟨by omega, all_of_at fun j hj => hI j hj hj⟩
end Go.Proofs.YtmegkokogomfnaaGreat
