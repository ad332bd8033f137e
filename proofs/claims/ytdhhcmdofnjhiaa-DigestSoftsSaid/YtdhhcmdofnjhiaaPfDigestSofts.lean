/- DigestSofts holds: the row, proved. No condition. -/
import Derived.Test.YtdhhcmdofnjhiaaRows
import Derived.Test.YtdhhcmdofnjhiaaPlSoft
import Derived.Test.YtdhhcmdofnjhiaaOpnDigestSofts
import Derived.ProofKit
namespace Go.Proofs.Ytdhhcmdofnjhiaa
open Go.ChangeShapes Go.WideShapes Go.ChangeAt Go.RowKit

theorem Try.ownDigestSofts : ownKnob Try.prog.godebug = none := by kernel_rfl
theorem Try.laidOutDigestSofts : laidOutB Try.prog = true := by kernel_rfl

set_option maxHeartbeats 1600000 in
set_option maxRecDepth 100000 in
theorem digestSofts_lifted (os : Os) (started : os.Started) (H : Type) (enc : TypeId × Value → H) :
    ReturnsInHanded {} Try.checked os 6 .any (Rows.digestSoftsSpec.pre6 enc Try.prog Try.f6 Rows.digestSoftsRow.domain false) (Rows.digestSoftsSpec.post enc Try.prog Try.f6 false true false false) := by
  refine returnsInHanded_of_change (C := Try.checked) Try.ownDigestSofts started (by kernel_rfl) Try.func6
    (ChangeSpec.witness6 (enc := enc) (C := Try.checked) false ⟨#[], #[.agg #[.string { data := #[] }, .slice none 0 0, .slice none 0 0, .slice none 0 0, .slice none 0 0, .slice none 0 0, .int .i64 0, .slice none 0 0, .slice none 0 0]], []⟩ 8 (by kernel_rfl) (by kernel_rfl) (by kernel_rfl) (by kernel_rfl)) ?_
  intro W base args ds gs before hval0 hW _ _
  have hval : ∀ (j : Nat) t v, Try.f6.params[j]? = some t → args[j]? = some v → Value.okWide Try.prog W .any base t v := hval0
  have hW' := hW
  obtain ⟨p, q, hA0, hV, rfl, _, _⟩ := hW
  have hA : DataW.TrodAll enc Try.prog W 0 (fun _ => true) true Try.f6.params.toList args.toList ds p := hA0
  rw [Try.params6] at hA hval
  obtain ⟨v0, d0, rfl, rfl, h0⟩ := trodAll_one hA
  obtain ⟨rfl, rfl⟩ := trodVars_none hV
  obtain ⟨w0, rfl, -⟩ := okWide_struct Try.underlying30 (hval 0 30 v0 rfl rfl)
  have h0k := h0
  obtain ⟨fuel0, hf0⟩ := h0
  obtain ⟨r0, hok0, hc0⟩ := (opnApiRoom30 enc W _ _ _) _ _ _ hf0
  have hr0 := rd_agg (x := eApiRoom r0) rfl hc0
  clear hA0 hval0
  simp only [List.append_nil] at hW'
  have hlt0 : ∀ x ∈ p, x.block < W.heap.size := fun x hx => by simpa using hW'.lt x (by simp [hx])
  have hargs0 : ∀ (W' : World), Below W.heap.size W W' → DataW.Trod enc Try.prog W' 0 (fun b => decide (b < W.heap.size)) true 30 (.agg w0) d0 p :=
    fun W' hn => Below.trod Try.laidOutDigestSofts (by kernel_rfl) (of_decide_eq_true (by kernel_rfl)) h0k hn hlt0
  refine (Runs.law (xs := [eApiRoom r0]) (W := W) (L54_DigestSofts_ok r0 true (softs_law r0)) rfl (fun i hi => ?_)).mono fun e W' he => ?_
  · match i, hi with
    | 0, _ => exact hr0
  obtain ⟨rfl, hn⟩ := he
  exact ⟨_, rfl, _, _, _, [], p, [], hW', trodAll_mk1 (shut_bool Try.underlying4 _), trodAll_mk1 (hargs0 W' hn), rfl, hn.frame _, fun h => by cases h⟩

theorem digestSofts_holds : Rows.DigestSoftsSaid :=
  OpenClaim.holds_of_wide 6 Try.f6 rfl rfl rfl rfl rfl rfl rfl ⟨rfl, rfl, rfl, rfl, rfl⟩ rfl rfl rfl rfl rfl (by kernel_rfl) Try.func6 (by kernel_rfl)
    (of_decide_eq_true (by kernel_rfl)) (by unfold Func.isWrapper; first | (rw [if_pos (by decide +kernel)]; kernel_rfl) | (rw [if_neg (by decide +kernel)]; exact ⟨rfl, rfl⟩))
    (fun os started H enc _ => digestSofts_lifted os started H enc)
end Go.Proofs.Ytdhhcmdofnjhiaa
