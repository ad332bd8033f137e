/- DigestDiffers holds: the row, proved. No condition. -/
import Derived.Test.YtdhhcmdofnjhiaaRows
import Derived.Test.YtdhhcmdofnjhiaaLawDiffers
import Derived.Test.YtdhhcmdofnjhiaaOpen
import Derived.ProofKit
namespace Go.Proofs.Ytdhhcmdofnjhiaa
open Go.ChangeShapes Go.WideShapes Go.ChangeAt Go.RowKit

theorem Try.ownDigestDiffers : ownKnob Try.prog.godebug = none := by kernel_rfl
theorem Try.laidOutDigestDiffers : laidOutB Try.prog = true := by kernel_rfl

set_option maxHeartbeats 1600000 in
set_option maxRecDepth 100000 in
theorem digestDiffers_lifted (os : Os) (started : os.Started) (H : Type) (enc : TypeId × Value → H) :
    ReturnsInHanded {} Try.checked os 4 .any (Rows.digestDiffersSpec.pre6 enc Try.prog Try.f4 Rows.digestDiffersRow.domain false) (Rows.digestDiffersSpec.post enc Try.prog Try.f4 false true false false) := by
  refine returnsInHanded_of_change (C := Try.checked) Try.ownDigestDiffers started (by kernel_rfl) Try.func4
    (ChangeSpec.witness6 (enc := enc) (C := Try.checked) false ⟨#[], #[.agg #[.string { data := #[] }, .slice none 0 0, .slice none 0 0, .slice none 0 0, .slice none 0 0, .slice none 0 0, .int .i64 0, .slice none 0 0, .slice none 0 0], .agg #[.string { data := #[] }, .slice none 0 0, .slice none 0 0, .slice none 0 0, .slice none 0 0, .slice none 0 0, .int .i64 0, .slice none 0 0, .slice none 0 0]], []⟩ 8 (by kernel_rfl) (by kernel_rfl) (by kernel_rfl) (by kernel_rfl)) ?_
  intro W base args ds gs before hval0 hW _ _
  have hval : ∀ (j : Nat) t v, Try.f4.params[j]? = some t → args[j]? = some v → Value.okWide Try.prog W .any base t v := hval0
  have hW' := hW
  obtain ⟨p, q, hA0, hV, rfl, _, _⟩ := hW
  have hA : DataW.TrodAll enc Try.prog W 0 (fun _ => true) true Try.f4.params.toList args.toList ds p := hA0
  rw [Try.params4] at hA hval
  obtain ⟨v0, v1, d0, d1, p0, p1, rfl, rfl, rfl, h0, h1⟩ := trodAll_two hA
  obtain ⟨rfl, rfl⟩ := trodVars_none hV
  obtain ⟨cs0, rfl, hsz0⟩ := okWide_struct Try.underlying30 (hval 0 30 v0 rfl rfl)
  have h0k := h0
  obtain ⟨fuel0, hf0⟩ := h0
  obtain ⟨r0, hr0⟩ : ∃ r, RmC W cs0 r := by
    have := (opens_room _ _ _ hf0).2.2
    simpa [Value.cells] using this
  obtain ⟨cs1, rfl, hsz1⟩ := okWide_struct Try.underlying30 (hval 1 30 v1 rfl rfl)
  have h1k := h1
  obtain ⟨fuel1, hf1⟩ := h1
  obtain ⟨r1, hr1⟩ : ∃ r, RmC W cs1 r := by
    have := (opens_room _ _ _ hf1).2.2
    simpa [Value.cells] using this
  clear hA0 hval0
  simp only [List.append_nil] at hW'
  have hlt0 : ∀ x ∈ p0, x.block < W.heap.size := fun x hx => by simpa using hW'.lt x (by simp [hx])
  have hargs0 : ∀ (W' : World), Below W.heap.size W W' → DataW.Trod enc Try.prog W' 0 (fun b => decide (b < W.heap.size)) true 30 (.agg cs0) d0 p0 :=
    fun W' hn => Below.trod Try.laidOutDigestDiffers (by kernel_rfl) (of_decide_eq_true (by kernel_rfl)) h0k hn hlt0
  have hlt1 : ∀ x ∈ p1, x.block < W.heap.size := fun x hx => by simpa using hW'.lt x (by simp [hx])
  have hargs1 : ∀ (W' : World), Below W.heap.size W W' → DataW.Trod enc Try.prog W' 0 (fun b => decide (b < W.heap.size)) true 30 (.agg cs1) d1 p1 :=
    fun W' hn => Below.trod Try.laidOutDigestDiffers (by kernel_rfl) (of_decide_eq_true (by kernel_rfl)) h1k hn hlt1
  refine (law_DigestDiffers cs0 cs1 r0 r1 W hr0 hr1).mono fun e W' he => ?_
  obtain ⟨rfl, hn⟩ := he
  exact ⟨_, rfl, _, _, _, [], (p0 ++ p1), [], hW', trodAll_mk1 (shut_bool Try.underlying4 _), trodAll_mk2 (hargs0 W' hn) (hargs1 W' hn), rfl, hn.frame _, fun h => by cases h⟩

theorem digestDiffers_holds : Rows.DigestDiffersSaid :=
  OpenClaim.holds_of_wide 4 Try.f4 rfl rfl rfl rfl rfl rfl rfl ⟨rfl, rfl, rfl, rfl, rfl⟩ rfl rfl rfl rfl rfl (by kernel_rfl) Try.func4 (by kernel_rfl)
    (of_decide_eq_true (by kernel_rfl)) (by unfold Func.isWrapper; first | (rw [if_pos (by decide +kernel)]; kernel_rfl) | (rw [if_neg (by decide +kernel)]; exact ⟨rfl, rfl⟩))
    (fun os started H enc _ => digestDiffers_lifted os started H enc)
end Go.Proofs.Ytdhhcmdofnjhiaa
