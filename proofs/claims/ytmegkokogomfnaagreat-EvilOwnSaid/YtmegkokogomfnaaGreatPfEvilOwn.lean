/- EvilOwn holds: the row, proved. No condition. -/
import Derived.Test.YtmegkokogomfnaaGreatRows
import Derived.Test.YtmegkokogomfnaaGreatPlEvS
import Derived.Test.YtmegkokogomfnaaGreatOpnEvilOwn
import Derived.ProofKit
namespace Go.Proofs.YtmegkokogomfnaaGreat
open Go.ChangeShapes Go.WideShapes Go.ChangeAt Go.RowKit

theorem Tryz.ownEvilOwn : ownKnob Tryz.prog.godebug = none := by kernel_rfl
theorem Tryz.laidOutEvilOwn : laidOutB Tryz.prog = true := by kernel_rfl

set_option maxHeartbeats 1600000 in
set_option maxRecDepth 100000 in
theorem evilOwn_lifted (os : Os) (started : os.Started) (H : Type) (enc : TypeId × Value → H) :
    ReturnsInHanded {} Tryz.checked os 5 .any (Rows.evilOwnSpec.pre6 enc Tryz.prog Tryz.f5 Rows.evilOwnRow.domain false) (Rows.evilOwnSpec.post enc Tryz.prog Tryz.f5 false true false false) := by
  refine returnsInHanded_of_change (C := Tryz.checked) Tryz.ownEvilOwn started (by kernel_rfl) Tryz.func5
    (ChangeSpec.witness6 (enc := enc) (C := Tryz.checked) false ⟨#[], #[.agg #[.string { data := #[] }, .slice none 0 0, .slice none 0 0, .slice none 0 0, .slice none 0 0, .slice none 0 0, .int .i64 0, .slice none 0 0, .slice none 0 0, .slice none 0 0, .bool false, .int .i64 0], .agg #[.int .i64 0, .string { data := #[] }, .int .i64 0, .string { data := #[] }, .string { data := #[] }, .int .i64 0, .bool false, .string { data := #[] }, .int .i64 0, .int .i64 0, .slice none 0 0, .slice none 0 0, .string { data := #[] }, .int .i64 0, .int .i64 0, .bool false, .string { data := #[] }, .slice none 0 0, .slice none 0 0, .slice none 0 0, .slice none 0 0, .int .i64 0, .int .i64 0, .int .i64 0, .int .i64 0, .int .i64 0, .int .i64 0, .int .i64 0, .int .i64 0, .string { data := #[] }, .int .i64 0]], []⟩ 8 (by kernel_rfl) (by kernel_rfl) (by kernel_rfl) (by kernel_rfl)) ?_
  intro W base args ds gs before hval0 hW _ _
  have hval : ∀ (j : Nat) t v, Tryz.f5.params[j]? = some t → args[j]? = some v → Value.okWide Tryz.prog W .any base t v := hval0
  have hW' := hW
  obtain ⟨p, q, hA0, hV, rfl, _, _⟩ := hW
  have hA : DataW.TrodAll enc Tryz.prog W 0 (fun _ => true) true Tryz.f5.params.toList args.toList ds p := hA0
  rw [Tryz.params5] at hA hval
  obtain ⟨v0, v1, d0, d1, p0, p1, rfl, rfl, rfl, h0, h1⟩ := trodAll_two hA
  obtain ⟨rfl, rfl⟩ := trodVars_none hV
  obtain ⟨w0, rfl, -⟩ := okWide_struct Tryz.underlying31 (hval 0 31 v0 rfl rfl)
  have h0k := h0
  obtain ⟨fuel0, hf0⟩ := h0
  obtain ⟨r0, hok0, hc0⟩ := (opnApiServer31 enc W _ _ _) _ _ _ hf0
  have hr0 := rd_agg (x := eApiServer r0) rfl hc0
  obtain ⟨w1, rfl, -⟩ := okWide_struct Tryz.underlying45 (hval 1 45 v1 rfl rfl)
  have h1k := h1
  obtain ⟨fuel1, hf1⟩ := h1
  obtain ⟨r1, hok1, hc1⟩ := (opnApiDeed45 enc W _ _ _) _ _ _ hf1
  have hr1 := rd_agg (x := eApiDeed r1) rfl hc1
  clear hA0 hval0
  simp only [List.append_nil] at hW'
  have hlt0 : ∀ x ∈ p0, x.block < W.heap.size := fun x hx => by simpa using hW'.lt x (by simp [hx])
  have hargs0 : ∀ (W' : World), Below W.heap.size W W' → DataW.Trod enc Tryz.prog W' 0 (fun b => decide (b < W.heap.size)) true 31 (.agg w0) d0 p0 :=
    fun W' hn => Below.trod Tryz.laidOutEvilOwn (by kernel_rfl) (of_decide_eq_true (by kernel_rfl)) h0k hn hlt0
  have hlt1 : ∀ x ∈ p1, x.block < W.heap.size := fun x hx => by simpa using hW'.lt x (by simp [hx])
  have hargs1 : ∀ (W' : World), Below W.heap.size W W' → DataW.Trod enc Tryz.prog W' 0 (fun b => decide (b < W.heap.size)) true 45 (.agg w1) d1 p1 :=
    fun W' hn => Below.trod Tryz.laidOutEvilOwn (by kernel_rfl) (of_decide_eq_true (by kernel_rfl)) h1k hn hlt1
  refine (Runs.law (xs := [eApiServer r0, eApiDeed r1]) (W := W) (L33_EvilOwn_ok r0 r1 true (evilOwn_law r0 r1)) rfl (fun i hi => ?_)).mono fun e W' he => ?_
  · match i, hi with
    | 0, _ => exact hr0
    | 1, _ => exact hr1
  obtain ⟨rfl, hn⟩ := he
  exact ⟨_, rfl, _, _, _, [], (p0 ++ p1), [], hW', trodAll_mk1 (shut_bool Tryz.underlying4 _), trodAll_mk2 (hargs0 W' hn) (hargs1 W' hn), rfl, hn.frame _, fun h => by cases h⟩

theorem evilOwn_holds : Rows.EvilOwnSaid :=
  OpenClaim.holds_of_wide 5 Tryz.f5 rfl rfl rfl rfl rfl rfl rfl ⟨rfl, rfl, rfl, rfl, rfl⟩ rfl rfl rfl rfl rfl (by kernel_rfl) Tryz.func5 (by kernel_rfl)
    (of_decide_eq_true (by kernel_rfl)) (by unfold Func.isWrapper; first | (rw [if_pos (by decide +kernel)]; kernel_rfl) | (rw [if_neg (by decide +kernel)]; exact ⟨rfl, rfl⟩))
    (fun os started H enc _ => evilOwn_lifted os started H enc)
end Go.Proofs.YtmegkokogomfnaaGreat
