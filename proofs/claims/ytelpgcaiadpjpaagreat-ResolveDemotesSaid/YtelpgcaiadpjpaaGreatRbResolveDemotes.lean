/- The law ResolveDemotes holds (short forms written by wip/shrink.py; no condition). -/
import Derived.Test.YtelpgcaiadpjpaaGreatRb5
set_option linter.unusedVariables false
set_option linter.unusedSimpArgs false
section
namespace Go.Proofs.YtelpgcaiadpjpaaGreat
open Go.ChangeShapes Go.WideShapes Go.ChangeAt Go.RowKit
theorem Tryz.UY : ownKnob Tryz.prog.godebug = none := by kernel_rfl
theorem Tryz.O8 : laidOutB Tryz.prog = true := by kernel_rfl
set_option maxHeartbeats 1600000 in
set_option maxRecDepth 100000 in
theorem O9 (os : Os) (started : os.Started) (H : Type) (enc : TypeId × Value → H) :
 ReturnsInHanded {} Tryz.checked os 9 .any (Rows.resolveDemotesSpec.pre6 enc Tryz.prog Tryz.f9 Rows.resolveDemotesRow.domain false) (Rows.resolveDemotesSpec.post enc Tryz.prog Tryz.f9 false true false false) := by
 refine returnsInHanded_of_change (C := Tryz.checked) Tryz.UY started (by kernel_rfl) Tryz.func9
  (ChangeSpec.witness6 (enc := enc) (C := Tryz.checked) false ⟨#[], #[.agg #[.int .i64 0, .int .i64 0, .int .i64 0, .int .i64 0, .int .i64 0, .int .i64 0, .int .i64 0, .int .i64 0, .int .i64 0]], []⟩ 8 (by kernel_rfl) (by kernel_rfl) (by kernel_rfl) (by kernel_rfl)) ?_
 intro W base args ds gs before hval0 hW _ _; have hval : ∀ (j : Nat) t v, Tryz.f9.params[j]? = some t → args[j]? = some v → Value.okWide Tryz.prog W .any base t v := hval0; have hW' := hW; obtain ⟨p, q, hA0, hV, rfl, _, _⟩ := hW; have hA : DataW.TrodAll enc Tryz.prog W 0 (fun _ => true) true Tryz.f9.params.toList args.toList ds p := hA0; rw [Tryz.params9] at hA hval; obtain ⟨v0, d0, rfl, rfl, h0⟩ := trodAll_one hA; obtain ⟨rfl, rfl⟩ := trodVars_none hV; obtain ⟨w0, rfl, -⟩ := VB Tryz.underlying62 (hval 0 62 v0 rfl rfl); have h0k := h0; obtain ⟨fuel0, hf0⟩ := h0; obtain ⟨r0, hok0, hc0⟩ := (aaD Tryz.underlying62 (by kernel_rfl) (by kernel_rfl) (fun _ => rfl) (bJ Tryz.underlying3)) _ _ _ hf0; have hr0 := agL (x := (eA eI) r0) rfl hc0; obtain ⟨WS, anL, aiT, aiU⟩ := gV (n := 8) (by simpa using hok0.1); obtain ⟨WT, anM, aiV, aiW⟩ := gV (n := 7) (by simpa using aiU); obtain ⟨WU, anN, aiX, aiY⟩ := gV (n := 6) (by simpa using aiW); obtain ⟨WV, anO, aiZ, ai0⟩ := gV (n := 5) (by simpa using aiY); obtain ⟨WW, anP, ai1, ai2⟩ := gV (n := 4) (by simpa using ai0); obtain ⟨WX, anQ, ai3, ai4⟩ := gV (n := 3) (by simpa using ai2); obtain ⟨WY, anR, ai5, ai6⟩ := gV (n := 2) (by simpa using ai4); obtain ⟨WZ, anS, ai7, ai8⟩ := gV (n := 1) (by simpa using ai6); obtain ⟨W9, anT, ai9, aja⟩ := gV (n := 0) (by simpa using ai8); have z0 := VD aja; subst z0 ai9 ai7 ai5 ai3 ai1 aiZ aiX aiV aiT; clear hA0 hval0; simp only [List.append_nil] at hW'; have hlt0 : ∀ x ∈ p, x.block < W.heap.size := fun x hx => by simpa using hW'.lt x (by simp [hx])
 have hargs0 : ∀ (W' : World), Below W.heap.size W W' → DataW.Trod enc Tryz.prog W' 0 (fun b => decide (b < W.heap.size)) true 62 (.agg w0) d0 p :=
  fun W' hn => Below.trod Tryz.O8 (by kernel_rfl) (of_decide_eq_true (by kernel_rfl)) h0k hn hlt0
 refine (Runs.law (xs := [(eA eI) [WS, WT, WU, WV, WW, WX, WY, WZ, W9]]) (W := W) (OW WS WT WU WV WW WX WY WZ W9 true (TK WS WT WU WV WW WX WY WZ W9)) rfl (fun i hi => ?_)).mono fun e W' he => ?_
 · match i, hi with
   | 0, _ => exact hr0
 obtain ⟨rfl, hn⟩ := he; exact ⟨_, rfl, _, _, _, [], p, [], hW', trodAll_mk1 (shut_bool Tryz.underlying4 _), trodAll_mk1 (hargs0 W' hn), rfl, hn.frame _, fun h => by cases h⟩
theorem resolveDemotes_holds : Rows.ResolveDemotesSaid :=
 OpenClaim.holds_of_wide 9 Tryz.f9 rfl rfl rfl rfl rfl rfl rfl ⟨rfl, rfl, rfl, rfl, rfl⟩ rfl rfl rfl rfl rfl (by kernel_rfl) Tryz.func9 (by kernel_rfl)
  (of_decide_eq_true (by kernel_rfl)) (by unfold Func.isWrapper; first | (rw [if_pos (by decide +kernel)]; kernel_rfl) | (rw [if_neg (by decide +kernel)]; exact ⟨rfl, rfl⟩))
  (fun os started H enc _ => O9 os started H enc)
end Go.Proofs.YtelpgcaiadpjpaaGreat
end
