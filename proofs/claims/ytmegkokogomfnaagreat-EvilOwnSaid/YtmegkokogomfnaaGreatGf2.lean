/- Functions of the program, typed, each proved to be what the program computes (printed by gogen.py). No condition. -/
import Derived.Test.YtmegkokogomfnaaGreatGf1
namespace Go.Proofs.YtmegkokogomfnaaGreat
open Go.RowKit
set_option maxRecDepth 20000
set_option maxHeartbeats 4000000

-- fedchat/fedchatref05.PutTexts
def R05_PutTexts_S1 (p1_l : (List ByteArray)) (v2 : (List Int)) (v3 : Int) : St := ⟨shp 24 [(1, .d ((eL eS) p1_l)), (5, .osl 0), (6, .d (eI v3))], [.arr 5 1 (List.map eU8 v2)], 0⟩
def R05_PutTexts_B1 (p1_l : (List ByteArray)) (k4 : ((List Int) → Int → Option (List Int))) : (List Int) → Int → Option (List Int) := fun v2 v3 => (bif decide (v3 < (p1_l.length : Int)) then (gIdx p1_l v3).bind fun x6 => (R05_PutText v2 x6).bind fun x7 => k4 x7 (IntKind.i64.wrap (v3 + 1)) else some v2)
def R05_PutTexts_L1 (p1_l : (List ByteArray)) : (List Int) → Int → Option (List Int) := loop2 (R05_PutTexts_B1 p1_l) fuel
def R05_PutTexts (p0_b : (List Int)) (p1_l : (List ByteArray)) : Option (List Int) := (R05_PutInt p0_b (p1_l.length : Int)).bind fun x1 => R05_PutTexts_L1 p1_l x1 0
theorem R05_PutTexts_ok (p0_b : (List Int)) (p1_l : (List ByteArray)) (r : (List Int)) (h : R05_PutTexts p0_b p1_l = some r) : Runs Tryz.prog 118 [.d ((eL eU8) p0_b), .d ((eL eS) p1_l)] [] (.osl 0) [.arr 5 1 (List.map eU8 r)] := by
  refine Runs.of_fin Tryz.func118 rfl ?_
  unfold R05_PutTexts at h
  refine SP.rg <| .e [.arr 5 1 (List.map eU8 [])] (ok_assign_own 5 1 rfl) <| .nil ?_
  obtain ⟨x1, hx1, h⟩ := of_bind h
  refine SP.rg <| .a 2 <| .p (ok_lenT eS p1_l und24 rfl) <| .e (x := .osl 1) [.arr 5 1 (List.map eU8 []), .arr 5 1 (List.map eU8 x1)] (ok_callD (avs := [.d ((eL eU8) p0_b), .d (eI (p1_l.length : Int))]) (avs' := [.d ((eL eU8) p0_b), .d (eI (p1_l.length : Int))]) (R05_PutInt_ok p0_b (p1_l.length : Int) x1 hx1) ent88 (by kernel_rfl) ⟨.inl rfl, .inl rfl, trivial⟩ rfl (by kernel_rfl) rfl) <| .a 1 <| .nil ?_
  refine SP.seqc ?_
  refine SP.rg <| .a 1 <| .nil ?_
  refine SP.block ?_
  refine SP.loop2 (R05_PutTexts_S1 p1_l) (R05_PutTexts_B1 p1_l) r x1 0 (sub_of (mk 24 98) [(1, true)]) h ?_
  clear h
  intro J8 k4 hk4 v2 v3 h
  unfold R05_PutTexts_B1 at h
  refine SP.seqc ?_
  refine SP.rg <| .a 2 <| .p (ok_lenT eS p1_l und24 rfl) <| .a 1 <| .nil ?_
  refine SP.cond (decide (v3 < (p1_l.length : Int))) (by kernel_rfl) (fun hb5 => ?_) (fun hb5 => ?_)
  · replace h := of_bif_true hb5 h
    refine SP.skip ?_
    refine SP.seqc ?_
    refine SP.block ?_
    obtain ⟨x6, hx6, h⟩ := of_bind h
    obtain ⟨x7, hx7, h⟩ := of_bind h
    refine SP.rgn <| .a 3 <| .p (ok_idxT (k := .i64) eS hx6 und24 ty9 (by kernel_rfl) rfl) <| .a 1 <| .conv _ (thaw_holds (e := 5) (s := 1) 0 (xs := List.map eU8 v2) (by kernel_rfl)) <| .e (x := .osl 1) [.dead, .arr 5 1 (List.map eU8 x7)] (ok_callD (avs := [.d ((eL eU8) v2), .d (eS x6)]) (avs' := [.d ((eL eU8) v2), .d (eS x6)]) (R05_PutText_ok v2 x6 x7 hx7) ent89 (by kernel_rfl) ⟨.inl rfl, .inl rfl, trivial⟩ rfl (by kernel_rfl) rfl) <| .a 1 <| .nil ?_
    refine SP.rgn <| .a 3 <| .nil ?_
    exact hk4 _ x7 (IntKind.i64.wrap (v3 + 1)) (sub_of (mk 24 98) [(1, true)]) h
  · replace h := of_bif_false hb5 h
    refine SP.exit ?_
    refine SP.rg <| .a 2 <| .nil ?_
    refine SP.ret ?_
    rw [← Option.some.inj h]
    exact ⟨[.osl 0], [(0, true)], ⟨resV_tmp (by kernel_rfl), trivial⟩, by kernel_rfl, by kernel_rfl, by kernel_rfl⟩

-- fedchat/fedchatref06.rest
def R06_rest (p0_l : ApiLevels) : Option (List Int) := some [p0_l.User, p0_l.Message, p0_l.State, p0_l.Invite, p0_l.Kick, p0_l.Ban, p0_l.Redact]
theorem R06_rest_ok (p0_l : ApiLevels) (r : (List Int)) (h : R06_rest p0_l = some r) : Runs Tryz.prog 119 [.d (eApiLevels p0_l)] [] (.osl 0) [.arr 3 1 (List.map eI r)] := by
  refine Runs.of_fin Tryz.func119 rfl ?_
  unfold R06_rest at h
  refine SP.rg <| .a 1 <| .e [.box (dc (eApiLevels p0_l)), .arr 3 1 (List.map eI [])] (ok_assign_own 3 1 rfl) <| .nil ?_
  refine SP.rg <| .a 14 <| .e [.box (dc (eApiLevels p0_l)), .arr 3 1 (List.map eI []), .arr 3 1 (List.map eI [p0_l.User, p0_l.Message, p0_l.State, p0_l.Invite, p0_l.Kick, p0_l.Ban, p0_l.Redact])] (ok_lits_own el33 zero3 (by kernel_rfl) (by kernel_rfl) (Nat.le_of_ble_eq_true (by kernel_rfl)) [.d (eI p0_l.User), .d (eI p0_l.Message), .d (eI p0_l.State), .d (eI p0_l.Invite), .d (eI p0_l.Kick), .d (eI p0_l.Ban), .d (eI p0_l.Redact)] [eI p0_l.User, eI p0_l.Message, eI p0_l.State, eI p0_l.Invite, eI p0_l.Kick, eI p0_l.Ban, eI p0_l.Redact] (by kernel_rfl) (by kernel_rfl) (by kernel_rfl) (by kernel_rfl) rfl) <| .a 1 <| .nil ?_
  refine SP.ret ?_
  rw [← Option.some.inj h]
  exact ⟨[.osl 2], [(2, true)], ⟨resV_tmp (by kernel_rfl), trivial⟩, by kernel_rfl, by kernel_rfl, by kernel_rfl⟩

-- fedchat/fedchatref06.Encode
def R06_Encode_S1 (p0_c : ApiContent) (v9 : (List Int)) (v10 : Int) : St := ⟨shp 109 [(3, .osl 0), (4, .ptr 1 0), (5, .d (eI v10))], [.arr 5 1 (List.map eU8 v9), .box (dc (eApiLevels p0_c.Levels))], 0⟩
def R06_Encode_S2 (p0_c : ApiContent) (v18 : (List Int)) (v19 : Int) : St := ⟨shp 109 [(3, .osl 0), (4, .ptr 1 0), (6, .d (eI v19))], [.arr 5 1 (List.map eU8 v18), .box (dc (eApiLevels p0_c.Levels))], 0⟩
def R06_Encode_S3 (x26 : (List Int)) (v27 : (List Int)) (v28 : Int) : St := ⟨shp 109 [(3, .osl 0), (7, .d ((eL eI) x26)), (8, .d (eI v28))], [.arr 5 1 (List.map eU8 v27)], 0⟩
def R06_Encode_B3 (x26 : (List Int)) (k29 : ((List Int) → Int → Option (List Int))) : (List Int) → Int → Option (List Int) := fun v27 v28 => (bif decide (v28 < (x26.length : Int)) then (gIdx x26 v28).bind fun x31 => (R05_PutInt v27 x31).bind fun x32 => k29 x32 (IntKind.i64.wrap (v28 + 1)) else some v27)
def R06_Encode_L3 (x26 : (List Int)) : (List Int) → Int → Option (List Int) := loop2 (R06_Encode_B3 x26) fuel
def R06_Encode_B2 (p0_c : ApiContent) (k20 : ((List Int) → Int → Option (List Int))) : (List Int) → Int → Option (List Int) := fun v18 v19 => (bif decide (v19 < (p0_c.Levels.Kinds.length : Int)) then (gIdx p0_c.Levels.Kinds v19).bind fun x22 => (R05_PutInt v18 x22.Kind).bind fun x23 => (gIdx p0_c.Levels.Kinds v19).bind fun x24 => (R05_PutInt x23 x24.N).bind fun x25 => k20 x25 (IntKind.i64.wrap (v19 + 1)) else (R06_rest p0_c.Levels).bind fun x26 => R06_Encode_L3 x26 v18 0)
def R06_Encode_L2 (p0_c : ApiContent) : (List Int) → Int → Option (List Int) := loop2 (R06_Encode_B2 p0_c) fuel
def R06_Encode_B1 (p0_c : ApiContent) (k11 : ((List Int) → Int → Option (List Int))) : (List Int) → Int → Option (List Int) := fun v9 v10 => (bif decide (v10 < (p0_c.Levels.Users.length : Int)) then (gIdx p0_c.Levels.Users v10).bind fun x13 => (R05_PutText v9 x13.User).bind fun x14 => (gIdx p0_c.Levels.Users v10).bind fun x15 => (R05_PutInt x14 x15.N).bind fun x16 => k11 x16 (IntKind.i64.wrap (v10 + 1)) else (R05_PutInt v9 (p0_c.Levels.Kinds.length : Int)).bind fun x17 => R06_Encode_L2 p0_c x17 0)
def R06_Encode_L1 (p0_c : ApiContent) : (List Int) → Int → Option (List Int) := loop2 (R06_Encode_B1 p0_c) fuel
def R06_Encode (p0_c : ApiContent) : Option (List Int) := (R05_PutText [] p0_c.Text).bind fun x1 => (R05_PutInt x1 p0_c.N).bind fun x2 => (R05_PutInt x2 p0_c.Target).bind fun x3 => (R05_PutBool x3 p0_c.Thread).bind fun x4 => (R05_PutText x4 p0_c.Via).bind fun x5 => (R05_PutTexts x5 p0_c.Allow).bind fun x6 => (R05_PutTexts x6 p0_c.Deny).bind fun x7 => (R05_PutInt x7 (p0_c.Levels.Users.length : Int)).bind fun x8 => R06_Encode_L1 p0_c x8 0
theorem R06_Encode_ok (p0_c : ApiContent) (r : (List Int)) (h : R06_Encode p0_c = some r) : Runs Tryz.prog 83 [.d (eApiContent p0_c)] [] (.osl 0) [.arr 5 1 (List.map eU8 r)] := by
  refine Runs.of_fin Tryz.func83 rfl ?_
  unfold R06_Encode at h
  refine SP.rg <| .a 1 <| .e [.box (dc (eApiContent p0_c)), .arr 5 1 (List.map eU8 [])] (ok_assign_own 5 1 rfl) <| .nil ?_
  obtain ⟨x1, hx1, h⟩ := of_bind h
  refine SP.rg <| .a 2 <| .e (x := .osl 2) [.box (dc (eApiContent p0_c)), .arr 5 1 (List.map eU8 []), .arr 5 1 (List.map eU8 x1)] (ok_callD (avs := [.d (.lit (.slice none 0 0)), .d (eS p0_c.Text)]) (avs' := [.d ((eL eU8) []), .d (eS p0_c.Text)]) (R05_PutText_ok [] p0_c.Text x1 hx1) ent89 (by kernel_rfl) ⟨.inr (.inr ⟨rfl, rfl⟩), .inl rfl, trivial⟩ rfl (by kernel_rfl) rfl) <| .a 1 <| .nil ?_
  obtain ⟨x2, hx2, h⟩ := of_bind h
  refine SP.rg <| .a 3 <| .conv _ (thaw_holds (e := 5) (s := 1) 2 (xs := List.map eU8 x1) (by kernel_rfl)) <| .e (x := .osl 3) [.box (dc (eApiContent p0_c)), .arr 5 1 (List.map eU8 []), .dead, .arr 5 1 (List.map eU8 x2)] (ok_callD (avs := [.d ((eL eU8) x1), .d (eI p0_c.N)]) (avs' := [.d ((eL eU8) x1), .d (eI p0_c.N)]) (R05_PutInt_ok x1 p0_c.N x2 hx2) ent88 (by kernel_rfl) ⟨.inl rfl, .inl rfl, trivial⟩ rfl (by kernel_rfl) rfl) <| .a 1 <| .nil ?_
  obtain ⟨x3, hx3, h⟩ := of_bind h
  refine SP.rg <| .a 3 <| .conv _ (thaw_holds (e := 5) (s := 1) 3 (xs := List.map eU8 x2) (by kernel_rfl)) <| .e (x := .osl 4) [.box (dc (eApiContent p0_c)), .arr 5 1 (List.map eU8 []), .dead, .dead, .arr 5 1 (List.map eU8 x3)] (ok_callD (avs := [.d ((eL eU8) x2), .d (eI p0_c.Target)]) (avs' := [.d ((eL eU8) x2), .d (eI p0_c.Target)]) (R05_PutInt_ok x2 p0_c.Target x3 hx3) ent88 (by kernel_rfl) ⟨.inl rfl, .inl rfl, trivial⟩ rfl (by kernel_rfl) rfl) <| .a 1 <| .nil ?_
  obtain ⟨x4, hx4, h⟩ := of_bind h
  refine SP.rg <| .a 3 <| .conv _ (thaw_holds (e := 5) (s := 1) 4 (xs := List.map eU8 x3) (by kernel_rfl)) <| .e (x := .osl 5) [.box (dc (eApiContent p0_c)), .arr 5 1 (List.map eU8 []), .dead, .dead, .dead, .arr 5 1 (List.map eU8 x4)] (ok_callD (avs := [.d ((eL eU8) x3), .d (eB p0_c.Thread)]) (avs' := [.d ((eL eU8) x3), .d (eB p0_c.Thread)]) (R05_PutBool_ok x3 p0_c.Thread x4 hx4) ent90 (by kernel_rfl) ⟨.inl rfl, .inl rfl, trivial⟩ rfl (by kernel_rfl) rfl) <| .a 1 <| .nil ?_
  obtain ⟨x5, hx5, h⟩ := of_bind h
  refine SP.rg <| .a 3 <| .conv _ (thaw_holds (e := 5) (s := 1) 5 (xs := List.map eU8 x4) (by kernel_rfl)) <| .e (x := .osl 6) [.box (dc (eApiContent p0_c)), .arr 5 1 (List.map eU8 []), .dead, .dead, .dead, .dead, .arr 5 1 (List.map eU8 x5)] (ok_callD (avs := [.d ((eL eU8) x4), .d (eS p0_c.Via)]) (avs' := [.d ((eL eU8) x4), .d (eS p0_c.Via)]) (R05_PutText_ok x4 p0_c.Via x5 hx5) ent89 (by kernel_rfl) ⟨.inl rfl, .inl rfl, trivial⟩ rfl (by kernel_rfl) rfl) <| .a 1 <| .nil ?_
  obtain ⟨x6, hx6, h⟩ := of_bind h
  refine SP.rg <| .a 3 <| .conv _ (thaw_holds (e := 5) (s := 1) 6 (xs := List.map eU8 x5) (by kernel_rfl)) <| .e (x := .osl 7) [.box (dc (eApiContent p0_c)), .arr 5 1 (List.map eU8 []), .dead, .dead, .dead, .dead, .dead, .arr 5 1 (List.map eU8 x6)] (ok_callD (avs := [.d ((eL eU8) x5), .d ((eL eS) p0_c.Allow)]) (avs' := [.d ((eL eU8) x5), .d ((eL eS) p0_c.Allow)]) (R05_PutTexts_ok x5 p0_c.Allow x6 hx6) ent118 (by kernel_rfl) ⟨.inl rfl, .inl rfl, trivial⟩ rfl (by kernel_rfl) rfl) <| .a 1 <| .nil ?_
  obtain ⟨x7, hx7, h⟩ := of_bind h
  refine SP.rg <| .a 3 <| .conv _ (thaw_holds (e := 5) (s := 1) 7 (xs := List.map eU8 x6) (by kernel_rfl)) <| .e (x := .osl 8) [.box (dc (eApiContent p0_c)), .arr 5 1 (List.map eU8 []), .dead, .dead, .dead, .dead, .dead, .dead, .arr 5 1 (List.map eU8 x7)] (ok_callD (avs := [.d ((eL eU8) x6), .d ((eL eS) p0_c.Deny)]) (avs' := [.d ((eL eU8) x6), .d ((eL eS) p0_c.Deny)]) (R05_PutTexts_ok x6 p0_c.Deny x7 hx7) ent118 (by kernel_rfl) ⟨.inl rfl, .inl rfl, trivial⟩ rfl (by kernel_rfl) rfl) <| .a 1 <| .nil ?_
  refine SP.rg <| .a 4 <| .nil ?_
  obtain ⟨x8, hx8, h⟩ := of_bind h
  refine SP.rg <| .a 3 <| .p (ok_lenT eApiLevel p0_c.Levels.Users und34 rfl) <| .conv _ (thaw_holds (e := 5) (s := 1) 8 (xs := List.map eU8 x7) (by kernel_rfl)) <| .e (x := .osl 10) [.box (dc (eApiContent p0_c)), .arr 5 1 (List.map eU8 []), .dead, .dead, .dead, .dead, .dead, .dead, .dead, .box (dc (eApiLevels p0_c.Levels)), .arr 5 1 (List.map eU8 x8)] (ok_callD (avs := [.d ((eL eU8) x7), .d (eI (p0_c.Levels.Users.length : Int))]) (avs' := [.d ((eL eU8) x7), .d (eI (p0_c.Levels.Users.length : Int))]) (R05_PutInt_ok x7 (p0_c.Levels.Users.length : Int) x8 hx8) ent88 (by kernel_rfl) ⟨.inl rfl, .inl rfl, trivial⟩ rfl (by kernel_rfl) rfl) <| .a 1 <| .nil ?_
  refine SP.seqc ?_
  refine SP.rg <| .a 1 <| .nil ?_
  refine SP.block ?_
  refine SP.loop2 (R06_Encode_S1 p0_c) (R06_Encode_B1 p0_c) r x8 0 (sub_of (mk 109 56) [(10, true), (9, true)]) h ?_
  clear h
  intro J35 k11 hk11 v9 v10 h
  unfold R06_Encode_B1 at h
  refine SP.seqc ?_
  refine SP.rg <| .a 3 <| .p (ok_lenT eApiLevel p0_c.Levels.Users und34 rfl) <| .a 1 <| .nil ?_
  refine SP.cond (decide (v10 < (p0_c.Levels.Users.length : Int))) (by kernel_rfl) (fun hb12 => ?_) (fun hb12 => ?_)
  · replace h := of_bif_true hb12 h
    refine SP.skip ?_
    refine SP.seqc ?_
    refine SP.block ?_
    obtain ⟨x13, hx13, h⟩ := of_bind h
    obtain ⟨x14, hx14, h⟩ := of_bind h
    refine SP.rg <| .a 4 <| .p (ok_idxT (k := .i64) eApiLevel hx13 und34 ty71 (by kernel_rfl) rfl) <| .a 2 <| .conv _ (thaw_holds (e := 5) (s := 1) 0 (xs := List.map eU8 v9) (by kernel_rfl)) <| .e (x := .osl 2) [.dead, .box (dc (eApiLevels p0_c.Levels)), .arr 5 1 (List.map eU8 x14)] (ok_callD (avs := [.d ((eL eU8) v9), .d (eS x13.User)]) (avs' := [.d ((eL eU8) v9), .d (eS x13.User)]) (R05_PutText_ok v9 x13.User x14 hx14) ent89 (by kernel_rfl) ⟨.inl rfl, .inl rfl, trivial⟩ rfl (by kernel_rfl) rfl) <| .a 1 <| .nil ?_
    obtain ⟨x15, hx15, h⟩ := of_bind h
    obtain ⟨x16, hx16, h⟩ := of_bind h
    refine SP.rgn <| .a 4 <| .p (ok_idxT (k := .i64) eApiLevel hx15 und34 ty71 (by kernel_rfl) rfl) <| .a 2 <| .conv _ (thaw_holds (e := 5) (s := 1) 2 (xs := List.map eU8 x14) (by kernel_rfl)) <| .e (x := .osl 3) [.dead, .box (dc (eApiLevels p0_c.Levels)), .dead, .arr 5 1 (List.map eU8 x16)] (ok_callD (avs := [.d ((eL eU8) x14), .d (eI x15.N)]) (avs' := [.d ((eL eU8) x14), .d (eI x15.N)]) (R05_PutInt_ok x14 x15.N x16 hx16) ent88 (by kernel_rfl) ⟨.inl rfl, .inl rfl, trivial⟩ rfl (by kernel_rfl) rfl) <| .a 1 <| .nil ?_
    refine SP.rgn <| .a 3 <| .nil ?_
    exact hk11 _ x16 (IntKind.i64.wrap (v10 + 1)) (sub_of (mk 109 56) [(3, true), (1, true)]) h
  · replace h := of_bif_false hb12 h
    refine SP.exit ?_
    obtain ⟨x17, hx17, h⟩ := of_bind h
    refine SP.rg <| .a 3 <| .p (ok_lenT eApiKindLevel p0_c.Levels.Kinds und35 rfl) <| .conv _ (thaw_holds (e := 5) (s := 1) 0 (xs := List.map eU8 v9) (by kernel_rfl)) <| .e (x := .osl 2) [.dead, .box (dc (eApiLevels p0_c.Levels)), .arr 5 1 (List.map eU8 x17)] (ok_callD (avs := [.d ((eL eU8) v9), .d (eI (p0_c.Levels.Kinds.length : Int))]) (avs' := [.d ((eL eU8) v9), .d (eI (p0_c.Levels.Kinds.length : Int))]) (R05_PutInt_ok v9 (p0_c.Levels.Kinds.length : Int) x17 hx17) ent88 (by kernel_rfl) ⟨.inl rfl, .inl rfl, trivial⟩ rfl (by kernel_rfl) rfl) <| .a 1 <| .nil ?_
    refine SP.seqc ?_
    refine SP.rg <| .a 1 <| .nil ?_
    refine SP.block ?_
    refine SP.loop2 (R06_Encode_S2 p0_c) (R06_Encode_B2 p0_c) r x17 0 (sub_of (mk 109 88) [(2, true), (1, true)]) h ?_
    clear h
    intro J34 k20 hk20 v18 v19 h
    unfold R06_Encode_B2 at h
    refine SP.seqc ?_
    refine SP.rg <| .a 3 <| .p (ok_lenT eApiKindLevel p0_c.Levels.Kinds und35 rfl) <| .a 1 <| .nil ?_
    refine SP.cond (decide (v19 < (p0_c.Levels.Kinds.length : Int))) (by kernel_rfl) (fun hb21 => ?_) (fun hb21 => ?_)
    · replace h := of_bif_true hb21 h
      refine SP.skip ?_
      refine SP.seqc ?_
      refine SP.block ?_
      obtain ⟨x22, hx22, h⟩ := of_bind h
      obtain ⟨x23, hx23, h⟩ := of_bind h
      refine SP.rg <| .a 4 <| .p (ok_idxT (k := .i64) eApiKindLevel hx22 und35 ty108 (by kernel_rfl) rfl) <| .a 2 <| .conv _ (thaw_holds (e := 5) (s := 1) 0 (xs := List.map eU8 v18) (by kernel_rfl)) <| .e (x := .osl 2) [.dead, .box (dc (eApiLevels p0_c.Levels)), .arr 5 1 (List.map eU8 x23)] (ok_callD (avs := [.d ((eL eU8) v18), .d (eI x22.Kind)]) (avs' := [.d ((eL eU8) v18), .d (eI x22.Kind)]) (R05_PutInt_ok v18 x22.Kind x23 hx23) ent88 (by kernel_rfl) ⟨.inl rfl, .inl rfl, trivial⟩ rfl (by kernel_rfl) rfl) <| .a 1 <| .nil ?_
      obtain ⟨x24, hx24, h⟩ := of_bind h
      obtain ⟨x25, hx25, h⟩ := of_bind h
      refine SP.rgn <| .a 4 <| .p (ok_idxT (k := .i64) eApiKindLevel hx24 und35 ty108 (by kernel_rfl) rfl) <| .a 2 <| .conv _ (thaw_holds (e := 5) (s := 1) 2 (xs := List.map eU8 x23) (by kernel_rfl)) <| .e (x := .osl 3) [.dead, .box (dc (eApiLevels p0_c.Levels)), .dead, .arr 5 1 (List.map eU8 x25)] (ok_callD (avs := [.d ((eL eU8) x23), .d (eI x24.N)]) (avs' := [.d ((eL eU8) x23), .d (eI x24.N)]) (R05_PutInt_ok x23 x24.N x25 hx25) ent88 (by kernel_rfl) ⟨.inl rfl, .inl rfl, trivial⟩ rfl (by kernel_rfl) rfl) <| .a 1 <| .nil ?_
      refine SP.rgn <| .a 3 <| .nil ?_
      exact hk20 _ x25 (IntKind.i64.wrap (v19 + 1)) (sub_of (mk 109 88) [(3, true), (1, true)]) h
    · replace h := of_bif_false hb21 h
      refine SP.exit ?_
      obtain ⟨x26, hx26, h⟩ := of_bind h
      refine SP.rg <| .a 1 <| .call (R06_rest_ok p0_c.Levels x26 hx26).view ent119 <| .a 1 <| .nil ?_
      refine SP.seqc ?_
      refine SP.rg <| .a 1 <| .nil ?_
      refine SP.block ?_
      refine SP.loop2 (R06_Encode_S3 x26) (R06_Encode_B3 x26) r v18 0 (sub_of (mk 109 392) [(0, true)]) h ?_
      clear h
      intro J33 k29 hk29 v27 v28 h
      unfold R06_Encode_B3 at h
      refine SP.seqc ?_
      refine SP.rg <| .a 2 <| .p (ok_lenT eI x26 und33 rfl) <| .a 1 <| .nil ?_
      refine SP.cond (decide (v28 < (x26.length : Int))) (by kernel_rfl) (fun hb30 => ?_) (fun hb30 => ?_)
      · replace h := of_bif_true hb30 h
        refine SP.skip ?_
        refine SP.seqc ?_
        refine SP.block ?_
        obtain ⟨x31, hx31, h⟩ := of_bind h
        obtain ⟨x32, hx32, h⟩ := of_bind h
        refine SP.rgn <| .a 3 <| .p (ok_idxT (k := .i64) eI hx31 und33 ty3 (by kernel_rfl) rfl) <| .a 1 <| .conv _ (thaw_holds (e := 5) (s := 1) 0 (xs := List.map eU8 v27) (by kernel_rfl)) <| .e (x := .osl 1) [.dead, .arr 5 1 (List.map eU8 x32)] (ok_callD (avs := [.d ((eL eU8) v27), .d (eI x31)]) (avs' := [.d ((eL eU8) v27), .d (eI x31)]) (R05_PutInt_ok v27 x31 x32 hx32) ent88 (by kernel_rfl) ⟨.inl rfl, .inl rfl, trivial⟩ rfl (by kernel_rfl) rfl) <| .a 1 <| .nil ?_
        refine SP.rgn <| .a 3 <| .nil ?_
        exact hk29 _ x32 (IntKind.i64.wrap (v28 + 1)) (sub_of (mk 109 392) [(1, true)]) h
      · replace h := of_bif_false hb30 h
        refine SP.exit ?_
        refine SP.rg <| .a 2 <| .nil ?_
        refine SP.ret ?_
        rw [← Option.some.inj h]
        exact ⟨[.osl 0], [(0, true)], ⟨resV_tmp (by kernel_rfl), trivial⟩, by kernel_rfl, by kernel_rfl, by kernel_rfl⟩

-- fedchat/fedchatref04.Start
def R04_Start  : Option Int := some 860922984064492325
theorem R04_Start_ok  (r : Int) (h : R04_Start = some r) : Runs Tryz.prog 87 [] [] (.d (eI r)) [] := by
  refine Runs.of_fin Tryz.func87 rfl ?_
  unfold R04_Start at h
  refine SP.rg <| .a 1 <| .nil ?_
  refine SP.rg <| .a 1 <| .nil ?_
  refine SP.ret ?_
  rw [← Option.some.inj h]
  exact ⟨[.d (eI 860922984064492325)], [], ⟨resV_tmp (by kernel_rfl), trivial⟩, by kernel_rfl, by kernel_rfl, by kernel_rfl⟩

-- fedchat/fedchatref04.Fold
def R04_Fold_S1 (p1_b : (List Int)) (v2 : Int) (v3 : Int) : St := ⟨shp 27 [(1, .d ((eL eU8) p1_b)), (5, .d ((eK .u64) v2)), (6, .d (eI v3))], [], 0⟩
def R04_Fold_B1 (p1_b : (List Int)) (k4 : (Int → Int → Option Int)) : Int → Int → Option Int := fun v2 v3 => (bif decide (v3 < (p1_b.length : Int)) then (gIdx p1_b v3).bind fun x6 => (gRemK (IntKind.u64.wrap ((gBits .xor .u64 v2 (IntKind.u64.wrap x6)) * 1099511628211)) 4611686018427387904).bind fun x7 => k4 x7 (IntKind.i64.wrap (v3 + 1)) else some (IntKind.i64.wrap v2))
def R04_Fold_L1 (p1_b : (List Int)) : Int → Int → Option Int := loop2 (R04_Fold_B1 p1_b) fuel
def R04_Fold (p0_h : Int) (p1_b : (List Int)) : Option Int := (gRemK (IntKind.u64.wrap p0_h) 4611686018427387904).bind fun x1 => R04_Fold_L1 p1_b x1 0
theorem R04_Fold_ok (p0_h : Int) (p1_b : (List Int)) (r : Int) (h : R04_Fold p0_h p1_b = some r) : Runs Tryz.prog 86 [.d (eI p0_h), .d ((eL eU8) p1_b)] [] (.d (eI r)) [] := by
  refine Runs.of_fin Tryz.func86 rfl ?_
  unfold R04_Fold at h
  refine SP.rg <| .a 1 <| .nil ?_
  obtain ⟨x1, hx1, h⟩ := of_bind h
  refine SP.rg <| .a 2 <| .p (ok_remK (k := .u64) hx1 rfl) <| .a 1 <| .nil ?_
  refine SP.seqc ?_
  refine SP.rg <| .a 1 <| .nil ?_
  refine SP.block ?_
  refine SP.loop2 (R04_Fold_S1 p1_b) (R04_Fold_B1 p1_b) r x1 0 (sub_of (mk 27 98) []) h ?_
  clear h
  intro J8 k4 hk4 v2 v3 h
  unfold R04_Fold_B1 at h
  refine SP.seqc ?_
  refine SP.rg <| .a 2 <| .p (ok_lenT eU8 p1_b und78 rfl) <| .a 1 <| .nil ?_
  refine SP.cond (decide (v3 < (p1_b.length : Int))) (by kernel_rfl) (fun hb5 => ?_) (fun hb5 => ?_)
  · replace h := of_bif_true hb5 h
    refine SP.skip ?_
    refine SP.seqc ?_
    refine SP.block ?_
    obtain ⟨x6, hx6, h⟩ := of_bind h
    obtain ⟨x7, hx7, h⟩ := of_bind h
    refine SP.rgn <| .a 3 <| .p (ok_idxT (k := .i64) eU8 hx6 und78 ty5 (by kernel_rfl) rfl) <| .a 2 <| .p (ok_xor (k := .u64) (u := v2) (v := (IntKind.u64.wrap x6)) rfl) <| .a 1 <| .p (ok_remK (k := .u64) hx7 rfl) <| .a 1 <| .nil ?_
    refine SP.rgn <| .a 3 <| .nil ?_
    exact hk4 _ x7 (IntKind.i64.wrap (v3 + 1)) (sub_of (mk 27 98) []) h
  · replace h := of_bif_false hb5 h
    refine SP.exit ?_
    refine SP.rg <| .a 3 <| .nil ?_
    refine SP.ret ?_
    rw [← Option.some.inj h]
    exact ⟨[.d (eI (IntKind.i64.wrap v2))], [], ⟨resV_tmp (by kernel_rfl), trivial⟩, by kernel_rfl, by kernel_rfl, by kernel_rfl⟩

-- fedchat/fedchatref04.Sum
def R04_Sum (p0_b : (List Int)) : Option Int := (R04_Start).bind fun x1 => (R04_Fold x1 p0_b).bind fun x2 => some x2
theorem R04_Sum_ok (p0_b : (List Int)) (r : Int) (h : R04_Sum p0_b = some r) : Runs Tryz.prog 52 [.d ((eL eU8) p0_b)] [] (.d (eI r)) [] := by
  refine Runs.of_fin Tryz.func52 rfl ?_
  unfold R04_Sum at h
  refine SP.rg <| .a 1 <| .nil ?_
  obtain ⟨x1, hx1, h⟩ := of_bind h
  obtain ⟨x2, hx2, h⟩ := of_bind h
  refine SP.rg <| .call (R04_Start_ok  x1 hx1) ent87 <| .a 1 <| .call (R04_Fold_ok x1 p0_b x2 hx2) ent86 <| .a 1 <| .nil ?_
  refine SP.ret ?_
  rw [← Option.some.inj h]
  exact ⟨[.d (eI x2)], [], ⟨resV_tmp (by kernel_rfl), trivial⟩, by kernel_rfl, by kernel_rfl, by kernel_rfl⟩

-- fedchat/fedchatref07.Hash
def R07_Hash (p0_e : ApiEvent) : Option Int := (R06_Encode p0_e.Content).bind fun x1 => (R04_Sum x1).bind fun x2 => some x2
theorem R07_Hash_ok (p0_e : ApiEvent) (r : Int) (h : R07_Hash p0_e = some r) : Runs Tryz.prog 47 [.d (eApiEvent p0_e)] [] (.d (eI r)) [] := by
  refine Runs.of_fin Tryz.func47 rfl ?_
  unfold R07_Hash at h
  refine SP.rg <| .a 2 <| .nil ?_
  obtain ⟨x1, hx1, h⟩ := of_bind h
  obtain ⟨x2, hx2, h⟩ := of_bind h
  refine SP.rg <| .a 2 <| .call (R06_Encode_ok p0_e.Content x1 hx1).view ent83 <| .call (R04_Sum_ok x1 x2 hx2) ent52 <| .a 1 <| .nil ?_
  refine SP.ret ?_
  rw [← Option.some.inj h]
  exact ⟨[.d (eI x2)], [], ⟨resV_tmp (by kernel_rfl), trivial⟩, by kernel_rfl, by kernel_rfl, by kernel_rfl⟩

-- fedchat/fedchatref06.Strip
def R06_Strip (p0_k : Int) (p1_c : ApiContent) : Option ApiContent := (bif (p0_k == 1) then some p1_c else (bif (p0_k == 2) then some ({ zApiContent with N := p1_c.N, Via := p1_c.Via }) else (bif (p0_k == 3) then some ({ zApiContent with Levels := p1_c.Levels }) else (bif (p0_k == 4) then some ({ zApiContent with N := p1_c.N, Allow := p1_c.Allow }) else (bif (p0_k == 5) then some ({ zApiContent with N := p1_c.N }) else (bif (p0_k == 6) then some ({ zApiContent with Allow := p1_c.Allow, Deny := p1_c.Deny }) else (bif (p0_k == 14) then some ({ zApiContent with Target := p1_c.Target }) else some zApiContent)))))))
theorem R06_Strip_ok (p0_k : Int) (p1_c : ApiContent) (r : ApiContent) (h : R06_Strip p0_k p1_c = some r) : Runs Tryz.prog 62 [.d (eI p0_k), .d (eApiContent p1_c)] [] (.d (eApiContent r)) [] := by
  refine Runs.of_fin Tryz.func62 rfl ?_
  unfold R06_Strip at h
  refine SP.rg <| .a 2 <| .nil ?_
  refine SP.seqc ?_
  refine SP.rg <| .a 1 <| .nil ?_
  refine SP.block ?_
  refine SP.rg <| .a 2 <| .nil ?_
  refine SP.cond (p0_k == 1) (by kernel_rfl) (fun hb1 => ?_) (fun hb1 => ?_)
  · replace h := of_bif_true hb1 h
    refine SP.rg <| .a 2 <| .nil ?_
    refine SP.ret ?_
    rw [← Option.some.inj h]
    exact ⟨[.d (eApiContent p1_c)], [], ⟨⟨1, dc (eApiContent p1_c), true, 16, by kernel_rfl, by kernel_rfl, by kernel_rfl, ty39, Nat.le_of_ble_eq_true (by kernel_rfl), (by intro hh; cases hh), by kernel_rfl⟩, trivial⟩, by kernel_rfl, by kernel_rfl, by kernel_rfl⟩
  · replace h := of_bif_false hb1 h
    refine SP.rg <| .a 2 <| .nil ?_
    refine SP.cond (p0_k == 2) (by kernel_rfl) (fun hb2 => ?_) (fun hb2 => ?_)
    · replace h := of_bif_true hb2 h
      refine SP.rg <| .a 6 <| .nil ?_
      refine SP.ret ?_
      rw [← Option.some.inj h]
      exact ⟨[.d (eApiContent ({ zApiContent with N := p1_c.N, Via := p1_c.Via }))], [], ⟨⟨1, dc (eApiContent ({ zApiContent with N := p1_c.N, Via := p1_c.Via })), true, 16, by kernel_rfl, by kernel_rfl, by kernel_rfl, ty39, Nat.le_of_ble_eq_true (by kernel_rfl), (by intro hh; cases hh), by kernel_rfl⟩, trivial⟩, by kernel_rfl, by kernel_rfl, by kernel_rfl⟩
    · replace h := of_bif_false hb2 h
      refine SP.rg <| .a 2 <| .nil ?_
      refine SP.cond (p0_k == 3) (by kernel_rfl) (fun hb3 => ?_) (fun hb3 => ?_)
      · replace h := of_bif_true hb3 h
        refine SP.rg <| .a 4 <| .nil ?_
        refine SP.ret ?_
        rw [← Option.some.inj h]
        exact ⟨[.d (eApiContent ({ zApiContent with Levels := p1_c.Levels }))], [], ⟨⟨1, dc (eApiContent ({ zApiContent with Levels := p1_c.Levels })), true, 16, by kernel_rfl, by kernel_rfl, by kernel_rfl, ty39, Nat.le_of_ble_eq_true (by kernel_rfl), (by intro hh; cases hh), by kernel_rfl⟩, trivial⟩, by kernel_rfl, by kernel_rfl, by kernel_rfl⟩
      · replace h := of_bif_false hb3 h
        refine SP.rg <| .a 2 <| .nil ?_
        refine SP.cond (p0_k == 4) (by kernel_rfl) (fun hb4 => ?_) (fun hb4 => ?_)
        · replace h := of_bif_true hb4 h
          refine SP.rg <| .a 6 <| .nil ?_
          refine SP.ret ?_
          rw [← Option.some.inj h]
          exact ⟨[.d (eApiContent ({ zApiContent with N := p1_c.N, Allow := p1_c.Allow }))], [], ⟨⟨1, dc (eApiContent ({ zApiContent with N := p1_c.N, Allow := p1_c.Allow })), true, 16, by kernel_rfl, by kernel_rfl, by kernel_rfl, ty39, Nat.le_of_ble_eq_true (by kernel_rfl), (by intro hh; cases hh), by kernel_rfl⟩, trivial⟩, by kernel_rfl, by kernel_rfl, by kernel_rfl⟩
        · replace h := of_bif_false hb4 h
          refine SP.rg <| .a 2 <| .nil ?_
          refine SP.cond (p0_k == 5) (by kernel_rfl) (fun hb5 => ?_) (fun hb5 => ?_)
          · replace h := of_bif_true hb5 h
            refine SP.rg <| .a 4 <| .nil ?_
            refine SP.ret ?_
            rw [← Option.some.inj h]
            exact ⟨[.d (eApiContent ({ zApiContent with N := p1_c.N }))], [], ⟨⟨1, dc (eApiContent ({ zApiContent with N := p1_c.N })), true, 16, by kernel_rfl, by kernel_rfl, by kernel_rfl, ty39, Nat.le_of_ble_eq_true (by kernel_rfl), (by intro hh; cases hh), by kernel_rfl⟩, trivial⟩, by kernel_rfl, by kernel_rfl, by kernel_rfl⟩
          · replace h := of_bif_false hb5 h
            refine SP.rg <| .a 2 <| .nil ?_
            refine SP.cond (p0_k == 6) (by kernel_rfl) (fun hb6 => ?_) (fun hb6 => ?_)
            · replace h := of_bif_true hb6 h
              refine SP.rg <| .a 6 <| .nil ?_
              refine SP.ret ?_
              rw [← Option.some.inj h]
              exact ⟨[.d (eApiContent ({ zApiContent with Allow := p1_c.Allow, Deny := p1_c.Deny }))], [], ⟨⟨1, dc (eApiContent ({ zApiContent with Allow := p1_c.Allow, Deny := p1_c.Deny })), true, 16, by kernel_rfl, by kernel_rfl, by kernel_rfl, ty39, Nat.le_of_ble_eq_true (by kernel_rfl), (by intro hh; cases hh), by kernel_rfl⟩, trivial⟩, by kernel_rfl, by kernel_rfl, by kernel_rfl⟩
            · replace h := of_bif_false hb6 h
              refine SP.rg <| .a 2 <| .nil ?_
              refine SP.cond (p0_k == 14) (by kernel_rfl) (fun hb7 => ?_) (fun hb7 => ?_)
              · replace h := of_bif_true hb7 h
                refine SP.rg <| .a 4 <| .nil ?_
                refine SP.ret ?_
                rw [← Option.some.inj h]
                exact ⟨[.d (eApiContent ({ zApiContent with Target := p1_c.Target }))], [], ⟨⟨1, dc (eApiContent ({ zApiContent with Target := p1_c.Target })), true, 16, by kernel_rfl, by kernel_rfl, by kernel_rfl, ty39, Nat.le_of_ble_eq_true (by kernel_rfl), (by intro hh; cases hh), by kernel_rfl⟩, trivial⟩, by kernel_rfl, by kernel_rfl, by kernel_rfl⟩
              · replace h := of_bif_false hb7 h
                refine SP.skip ?_
                refine SP.rg <| .a 2 <| .nil ?_
                refine SP.ret ?_
                rw [← Option.some.inj h]
                exact ⟨[.d (eApiContent zApiContent)], [], ⟨⟨1, dc (eApiContent zApiContent), true, 16, by kernel_rfl, by kernel_rfl, by kernel_rfl, ty39, Nat.le_of_ble_eq_true (by kernel_rfl), (by intro hh; cases hh), by kernel_rfl⟩, trivial⟩, by kernel_rfl, by kernel_rfl, by kernel_rfl⟩

-- fedchat/fedchatref07.Strip
def R07_Strip (p0_e : ApiEvent) : Option ApiEvent := (R06_Strip p0_e.Kind p0_e.Content).bind fun x1 => some ({ p0_e with Content := x1 })
theorem R07_Strip_ok (p0_e : ApiEvent) (r : ApiEvent) (h : R07_Strip p0_e = some r) : Runs Tryz.prog 51 [.d (eApiEvent p0_e)] [] (.d (eApiEvent r)) [] := by
  refine Runs.of_fin Tryz.func51 rfl ?_
  unfold R07_Strip at h
  refine SP.rg <| .a 2 <| .nil ?_
  obtain ⟨x1, hx1, h⟩ := of_bind h
  refine SP.rg <| .a 4 <| .call (R06_Strip_ok p0_e.Kind p0_e.Content x1 hx1) ent62 <| .a 2 <| .nil ?_
  refine SP.rg <| .a 2 <| .nil ?_
  refine SP.ret ?_
  rw [← Option.some.inj h]
  exact ⟨[.d (eApiEvent ({ p0_e with Content := x1 }))], [], ⟨⟨1, dc (eApiEvent ({ p0_e with Content := x1 })), true, 29, by kernel_rfl, by kernel_rfl, by kernel_rfl, ty43, Nat.le_of_ble_eq_true (by kernel_rfl), (by intro hh; cases hh), by kernel_rfl⟩, trivial⟩, by kernel_rfl, by kernel_rfl, by kernel_rfl⟩

-- fedchat/fedchatref05.PutInts
def R05_PutInts_S1 (p1_l : (List Int)) (v2 : (List Int)) (v3 : Int) : St := ⟨shp 25 [(1, .d ((eL eI) p1_l)), (5, .osl 0), (6, .d (eI v3))], [.arr 5 1 (List.map eU8 v2)], 0⟩
def R05_PutInts_B1 (p1_l : (List Int)) (k4 : ((List Int) → Int → Option (List Int))) : (List Int) → Int → Option (List Int) := fun v2 v3 => (bif decide (v3 < (p1_l.length : Int)) then (gIdx p1_l v3).bind fun x6 => (R05_Int x6).bind fun x7 => (gApp 1 v2 x7).bind fun x8 => k4 x8 (IntKind.i64.wrap (v3 + 1)) else some v2)
def R05_PutInts_L1 (p1_l : (List Int)) : (List Int) → Int → Option (List Int) := loop2 (R05_PutInts_B1 p1_l) fuel
def R05_PutInts (p0_b : (List Int)) (p1_l : (List Int)) : Option (List Int) := (R05_PutInt p0_b (p1_l.length : Int)).bind fun x1 => R05_PutInts_L1 p1_l x1 0
theorem R05_PutInts_ok (p0_b : (List Int)) (p1_l : (List Int)) (r : (List Int)) (h : R05_PutInts p0_b p1_l = some r) : Runs Tryz.prog 91 [.d ((eL eU8) p0_b), .d ((eL eI) p1_l)] [] (.osl 0) [.arr 5 1 (List.map eU8 r)] := by
  refine Runs.of_fin Tryz.func91 rfl ?_
  unfold R05_PutInts at h
  refine SP.rg <| .e [.arr 5 1 (List.map eU8 [])] (ok_assign_own 5 1 rfl) <| .nil ?_
  obtain ⟨x1, hx1, h⟩ := of_bind h
  refine SP.rg <| .a 2 <| .p (ok_lenT eI p1_l und33 rfl) <| .e (x := .osl 1) [.arr 5 1 (List.map eU8 []), .arr 5 1 (List.map eU8 x1)] (ok_callD (avs := [.d ((eL eU8) p0_b), .d (eI (p1_l.length : Int))]) (avs' := [.d ((eL eU8) p0_b), .d (eI (p1_l.length : Int))]) (R05_PutInt_ok p0_b (p1_l.length : Int) x1 hx1) ent88 (by kernel_rfl) ⟨.inl rfl, .inl rfl, trivial⟩ rfl (by kernel_rfl) rfl) <| .a 1 <| .nil ?_
  refine SP.seqc ?_
  refine SP.rg <| .a 1 <| .nil ?_
  refine SP.block ?_
  refine SP.loop2 (R05_PutInts_S1 p1_l) (R05_PutInts_B1 p1_l) r x1 0 (sub_of (mk 25 98) [(1, true)]) h ?_
  clear h
  intro J9 k4 hk4 v2 v3 h
  unfold R05_PutInts_B1 at h
  refine SP.seqc ?_
  refine SP.rg <| .a 2 <| .p (ok_lenT eI p1_l und33 rfl) <| .a 1 <| .nil ?_
  refine SP.cond (decide (v3 < (p1_l.length : Int))) (by kernel_rfl) (fun hb5 => ?_) (fun hb5 => ?_)
  · replace h := of_bif_true hb5 h
    refine SP.skip ?_
    refine SP.seqc ?_
    refine SP.block ?_
    obtain ⟨x6, hx6, h⟩ := of_bind h
    obtain ⟨x7, hx7, h⟩ := of_bind h
    obtain ⟨x8, hx8, h⟩ := of_bind h
    refine SP.rgn <| .a 3 <| .p (ok_idxT (k := .i64) eI hx6 und33 ty3 (by kernel_rfl) rfl) <| .a 1 <| .call (R05_Int_ok x6 x7 hx7).view ent120 <| .e [.dead, .arr 5 1 (List.map eU8 x8)] (ok_appT (k := 0) eU8 hx8 el78 (by kernel_rfl) (fun _ => rfl) (by decide) rfl) <| .a 1 <| .nil ?_
    refine SP.rgn <| .a 3 <| .nil ?_
    exact hk4 _ x8 (IntKind.i64.wrap (v3 + 1)) (sub_of (mk 25 98) [(1, true)]) h
  · replace h := of_bif_false hb5 h
    refine SP.exit ?_
    refine SP.rg <| .a 2 <| .nil ?_
    refine SP.ret ?_
    rw [← Option.some.inj h]
    exact ⟨[.osl 0], [(0, true)], ⟨resV_tmp (by kernel_rfl), trivial⟩, by kernel_rfl, by kernel_rfl, by kernel_rfl⟩

-- fedchat/fedchatref07.Encode
def R07_Encode (p0_e : ApiEvent) : Option (List Int) := (R05_PutInt [] p0_e.Id).bind fun x1 => (R05_PutText x1 p0_e.Room).bind fun x2 => (R05_PutText x2 p0_e.Sender).bind fun x3 => (R05_PutInt x3 p0_e.Kind).bind fun x4 => (R05_PutBool x4 p0_e.State).bind fun x5 => (R05_PutText x5 p0_e.Key).bind fun x6 => (R05_PutInt x6 p0_e.Time).bind fun x7 => (R05_PutInt x7 p0_e.Depth).bind fun x8 => (R05_PutInts x8 p0_e.Prev).bind fun x9 => (R05_PutInts x9 p0_e.Auth).bind fun x10 => (R06_Encode p0_e.Content).bind fun x11 => (R05_PutText x10 (sOf x11)).bind fun x12 => (R05_PutInt x12 p0_e.Hash).bind fun x13 => (R05_PutText x13 p0_e.Sig.Server).bind fun x14 => (R05_PutInt x14 p0_e.Sig.Sum).bind fun x15 => some x15
theorem R07_Encode_ok (p0_e : ApiEvent) (r : (List Int)) (h : R07_Encode p0_e = some r) : Runs Tryz.prog 53 [.d (eApiEvent p0_e)] [] (.osl 0) [.arr 5 1 (List.map eU8 r)] := by
  refine Runs.of_fin Tryz.func53 rfl ?_
  unfold R07_Encode at h
  refine SP.rg <| .a 1 <| .e [.box (dc (eApiEvent p0_e)), .arr 5 1 (List.map eU8 [])] (ok_assign_own 5 1 rfl) <| .nil ?_
  obtain ⟨x1, hx1, h⟩ := of_bind h
  refine SP.rg <| .a 2 <| .p (x := .d ((eL eU8) x1)) (ok_callV (avs := [.d (.lit (.slice none 0 0)), .d (eI p0_e.Id)]) (avs' := [.d ((eL eU8) []), .d (eI p0_e.Id)]) (R05_PutInt_ok [] p0_e.Id x1 hx1).view ent88 ⟨.inr (.inr ⟨rfl, rfl⟩), .inl rfl, trivial⟩ rfl (by kernel_rfl) rfl) <| .a 1 <| .nil ?_
  obtain ⟨x2, hx2, h⟩ := of_bind h
  refine SP.rg <| .a 3 <| .call (R05_PutText_ok x1 p0_e.Room x2 hx2).view ent89 <| .a 1 <| .nil ?_
  obtain ⟨x3, hx3, h⟩ := of_bind h
  refine SP.rg <| .a 3 <| .call (R05_PutText_ok x2 p0_e.Sender x3 hx3).view ent89 <| .a 1 <| .nil ?_
  obtain ⟨x4, hx4, h⟩ := of_bind h
  refine SP.rg <| .a 3 <| .call (R05_PutInt_ok x3 p0_e.Kind x4 hx4).view ent88 <| .a 1 <| .nil ?_
  obtain ⟨x5, hx5, h⟩ := of_bind h
  refine SP.rg <| .a 3 <| .call (R05_PutBool_ok x4 p0_e.State x5 hx5).view ent90 <| .a 1 <| .nil ?_
  obtain ⟨x6, hx6, h⟩ := of_bind h
  refine SP.rg <| .a 3 <| .call (R05_PutText_ok x5 p0_e.Key x6 hx6).view ent89 <| .a 1 <| .nil ?_
  obtain ⟨x7, hx7, h⟩ := of_bind h
  refine SP.rg <| .a 3 <| .call (R05_PutInt_ok x6 p0_e.Time x7 hx7).view ent88 <| .a 1 <| .nil ?_
  obtain ⟨x8, hx8, h⟩ := of_bind h
  refine SP.rg <| .a 3 <| .call (R05_PutInt_ok x7 p0_e.Depth x8 hx8).view ent88 <| .a 1 <| .nil ?_
  obtain ⟨x9, hx9, h⟩ := of_bind h
  refine SP.rg <| .a 3 <| .call (R05_PutInts_ok x8 p0_e.Prev x9 hx9).view ent91 <| .a 1 <| .nil ?_
  obtain ⟨x10, hx10, h⟩ := of_bind h
  refine SP.rg <| .a 3 <| .call (R05_PutInts_ok x9 p0_e.Auth x10 hx10).view ent91 <| .a 1 <| .nil ?_
  obtain ⟨x11, hx11, h⟩ := of_bind h
  obtain ⟨x12, hx12, h⟩ := of_bind h
  refine SP.rg <| .a 3 <| .call (R06_Encode_ok p0_e.Content x11 hx11).view ent83 <| .p (ok_strB (l := x11) und78 und5 und9 rfl) <| .call (R05_PutText_ok x10 (sOf x11) x12 hx12).view ent89 <| .a 1 <| .nil ?_
  obtain ⟨x13, hx13, h⟩ := of_bind h
  refine SP.rg <| .a 3 <| .call (R05_PutInt_ok x12 p0_e.Hash x13 hx13).view ent88 <| .a 1 <| .nil ?_
  obtain ⟨x14, hx14, h⟩ := of_bind h
  refine SP.rg <| .a 4 <| .call (R05_PutText_ok x13 p0_e.Sig.Server x14 hx14).view ent89 <| .a 1 <| .nil ?_
  obtain ⟨x15, hx15, h⟩ := of_bind h
  refine SP.rg <| .a 4 <| .e (x := .osl 2) [.box (dc (eApiEvent p0_e)), .arr 5 1 (List.map eU8 []), .arr 5 1 (List.map eU8 x15)] (ok_callD (avs := [.d ((eL eU8) x14), .d (eI p0_e.Sig.Sum)]) (avs' := [.d ((eL eU8) x14), .d (eI p0_e.Sig.Sum)]) (R05_PutInt_ok x14 p0_e.Sig.Sum x15 hx15) ent88 (by kernel_rfl) ⟨.inl rfl, .inl rfl, trivial⟩ rfl (by kernel_rfl) rfl) <| .a 1 <| .nil ?_
  refine SP.ret ?_
  rw [← Option.some.inj h]
  exact ⟨[.osl 2], [(2, true)], ⟨resV_tmp (by kernel_rfl), trivial⟩, by kernel_rfl, by kernel_rfl, by kernel_rfl⟩

-- fedchat/fedchatref07.IdOf
def R07_IdOf (p0_e : ApiEvent) : Option Int := (R07_Strip p0_e).bind fun x1 => (R07_Encode ({ { x1 with Id := 0 } with Sig := zApiSig })).bind fun x2 => (R04_Sum x2).bind fun x3 => some x3
theorem R07_IdOf_ok (p0_e : ApiEvent) (r : Int) (h : R07_IdOf p0_e = some r) : Runs Tryz.prog 29 [.d (eApiEvent p0_e)] [] (.d (eI r)) [] := by
  refine Runs.of_fin Tryz.func29 rfl ?_
  unfold R07_IdOf at h
  refine SP.rg <| .a 2 <| .nil ?_
  obtain ⟨x1, hx1, h⟩ := of_bind h
  refine SP.rg <| .a 1 <| .call (R07_Strip_ok p0_e x1 hx1) ent51 <| .a 2 <| .nil ?_
  refine SP.rg <| .a 5 <| .nil ?_
  obtain ⟨x2, hx2, h⟩ := of_bind h
  obtain ⟨x3, hx3, h⟩ := of_bind h
  refine SP.rg <| .a 1 <| .call (R07_Encode_ok ({ { x1 with Id := 0 } with Sig := zApiSig }) x2 hx2).view ent53 <| .call (R04_Sum_ok x2 x3 hx3) ent52 <| .a 1 <| .nil ?_
  refine SP.ret ?_
  rw [← Option.some.inj h]
  exact ⟨[.d (eI x3)], [], ⟨resV_tmp (by kernel_rfl), trivial⟩, by kernel_rfl, by kernel_rfl, by kernel_rfl⟩

-- fedchat/fedchatref07.Sign
def R07_Sign (p0_e : ApiEvent) (p1_server : ByteArray) : Option ApiEvent := (R07_Hash p0_e).bind fun x1 => (R07_IdOf ({ p0_e with Hash := x1 })).bind fun x2 => some ({ { { p0_e with Hash := x1 } with Id := x2 } with Sig := (⟨p1_server, ({ { p0_e with Hash := x1 } with Id := x2 }).Id⟩ : ApiSig) })
theorem R07_Sign_ok (p0_e : ApiEvent) (p1_server : ByteArray) (r : ApiEvent) (h : R07_Sign p0_e p1_server = some r) : Runs Tryz.prog 26 [.d (eApiEvent p0_e), .d (eS p1_server)] [] (.d (eApiEvent r)) [] := by
  refine Runs.of_fin Tryz.func26 rfl ?_
  unfold R07_Sign at h
  refine SP.rg <| .a 2 <| .nil ?_
  obtain ⟨x1, hx1, h⟩ := of_bind h
  refine SP.rg <| .a 1 <| .call (R07_Hash_ok p0_e x1 hx1) ent47 <| .a 2 <| .nil ?_
  obtain ⟨x2, hx2, h⟩ := of_bind h
  refine SP.rg <| .a 1 <| .call (R07_IdOf_ok ({ p0_e with Hash := x1 }) x2 hx2) ent29 <| .a 2 <| .nil ?_
  refine SP.rg <| .a 6 <| .nil ?_
  refine SP.rg <| .a 2 <| .nil ?_
  refine SP.ret ?_
  rw [← Option.some.inj h]
  exact ⟨[.d (eApiEvent ({ { { p0_e with Hash := x1 } with Id := x2 } with Sig := (⟨p1_server, ({ { p0_e with Hash := x1 } with Id := x2 }).Id⟩ : ApiSig) }))], [], ⟨⟨1, dc (eApiEvent ({ { { p0_e with Hash := x1 } with Id := x2 } with Sig := (⟨p1_server, ({ { p0_e with Hash := x1 } with Id := x2 }).Id⟩ : ApiSig) })), true, 29, by kernel_rfl, by kernel_rfl, by kernel_rfl, ty43, Nat.le_of_ble_eq_true (by kernel_rfl), (by intro hh; cases hh), by kernel_rfl⟩, trivial⟩, by kernel_rfl, by kernel_rfl, by kernel_rfl⟩

-- fedchat/fedchatref33.transaction
def R33_transaction (p0_s : ApiServer) (p1_d : ApiDeed) (p2_e : ApiEvent) : Option ApiPacket := some ({ zApiPacket with From := p0_s.Name, To := p1_d.To, Kind := 1, Events := [p2_e] })
theorem R33_transaction_ok (p0_s : ApiServer) (p1_d : ApiDeed) (p2_e : ApiEvent) (r : ApiPacket) (h : R33_transaction p0_s p1_d p2_e = some r) : Runs Tryz.prog 25 [.d (eApiServer p0_s), .d (eApiDeed p1_d), .d (eApiEvent p2_e)] [] (.d (eApiPacket r)) [] := by
  refine Runs.of_fin Tryz.func25 rfl ?_
  unfold R33_transaction at h
  refine SP.rg <| .a 4 <| .nil ?_
  refine SP.rg <| .a 5 <| .p (ok_lits el52 zero43 (by kernel_rfl) (by kernel_rfl) (Nat.le_of_ble_eq_true (by kernel_rfl)) [.d (eApiEvent p2_e)] [eApiEvent p2_e] (by kernel_rfl) (by kernel_rfl) (by kernel_rfl) (by kernel_rfl) rfl) <| .a 2 <| .nil ?_
  refine SP.ret ?_
  rw [← Option.some.inj h]
  exact ⟨[.d (eApiPacket ({ zApiPacket with From := p0_s.Name, To := p1_d.To, Kind := 1, Events := [p2_e] }))], [], ⟨⟨3, dc (eApiPacket ({ zApiPacket with From := p0_s.Name, To := p1_d.To, Kind := 1, Events := [p2_e] })), true, 10, by kernel_rfl, by kernel_rfl, by kernel_rfl, ty57, Nat.le_of_ble_eq_true (by kernel_rfl), (by intro hh; cases hh), by kernel_rfl⟩, trivial⟩, by kernel_rfl, by kernel_rfl, by kernel_rfl⟩

-- fedchat/fedchatref02.ServerOf
def R02_ServerOf (p0_id : ByteArray) : Option ByteArray := (R02_marked p0_id 64).bind fun x1 => (bif (!x1) then (R02_marked p0_id 33).bind fun x4 => some (!x4) else some false).bind fun x2 => (bif x2 then some s0 else (R02_colon p0_id).bind fun x6 => (gStr p0_id (IntKind.i64.wrap (x6 + 1)) ((p0_id).size)).bind fun x7 => some x7)
theorem R02_ServerOf_ok (p0_id : ByteArray) (r : ByteArray) (h : R02_ServerOf p0_id = some r) : Runs Tryz.prog 27 [.d (eS p0_id)] [] (.d (eS r)) [] := by
  refine Runs.of_fin Tryz.func27 rfl ?_
  unfold R02_ServerOf at h
  refine SP.rg <| .a 1 <| .nil ?_
  refine SP.seqc ?_
  obtain ⟨x1, hx1, h⟩ := of_bind h
  refine SP.rg <| .a 1 <| .call (R02_marked_ok p0_id 64 x1 hx1) ent48 <| .a 1 <| ?_
  obtain ⟨x2, hx2, h⟩ := of_bind h
  refine .merge 5 [6, 7, 8, 9] 10 (.d (eB x2)) ?_ ?_
  · replace h := hx2
    rcases Bool.eq_false_or_eq_true (!x1) with hb3 | hb3
    · replace h := of_bif_true hb3 h
      obtain ⟨x4, hx4, h⟩ := of_bind h
      refine .c (congrArg some hb3) <| .a 1 <| .call (R02_marked_ok p0_id 33 x4 hx4) ent48 <| .a 2 <| .nil ?_
      obtain rfl := Option.some.inj h
      kernel_rfl
    · replace h := of_bif_false hb3 h
      refine .c (congrArg some hb3) <| .a 4 <| .nil ?_
      obtain rfl := Option.some.inj h
      kernel_rfl
  refine .nil ?_
  refine SP.cond x2 (by kernel_rfl) (fun hb5 => ?_) (fun hb5 => ?_)
  · replace h := of_bif_true hb5 h
    refine SP.rg <| .a 1 <| .nil ?_
    refine SP.ret ?_
    rw [← Option.some.inj h]
    exact ⟨[.d (eS s0)], [], ⟨resV_tmp (by kernel_rfl), trivial⟩, by kernel_rfl, by kernel_rfl, by kernel_rfl⟩
  · replace h := of_bif_false hb5 h
    refine SP.skip ?_
    obtain ⟨x6, hx6, h⟩ := of_bind h
    obtain ⟨x7, hx7, h⟩ := of_bind h
    refine SP.rg <| .a 2 <| .call (R02_colon_ok p0_id x6 hx6) ent49 <| .a 1 <| .p (ok_strT hx7 (by intro hh; cases hh) (fun _ => rfl) und9 rfl) <| .a 1 <| .nil ?_
    refine SP.ret ?_
    rw [← Option.some.inj h]
    exact ⟨[.d (eS x7)], [], ⟨resV_tmp (by kernel_rfl), trivial⟩, by kernel_rfl, by kernel_rfl, by kernel_rfl⟩

-- fedchat/fedchatref01.Clip
def R01_Clip (p0_n : Int) (p1_lo : Int) (p2_hi : Int) : Option Int := (bif decide (p1_lo > p2_hi) then some true else some (decide (p0_n < p1_lo))).bind fun x1 => (bif x1 then some p1_lo else (bif decide (p0_n > p2_hi) then some p2_hi else some p0_n))
theorem R01_Clip_ok (p0_n : Int) (p1_lo : Int) (p2_hi : Int) (r : Int) (h : R01_Clip p0_n p1_lo p2_hi = some r) : Runs Tryz.prog 85 [.d (eI p0_n), .d (eI p1_lo), .d (eI p2_hi)] [] (.d (eI r)) [] := by
  refine Runs.of_fin Tryz.func85 rfl ?_
  unfold R01_Clip at h
  refine SP.rg <| .a 1 <| .nil ?_
  refine SP.seqc ?_
  refine SP.rg <| .a 3 <| ?_
  obtain ⟨x1, hx1, h⟩ := of_bind h
  refine .merge 5 [10, 11, 12, 13] 14 (.d (eB x1)) ?_ ?_
  · replace h := hx1
    rcases Bool.eq_false_or_eq_true (decide (p1_lo > p2_hi)) with hb2 | hb2
    · replace h := of_bif_true hb2 h
      refine .c (congrArg some hb2) <| .a 4 <| .nil ?_
      obtain rfl := Option.some.inj h
      kernel_rfl
    · replace h := of_bif_false hb2 h
      refine .c (congrArg some hb2) <| .a 4 <| .nil ?_
      obtain rfl := Option.some.inj h
      kernel_rfl
  refine .nil ?_
  refine SP.cond x1 (by kernel_rfl) (fun hb3 => ?_) (fun hb3 => ?_)
  · replace h := of_bif_true hb3 h
    refine SP.rg <| .a 2 <| .nil ?_
    refine SP.ret ?_
    rw [← Option.some.inj h]
    exact ⟨[.d (eI p1_lo)], [], ⟨resV_tmp (by kernel_rfl), trivial⟩, by kernel_rfl, by kernel_rfl, by kernel_rfl⟩
  · replace h := of_bif_false hb3 h
    refine SP.skip ?_
    refine SP.seqc ?_
    refine SP.rg <| .a 3 <| .nil ?_
    refine SP.cond (decide (p0_n > p2_hi)) (by kernel_rfl) (fun hb4 => ?_) (fun hb4 => ?_)
    · replace h := of_bif_true hb4 h
      refine SP.rg <| .a 2 <| .nil ?_
      refine SP.ret ?_
      rw [← Option.some.inj h]
      exact ⟨[.d (eI p2_hi)], [], ⟨resV_tmp (by kernel_rfl), trivial⟩, by kernel_rfl, by kernel_rfl, by kernel_rfl⟩
    · replace h := of_bif_false hb4 h
      refine SP.skip ?_
      refine SP.rg <| .a 2 <| .nil ?_
      refine SP.ret ?_
      rw [← Option.some.inj h]
      exact ⟨[.d (eI p0_n)], [], ⟨resV_tmp (by kernel_rfl), trivial⟩, by kernel_rfl, by kernel_rfl, by kernel_rfl⟩

-- fedchat/fedchatref01.Add
def R01_Add (p0_a : Int) (p1_b : Int) : Option Int := (R01_Clip p0_a (-1000000000000) 1000000000000).bind fun x1 => (R01_Clip p1_b (-1000000000000) 1000000000000).bind fun x2 => (R01_Clip (IntKind.i64.wrap (x1 + x2)) (-1000000000000) 1000000000000).bind fun x3 => some x3
theorem R01_Add_ok (p0_a : Int) (p1_b : Int) (r : Int) (h : R01_Add p0_a p1_b = some r) : Runs Tryz.prog 50 [.d (eI p0_a), .d (eI p1_b)] [] (.d (eI r)) [] := by
  refine Runs.of_fin Tryz.func50 rfl ?_
  unfold R01_Add at h
  refine SP.rg <| .a 1 <| .nil ?_
  obtain ⟨x1, hx1, h⟩ := of_bind h
  obtain ⟨x2, hx2, h⟩ := of_bind h
  refine SP.rg <| .a 1 <| .call (R01_Clip_ok p0_a (-1000000000000) 1000000000000 x1 hx1) ent85 <| .a 1 <| .call (R01_Clip_ok p1_b (-1000000000000) 1000000000000 x2 hx2) ent85 <| .a 2 <| .nil ?_
  obtain ⟨x3, hx3, h⟩ := of_bind h
  refine SP.rg <| .a 3 <| .call (R01_Clip_ok (IntKind.i64.wrap (x1 + x2)) (-1000000000000) 1000000000000 x3 hx3) ent85 <| .a 1 <| .nil ?_
  refine SP.ret ?_
  rw [← Option.some.inj h]
  exact ⟨[.d (eI x3)], [], ⟨resV_tmp (by kernel_rfl), trivial⟩, by kernel_rfl, by kernel_rfl, by kernel_rfl⟩

-- fedchat/fedchatref33.later
def R33_later (p0_e : ApiEvent) : Option ApiEvent := (R01_Add p0_e.Time 1).bind fun x1 => some ({ p0_e with Time := x1 })
theorem R33_later_ok (p0_e : ApiEvent) (r : ApiEvent) (h : R33_later p0_e = some r) : Runs Tryz.prog 28 [.d (eApiEvent p0_e)] [] (.d (eApiEvent r)) [] := by
  refine Runs.of_fin Tryz.func28 rfl ?_
  unfold R33_later at h
  refine SP.rg <| .a 2 <| .nil ?_
  obtain ⟨x1, hx1, h⟩ := of_bind h
  refine SP.rg <| .a 2 <| .call (R01_Add_ok p0_e.Time 1 x1 hx1) ent50 <| .a 2 <| .nil ?_
  refine SP.rg <| .a 2 <| .nil ?_
  refine SP.ret ?_
  rw [← Option.some.inj h]
  exact ⟨[.d (eApiEvent ({ p0_e with Time := x1 }))], [], ⟨⟨1, dc (eApiEvent ({ p0_e with Time := x1 })), true, 29, by kernel_rfl, by kernel_rfl, by kernel_rfl, ty43, Nat.le_of_ble_eq_true (by kernel_rfl), (by intro hh; cases hh), by kernel_rfl⟩, trivial⟩, by kernel_rfl, by kernel_rfl, by kernel_rfl⟩

-- fedchat/fedchatref33.Forge
def R33_Forge (p0_s : ApiServer) (p1_d : ApiDeed) : Option ((List ApiPacket) × Int) := (R33_Right p0_s p1_d).bind fun x1 => (bif (x1 != 0) then some ([], x1) else (R33_own p1_d.Event p0_s.Name).bind fun x3 => (bif (p1_d.Kind == 1) then (R07_Sign x3 p0_s.Name).bind fun x5 => (R33_transaction p0_s p1_d x5).bind fun x6 => some ([x6], 0) else (bif (p1_d.Kind == 2) then (R02_ServerOf p1_d.Event.Sender).bind fun x8 => (R07_Sign p1_d.Event x8).bind fun x9 => (R33_later x9).bind fun x10 => (R07_IdOf x10).bind fun x11 => (bif (x11 == x9.Id) then some ([], 0) else (R33_transaction p0_s p1_d ({ x9 with Sig := { x9.Sig with Sum := x11 } })).bind fun x13 => some ([x13], 0)) else (bif (p1_d.Kind == 3) then (R07_Sign x3 p0_s.Name).bind fun x15 => (R33_transaction p0_s p1_d x15).bind fun x16 => (R33_later x3).bind fun x17 => (R07_Sign x17 p0_s.Name).bind fun x18 => (R33_transaction p0_s p1_d x18).bind fun x19 => some ([x16, x19], 0) else (bif (p1_d.Kind == 4) then (R07_Sign p1_d.Event p0_s.Name).bind fun x21 => (R33_transaction p0_s p1_d x21).bind fun x22 => some ([x22], 0) else (bif (p1_d.Kind == 6) then (R07_Sign p1_d.Event s0).bind fun x24 => some ([{ zApiPacket with From := p0_s.Name, To := p1_d.To, Kind := 8, Room := ({ x24 with Sig := zApiSig }).Room, Events := [{ x24 with Sig := zApiSig }] }], 0) else some ([], 0)))))))
theorem R33_Forge_ok (p0_s : ApiServer) (p1_d : ApiDeed) (r : ((List ApiPacket) × Int)) (h : R33_Forge p0_s p1_d = some r) : Runs Tryz.prog 8 [.d (eApiServer p0_s), .d (eApiDeed p1_d)] [] (.tup [.d ((eL eApiPacket) r.1), .d (eI r.2)]) [] := by
  refine Runs.of_fin Tryz.func8 rfl ?_
  unfold R33_Forge at h
  refine SP.rg <| .a 4 <| .nil ?_
  refine SP.seqc ?_
  obtain ⟨x1, hx1, h⟩ := of_bind h
  refine SP.rg <| .a 2 <| .call (R33_Right_ok p0_s p1_d x1 hx1) ent23 <| .a 1 <| .nil ?_
  refine SP.rg <| .a 2 <| .nil ?_
  refine SP.cond (x1 != 0) (by kernel_rfl) (fun hb2 => ?_) (fun hb2 => ?_)
  · replace h := of_bif_true hb2 h
    refine SP.rg <| .a 3 <| .nil ?_
    refine SP.ret ?_
    rw [← Option.some.inj h]
    exact ⟨[.d ((eL eApiPacket) []), .d (eI x1)], [], ⟨resV_tmp (by kernel_rfl), resV_tmp (by kernel_rfl), trivial⟩, by kernel_rfl, by kernel_rfl, by kernel_rfl⟩
  · replace h := of_bif_false hb2 h
    refine SP.skip ?_
    obtain ⟨x3, hx3, h⟩ := of_bind h
    refine SP.rg <| .a 4 <| .call (R33_own_ok p1_d.Event p0_s.Name x3 hx3) ent24 <| .a 2 <| .nil ?_
    refine SP.seqc ?_
    refine SP.rg <| .a 2 <| .nil ?_
    refine SP.block ?_
    refine SP.rg <| .a 2 <| .nil ?_
    refine SP.cond (p1_d.Kind == 1) (by kernel_rfl) (fun hb4 => ?_) (fun hb4 => ?_)
    · replace h := of_bif_true hb4 h
      obtain ⟨x5, hx5, h⟩ := of_bind h
      obtain ⟨x6, hx6, h⟩ := of_bind h
      refine SP.dseq (by kernel_rfl) (by kernel_rfl) (by kernel_rfl) (.a 5 <| .call (R07_Sign_ok x3 p0_s.Name x5 hx5) ent26 <| .call (R33_transaction_ok p0_s p1_d x5 x6 hx6) ent25 <| .p (ok_lits el25 zero57 (by kernel_rfl) (by kernel_rfl) (Nat.le_of_ble_eq_true (by kernel_rfl)) [.d (eApiPacket x6)] [eApiPacket x6] (by kernel_rfl) (by kernel_rfl) (by kernel_rfl) (by kernel_rfl) rfl) <| .a 2 <| .nil _) ?_
      refine SP.ret ?_
      rw [← Option.some.inj h]
      exact ⟨[.d ((eL eApiPacket) [x6]), .d (eI 0)], [], ⟨resV_tmp (by kernel_rfl), resV_tmp (by kernel_rfl), trivial⟩, by kernel_rfl, by kernel_rfl, by kernel_rfl⟩
    · replace h := of_bif_false hb4 h
      refine SP.rg <| .a 2 <| .nil ?_
      refine SP.cond (p1_d.Kind == 2) (by kernel_rfl) (fun hb7 => ?_) (fun hb7 => ?_)
      · replace h := of_bif_true hb7 h
        obtain ⟨x8, hx8, h⟩ := of_bind h
        obtain ⟨x9, hx9, h⟩ := of_bind h
        refine SP.nseq1 [orc 5 (R02_ServerOf_ok p1_d.Event.Sender x8 hx8) ent27, orc 6 (R07_Sign_ok p1_d.Event x8 x9 hx9) ent26] [[], [0], [2], [7], [0, 1], [0, 2], [0, 7], [2, 3], [2, 7], [0, 1, 2], [0, 1, 7], [0, 2, 3], [0, 2, 7], [2, 3, 4], [2, 3, 7], [0, 1, 2, 3], [0, 1, 2, 7], [0, 2, 3, 4], [0, 2, 3, 7], [2, 3, 4, 5], [2, 3, 4, 7], [0, 1, 2, 3, 4], [0, 1, 2, 3, 7], [0, 2, 3, 4, 5], [0, 2, 3, 4, 7], [2, 3, 4, 5, 7], [0, 1, 2, 3, 4, 5], [0, 1, 2, 3, 4, 7], [0, 2, 3, 4, 5, 7], [0, 1, 2, 3, 4, 5, 6], [0, 1, 2, 3, 4, 5, 7], [0, 1, 2, 3, 4, 5, 6, 7], [0, 1, 2, 3, 4, 5, 6, 7, 8]] [(0, 0, 1), (0, 2, 2), (0, 7, 3), (1, 1, 4), (1, 2, 5), (1, 7, 6), (2, 0, 5), (2, 3, 7), (2, 7, 8), (3, 0, 6), (3, 2, 8), (4, 2, 9), (4, 7, 10), (5, 1, 9), (5, 3, 11), (5, 7, 12), (6, 1, 10), (6, 2, 12), (7, 0, 11), (7, 4, 13), (7, 7, 14), (8, 0, 12), (8, 3, 14), (9, 3, 15), (9, 7, 16), (10, 2, 16), (11, 1, 15), (11, 4, 17), (11, 7, 18), (12, 1, 16), (12, 3, 18), (13, 0, 17), (13, 5, 19), (13, 7, 20), (14, 0, 18), (14, 4, 20), (15, 4, 21), (15, 7, 22), (16, 3, 22), (17, 1, 21), (17, 5, 23), (17, 7, 24), (18, 1, 22), (18, 4, 24), (19, 0, 23), (19, 7, 25), (20, 0, 24), (20, 5, 25), (21, 5, 26), (21, 7, 27), (22, 4, 27), (23, 1, 26), (23, 7, 28), (24, 1, 27), (24, 5, 28), (25, 0, 28), (26, 6, 29), (26, 7, 30), (27, 5, 30), (28, 1, 30), (29, 7, 31), (30, 6, 31), (31, 8, 32)] 32 ?_
        obtain ⟨x10, hx10, h⟩ := of_bind h
        refine SP.rg <| .a 1 <| .call (R33_later_ok x9 x10 hx10) ent28 <| .a 2 <| .nil ?_
        obtain ⟨x11, hx11, h⟩ := of_bind h
        refine SP.rg <| .a 1 <| .call (R07_IdOf_ok x10 x11 hx11) ent29 <| .a 1 <| .nil ?_
        refine SP.seqc ?_
        refine SP.rg <| .a 4 <| .nil ?_
        refine SP.cond (x11 == x9.Id) (by kernel_rfl) (fun hb12 => ?_) (fun hb12 => ?_)
        · replace h := of_bif_true hb12 h
          refine SP.rg <| .a 2 <| .nil ?_
          refine SP.ret ?_
          rw [← Option.some.inj h]
          exact ⟨[.d ((eL eApiPacket) []), .d (eI 0)], [], ⟨resV_tmp (by kernel_rfl), resV_tmp (by kernel_rfl), trivial⟩, by kernel_rfl, by kernel_rfl, by kernel_rfl⟩
        · replace h := of_bif_false hb12 h
          refine SP.skip ?_
          refine SP.rg <| .a 4 <| .nil ?_
          obtain ⟨x13, hx13, h⟩ := of_bind h
          refine SP.rg <| .a 3 <| .call (R33_transaction_ok p0_s p1_d ({ x9 with Sig := { x9.Sig with Sum := x11 } }) x13 hx13) ent25 <| .p (ok_lits el25 zero57 (by kernel_rfl) (by kernel_rfl) (Nat.le_of_ble_eq_true (by kernel_rfl)) [.d (eApiPacket x13)] [eApiPacket x13] (by kernel_rfl) (by kernel_rfl) (by kernel_rfl) (by kernel_rfl) rfl) <| .a 2 <| .nil ?_
          refine SP.ret ?_
          rw [← Option.some.inj h]
          exact ⟨[.d ((eL eApiPacket) [x13]), .d (eI 0)], [], ⟨resV_tmp (by kernel_rfl), resV_tmp (by kernel_rfl), trivial⟩, by kernel_rfl, by kernel_rfl, by kernel_rfl⟩
      · replace h := of_bif_false hb7 h
        refine SP.rg <| .a 2 <| .nil ?_
        refine SP.cond (p1_d.Kind == 3) (by kernel_rfl) (fun hb14 => ?_) (fun hb14 => ?_)
        · replace h := of_bif_true hb14 h
          obtain ⟨x15, hx15, h⟩ := of_bind h
          obtain ⟨x16, hx16, h⟩ := of_bind h
          obtain ⟨x17, hx17, h⟩ := of_bind h
          obtain ⟨x18, hx18, h⟩ := of_bind h
          obtain ⟨x19, hx19, h⟩ := of_bind h
          refine SP.dseq (by kernel_rfl) (by kernel_rfl) (by kernel_rfl) (.a 5 <| .call (R07_Sign_ok x3 p0_s.Name x15 hx15) ent26 <| .call (R33_transaction_ok p0_s p1_d x15 x16 hx16) ent25 <| .a 3 <| .call (R33_later_ok x3 x17 hx17) ent28 <| .a 2 <| .call (R07_Sign_ok x17 p0_s.Name x18 hx18) ent26 <| .call (R33_transaction_ok p0_s p1_d x18 x19 hx19) ent25 <| .p (ok_lits el25 zero57 (by kernel_rfl) (by kernel_rfl) (Nat.le_of_ble_eq_true (by kernel_rfl)) [.d (eApiPacket x16), .d (eApiPacket x19)] [eApiPacket x16, eApiPacket x19] (by kernel_rfl) (by kernel_rfl) (by kernel_rfl) (by kernel_rfl) rfl) <| .a 2 <| .nil _) ?_
          refine SP.ret ?_
          rw [← Option.some.inj h]
          exact ⟨[.d ((eL eApiPacket) [x16, x19]), .d (eI 0)], [], ⟨resV_tmp (by kernel_rfl), resV_tmp (by kernel_rfl), trivial⟩, by kernel_rfl, by kernel_rfl, by kernel_rfl⟩
        · replace h := of_bif_false hb14 h
          refine SP.rg <| .a 2 <| .nil ?_
          refine SP.cond (p1_d.Kind == 4) (by kernel_rfl) (fun hb20 => ?_) (fun hb20 => ?_)
          · replace h := of_bif_true hb20 h
            obtain ⟨x21, hx21, h⟩ := of_bind h
            obtain ⟨x22, hx22, h⟩ := of_bind h
            refine SP.dseq (by kernel_rfl) (by kernel_rfl) (by kernel_rfl) (.a 6 <| .call (R07_Sign_ok p1_d.Event p0_s.Name x21 hx21) ent26 <| .call (R33_transaction_ok p0_s p1_d x21 x22 hx22) ent25 <| .p (ok_lits el25 zero57 (by kernel_rfl) (by kernel_rfl) (Nat.le_of_ble_eq_true (by kernel_rfl)) [.d (eApiPacket x22)] [eApiPacket x22] (by kernel_rfl) (by kernel_rfl) (by kernel_rfl) (by kernel_rfl) rfl) <| .a 2 <| .nil _) ?_
            refine SP.ret ?_
            rw [← Option.some.inj h]
            exact ⟨[.d ((eL eApiPacket) [x22]), .d (eI 0)], [], ⟨resV_tmp (by kernel_rfl), resV_tmp (by kernel_rfl), trivial⟩, by kernel_rfl, by kernel_rfl, by kernel_rfl⟩
          · replace h := of_bif_false hb20 h
            refine SP.rg <| .a 2 <| .nil ?_
            refine SP.cond (p1_d.Kind == 6) (by kernel_rfl) (fun hb23 => ?_) (fun hb23 => ?_)
            · replace h := of_bif_true hb23 h
              obtain ⟨x24, hx24, h⟩ := of_bind h
              refine SP.rg <| .a 2 <| .call (R07_Sign_ok p1_d.Event s0 x24 hx24) ent26 <| .a 2 <| .nil ?_
              refine SP.rg <| .a 3 <| .nil ?_
              refine SP.rg <| .a 7 <| .p (ok_lits el52 zero43 (by kernel_rfl) (by kernel_rfl) (Nat.le_of_ble_eq_true (by kernel_rfl)) [.d (eApiEvent ({ x24 with Sig := zApiSig }))] [eApiEvent ({ x24 with Sig := zApiSig })] (by kernel_rfl) (by kernel_rfl) (by kernel_rfl) (by kernel_rfl) rfl) <| .a 1 <| .p (ok_lits el25 zero57 (by kernel_rfl) (by kernel_rfl) (Nat.le_of_ble_eq_true (by kernel_rfl)) [.d (eApiPacket ({ zApiPacket with From := p0_s.Name, To := p1_d.To, Kind := 8, Room := ({ x24 with Sig := zApiSig }).Room, Events := [{ x24 with Sig := zApiSig }] }))] [eApiPacket ({ zApiPacket with From := p0_s.Name, To := p1_d.To, Kind := 8, Room := ({ x24 with Sig := zApiSig }).Room, Events := [{ x24 with Sig := zApiSig }] })] (by kernel_rfl) (by kernel_rfl) (by kernel_rfl) (by kernel_rfl) rfl) <| .a 2 <| .nil ?_
              refine SP.ret ?_
              rw [← Option.some.inj h]
              exact ⟨[.d ((eL eApiPacket) ([{ zApiPacket with From := p0_s.Name, To := p1_d.To, Kind := 8, Room := ({ x24 with Sig := zApiSig }).Room, Events := [{ x24 with Sig := zApiSig }] }])), .d (eI 0)], [], ⟨resV_tmp (by kernel_rfl), resV_tmp (by kernel_rfl), trivial⟩, by kernel_rfl, by kernel_rfl, by kernel_rfl⟩
            · replace h := of_bif_false hb23 h
              refine SP.skip ?_
              refine SP.rg <| .a 2 <| .nil ?_
              refine SP.ret ?_
              rw [← Option.some.inj h]
              exact ⟨[.d ((eL eApiPacket) []), .d (eI 0)], [], ⟨resV_tmp (by kernel_rfl), resV_tmp (by kernel_rfl), trivial⟩, by kernel_rfl, by kernel_rfl, by kernel_rfl⟩

-- fedchat/fedchatref01.Same
def R01_Same_S1 (p0_a : (List Int)) (p1_b : (List Int)) (v2 : Int) : St := ⟨shp 26 [(0, .d ((eL eI) p0_a)), (1, .d ((eL eI) p1_b)), (5, .d (eI v2))], [], 0⟩
def R01_Same_B1 (p0_a : (List Int)) (p1_b : (List Int)) (k3 : (Int → Option Bool)) : Int → Option Bool := fun v2 => (bif decide (v2 < (p0_a.length : Int)) then (gIdx p0_a v2).bind fun x5 => (gIdx p1_b v2).bind fun x6 => (bif (x5 != x6) then some false else k3 (IntKind.i64.wrap (v2 + 1))) else some true)
def R01_Same_L1 (p0_a : (List Int)) (p1_b : (List Int)) : Int → Option Bool := loop1 (R01_Same_B1 p0_a p1_b) fuel
def R01_Same (p0_a : (List Int)) (p1_b : (List Int)) : Option Bool := (bif ((p0_a.length : Int) != (p1_b.length : Int)) then some false else R01_Same_L1 p0_a p1_b 0)
theorem R01_Same_ok (p0_a : (List Int)) (p1_b : (List Int)) (r : Bool) (h : R01_Same p0_a p1_b = some r) : Runs Tryz.prog 31 [.d ((eL eI) p0_a), .d ((eL eI) p1_b)] [] (.d (eB r)) [] := by
  refine Runs.of_fin Tryz.func31 rfl ?_
  unfold R01_Same at h
  refine SP.rg <| .a 1 <| .nil ?_
  refine SP.seqc ?_
  refine SP.rg <| .a 1 <| .p (ok_lenT eI p0_a und33 rfl) <| .a 1 <| .p (ok_lenT eI p1_b und33 rfl) <| .a 1 <| .nil ?_
  refine SP.cond ((p0_a.length : Int) != (p1_b.length : Int)) (by kernel_rfl) (fun hb1 => ?_) (fun hb1 => ?_)
  · replace h := of_bif_true hb1 h
    refine SP.rg <| .a 1 <| .nil ?_
    refine SP.ret ?_
    rw [← Option.some.inj h]
    exact ⟨[.d (eB false)], [], ⟨resV_tmp (by kernel_rfl), trivial⟩, by kernel_rfl, by kernel_rfl, by kernel_rfl⟩
  · replace h := of_bif_false hb1 h
    refine SP.skip ?_
    refine SP.seqc ?_
    refine SP.rg <| .a 1 <| .nil ?_
    refine SP.block ?_
    refine SP.loop1 (R01_Same_S1 p0_a p1_b) (R01_Same_B1 p0_a p1_b) r 0 (sub_of (mk 26 35) []) h ?_
    clear h
    intro J8 k3 hk3 v2 h
    unfold R01_Same_B1 at h
    refine SP.seqc ?_
    refine SP.rg <| .a 2 <| .p (ok_lenT eI p0_a und33 rfl) <| .a 1 <| .nil ?_
    refine SP.cond (decide (v2 < (p0_a.length : Int))) (by kernel_rfl) (fun hb4 => ?_) (fun hb4 => ?_)
    · replace h := of_bif_true hb4 h
      refine SP.skip ?_
      refine SP.seqc ?_
      refine SP.block ?_
      obtain ⟨x5, hx5, h⟩ := of_bind h
      obtain ⟨x6, hx6, h⟩ := of_bind h
      refine SP.dseq (by kernel_rfl) (by kernel_rfl) (by kernel_rfl) (.a 2 <| .p (ok_idxT (k := .i64) eI hx5 und33 ty3 (by kernel_rfl) rfl) <| .a 3 <| .p (ok_idxT (k := .i64) eI hx6 und33 ty3 (by kernel_rfl) rfl) <| .a 2 <| .nil _) ?_
      refine SP.cond (x5 != x6) (by kernel_rfl) (fun hb7 => ?_) (fun hb7 => ?_)
      · replace h := of_bif_true hb7 h
        refine SP.rg <| .a 1 <| .nil ?_
        refine SP.ret ?_
        rw [← Option.some.inj h]
        exact ⟨[.d (eB false)], [], ⟨resV_tmp (by kernel_rfl), trivial⟩, by kernel_rfl, by kernel_rfl, by kernel_rfl⟩
      · replace h := of_bif_false hb7 h
        refine SP.skip ?_
        refine SP.rgn <| .a 3 <| .nil ?_
        exact hk3 _ (IntKind.i64.wrap (v2 + 1)) (sub_of (mk 26 35) []) h
    · replace h := of_bif_false hb4 h
      refine SP.exit ?_
      refine SP.rg <| .a 1 <| .nil ?_
      refine SP.ret ?_
      rw [← Option.some.inj h]
      exact ⟨[.d (eB true)], [], ⟨resV_tmp (by kernel_rfl), trivial⟩, by kernel_rfl, by kernel_rfl, by kernel_rfl⟩

-- fedchat/fedchatref06.SameTexts
def R06_SameTexts_S1 (p0_a : (List ByteArray)) (p1_b : (List ByteArray)) (v2 : Int) : St := ⟨shp 26 [(0, .d ((eL eS) p0_a)), (1, .d ((eL eS) p1_b)), (5, .d (eI v2))], [], 0⟩
def R06_SameTexts_B1 (p0_a : (List ByteArray)) (p1_b : (List ByteArray)) (k3 : (Int → Option Bool)) : Int → Option Bool := fun v2 => (bif decide (v2 < (p0_a.length : Int)) then (gIdx p0_a v2).bind fun x5 => (gIdx p1_b v2).bind fun x6 => (bif (!(x5.toList == x6.toList)) then some false else k3 (IntKind.i64.wrap (v2 + 1))) else some true)
def R06_SameTexts_L1 (p0_a : (List ByteArray)) (p1_b : (List ByteArray)) : Int → Option Bool := loop1 (R06_SameTexts_B1 p0_a p1_b) fuel
def R06_SameTexts (p0_a : (List ByteArray)) (p1_b : (List ByteArray)) : Option Bool := (bif ((p0_a.length : Int) != (p1_b.length : Int)) then some false else R06_SameTexts_L1 p0_a p1_b 0)
theorem R06_SameTexts_ok (p0_a : (List ByteArray)) (p1_b : (List ByteArray)) (r : Bool) (h : R06_SameTexts p0_a p1_b = some r) : Runs Tryz.prog 104 [.d ((eL eS) p0_a), .d ((eL eS) p1_b)] [] (.d (eB r)) [] := by
  refine Runs.of_fin Tryz.func104 rfl ?_
  unfold R06_SameTexts at h
  refine SP.rg <| .a 1 <| .nil ?_
  refine SP.seqc ?_
  refine SP.rg <| .a 1 <| .p (ok_lenT eS p0_a und24 rfl) <| .a 1 <| .p (ok_lenT eS p1_b und24 rfl) <| .a 1 <| .nil ?_
  refine SP.cond ((p0_a.length : Int) != (p1_b.length : Int)) (by kernel_rfl) (fun hb1 => ?_) (fun hb1 => ?_)
  · replace h := of_bif_true hb1 h
    refine SP.rg <| .a 1 <| .nil ?_
    refine SP.ret ?_
    rw [← Option.some.inj h]
    exact ⟨[.d (eB false)], [], ⟨resV_tmp (by kernel_rfl), trivial⟩, by kernel_rfl, by kernel_rfl, by kernel_rfl⟩
  · replace h := of_bif_false hb1 h
    refine SP.skip ?_
    refine SP.seqc ?_
    refine SP.rg <| .a 1 <| .nil ?_
    refine SP.block ?_
    refine SP.loop1 (R06_SameTexts_S1 p0_a p1_b) (R06_SameTexts_B1 p0_a p1_b) r 0 (sub_of (mk 26 35) []) h ?_
    clear h
    intro J8 k3 hk3 v2 h
    unfold R06_SameTexts_B1 at h
    refine SP.seqc ?_
    refine SP.rg <| .a 2 <| .p (ok_lenT eS p0_a und24 rfl) <| .a 1 <| .nil ?_
    refine SP.cond (decide (v2 < (p0_a.length : Int))) (by kernel_rfl) (fun hb4 => ?_) (fun hb4 => ?_)
    · replace h := of_bif_true hb4 h
      refine SP.skip ?_
      refine SP.seqc ?_
      refine SP.block ?_
      obtain ⟨x5, hx5, h⟩ := of_bind h
      obtain ⟨x6, hx6, h⟩ := of_bind h
      refine SP.dseq (by kernel_rfl) (by kernel_rfl) (by kernel_rfl) (.a 2 <| .p (ok_idxT (k := .i64) eS hx5 und24 ty9 (by kernel_rfl) rfl) <| .a 3 <| .p (ok_idxT (k := .i64) eS hx6 und24 ty9 (by kernel_rfl) rfl) <| .a 2 <| .nil _) ?_
      refine SP.cond (!(x5.toList == x6.toList)) (by kernel_rfl) (fun hb7 => ?_) (fun hb7 => ?_)
      · replace h := of_bif_true hb7 h
        refine SP.rg <| .a 1 <| .nil ?_
        refine SP.ret ?_
        rw [← Option.some.inj h]
        exact ⟨[.d (eB false)], [], ⟨resV_tmp (by kernel_rfl), trivial⟩, by kernel_rfl, by kernel_rfl, by kernel_rfl⟩
      · replace h := of_bif_false hb7 h
        refine SP.skip ?_
        refine SP.rgn <| .a 3 <| .nil ?_
        exact hk3 _ (IntKind.i64.wrap (v2 + 1)) (sub_of (mk 26 35) []) h
    · replace h := of_bif_false hb4 h
      refine SP.exit ?_
      refine SP.rg <| .a 1 <| .nil ?_
      refine SP.ret ?_
      rw [← Option.some.inj h]
      exact ⟨[.d (eB true)], [], ⟨resV_tmp (by kernel_rfl), trivial⟩, by kernel_rfl, by kernel_rfl, by kernel_rfl⟩

-- fedchat/fedchatref06.SameLevels
def R06_SameLevels_S1 (p0_a : ApiLevels) (p1_b : ApiLevels) (v4 : Int) : St := ⟨shp 140 [(2, .ptr 0 0), (3, .ptr 1 0), (5, .d (eI v4))], [.box (dc (eApiLevels p0_a)), .box (dc (eApiLevels p1_b))], 0⟩
def R06_SameLevels_S2 (v4 : Int) (p0_a : ApiLevels) (p1_b : ApiLevels) (v7 : Bool) : St := ⟨shp 140 [(2, .ptr 0 0), (3, .ptr 1 0), (5, .d (eI v4)), (57, .d (eB v7))], [.box (dc (eApiLevels p0_a)), .box (dc (eApiLevels p1_b))], 0⟩
def R06_SameLevels_S3 (p0_a : ApiLevels) (p1_b : ApiLevels) (v15 : Int) : St := ⟨shp 140 [(2, .ptr 0 0), (3, .ptr 1 0), (6, .d (eI v15))], [.box (dc (eApiLevels p0_a)), .box (dc (eApiLevels p1_b))], 0⟩
def R06_SameLevels_S4 (v15 : Int) (p0_a : ApiLevels) (p1_b : ApiLevels) (v18 : Bool) : St := ⟨shp 140 [(2, .ptr 0 0), (3, .ptr 1 0), (6, .d (eI v15)), (92, .d (eB v18))], [.box (dc (eApiLevels p0_a)), .box (dc (eApiLevels p1_b))], 0⟩
def R06_SameLevels_j2 (k5 : (Int → Option Bool)) (v4 : Int) (v7 : Bool) : Option Bool := (bif v7 then some false else k5 (IntKind.i64.wrap (v4 + 1)))
def R06_SameLevels_j4 (k16 : (Int → Option Bool)) (v15 : Int) (v18 : Bool) : Option Bool := (bif v18 then some false else k16 (IntKind.i64.wrap (v15 + 1)))
def R06_SameLevels_B3 (p0_a : ApiLevels) (p1_b : ApiLevels) (k16 : (Int → Option Bool)) : Int → Option Bool := fun v15 => (bif decide (v15 < (p0_a.Kinds.length : Int)) then (gIdx p0_a.Kinds v15).bind fun x21 => (gIdx p1_b.Kinds v15).bind fun x22 => (bif (x21.Kind != x22.Kind) then R06_SameLevels_j4 k16 v15 true else (gIdx p0_a.Kinds v15).bind fun x24 => (gIdx p1_b.Kinds v15).bind fun x25 => R06_SameLevels_j4 k16 v15 (x24.N != x25.N)) else (bif (p0_a.User == p1_b.User) then some (p0_a.Message == p1_b.Message) else some false).bind fun x26 => (bif x26 then some (p0_a.State == p1_b.State) else some false).bind fun x28 => (bif x28 then some (p0_a.Invite == p1_b.Invite) else some false).bind fun x30 => (bif x30 then some (p0_a.Kick == p1_b.Kick) else some false).bind fun x32 => (bif x32 then some (p0_a.Ban == p1_b.Ban) else some false).bind fun x34 => (bif x34 then some (p0_a.Redact == p1_b.Redact) else some false).bind fun x36 => some x36)
def R06_SameLevels_L3 (p0_a : ApiLevels) (p1_b : ApiLevels) : Int → Option Bool := loop1 (R06_SameLevels_B3 p0_a p1_b) fuel
def R06_SameLevels_B1 (p0_a : ApiLevels) (p1_b : ApiLevels) (k5 : (Int → Option Bool)) : Int → Option Bool := fun v4 => (bif decide (v4 < (p0_a.Users.length : Int)) then (gIdx p0_a.Users v4).bind fun x10 => (gIdx p1_b.Users v4).bind fun x11 => (bif (!(x10.User.toList == x11.User.toList)) then R06_SameLevels_j2 k5 v4 true else (gIdx p0_a.Users v4).bind fun x13 => (gIdx p1_b.Users v4).bind fun x14 => R06_SameLevels_j2 k5 v4 (x13.N != x14.N)) else R06_SameLevels_L3 p0_a p1_b 0)
def R06_SameLevels_L1 (p0_a : ApiLevels) (p1_b : ApiLevels) : Int → Option Bool := loop1 (R06_SameLevels_B1 p0_a p1_b) fuel
def R06_SameLevels (p0_a : ApiLevels) (p1_b : ApiLevels) : Option Bool := (bif ((p0_a.Users.length : Int) != (p1_b.Users.length : Int)) then some true else some ((p0_a.Kinds.length : Int) != (p1_b.Kinds.length : Int))).bind fun x1 => (bif x1 then some false else R06_SameLevels_L1 p0_a p1_b 0)
theorem R06_SameLevels_ok (p0_a : ApiLevels) (p1_b : ApiLevels) (r : Bool) (h : R06_SameLevels p0_a p1_b = some r) : Runs Tryz.prog 105 [.d (eApiLevels p0_a), .d (eApiLevels p1_b)] [] (.d (eB r)) [] := by
  refine Runs.of_fin Tryz.func105 rfl ?_
  unfold R06_SameLevels at h
  refine SP.rg <| .a 3 <| .nil ?_
  refine SP.seqc ?_
  refine SP.rg <| .a 2 <| .p (ok_lenT eApiLevel p0_a.Users und34 rfl) <| .a 2 <| .p (ok_lenT eApiLevel p1_b.Users und34 rfl) <| .a 1 <| ?_
  obtain ⟨x1, hx1, h⟩ := of_bind h
  refine .merge 9 [14, 15, 16, 17, 18, 19, 20, 21] 22 (.d (eB x1)) ?_ ?_
  · replace h := hx1
    rcases Bool.eq_false_or_eq_true ((p0_a.Users.length : Int) != (p1_b.Users.length : Int)) with hb2 | hb2
    · replace h := of_bif_true hb2 h
      refine .c (congrArg some hb2) <| .a 8 <| .nil ?_
      obtain rfl := Option.some.inj h
      kernel_rfl
    · replace h := of_bif_false hb2 h
      refine .c (congrArg some hb2) <| .a 2 <| .p (ok_lenT eApiKindLevel p0_a.Kinds und35 rfl) <| .a 2 <| .p (ok_lenT eApiKindLevel p1_b.Kinds und35 rfl) <| .a 2 <| .nil ?_
      obtain rfl := Option.some.inj h
      kernel_rfl
  refine .nil ?_
  refine SP.cond x1 (by kernel_rfl) (fun hb3 => ?_) (fun hb3 => ?_)
  · replace h := of_bif_true hb3 h
    refine SP.rg <| .a 1 <| .nil ?_
    refine SP.ret ?_
    rw [← Option.some.inj h]
    exact ⟨[.d (eB false)], [], ⟨resV_tmp (by kernel_rfl), trivial⟩, by kernel_rfl, by kernel_rfl, by kernel_rfl⟩
  · replace h := of_bif_false hb3 h
    refine SP.skip ?_
    refine SP.seqc ?_
    refine SP.rg <| .a 1 <| .nil ?_
    refine SP.block ?_
    refine SP.loop1 (R06_SameLevels_S1 p0_a p1_b) (R06_SameLevels_B1 p0_a p1_b) r 0 (sub_of (mk 140 44) [(0, true), (1, true)]) h ?_
    clear h
    intro J39 k5 hk5 v4 h
    unfold R06_SameLevels_B1 at h
    refine SP.seqc ?_
    refine SP.rg <| .a 3 <| .p (ok_lenT eApiLevel p0_a.Users und34 rfl) <| .a 1 <| .nil ?_
    refine SP.cond (decide (v4 < (p0_a.Users.length : Int))) (by kernel_rfl) (fun hb6 => ?_) (fun hb6 => ?_)
    · replace h := of_bif_true hb6 h
      refine SP.skip ?_
      refine SP.seqc ?_
      refine SP.block ?_
      refine SP.join (fun s => ∃ (v7 : Bool), Sub s (R06_SameLevels_S2 v4 p0_a p1_b v7) ∧ R06_SameLevels_j2 k5 v4 v7 = some r) ?_ ?_
      · clear h
        rintro s ⟨v7, hs, h⟩
        refine SP.sub hs ?_
        clear hs
        unfold R06_SameLevels_j2 at h
        refine SP.cond v7 (by kernel_rfl) (fun hb8 => ?_) (fun hb8 => ?_)
        · replace h := of_bif_true hb8 h
          refine SP.rg <| .a 1 <| .nil ?_
          refine SP.ret ?_
          rw [← Option.some.inj h]
          exact ⟨[.d (eB false)], [], ⟨resV_tmp (by kernel_rfl), trivial⟩, by kernel_rfl, by kernel_rfl, by kernel_rfl⟩
        · replace h := of_bif_false hb8 h
          refine SP.skip ?_
          refine SP.rgn <| .a 3 <| .nil ?_
          exact hk5 _ (IntKind.i64.wrap (v4 + 1)) (sub_of (mk 140 44) [(0, true), (1, true)]) h
      · intro K9
        obtain ⟨x10, hx10, h⟩ := of_bind h
        obtain ⟨x11, hx11, h⟩ := of_bind h
        rcases Bool.eq_false_or_eq_true (!(x10.User.toList == x11.User.toList)) with hb12 | hb12
        · replace h := of_bif_true hb12 h
          refine SP.draw (by kernel_rfl) (by kernel_rfl) (by kernel_rfl) (.a 3 <| .p (ok_idxT (k := .i64) eApiLevel hx10 und34 ty71 (by kernel_rfl) rfl) <| .a 5 <| .p (ok_idxT (k := .i64) eApiLevel hx11 und34 ty71 (by kernel_rfl) rfl) <| .a 3 <| .c (congrArg some hb12) <| .a 14 <| .nil _) ?_
          exact K9 _ ⟨true, sub_of (mk 140 144115188075855916) [(0, true), (1, true)], h⟩
        · replace h := of_bif_false hb12 h
          obtain ⟨x13, hx13, h⟩ := of_bind h
          obtain ⟨x14, hx14, h⟩ := of_bind h
          refine SP.draw (by kernel_rfl) (by kernel_rfl) (by kernel_rfl) (.a 3 <| .p (ok_idxT (k := .i64) eApiLevel hx10 und34 ty71 (by kernel_rfl) rfl) <| .a 5 <| .p (ok_idxT (k := .i64) eApiLevel hx11 und34 ty71 (by kernel_rfl) rfl) <| .a 3 <| .c (congrArg some hb12) <| .a 3 <| .p (ok_idxT (k := .i64) eApiLevel hx13 und34 ty71 (by kernel_rfl) rfl) <| .a 5 <| .p (ok_idxT (k := .i64) eApiLevel hx14 und34 ty71 (by kernel_rfl) rfl) <| .a 4 <| .nil _) ?_
          exact K9 _ ⟨(x13.N != x14.N), sub_of (mk 140 144115188075855916) [(0, true), (1, true)], h⟩
    · replace h := of_bif_false hb6 h
      refine SP.exit ?_
      refine SP.seqc ?_
      refine SP.rg <| .a 1 <| .nil ?_
      refine SP.block ?_
      refine SP.loop1 (R06_SameLevels_S3 p0_a p1_b) (R06_SameLevels_B3 p0_a p1_b) r 0 (sub_of (mk 140 76) [(0, true), (1, true)]) h ?_
      clear h
      intro J38 k16 hk16 v15 h
      unfold R06_SameLevels_B3 at h
      refine SP.seqc ?_
      refine SP.rg <| .a 3 <| .p (ok_lenT eApiKindLevel p0_a.Kinds und35 rfl) <| .a 1 <| .nil ?_
      refine SP.cond (decide (v15 < (p0_a.Kinds.length : Int))) (by kernel_rfl) (fun hb17 => ?_) (fun hb17 => ?_)
      · replace h := of_bif_true hb17 h
        refine SP.skip ?_
        refine SP.seqc ?_
        refine SP.block ?_
        refine SP.join (fun s => ∃ (v18 : Bool), Sub s (R06_SameLevels_S4 v15 p0_a p1_b v18) ∧ R06_SameLevels_j4 k16 v15 v18 = some r) ?_ ?_
        · clear h
          rintro s ⟨v18, hs, h⟩
          refine SP.sub hs ?_
          clear hs
          unfold R06_SameLevels_j4 at h
          refine SP.cond v18 (by kernel_rfl) (fun hb19 => ?_) (fun hb19 => ?_)
          · replace h := of_bif_true hb19 h
            refine SP.rg <| .a 1 <| .nil ?_
            refine SP.ret ?_
            rw [← Option.some.inj h]
            exact ⟨[.d (eB false)], [], ⟨resV_tmp (by kernel_rfl), trivial⟩, by kernel_rfl, by kernel_rfl, by kernel_rfl⟩
          · replace h := of_bif_false hb19 h
            refine SP.skip ?_
            refine SP.rgn <| .a 3 <| .nil ?_
            exact hk16 _ (IntKind.i64.wrap (v15 + 1)) (sub_of (mk 140 76) [(0, true), (1, true)]) h
        · intro K20
          obtain ⟨x21, hx21, h⟩ := of_bind h
          obtain ⟨x22, hx22, h⟩ := of_bind h
          rcases Bool.eq_false_or_eq_true (x21.Kind != x22.Kind) with hb23 | hb23
          · replace h := of_bif_true hb23 h
            refine SP.draw (by kernel_rfl) (by kernel_rfl) (by kernel_rfl) (.a 3 <| .p (ok_idxT (k := .i64) eApiKindLevel hx21 und35 ty108 (by kernel_rfl) rfl) <| .a 5 <| .p (ok_idxT (k := .i64) eApiKindLevel hx22 und35 ty108 (by kernel_rfl) rfl) <| .a 3 <| .c (congrArg some hb23) <| .a 14 <| .nil _) ?_
            exact K20 _ ⟨true, sub_of (mk 140 4951760157141521099596496972) [(0, true), (1, true)], h⟩
          · replace h := of_bif_false hb23 h
            obtain ⟨x24, hx24, h⟩ := of_bind h
            obtain ⟨x25, hx25, h⟩ := of_bind h
            refine SP.draw (by kernel_rfl) (by kernel_rfl) (by kernel_rfl) (.a 3 <| .p (ok_idxT (k := .i64) eApiKindLevel hx21 und35 ty108 (by kernel_rfl) rfl) <| .a 5 <| .p (ok_idxT (k := .i64) eApiKindLevel hx22 und35 ty108 (by kernel_rfl) rfl) <| .a 3 <| .c (congrArg some hb23) <| .a 3 <| .p (ok_idxT (k := .i64) eApiKindLevel hx24 und35 ty108 (by kernel_rfl) rfl) <| .a 5 <| .p (ok_idxT (k := .i64) eApiKindLevel hx25 und35 ty108 (by kernel_rfl) rfl) <| .a 4 <| .nil _) ?_
            exact K20 _ ⟨(x24.N != x25.N), sub_of (mk 140 4951760157141521099596496972) [(0, true), (1, true)], h⟩
      · replace h := of_bif_false hb17 h
        refine SP.exit ?_
        refine SP.rg <| .a 5 <| ?_
        obtain ⟨x26, hx26, h⟩ := of_bind h
        refine .merge 7 [98, 99, 100, 101, 102, 103] 104 (.d (eB x26)) ?_ ?_
        · replace h := hx26
          rcases Bool.eq_false_or_eq_true (p0_a.User == p1_b.User) with hb27 | hb27
          · replace h := of_bif_true hb27 h
            refine .c (congrArg some hb27) <| .a 6 <| .nil ?_
            obtain rfl := Option.some.inj h
            kernel_rfl
          · replace h := of_bif_false hb27 h
            refine .c (congrArg some hb27) <| .a 6 <| .nil ?_
            obtain rfl := Option.some.inj h
            kernel_rfl
        refine .a 1 <| ?_
        obtain ⟨x28, hx28, h⟩ := of_bind h
        refine .merge 6 [106, 107, 108, 109, 110] 111 (.d (eB x28)) ?_ ?_
        · replace h := hx28
          cases x26 with
          | true =>
            replace h := of_bif_true rfl h
            refine .a 6 <| .nil ?_
            obtain rfl := Option.some.inj h
            kernel_rfl
          | false =>
            replace h := of_bif_false rfl h
            refine .a 6 <| .nil ?_
            obtain rfl := Option.some.inj h
            kernel_rfl
        refine .a 1 <| ?_
        obtain ⟨x30, hx30, h⟩ := of_bind h
        refine .merge 6 [113, 114, 115, 116, 117] 118 (.d (eB x30)) ?_ ?_
        · replace h := hx30
          cases x28 with
          | true =>
            replace h := of_bif_true rfl h
            refine .a 6 <| .nil ?_
            obtain rfl := Option.some.inj h
            kernel_rfl
          | false =>
            replace h := of_bif_false rfl h
            refine .a 6 <| .nil ?_
            obtain rfl := Option.some.inj h
            kernel_rfl
        refine .a 1 <| ?_
        obtain ⟨x32, hx32, h⟩ := of_bind h
        refine .merge 6 [120, 121, 122, 123, 124] 125 (.d (eB x32)) ?_ ?_
        · replace h := hx32
          cases x30 with
          | true =>
            replace h := of_bif_true rfl h
            refine .a 6 <| .nil ?_
            obtain rfl := Option.some.inj h
            kernel_rfl
          | false =>
            replace h := of_bif_false rfl h
            refine .a 6 <| .nil ?_
            obtain rfl := Option.some.inj h
            kernel_rfl
        refine .a 1 <| ?_
        obtain ⟨x34, hx34, h⟩ := of_bind h
        refine .merge 6 [127, 128, 129, 130, 131] 132 (.d (eB x34)) ?_ ?_
        · replace h := hx34
          cases x32 with
          | true =>
            replace h := of_bif_true rfl h
            refine .a 6 <| .nil ?_
            obtain rfl := Option.some.inj h
            kernel_rfl
          | false =>
            replace h := of_bif_false rfl h
            refine .a 6 <| .nil ?_
            obtain rfl := Option.some.inj h
            kernel_rfl
        refine .a 1 <| ?_
        obtain ⟨x36, hx36, h⟩ := of_bind h
        refine .merge 6 [134, 135, 136, 137, 138] 139 (.d (eB x36)) ?_ ?_
        · replace h := hx36
          cases x34 with
          | true =>
            replace h := of_bif_true rfl h
            refine .a 6 <| .nil ?_
            obtain rfl := Option.some.inj h
            kernel_rfl
          | false =>
            replace h := of_bif_false rfl h
            refine .a 6 <| .nil ?_
            obtain rfl := Option.some.inj h
            kernel_rfl
        refine .a 1 <| .nil ?_
        refine SP.ret ?_
        rw [← Option.some.inj h]
        exact ⟨[.d (eB x36)], [], ⟨resV_tmp (by kernel_rfl), trivial⟩, by kernel_rfl, by kernel_rfl, by kernel_rfl⟩

-- fedchat/fedchatref06.Same
def R06_Same (p0_a : ApiContent) (p1_b : ApiContent) : Option Bool := (bif (p0_a.Text.toList == p1_b.Text.toList) then some (p0_a.N == p1_b.N) else some false).bind fun x1 => (bif x1 then some (p0_a.Target == p1_b.Target) else some false).bind fun x3 => (bif x3 then some (p0_a.Thread == p1_b.Thread) else some false).bind fun x5 => (bif x5 then some (p0_a.Via.toList == p1_b.Via.toList) else some false).bind fun x7 => (bif x7 then (R06_SameTexts p0_a.Allow p1_b.Allow).bind fun x11 => some x11 else some false).bind fun x9 => (bif x9 then (R06_SameTexts p0_a.Deny p1_b.Deny).bind fun x14 => some x14 else some false).bind fun x12 => (bif x12 then (R06_SameLevels p0_a.Levels p1_b.Levels).bind fun x17 => some x17 else some false).bind fun x15 => some x15
theorem R06_Same_ok (p0_a : ApiContent) (p1_b : ApiContent) (r : Bool) (h : R06_Same p0_a p1_b = some r) : Runs Tryz.prog 61 [.d (eApiContent p0_a), .d (eApiContent p1_b)] [] (.d (eB r)) [] := by
  refine Runs.of_fin Tryz.func61 rfl ?_
  unfold R06_Same at h
  refine SP.rg <| .a 3 <| .nil ?_
  refine SP.rg <| .a 5 <| ?_
  obtain ⟨x1, hx1, h⟩ := of_bind h
  refine .merge 7 [10, 11, 12, 13, 14, 15] 16 (.d (eB x1)) ?_ ?_
  · replace h := hx1
    rcases Bool.eq_false_or_eq_true (p0_a.Text.toList == p1_b.Text.toList) with hb2 | hb2
    · replace h := of_bif_true hb2 h
      refine .c (congrArg some hb2) <| .a 6 <| .nil ?_
      obtain rfl := Option.some.inj h
      kernel_rfl
    · replace h := of_bif_false hb2 h
      refine .c (congrArg some hb2) <| .a 6 <| .nil ?_
      obtain rfl := Option.some.inj h
      kernel_rfl
  refine .a 1 <| ?_
  obtain ⟨x3, hx3, h⟩ := of_bind h
  refine .merge 6 [18, 19, 20, 21, 22] 23 (.d (eB x3)) ?_ ?_
  · replace h := hx3
    cases x1 with
    | true =>
      replace h := of_bif_true rfl h
      refine .a 6 <| .nil ?_
      obtain rfl := Option.some.inj h
      kernel_rfl
    | false =>
      replace h := of_bif_false rfl h
      refine .a 6 <| .nil ?_
      obtain rfl := Option.some.inj h
      kernel_rfl
  refine .a 1 <| ?_
  obtain ⟨x5, hx5, h⟩ := of_bind h
  refine .merge 6 [25, 26, 27, 28, 29] 30 (.d (eB x5)) ?_ ?_
  · replace h := hx5
    cases x3 with
    | true =>
      replace h := of_bif_true rfl h
      refine .a 6 <| .nil ?_
      obtain rfl := Option.some.inj h
      kernel_rfl
    | false =>
      replace h := of_bif_false rfl h
      refine .a 6 <| .nil ?_
      obtain rfl := Option.some.inj h
      kernel_rfl
  refine .a 1 <| ?_
  obtain ⟨x7, hx7, h⟩ := of_bind h
  refine .merge 6 [32, 33, 34, 35, 36] 37 (.d (eB x7)) ?_ ?_
  · replace h := hx7
    cases x5 with
    | true =>
      replace h := of_bif_true rfl h
      refine .a 6 <| .nil ?_
      obtain rfl := Option.some.inj h
      kernel_rfl
    | false =>
      replace h := of_bif_false rfl h
      refine .a 6 <| .nil ?_
      obtain rfl := Option.some.inj h
      kernel_rfl
  refine .a 1 <| ?_
  obtain ⟨x9, hx9, h⟩ := of_bind h
  refine .merge 6 [39, 40, 41, 42, 43] 44 (.d (eB x9)) ?_ ?_
  · replace h := hx9
    cases x7 with
    | true =>
      replace h := of_bif_true rfl h
      obtain ⟨x11, hx11, h⟩ := of_bind h
      refine .a 4 <| .call (R06_SameTexts_ok p0_a.Allow p1_b.Allow x11 hx11) ent104 <| .a 1 <| .nil ?_
      obtain rfl := Option.some.inj h
      kernel_rfl
    | false =>
      replace h := of_bif_false rfl h
      refine .a 6 <| .nil ?_
      obtain rfl := Option.some.inj h
      kernel_rfl
  refine .a 1 <| ?_
  obtain ⟨x12, hx12, h⟩ := of_bind h
  refine .merge 6 [46, 47, 48, 49, 50] 51 (.d (eB x12)) ?_ ?_
  · replace h := hx12
    cases x9 with
    | true =>
      replace h := of_bif_true rfl h
      obtain ⟨x14, hx14, h⟩ := of_bind h
      refine .a 4 <| .call (R06_SameTexts_ok p0_a.Deny p1_b.Deny x14 hx14) ent104 <| .a 1 <| .nil ?_
      obtain rfl := Option.some.inj h
      kernel_rfl
    | false =>
      replace h := of_bif_false rfl h
      refine .a 6 <| .nil ?_
      obtain rfl := Option.some.inj h
      kernel_rfl
  refine .a 1 <| ?_
  obtain ⟨x15, hx15, h⟩ := of_bind h
  refine .merge 6 [53, 54, 55, 56, 57] 58 (.d (eB x15)) ?_ ?_
  · replace h := hx15
    cases x12 with
    | true =>
      replace h := of_bif_true rfl h
      obtain ⟨x17, hx17, h⟩ := of_bind h
      refine .a 4 <| .call (R06_SameLevels_ok p0_a.Levels p1_b.Levels x17 hx17) ent105 <| .a 1 <| .nil ?_
      obtain rfl := Option.some.inj h
      kernel_rfl
    | false =>
      replace h := of_bif_false rfl h
      refine .a 6 <| .nil ?_
      obtain rfl := Option.some.inj h
      kernel_rfl
  refine .a 1 <| .nil ?_
  refine SP.ret ?_
  rw [← Option.some.inj h]
  exact ⟨[.d (eB x15)], [], ⟨resV_tmp (by kernel_rfl), trivial⟩, by kernel_rfl, by kernel_rfl, by kernel_rfl⟩

-- fedchat/fedchatref07.Same
def R07_Same (p0_a : ApiEvent) (p1_b : ApiEvent) : Option Bool := (bif (p0_a.Id == p1_b.Id) then some (p0_a.Room.toList == p1_b.Room.toList) else some false).bind fun x1 => (bif x1 then some (p0_a.Sender.toList == p1_b.Sender.toList) else some false).bind fun x3 => (bif x3 then some (p0_a.Kind == p1_b.Kind) else some false).bind fun x5 => (bif x5 then some (p0_a.State == p1_b.State) else some false).bind fun x7 => (bif x7 then some (p0_a.Key.toList == p1_b.Key.toList) else some false).bind fun x9 => (bif x9 then some (p0_a.Time == p1_b.Time) else some false).bind fun x11 => (bif x11 then some (p0_a.Depth == p1_b.Depth) else some false).bind fun x13 => (bif x13 then (R01_Same p0_a.Prev p1_b.Prev).bind fun x17 => some x17 else some false).bind fun x15 => (bif x15 then (R01_Same p0_a.Auth p1_b.Auth).bind fun x20 => some x20 else some false).bind fun x18 => (bif x18 then (R06_Same p0_a.Content p1_b.Content).bind fun x23 => some x23 else some false).bind fun x21 => (bif x21 then some (p0_a.Hash == p1_b.Hash) else some false).bind fun x24 => (bif x24 then some (p0_a.Sig.Server.toList == p1_b.Sig.Server.toList) else some false).bind fun x26 => (bif x26 then some (p0_a.Sig.Sum == p1_b.Sig.Sum) else some false).bind fun x28 => some x28
theorem R07_Same_ok (p0_a : ApiEvent) (p1_b : ApiEvent) (r : Bool) (h : R07_Same p0_a p1_b = some r) : Runs Tryz.prog 54 [.d (eApiEvent p0_a), .d (eApiEvent p1_b)] [] (.d (eB r)) [] := by
  refine Runs.of_fin Tryz.func54 rfl ?_
  unfold R07_Same at h
  refine SP.rg <| .a 3 <| .nil ?_
  refine SP.rg <| .a 5 <| ?_
  obtain ⟨x1, hx1, h⟩ := of_bind h
  refine .merge 7 [10, 11, 12, 13, 14, 15] 16 (.d (eB x1)) ?_ ?_
  · replace h := hx1
    rcases Bool.eq_false_or_eq_true (p0_a.Id == p1_b.Id) with hb2 | hb2
    · replace h := of_bif_true hb2 h
      refine .c (congrArg some hb2) <| .a 6 <| .nil ?_
      obtain rfl := Option.some.inj h
      kernel_rfl
    · replace h := of_bif_false hb2 h
      refine .c (congrArg some hb2) <| .a 6 <| .nil ?_
      obtain rfl := Option.some.inj h
      kernel_rfl
  refine .a 1 <| ?_
  obtain ⟨x3, hx3, h⟩ := of_bind h
  refine .merge 6 [18, 19, 20, 21, 22] 23 (.d (eB x3)) ?_ ?_
  · replace h := hx3
    cases x1 with
    | true =>
      replace h := of_bif_true rfl h
      refine .a 6 <| .nil ?_
      obtain rfl := Option.some.inj h
      kernel_rfl
    | false =>
      replace h := of_bif_false rfl h
      refine .a 6 <| .nil ?_
      obtain rfl := Option.some.inj h
      kernel_rfl
  refine .a 1 <| ?_
  obtain ⟨x5, hx5, h⟩ := of_bind h
  refine .merge 6 [25, 26, 27, 28, 29] 30 (.d (eB x5)) ?_ ?_
  · replace h := hx5
    cases x3 with
    | true =>
      replace h := of_bif_true rfl h
      refine .a 6 <| .nil ?_
      obtain rfl := Option.some.inj h
      kernel_rfl
    | false =>
      replace h := of_bif_false rfl h
      refine .a 6 <| .nil ?_
      obtain rfl := Option.some.inj h
      kernel_rfl
  refine .a 1 <| ?_
  obtain ⟨x7, hx7, h⟩ := of_bind h
  refine .merge 6 [32, 33, 34, 35, 36] 37 (.d (eB x7)) ?_ ?_
  · replace h := hx7
    cases x5 with
    | true =>
      replace h := of_bif_true rfl h
      refine .a 6 <| .nil ?_
      obtain rfl := Option.some.inj h
      kernel_rfl
    | false =>
      replace h := of_bif_false rfl h
      refine .a 6 <| .nil ?_
      obtain rfl := Option.some.inj h
      kernel_rfl
  refine .a 1 <| ?_
  obtain ⟨x9, hx9, h⟩ := of_bind h
  refine .merge 6 [39, 40, 41, 42, 43] 44 (.d (eB x9)) ?_ ?_
  · replace h := hx9
    cases x7 with
    | true =>
      replace h := of_bif_true rfl h
      refine .a 6 <| .nil ?_
      obtain rfl := Option.some.inj h
      kernel_rfl
    | false =>
      replace h := of_bif_false rfl h
      refine .a 6 <| .nil ?_
      obtain rfl := Option.some.inj h
      kernel_rfl
  refine .a 1 <| ?_
  obtain ⟨x11, hx11, h⟩ := of_bind h
  refine .merge 6 [46, 47, 48, 49, 50] 51 (.d (eB x11)) ?_ ?_
  · replace h := hx11
    cases x9 with
    | true =>
      replace h := of_bif_true rfl h
      refine .a 6 <| .nil ?_
      obtain rfl := Option.some.inj h
      kernel_rfl
    | false =>
      replace h := of_bif_false rfl h
      refine .a 6 <| .nil ?_
      obtain rfl := Option.some.inj h
      kernel_rfl
  refine .a 1 <| ?_
  obtain ⟨x13, hx13, h⟩ := of_bind h
  refine .merge 6 [53, 54, 55, 56, 57] 58 (.d (eB x13)) ?_ ?_
  · replace h := hx13
    cases x11 with
    | true =>
      replace h := of_bif_true rfl h
      refine .a 6 <| .nil ?_
      obtain rfl := Option.some.inj h
      kernel_rfl
    | false =>
      replace h := of_bif_false rfl h
      refine .a 6 <| .nil ?_
      obtain rfl := Option.some.inj h
      kernel_rfl
  refine .a 1 <| ?_
  obtain ⟨x15, hx15, h⟩ := of_bind h
  refine .merge 6 [60, 61, 62, 63, 64] 65 (.d (eB x15)) ?_ ?_
  · replace h := hx15
    cases x13 with
    | true =>
      replace h := of_bif_true rfl h
      obtain ⟨x17, hx17, h⟩ := of_bind h
      refine .a 4 <| .call (R01_Same_ok p0_a.Prev p1_b.Prev x17 hx17) ent31 <| .a 1 <| .nil ?_
      obtain rfl := Option.some.inj h
      kernel_rfl
    | false =>
      replace h := of_bif_false rfl h
      refine .a 6 <| .nil ?_
      obtain rfl := Option.some.inj h
      kernel_rfl
  refine .a 1 <| ?_
  obtain ⟨x18, hx18, h⟩ := of_bind h
  refine .merge 6 [67, 68, 69, 70, 71] 72 (.d (eB x18)) ?_ ?_
  · replace h := hx18
    cases x15 with
    | true =>
      replace h := of_bif_true rfl h
      obtain ⟨x20, hx20, h⟩ := of_bind h
      refine .a 4 <| .call (R01_Same_ok p0_a.Auth p1_b.Auth x20 hx20) ent31 <| .a 1 <| .nil ?_
      obtain rfl := Option.some.inj h
      kernel_rfl
    | false =>
      replace h := of_bif_false rfl h
      refine .a 6 <| .nil ?_
      obtain rfl := Option.some.inj h
      kernel_rfl
  refine .a 1 <| ?_
  obtain ⟨x21, hx21, h⟩ := of_bind h
  refine .merge 6 [74, 75, 76, 77, 78] 79 (.d (eB x21)) ?_ ?_
  · replace h := hx21
    cases x18 with
    | true =>
      replace h := of_bif_true rfl h
      obtain ⟨x23, hx23, h⟩ := of_bind h
      refine .a 4 <| .call (R06_Same_ok p0_a.Content p1_b.Content x23 hx23) ent61 <| .a 1 <| .nil ?_
      obtain rfl := Option.some.inj h
      kernel_rfl
    | false =>
      replace h := of_bif_false rfl h
      refine .a 6 <| .nil ?_
      obtain rfl := Option.some.inj h
      kernel_rfl
  refine .a 1 <| ?_
  obtain ⟨x24, hx24, h⟩ := of_bind h
  refine .merge 6 [81, 82, 83, 84, 85] 86 (.d (eB x24)) ?_ ?_
  · replace h := hx24
    cases x21 with
    | true =>
      replace h := of_bif_true rfl h
      refine .a 6 <| .nil ?_
      obtain rfl := Option.some.inj h
      kernel_rfl
    | false =>
      replace h := of_bif_false rfl h
      refine .a 6 <| .nil ?_
      obtain rfl := Option.some.inj h
      kernel_rfl
  refine .a 1 <| ?_
  obtain ⟨x26, hx26, h⟩ := of_bind h
  refine .merge 8 [88, 89, 90, 91, 92, 93, 94] 95 (.d (eB x26)) ?_ ?_
  · replace h := hx26
    cases x24 with
    | true =>
      replace h := of_bif_true rfl h
      refine .a 8 <| .nil ?_
      obtain rfl := Option.some.inj h
      kernel_rfl
    | false =>
      replace h := of_bif_false rfl h
      refine .a 8 <| .nil ?_
      obtain rfl := Option.some.inj h
      kernel_rfl
  refine .a 1 <| ?_
  obtain ⟨x28, hx28, h⟩ := of_bind h
  refine .merge 8 [97, 98, 99, 100, 101, 102, 103] 104 (.d (eB x28)) ?_ ?_
  · replace h := hx28
    cases x26 with
    | true =>
      replace h := of_bif_true rfl h
      refine .a 8 <| .nil ?_
      obtain rfl := Option.some.inj h
      kernel_rfl
    | false =>
      replace h := of_bif_false rfl h
      refine .a 8 <| .nil ?_
      obtain rfl := Option.some.inj h
      kernel_rfl
  refine .a 1 <| .nil ?_
  refine SP.ret ?_
  rw [← Option.some.inj h]
  exact ⟨[.d (eB x28)], [], ⟨resV_tmp (by kernel_rfl), trivial⟩, by kernel_rfl, by kernel_rfl, by kernel_rfl⟩

-- fedchat/fedchatref07.SameAll
def R07_SameAll_S1 (p0_a : (List ApiEvent)) (p1_b : (List ApiEvent)) (v2 : Int) : St := ⟨shp 27 [(0, .d ((eL eApiEvent) p0_a)), (1, .d ((eL eApiEvent) p1_b)), (5, .d (eI v2))], [], 0⟩
def R07_SameAll_B1 (p0_a : (List ApiEvent)) (p1_b : (List ApiEvent)) (k3 : (Int → Option Bool)) : Int → Option Bool := fun v2 => (bif decide (v2 < (p0_a.length : Int)) then (gIdx p0_a v2).bind fun x5 => (gIdx p1_b v2).bind fun x6 => (R07_Same x5 x6).bind fun x7 => (bif (!x7) then some false else k3 (IntKind.i64.wrap (v2 + 1))) else some true)
def R07_SameAll_L1 (p0_a : (List ApiEvent)) (p1_b : (List ApiEvent)) : Int → Option Bool := loop1 (R07_SameAll_B1 p0_a p1_b) fuel
def R07_SameAll (p0_a : (List ApiEvent)) (p1_b : (List ApiEvent)) : Option Bool := (bif ((p0_a.length : Int) != (p1_b.length : Int)) then some false else R07_SameAll_L1 p0_a p1_b 0)
theorem R07_SameAll_ok (p0_a : (List ApiEvent)) (p1_b : (List ApiEvent)) (r : Bool) (h : R07_SameAll p0_a p1_b = some r) : Runs Tryz.prog 30 [.d ((eL eApiEvent) p0_a), .d ((eL eApiEvent) p1_b)] [] (.d (eB r)) [] := by
  refine Runs.of_fin Tryz.func30 rfl ?_
  unfold R07_SameAll at h
  refine SP.rg <| .a 1 <| .nil ?_
  refine SP.seqc ?_
  refine SP.rg <| .a 1 <| .p (ok_lenT eApiEvent p0_a und52 rfl) <| .a 1 <| .p (ok_lenT eApiEvent p1_b und52 rfl) <| .a 1 <| .nil ?_
  refine SP.cond ((p0_a.length : Int) != (p1_b.length : Int)) (by kernel_rfl) (fun hb1 => ?_) (fun hb1 => ?_)
  · replace h := of_bif_true hb1 h
    refine SP.rg <| .a 1 <| .nil ?_
    refine SP.ret ?_
    rw [← Option.some.inj h]
    exact ⟨[.d (eB false)], [], ⟨resV_tmp (by kernel_rfl), trivial⟩, by kernel_rfl, by kernel_rfl, by kernel_rfl⟩
  · replace h := of_bif_false hb1 h
    refine SP.skip ?_
    refine SP.seqc ?_
    refine SP.rg <| .a 1 <| .nil ?_
    refine SP.block ?_
    refine SP.loop1 (R07_SameAll_S1 p0_a p1_b) (R07_SameAll_B1 p0_a p1_b) r 0 (sub_of (mk 27 35) []) h ?_
    clear h
    intro J9 k3 hk3 v2 h
    unfold R07_SameAll_B1 at h
    refine SP.seqc ?_
    refine SP.rg <| .a 2 <| .p (ok_lenT eApiEvent p0_a und52 rfl) <| .a 1 <| .nil ?_
    refine SP.cond (decide (v2 < (p0_a.length : Int))) (by kernel_rfl) (fun hb4 => ?_) (fun hb4 => ?_)
    · replace h := of_bif_true hb4 h
      refine SP.skip ?_
      refine SP.seqc ?_
      refine SP.block ?_
      obtain ⟨x5, hx5, h⟩ := of_bind h
      obtain ⟨x6, hx6, h⟩ := of_bind h
      obtain ⟨x7, hx7, h⟩ := of_bind h
      refine SP.dseq (by kernel_rfl) (by kernel_rfl) (by kernel_rfl) (.a 2 <| .p (ok_idxT (k := .i64) eApiEvent hx5 und52 ty43 (by kernel_rfl) rfl) <| .a 3 <| .p (ok_idxT (k := .i64) eApiEvent hx6 und52 ty43 (by kernel_rfl) rfl) <| .a 1 <| .call (R07_Same_ok x5 x6 x7 hx7) ent54 <| .a 1 <| .nil _) ?_
      refine SP.cond (!x7) (by kernel_rfl) (fun hb8 => ?_) (fun hb8 => ?_)
      · replace h := of_bif_true hb8 h
        refine SP.rg <| .a 1 <| .nil ?_
        refine SP.ret ?_
        rw [← Option.some.inj h]
        exact ⟨[.d (eB false)], [], ⟨resV_tmp (by kernel_rfl), trivial⟩, by kernel_rfl, by kernel_rfl, by kernel_rfl⟩
      · replace h := of_bif_false hb8 h
        refine SP.skip ?_
        refine SP.rgn <| .a 3 <| .nil ?_
        exact hk3 _ (IntKind.i64.wrap (v2 + 1)) (sub_of (mk 27 35) []) h
    · replace h := of_bif_false hb4 h
      refine SP.exit ?_
      refine SP.rg <| .a 1 <| .nil ?_
      refine SP.ret ?_
      rw [← Option.some.inj h]
      exact ⟨[.d (eB true)], [], ⟨resV_tmp (by kernel_rfl), trivial⟩, by kernel_rfl, by kernel_rfl, by kernel_rfl⟩

-- fedchat/fedchatref33.Same
def R33_Same_S1 (p0_a : (List ApiPacket)) (p1_b : (List ApiPacket)) (v2 : Int) : St := ⟨shp 148 [(0, .d ((eL eApiPacket) p0_a)), (1, .d ((eL eApiPacket) p1_b)), (5, .d (eI v2))], [], 0⟩
def R33_Same_S2 (p0_a : (List ApiPacket)) (p1_b : (List ApiPacket)) (v2 : Int) (v5 : Bool) : St := ⟨shp 148 [(0, .d ((eL eApiPacket) p0_a)), (1, .d ((eL eApiPacket) p1_b)), (5, .d (eI v2)), (147, .d (eB v5))], [], 0⟩
def R33_Same_j2 (k3 : (Int → Option Bool)) (v2 : Int) (v5 : Bool) : Option Bool := (bif v5 then some false else k3 (IntKind.i64.wrap (v2 + 1)))
def R33_Same_B1 (p0_a : (List ApiPacket)) (p1_b : (List ApiPacket)) (k3 : (Int → Option Bool)) : Int → Option Bool := fun v2 => (bif decide (v2 < (p0_a.length : Int)) then (gIdx p0_a v2).bind fun x8 => (gIdx p1_b v2).bind fun x9 => (bif (!(x8.From.toList == x9.From.toList)) then R33_Same_j2 k3 v2 true else (gIdx p0_a v2).bind fun x11 => (gIdx p1_b v2).bind fun x12 => (bif (!(x11.To.toList == x12.To.toList)) then R33_Same_j2 k3 v2 true else (gIdx p0_a v2).bind fun x14 => (gIdx p1_b v2).bind fun x15 => (bif (x14.Kind != x15.Kind) then R33_Same_j2 k3 v2 true else (gIdx p0_a v2).bind fun x17 => (gIdx p1_b v2).bind fun x18 => (bif (x17.N != x18.N) then R33_Same_j2 k3 v2 true else (gIdx p0_a v2).bind fun x20 => (gIdx p1_b v2).bind fun x21 => (bif (!(x20.Room.toList == x21.Room.toList)) then R33_Same_j2 k3 v2 true else (gIdx p0_a v2).bind fun x23 => (gIdx p1_b v2).bind fun x24 => (bif (!(x23.User.toList == x24.User.toList)) then R33_Same_j2 k3 v2 true else (gIdx p0_a v2).bind fun x26 => (gIdx p1_b v2).bind fun x27 => (bif (x26.Err != x27.Err) then R33_Same_j2 k3 v2 true else (gIdx p0_a v2).bind fun x29 => (gIdx p1_b v2).bind fun x30 => (R07_SameAll x29.Events x30.Events).bind fun x31 => (bif (!x31) then R33_Same_j2 k3 v2 true else (gIdx p0_a v2).bind fun x33 => (gIdx p1_b v2).bind fun x34 => (R01_Same x33.Ids x34.Ids).bind fun x35 => (bif (!x35) then R33_Same_j2 k3 v2 true else (gIdx p0_a v2).bind fun x37 => (gIdx p1_b v2).bind fun x38 => (R07_SameAll x37.Auth x38.Auth).bind fun x39 => R33_Same_j2 k3 v2 (!x39)))))))))) else some true)
def R33_Same_L1 (p0_a : (List ApiPacket)) (p1_b : (List ApiPacket)) : Int → Option Bool := loop1 (R33_Same_B1 p0_a p1_b) fuel
def R33_Same (p0_a : (List ApiPacket)) (p1_b : (List ApiPacket)) : Option Bool := (bif ((p0_a.length : Int) != (p1_b.length : Int)) then some false else R33_Same_L1 p0_a p1_b 0)
theorem R33_Same_ok (p0_a : (List ApiPacket)) (p1_b : (List ApiPacket)) (r : Bool) (h : R33_Same p0_a p1_b = some r) : Runs Tryz.prog 9 [.d ((eL eApiPacket) p0_a), .d ((eL eApiPacket) p1_b)] [] (.d (eB r)) [] := by
  refine Runs.of_fin Tryz.func9 rfl ?_
  unfold R33_Same at h
  refine SP.rg <| .a 1 <| .nil ?_
  refine SP.seqc ?_
  refine SP.rg <| .a 1 <| .p (ok_lenT eApiPacket p0_a und25 rfl) <| .a 1 <| .p (ok_lenT eApiPacket p1_b und25 rfl) <| .a 1 <| .nil ?_
  refine SP.cond ((p0_a.length : Int) != (p1_b.length : Int)) (by kernel_rfl) (fun hb1 => ?_) (fun hb1 => ?_)
  · replace h := of_bif_true hb1 h
    refine SP.rg <| .a 1 <| .nil ?_
    refine SP.ret ?_
    rw [← Option.some.inj h]
    exact ⟨[.d (eB false)], [], ⟨resV_tmp (by kernel_rfl), trivial⟩, by kernel_rfl, by kernel_rfl, by kernel_rfl⟩
  · replace h := of_bif_false hb1 h
    refine SP.skip ?_
    refine SP.seqc ?_
    refine SP.rg <| .a 1 <| .nil ?_
    refine SP.block ?_
    refine SP.loop1 (R33_Same_S1 p0_a p1_b) (R33_Same_B1 p0_a p1_b) r 0 (sub_of (mk 148 35) []) h ?_
    clear h
    intro J40 k3 hk3 v2 h
    unfold R33_Same_B1 at h
    refine SP.seqc ?_
    refine SP.rg <| .a 2 <| .p (ok_lenT eApiPacket p0_a und25 rfl) <| .a 1 <| .nil ?_
    refine SP.cond (decide (v2 < (p0_a.length : Int))) (by kernel_rfl) (fun hb4 => ?_) (fun hb4 => ?_)
    · replace h := of_bif_true hb4 h
      refine SP.skip ?_
      refine SP.seqc ?_
      refine SP.block ?_
      refine SP.join (fun s => ∃ (v5 : Bool), Sub s (R33_Same_S2 p0_a p1_b v2 v5) ∧ R33_Same_j2 k3 v2 v5 = some r) ?_ ?_
      · clear h
        rintro s ⟨v5, hs, h⟩
        refine SP.sub hs ?_
        clear hs
        unfold R33_Same_j2 at h
        refine SP.cond v5 (by kernel_rfl) (fun hb6 => ?_) (fun hb6 => ?_)
        · replace h := of_bif_true hb6 h
          refine SP.rg <| .a 1 <| .nil ?_
          refine SP.ret ?_
          rw [← Option.some.inj h]
          exact ⟨[.d (eB false)], [], ⟨resV_tmp (by kernel_rfl), trivial⟩, by kernel_rfl, by kernel_rfl, by kernel_rfl⟩
        · replace h := of_bif_false hb6 h
          refine SP.skip ?_
          refine SP.rgn <| .a 3 <| .nil ?_
          exact hk3 _ (IntKind.i64.wrap (v2 + 1)) (sub_of (mk 148 35) []) h
      · intro K7
        obtain ⟨x8, hx8, h⟩ := of_bind h
        obtain ⟨x9, hx9, h⟩ := of_bind h
        rcases Bool.eq_false_or_eq_true (!(x8.From.toList == x9.From.toList)) with hb10 | hb10
        · replace h := of_bif_true hb10 h
          refine SP.draw (by kernel_rfl) (by kernel_rfl) (by kernel_rfl) (.a 2 <| .p (ok_idxT (k := .i64) eApiPacket hx8 und25 ty57 (by kernel_rfl) rfl) <| .a 4 <| .p (ok_idxT (k := .i64) eApiPacket hx9 und25 ty57 (by kernel_rfl) rfl) <| .a 3 <| .c (congrArg some hb10) <| .a 119 <| .nil _) ?_
          exact K7 _ ⟨true, sub_of (mk 148 178405961588244985132285746181186892047843363) [], h⟩
        · replace h := of_bif_false hb10 h
          obtain ⟨x11, hx11, h⟩ := of_bind h
          obtain ⟨x12, hx12, h⟩ := of_bind h
          rcases Bool.eq_false_or_eq_true (!(x11.To.toList == x12.To.toList)) with hb13 | hb13
          · replace h := of_bif_true hb13 h
            refine SP.draw (by kernel_rfl) (by kernel_rfl) (by kernel_rfl) (.a 2 <| .p (ok_idxT (k := .i64) eApiPacket hx8 und25 ty57 (by kernel_rfl) rfl) <| .a 4 <| .p (ok_idxT (k := .i64) eApiPacket hx9 und25 ty57 (by kernel_rfl) rfl) <| .a 3 <| .c (congrArg some hb10) <| .a 2 <| .p (ok_idxT (k := .i64) eApiPacket hx11 und25 ty57 (by kernel_rfl) rfl) <| .a 4 <| .p (ok_idxT (k := .i64) eApiPacket hx12 und25 ty57 (by kernel_rfl) rfl) <| .a 4 <| .c (congrArg some hb13) <| .a 106 <| .nil _) ?_
            exact K7 _ ⟨true, sub_of (mk 148 178405961588244985132285746181186892047843363) [], h⟩
          · replace h := of_bif_false hb13 h
            obtain ⟨x14, hx14, h⟩ := of_bind h
            obtain ⟨x15, hx15, h⟩ := of_bind h
            rcases Bool.eq_false_or_eq_true (x14.Kind != x15.Kind) with hb16 | hb16
            · replace h := of_bif_true hb16 h
              refine SP.draw (by kernel_rfl) (by kernel_rfl) (by kernel_rfl) (.a 2 <| .p (ok_idxT (k := .i64) eApiPacket hx8 und25 ty57 (by kernel_rfl) rfl) <| .a 4 <| .p (ok_idxT (k := .i64) eApiPacket hx9 und25 ty57 (by kernel_rfl) rfl) <| .a 3 <| .c (congrArg some hb10) <| .a 2 <| .p (ok_idxT (k := .i64) eApiPacket hx11 und25 ty57 (by kernel_rfl) rfl) <| .a 4 <| .p (ok_idxT (k := .i64) eApiPacket hx12 und25 ty57 (by kernel_rfl) rfl) <| .a 4 <| .c (congrArg some hb13) <| .a 2 <| .p (ok_idxT (k := .i64) eApiPacket hx14 und25 ty57 (by kernel_rfl) rfl) <| .a 4 <| .p (ok_idxT (k := .i64) eApiPacket hx15 und25 ty57 (by kernel_rfl) rfl) <| .a 4 <| .c (congrArg some hb16) <| .a 93 <| .nil _) ?_
              exact K7 _ ⟨true, sub_of (mk 148 178405961588244985132285746181186892047843363) [], h⟩
            · replace h := of_bif_false hb16 h
              obtain ⟨x17, hx17, h⟩ := of_bind h
              obtain ⟨x18, hx18, h⟩ := of_bind h
              rcases Bool.eq_false_or_eq_true (x17.N != x18.N) with hb19 | hb19
              · replace h := of_bif_true hb19 h
                refine SP.draw (by kernel_rfl) (by kernel_rfl) (by kernel_rfl) (.a 2 <| .p (ok_idxT (k := .i64) eApiPacket hx8 und25 ty57 (by kernel_rfl) rfl) <| .a 4 <| .p (ok_idxT (k := .i64) eApiPacket hx9 und25 ty57 (by kernel_rfl) rfl) <| .a 3 <| .c (congrArg some hb10) <| .a 2 <| .p (ok_idxT (k := .i64) eApiPacket hx11 und25 ty57 (by kernel_rfl) rfl) <| .a 4 <| .p (ok_idxT (k := .i64) eApiPacket hx12 und25 ty57 (by kernel_rfl) rfl) <| .a 4 <| .c (congrArg some hb13) <| .a 2 <| .p (ok_idxT (k := .i64) eApiPacket hx14 und25 ty57 (by kernel_rfl) rfl) <| .a 4 <| .p (ok_idxT (k := .i64) eApiPacket hx15 und25 ty57 (by kernel_rfl) rfl) <| .a 4 <| .c (congrArg some hb16) <| .a 2 <| .p (ok_idxT (k := .i64) eApiPacket hx17 und25 ty57 (by kernel_rfl) rfl) <| .a 4 <| .p (ok_idxT (k := .i64) eApiPacket hx18 und25 ty57 (by kernel_rfl) rfl) <| .a 4 <| .c (congrArg some hb19) <| .a 80 <| .nil _) ?_
                exact K7 _ ⟨true, sub_of (mk 148 178405961588244985132285746181186892047843363) [], h⟩
              · replace h := of_bif_false hb19 h
                obtain ⟨x20, hx20, h⟩ := of_bind h
                obtain ⟨x21, hx21, h⟩ := of_bind h
                rcases Bool.eq_false_or_eq_true (!(x20.Room.toList == x21.Room.toList)) with hb22 | hb22
                · replace h := of_bif_true hb22 h
                  refine SP.draw (by kernel_rfl) (by kernel_rfl) (by kernel_rfl) (.a 2 <| .p (ok_idxT (k := .i64) eApiPacket hx8 und25 ty57 (by kernel_rfl) rfl) <| .a 4 <| .p (ok_idxT (k := .i64) eApiPacket hx9 und25 ty57 (by kernel_rfl) rfl) <| .a 3 <| .c (congrArg some hb10) <| .a 2 <| .p (ok_idxT (k := .i64) eApiPacket hx11 und25 ty57 (by kernel_rfl) rfl) <| .a 4 <| .p (ok_idxT (k := .i64) eApiPacket hx12 und25 ty57 (by kernel_rfl) rfl) <| .a 4 <| .c (congrArg some hb13) <| .a 2 <| .p (ok_idxT (k := .i64) eApiPacket hx14 und25 ty57 (by kernel_rfl) rfl) <| .a 4 <| .p (ok_idxT (k := .i64) eApiPacket hx15 und25 ty57 (by kernel_rfl) rfl) <| .a 4 <| .c (congrArg some hb16) <| .a 2 <| .p (ok_idxT (k := .i64) eApiPacket hx17 und25 ty57 (by kernel_rfl) rfl) <| .a 4 <| .p (ok_idxT (k := .i64) eApiPacket hx18 und25 ty57 (by kernel_rfl) rfl) <| .a 4 <| .c (congrArg some hb19) <| .a 2 <| .p (ok_idxT (k := .i64) eApiPacket hx20 und25 ty57 (by kernel_rfl) rfl) <| .a 4 <| .p (ok_idxT (k := .i64) eApiPacket hx21 und25 ty57 (by kernel_rfl) rfl) <| .a 4 <| .c (congrArg some hb22) <| .a 67 <| .nil _) ?_
                  exact K7 _ ⟨true, sub_of (mk 148 178405961588244985132285746181186892047843363) [], h⟩
                · replace h := of_bif_false hb22 h
                  obtain ⟨x23, hx23, h⟩ := of_bind h
                  obtain ⟨x24, hx24, h⟩ := of_bind h
                  rcases Bool.eq_false_or_eq_true (!(x23.User.toList == x24.User.toList)) with hb25 | hb25
                  · replace h := of_bif_true hb25 h
                    refine SP.draw (by kernel_rfl) (by kernel_rfl) (by kernel_rfl) (.a 2 <| .p (ok_idxT (k := .i64) eApiPacket hx8 und25 ty57 (by kernel_rfl) rfl) <| .a 4 <| .p (ok_idxT (k := .i64) eApiPacket hx9 und25 ty57 (by kernel_rfl) rfl) <| .a 3 <| .c (congrArg some hb10) <| .a 2 <| .p (ok_idxT (k := .i64) eApiPacket hx11 und25 ty57 (by kernel_rfl) rfl) <| .a 4 <| .p (ok_idxT (k := .i64) eApiPacket hx12 und25 ty57 (by kernel_rfl) rfl) <| .a 4 <| .c (congrArg some hb13) <| .a 2 <| .p (ok_idxT (k := .i64) eApiPacket hx14 und25 ty57 (by kernel_rfl) rfl) <| .a 4 <| .p (ok_idxT (k := .i64) eApiPacket hx15 und25 ty57 (by kernel_rfl) rfl) <| .a 4 <| .c (congrArg some hb16) <| .a 2 <| .p (ok_idxT (k := .i64) eApiPacket hx17 und25 ty57 (by kernel_rfl) rfl) <| .a 4 <| .p (ok_idxT (k := .i64) eApiPacket hx18 und25 ty57 (by kernel_rfl) rfl) <| .a 4 <| .c (congrArg some hb19) <| .a 2 <| .p (ok_idxT (k := .i64) eApiPacket hx20 und25 ty57 (by kernel_rfl) rfl) <| .a 4 <| .p (ok_idxT (k := .i64) eApiPacket hx21 und25 ty57 (by kernel_rfl) rfl) <| .a 4 <| .c (congrArg some hb22) <| .a 2 <| .p (ok_idxT (k := .i64) eApiPacket hx23 und25 ty57 (by kernel_rfl) rfl) <| .a 4 <| .p (ok_idxT (k := .i64) eApiPacket hx24 und25 ty57 (by kernel_rfl) rfl) <| .a 4 <| .c (congrArg some hb25) <| .a 54 <| .nil _) ?_
                    exact K7 _ ⟨true, sub_of (mk 148 178405961588244985132285746181186892047843363) [], h⟩
                  · replace h := of_bif_false hb25 h
                    obtain ⟨x26, hx26, h⟩ := of_bind h
                    obtain ⟨x27, hx27, h⟩ := of_bind h
                    rcases Bool.eq_false_or_eq_true (x26.Err != x27.Err) with hb28 | hb28
                    · replace h := of_bif_true hb28 h
                      refine SP.draw (by kernel_rfl) (by kernel_rfl) (by kernel_rfl) (.a 2 <| .p (ok_idxT (k := .i64) eApiPacket hx8 und25 ty57 (by kernel_rfl) rfl) <| .a 4 <| .p (ok_idxT (k := .i64) eApiPacket hx9 und25 ty57 (by kernel_rfl) rfl) <| .a 3 <| .c (congrArg some hb10) <| .a 2 <| .p (ok_idxT (k := .i64) eApiPacket hx11 und25 ty57 (by kernel_rfl) rfl) <| .a 4 <| .p (ok_idxT (k := .i64) eApiPacket hx12 und25 ty57 (by kernel_rfl) rfl) <| .a 4 <| .c (congrArg some hb13) <| .a 2 <| .p (ok_idxT (k := .i64) eApiPacket hx14 und25 ty57 (by kernel_rfl) rfl) <| .a 4 <| .p (ok_idxT (k := .i64) eApiPacket hx15 und25 ty57 (by kernel_rfl) rfl) <| .a 4 <| .c (congrArg some hb16) <| .a 2 <| .p (ok_idxT (k := .i64) eApiPacket hx17 und25 ty57 (by kernel_rfl) rfl) <| .a 4 <| .p (ok_idxT (k := .i64) eApiPacket hx18 und25 ty57 (by kernel_rfl) rfl) <| .a 4 <| .c (congrArg some hb19) <| .a 2 <| .p (ok_idxT (k := .i64) eApiPacket hx20 und25 ty57 (by kernel_rfl) rfl) <| .a 4 <| .p (ok_idxT (k := .i64) eApiPacket hx21 und25 ty57 (by kernel_rfl) rfl) <| .a 4 <| .c (congrArg some hb22) <| .a 2 <| .p (ok_idxT (k := .i64) eApiPacket hx23 und25 ty57 (by kernel_rfl) rfl) <| .a 4 <| .p (ok_idxT (k := .i64) eApiPacket hx24 und25 ty57 (by kernel_rfl) rfl) <| .a 4 <| .c (congrArg some hb25) <| .a 2 <| .p (ok_idxT (k := .i64) eApiPacket hx26 und25 ty57 (by kernel_rfl) rfl) <| .a 4 <| .p (ok_idxT (k := .i64) eApiPacket hx27 und25 ty57 (by kernel_rfl) rfl) <| .a 4 <| .c (congrArg some hb28) <| .a 41 <| .nil _) ?_
                      exact K7 _ ⟨true, sub_of (mk 148 178405961588244985132285746181186892047843363) [], h⟩
                    · replace h := of_bif_false hb28 h
                      obtain ⟨x29, hx29, h⟩ := of_bind h
                      obtain ⟨x30, hx30, h⟩ := of_bind h
                      obtain ⟨x31, hx31, h⟩ := of_bind h
                      rcases Bool.eq_false_or_eq_true (!x31) with hb32 | hb32
                      · replace h := of_bif_true hb32 h
                        refine SP.draw (by kernel_rfl) (by kernel_rfl) (by kernel_rfl) (.a 2 <| .p (ok_idxT (k := .i64) eApiPacket hx8 und25 ty57 (by kernel_rfl) rfl) <| .a 4 <| .p (ok_idxT (k := .i64) eApiPacket hx9 und25 ty57 (by kernel_rfl) rfl) <| .a 3 <| .c (congrArg some hb10) <| .a 2 <| .p (ok_idxT (k := .i64) eApiPacket hx11 und25 ty57 (by kernel_rfl) rfl) <| .a 4 <| .p (ok_idxT (k := .i64) eApiPacket hx12 und25 ty57 (by kernel_rfl) rfl) <| .a 4 <| .c (congrArg some hb13) <| .a 2 <| .p (ok_idxT (k := .i64) eApiPacket hx14 und25 ty57 (by kernel_rfl) rfl) <| .a 4 <| .p (ok_idxT (k := .i64) eApiPacket hx15 und25 ty57 (by kernel_rfl) rfl) <| .a 4 <| .c (congrArg some hb16) <| .a 2 <| .p (ok_idxT (k := .i64) eApiPacket hx17 und25 ty57 (by kernel_rfl) rfl) <| .a 4 <| .p (ok_idxT (k := .i64) eApiPacket hx18 und25 ty57 (by kernel_rfl) rfl) <| .a 4 <| .c (congrArg some hb19) <| .a 2 <| .p (ok_idxT (k := .i64) eApiPacket hx20 und25 ty57 (by kernel_rfl) rfl) <| .a 4 <| .p (ok_idxT (k := .i64) eApiPacket hx21 und25 ty57 (by kernel_rfl) rfl) <| .a 4 <| .c (congrArg some hb22) <| .a 2 <| .p (ok_idxT (k := .i64) eApiPacket hx23 und25 ty57 (by kernel_rfl) rfl) <| .a 4 <| .p (ok_idxT (k := .i64) eApiPacket hx24 und25 ty57 (by kernel_rfl) rfl) <| .a 4 <| .c (congrArg some hb25) <| .a 2 <| .p (ok_idxT (k := .i64) eApiPacket hx26 und25 ty57 (by kernel_rfl) rfl) <| .a 4 <| .p (ok_idxT (k := .i64) eApiPacket hx27 und25 ty57 (by kernel_rfl) rfl) <| .a 4 <| .c (congrArg some hb28) <| .a 2 <| .p (ok_idxT (k := .i64) eApiPacket hx29 und25 ty57 (by kernel_rfl) rfl) <| .a 4 <| .p (ok_idxT (k := .i64) eApiPacket hx30 und25 ty57 (by kernel_rfl) rfl) <| .a 2 <| .call (R07_SameAll_ok x29.Events x30.Events x31 hx31) ent30 <| .a 2 <| .c (congrArg some hb32) <| .a 27 <| .nil _) ?_
                        exact K7 _ ⟨true, sub_of (mk 148 178405961588244985132285746181186892047843363) [], h⟩
                      · replace h := of_bif_false hb32 h
                        obtain ⟨x33, hx33, h⟩ := of_bind h
                        obtain ⟨x34, hx34, h⟩ := of_bind h
                        obtain ⟨x35, hx35, h⟩ := of_bind h
                        rcases Bool.eq_false_or_eq_true (!x35) with hb36 | hb36
                        · replace h := of_bif_true hb36 h
                          refine SP.draw (by kernel_rfl) (by kernel_rfl) (by kernel_rfl) (.a 2 <| .p (ok_idxT (k := .i64) eApiPacket hx8 und25 ty57 (by kernel_rfl) rfl) <| .a 4 <| .p (ok_idxT (k := .i64) eApiPacket hx9 und25 ty57 (by kernel_rfl) rfl) <| .a 3 <| .c (congrArg some hb10) <| .a 2 <| .p (ok_idxT (k := .i64) eApiPacket hx11 und25 ty57 (by kernel_rfl) rfl) <| .a 4 <| .p (ok_idxT (k := .i64) eApiPacket hx12 und25 ty57 (by kernel_rfl) rfl) <| .a 4 <| .c (congrArg some hb13) <| .a 2 <| .p (ok_idxT (k := .i64) eApiPacket hx14 und25 ty57 (by kernel_rfl) rfl) <| .a 4 <| .p (ok_idxT (k := .i64) eApiPacket hx15 und25 ty57 (by kernel_rfl) rfl) <| .a 4 <| .c (congrArg some hb16) <| .a 2 <| .p (ok_idxT (k := .i64) eApiPacket hx17 und25 ty57 (by kernel_rfl) rfl) <| .a 4 <| .p (ok_idxT (k := .i64) eApiPacket hx18 und25 ty57 (by kernel_rfl) rfl) <| .a 4 <| .c (congrArg some hb19) <| .a 2 <| .p (ok_idxT (k := .i64) eApiPacket hx20 und25 ty57 (by kernel_rfl) rfl) <| .a 4 <| .p (ok_idxT (k := .i64) eApiPacket hx21 und25 ty57 (by kernel_rfl) rfl) <| .a 4 <| .c (congrArg some hb22) <| .a 2 <| .p (ok_idxT (k := .i64) eApiPacket hx23 und25 ty57 (by kernel_rfl) rfl) <| .a 4 <| .p (ok_idxT (k := .i64) eApiPacket hx24 und25 ty57 (by kernel_rfl) rfl) <| .a 4 <| .c (congrArg some hb25) <| .a 2 <| .p (ok_idxT (k := .i64) eApiPacket hx26 und25 ty57 (by kernel_rfl) rfl) <| .a 4 <| .p (ok_idxT (k := .i64) eApiPacket hx27 und25 ty57 (by kernel_rfl) rfl) <| .a 4 <| .c (congrArg some hb28) <| .a 2 <| .p (ok_idxT (k := .i64) eApiPacket hx29 und25 ty57 (by kernel_rfl) rfl) <| .a 4 <| .p (ok_idxT (k := .i64) eApiPacket hx30 und25 ty57 (by kernel_rfl) rfl) <| .a 2 <| .call (R07_SameAll_ok x29.Events x30.Events x31 hx31) ent30 <| .a 2 <| .c (congrArg some hb32) <| .a 2 <| .p (ok_idxT (k := .i64) eApiPacket hx33 und25 ty57 (by kernel_rfl) rfl) <| .a 4 <| .p (ok_idxT (k := .i64) eApiPacket hx34 und25 ty57 (by kernel_rfl) rfl) <| .a 2 <| .call (R01_Same_ok x33.Ids x34.Ids x35 hx35) ent31 <| .a 2 <| .c (congrArg some hb36) <| .a 13 <| .nil _) ?_
                          exact K7 _ ⟨true, sub_of (mk 148 178405961588244985132285746181186892047843363) [], h⟩
                        · replace h := of_bif_false hb36 h
                          obtain ⟨x37, hx37, h⟩ := of_bind h
                          obtain ⟨x38, hx38, h⟩ := of_bind h
                          obtain ⟨x39, hx39, h⟩ := of_bind h
                          refine SP.draw (by kernel_rfl) (by kernel_rfl) (by kernel_rfl) (.a 2 <| .p (ok_idxT (k := .i64) eApiPacket hx8 und25 ty57 (by kernel_rfl) rfl) <| .a 4 <| .p (ok_idxT (k := .i64) eApiPacket hx9 und25 ty57 (by kernel_rfl) rfl) <| .a 3 <| .c (congrArg some hb10) <| .a 2 <| .p (ok_idxT (k := .i64) eApiPacket hx11 und25 ty57 (by kernel_rfl) rfl) <| .a 4 <| .p (ok_idxT (k := .i64) eApiPacket hx12 und25 ty57 (by kernel_rfl) rfl) <| .a 4 <| .c (congrArg some hb13) <| .a 2 <| .p (ok_idxT (k := .i64) eApiPacket hx14 und25 ty57 (by kernel_rfl) rfl) <| .a 4 <| .p (ok_idxT (k := .i64) eApiPacket hx15 und25 ty57 (by kernel_rfl) rfl) <| .a 4 <| .c (congrArg some hb16) <| .a 2 <| .p (ok_idxT (k := .i64) eApiPacket hx17 und25 ty57 (by kernel_rfl) rfl) <| .a 4 <| .p (ok_idxT (k := .i64) eApiPacket hx18 und25 ty57 (by kernel_rfl) rfl) <| .a 4 <| .c (congrArg some hb19) <| .a 2 <| .p (ok_idxT (k := .i64) eApiPacket hx20 und25 ty57 (by kernel_rfl) rfl) <| .a 4 <| .p (ok_idxT (k := .i64) eApiPacket hx21 und25 ty57 (by kernel_rfl) rfl) <| .a 4 <| .c (congrArg some hb22) <| .a 2 <| .p (ok_idxT (k := .i64) eApiPacket hx23 und25 ty57 (by kernel_rfl) rfl) <| .a 4 <| .p (ok_idxT (k := .i64) eApiPacket hx24 und25 ty57 (by kernel_rfl) rfl) <| .a 4 <| .c (congrArg some hb25) <| .a 2 <| .p (ok_idxT (k := .i64) eApiPacket hx26 und25 ty57 (by kernel_rfl) rfl) <| .a 4 <| .p (ok_idxT (k := .i64) eApiPacket hx27 und25 ty57 (by kernel_rfl) rfl) <| .a 4 <| .c (congrArg some hb28) <| .a 2 <| .p (ok_idxT (k := .i64) eApiPacket hx29 und25 ty57 (by kernel_rfl) rfl) <| .a 4 <| .p (ok_idxT (k := .i64) eApiPacket hx30 und25 ty57 (by kernel_rfl) rfl) <| .a 2 <| .call (R07_SameAll_ok x29.Events x30.Events x31 hx31) ent30 <| .a 2 <| .c (congrArg some hb32) <| .a 2 <| .p (ok_idxT (k := .i64) eApiPacket hx33 und25 ty57 (by kernel_rfl) rfl) <| .a 4 <| .p (ok_idxT (k := .i64) eApiPacket hx34 und25 ty57 (by kernel_rfl) rfl) <| .a 2 <| .call (R01_Same_ok x33.Ids x34.Ids x35 hx35) ent31 <| .a 2 <| .c (congrArg some hb36) <| .a 2 <| .p (ok_idxT (k := .i64) eApiPacket hx37 und25 ty57 (by kernel_rfl) rfl) <| .a 4 <| .p (ok_idxT (k := .i64) eApiPacket hx38 und25 ty57 (by kernel_rfl) rfl) <| .a 2 <| .call (R07_SameAll_ok x37.Auth x38.Auth x39 hx39) ent30 <| .a 2 <| .nil _) ?_
                          exact K7 _ ⟨(!x39), sub_of (mk 148 178405961588244985132285746181186892047843363) [], h⟩
    · replace h := of_bif_false hb4 h
      refine SP.exit ?_
      refine SP.rg <| .a 1 <| .nil ?_
      refine SP.ret ?_
      rw [← Option.some.inj h]
      exact ⟨[.d (eB true)], [], ⟨resV_tmp (by kernel_rfl), trivial⟩, by kernel_rfl, by kernel_rfl, by kernel_rfl⟩

-- fedchat/fedchatlaw33.message
def L33_message_c1 : ApiEvent := { zApiEvent with Room := s__21r_3aa, Sender := s__40bob_3ab, Kind := 11, Time := 5, Depth := 2, Prev := [1], Content := { zApiContent with Text := s_hi } }
def L33_message  : Option ApiEvent := some L33_message_c1
theorem L33_message_ok  (r : ApiEvent) (h : L33_message = some r) : Runs Tryz.prog 32 [] [] (.d (eApiEvent r)) [] := by
  refine Runs.of_fin Tryz.func32 rfl ?_
  unfold L33_message at h
  refine SP.rg <| .a 1 <| .nil ?_
  refine SP.rg <| .p (ok_lits el33 zero3 (by kernel_rfl) (by kernel_rfl) (Nat.le_of_ble_eq_true (by kernel_rfl)) [.d (eI 1)] [eI 1] (by kernel_rfl) (by kernel_rfl) (by kernel_rfl) (by kernel_rfl) rfl) <| .a 3 <| .nil ?_
  refine SP.ret ?_
  rw [← Option.some.inj h]
  exact ⟨[.d (eApiEvent L33_message_c1)], [], ⟨⟨0, dc (eApiEvent L33_message_c1), true, 29, by kernel_rfl, by kernel_rfl, by kernel_rfl, ty43, Nat.le_of_ble_eq_true (by kernel_rfl), (by intro hh; cases hh), by kernel_rfl⟩, trivial⟩, by kernel_rfl, by kernel_rfl, by kernel_rfl⟩

-- fedchat/content.State
def content_State (p0_k : Int) : Option Bool := (bif decide (p0_k ≥ 1) then some (decide (p0_k ≤ 10)) else some false).bind fun x1 => some x1
theorem content_State_ok (p0_k : Int) (r : Bool) (h : content_State p0_k = some r) : Runs Tryz.prog 92 [.d (eI p0_k)] [] (.d (eB r)) [] := by
  refine Runs.of_fin Tryz.func92 rfl ?_
  unfold content_State at h
  refine SP.rg <| .a 1 <| .nil ?_
  refine SP.rg <| .a 2 <| ?_
  obtain ⟨x1, hx1, h⟩ := of_bind h
  refine .merge 4 [5, 6, 7] 8 (.d (eB x1)) ?_ ?_
  · replace h := hx1
    rcases Bool.eq_false_or_eq_true (decide (p0_k ≥ 1)) with hb2 | hb2
    · replace h := of_bif_true hb2 h
      refine .c (congrArg some hb2) <| .a 3 <| .nil ?_
      obtain rfl := Option.some.inj h
      kernel_rfl
    · replace h := of_bif_false hb2 h
      refine .c (congrArg some hb2) <| .a 3 <| .nil ?_
      obtain rfl := Option.some.inj h
      kernel_rfl
  refine .a 1 <| .nil ?_
  refine SP.ret ?_
  rw [← Option.some.inj h]
  exact ⟨[.d (eB x1)], [], ⟨resV_tmp (by kernel_rfl), trivial⟩, by kernel_rfl, by kernel_rfl, by kernel_rfl⟩

-- fedchat/ids.identifies
def ids_identifies (p0_s : ByteArray) (p1_mark : ByteArray) : Option Int := (ids_split p0_s p1_mark).bind fun x1 => (bif (!x1.2.2) then some 3 else some 0)
theorem ids_identifies_ok (p0_s : ByteArray) (p1_mark : ByteArray) (r : Int) (h : ids_identifies p0_s p1_mark = some r) : Runs Tryz.prog 153 [.d (eS p0_s), .d (eS p1_mark)] [] (.d (eI r)) [] := by
  refine Runs.of_fin Tryz.func153 rfl ?_
  unfold ids_identifies at h
  refine SP.rg <| .a 1 <| .nil ?_
  refine SP.seqc ?_
  obtain ⟨x1, hx1, h⟩ := of_bind h
  refine SP.rg <| .a 2 <| .call (ids_split_ok p0_s p1_mark x1 hx1) ent38 <| .a 7 <| .nil ?_
  refine SP.rg <| .a 2 <| .nil ?_
  refine SP.cond (!x1.2.2) (by kernel_rfl) (fun hb2 => ?_) (fun hb2 => ?_)
  · replace h := of_bif_true hb2 h
    refine SP.rg <| .a 1 <| .nil ?_
    refine SP.ret ?_
    rw [← Option.some.inj h]
    exact ⟨[.d (eI 3)], [], ⟨resV_tmp (by kernel_rfl), trivial⟩, by kernel_rfl, by kernel_rfl, by kernel_rfl⟩
  · replace h := of_bif_false hb2 h
    refine SP.skip ?_
    refine SP.rg <| .a 1 <| .nil ?_
    refine SP.ret ?_
    rw [← Option.some.inj h]
    exact ⟨[.d (eI 0)], [], ⟨resV_tmp (by kernel_rfl), trivial⟩, by kernel_rfl, by kernel_rfl, by kernel_rfl⟩

-- fedchat/ids.Room
def ids_Room (p0_s : ByteArray) : Option Int := (ids_identifies p0_s s__21).bind fun x1 => some x1
theorem ids_Room_ok (p0_s : ByteArray) (r : Int) (h : ids_Room p0_s = some r) : Runs Tryz.prog 121 [.d (eS p0_s)] [] (.d (eI r)) [] := by
  refine Runs.of_fin Tryz.func121 rfl ?_
  unfold ids_Room at h
  refine SP.rg <| .a 1 <| .nil ?_
  obtain ⟨x1, hx1, h⟩ := of_bind h
  refine SP.rg <| .a 1 <| .call (ids_identifies_ok p0_s s__21 x1 hx1) ent153 <| .a 1 <| .nil ?_
  refine SP.ret ?_
  rw [← Option.some.inj h]
  exact ⟨[.d (eI x1)], [], ⟨resV_tmp (by kernel_rfl), trivial⟩, by kernel_rfl, by kernel_rfl, by kernel_rfl⟩

-- fedchat/ids.User
def ids_User (p0_s : ByteArray) : Option Int := (ids_identifies p0_s s__40).bind fun x1 => some x1
theorem ids_User_ok (p0_s : ByteArray) (r : Int) (h : ids_User p0_s = some r) : Runs Tryz.prog 122 [.d (eS p0_s)] [] (.d (eI r)) [] := by
  refine Runs.of_fin Tryz.func122 rfl ?_
  unfold ids_User at h
  refine SP.rg <| .a 1 <| .nil ?_
  obtain ⟨x1, hx1, h⟩ := of_bind h
  refine SP.rg <| .a 1 <| .call (ids_identifies_ok p0_s s__40 x1 hx1) ent153 <| .a 1 <| .nil ?_
  refine SP.ret ?_
  rw [← Option.some.inj h]
  exact ⟨[.d (eI x1)], [], ⟨resV_tmp (by kernel_rfl), trivial⟩, by kernel_rfl, by kernel_rfl, by kernel_rfl⟩

-- fedchat/event.isPolicy
def event_isPolicy_S1 (p0_key : ByteArray) (v1 : Int) : St := ⟨shp 28 [(0, .d (eS p0_key)), (5, .d (eI (p0_key.size : Int))), (6, .d (eI v1))], [], 0⟩
def event_isPolicy_B1 (p0_key : ByteArray) (k2 : (Int → Option Bool)) : Int → Option Bool := fun v1 => (bif decide (v1 < (p0_key.size : Int)) then (gByte p0_key v1).bind fun x4 => (bif decide (x4 < 33) then some true else (gByte p0_key v1).bind fun x7 => some (decide (x7 > 126))).bind fun x5 => (bif x5 then some false else k2 (IntKind.i64.wrap (v1 + 1))) else (bif decide ((p0_key.size : Int) ≥ 1) then some (decide ((p0_key.size : Int) ≤ 32)) else some false).bind fun x9 => some x9)
def event_isPolicy_L1 (p0_key : ByteArray) : Int → Option Bool := loop1 (event_isPolicy_B1 p0_key) fuel
def event_isPolicy (p0_key : ByteArray) : Option Bool := event_isPolicy_L1 p0_key 0
theorem event_isPolicy_ok (p0_key : ByteArray) (r : Bool) (h : event_isPolicy p0_key = some r) : Runs Tryz.prog 123 [.d (eS p0_key)] [] (.d (eB r)) [] := by
  refine Runs.of_fin Tryz.func123 rfl ?_
  unfold event_isPolicy at h
  refine SP.rg <| .a 1 <| .nil ?_
  refine SP.seqc ?_
  refine SP.rg <| .a 3 <| .nil ?_
  refine SP.block ?_
  refine SP.loop1 (event_isPolicy_S1 p0_key) (event_isPolicy_B1 p0_key) r 0 (sub_of (mk 28 97) []) h ?_
  clear h
  intro J11 k2 hk2 v1 h
  unfold event_isPolicy_B1 at h
  refine SP.rg <| .a 1 <| .nil ?_
  refine SP.seqc ?_
  refine SP.cond (decide (v1 < (p0_key.size : Int))) (by kernel_rfl) (fun hb3 => ?_) (fun hb3 => ?_)
  · replace h := of_bif_true hb3 h
    refine SP.skip ?_
    refine SP.seqc ?_
    refine SP.block ?_
    refine SP.rg <| .a 2 <| .nil ?_
    obtain ⟨x4, hx4, h⟩ := of_bind h
    refine SP.rg <| .a 2 <| .p (ok_byteT (k := .i64) hx4 und9 rfl) <| .a 1 <| ?_
    obtain ⟨x5, hx5, h⟩ := of_bind h
    refine .merge 6 [13, 14, 15, 16, 17] 18 (.d (eB x5)) ?_ ?_
    · replace h := hx5
      rcases Bool.eq_false_or_eq_true (decide (x4 < 33)) with hb6 | hb6
      · replace h := of_bif_true hb6 h
        refine .c (congrArg some hb6) <| .a 5 <| .nil ?_
        obtain rfl := Option.some.inj h
        kernel_rfl
      · replace h := of_bif_false hb6 h
        obtain ⟨x7, hx7, h⟩ := of_bind h
        refine .c (congrArg some hb6) <| .a 2 <| .p (ok_byteT (k := .i64) hx7 und9 rfl) <| .a 2 <| .nil ?_
        obtain rfl := Option.some.inj h
        kernel_rfl
    refine .nil ?_
    refine SP.cond x5 (by kernel_rfl) (fun hb8 => ?_) (fun hb8 => ?_)
    · replace h := of_bif_true hb8 h
      refine SP.rg <| .a 1 <| .nil ?_
      refine SP.ret ?_
      rw [← Option.some.inj h]
      exact ⟨[.d (eB false)], [], ⟨resV_tmp (by kernel_rfl), trivial⟩, by kernel_rfl, by kernel_rfl, by kernel_rfl⟩
    · replace h := of_bif_false hb8 h
      refine SP.skip ?_
      refine SP.rgn <| .a 2 <| .nil ?_
      exact hk2 _ (IntKind.i64.wrap (v1 + 1)) (sub_of (mk 28 97) []) h
  · replace h := of_bif_false hb3 h
    refine SP.exit ?_
    refine SP.rg <| .a 3 <| ?_
    obtain ⟨x9, hx9, h⟩ := of_bind h
    refine .merge 5 [23, 24, 25, 26] 27 (.d (eB x9)) ?_ ?_
    · replace h := hx9
      rcases Bool.eq_false_or_eq_true (decide ((p0_key.size : Int) ≥ 1)) with hb10 | hb10
      · replace h := of_bif_true hb10 h
        refine .c (congrArg some hb10) <| .a 4 <| .nil ?_
        obtain rfl := Option.some.inj h
        kernel_rfl
      · replace h := of_bif_false hb10 h
        refine .c (congrArg some hb10) <| .a 4 <| .nil ?_
        obtain rfl := Option.some.inj h
        kernel_rfl
    refine .a 1 <| .nil ?_
    refine SP.ret ?_
    rw [← Option.some.inj h]
    exact ⟨[.d (eB x9)], [], ⟨resV_tmp (by kernel_rfl), trivial⟩, by kernel_rfl, by kernel_rfl, by kernel_rfl⟩

-- fedchat/event.named
def event_named (p0_e : ApiEvent) : Option Bool := (ids_Room p0_e.Room).bind fun x1 => (bif (x1 != 0) then some true else (ids_User p0_e.Sender).bind fun x4 => some (x4 != 0)).bind fun x2 => (bif x2 then some false else (bif (p0_e.Kind == 2) then (ids_User p0_e.Key).bind fun x7 => some (x7 == 0) else (bif (p0_e.Kind == 9) then (event_isPolicy p0_e.Key).bind fun x9 => some x9 else some true)))
theorem event_named_ok (p0_e : ApiEvent) (r : Bool) (h : event_named p0_e = some r) : Runs Tryz.prog 93 [.d (eApiEvent p0_e)] [] (.d (eB r)) [] := by
  refine Runs.of_fin Tryz.func93 rfl ?_
  unfold event_named at h
  refine SP.rg <| .a 2 <| .nil ?_
  refine SP.seqc ?_
  obtain ⟨x1, hx1, h⟩ := of_bind h
  refine SP.rg <| .a 2 <| .call (ids_Room_ok p0_e.Room x1 hx1) ent121 <| .a 1 <| ?_
  obtain ⟨x2, hx2, h⟩ := of_bind h
  refine .merge 6 [7, 8, 9, 10, 11] 12 (.d (eB x2)) ?_ ?_
  · replace h := hx2
    rcases Bool.eq_false_or_eq_true (x1 != 0) with hb3 | hb3
    · replace h := of_bif_true hb3 h
      refine .c (congrArg some hb3) <| .a 5 <| .nil ?_
      obtain rfl := Option.some.inj h
      kernel_rfl
    · replace h := of_bif_false hb3 h
      obtain ⟨x4, hx4, h⟩ := of_bind h
      refine .c (congrArg some hb3) <| .a 2 <| .call (ids_User_ok p0_e.Sender x4 hx4) ent122 <| .a 2 <| .nil ?_
      obtain rfl := Option.some.inj h
      kernel_rfl
  refine .nil ?_
  refine SP.cond x2 (by kernel_rfl) (fun hb5 => ?_) (fun hb5 => ?_)
  · replace h := of_bif_true hb5 h
    refine SP.rg <| .a 1 <| .nil ?_
    refine SP.ret ?_
    rw [← Option.some.inj h]
    exact ⟨[.d (eB false)], [], ⟨resV_tmp (by kernel_rfl), trivial⟩, by kernel_rfl, by kernel_rfl, by kernel_rfl⟩
  · replace h := of_bif_false hb5 h
    refine SP.skip ?_
    refine SP.seqc ?_
    refine SP.rg <| .a 2 <| .nil ?_
    refine SP.block ?_
    refine SP.rg <| .a 2 <| .nil ?_
    refine SP.cond (p0_e.Kind == 2) (by kernel_rfl) (fun hb6 => ?_) (fun hb6 => ?_)
    · replace h := of_bif_true hb6 h
      obtain ⟨x7, hx7, h⟩ := of_bind h
      refine SP.rg <| .a 2 <| .call (ids_User_ok p0_e.Key x7 hx7) ent122 <| .a 2 <| .nil ?_
      refine SP.ret ?_
      rw [← Option.some.inj h]
      exact ⟨[.d (eB (x7 == 0))], [], ⟨resV_tmp (by kernel_rfl), trivial⟩, by kernel_rfl, by kernel_rfl, by kernel_rfl⟩
    · replace h := of_bif_false hb6 h
      refine SP.rg <| .a 2 <| .nil ?_
      refine SP.cond (p0_e.Kind == 9) (by kernel_rfl) (fun hb8 => ?_) (fun hb8 => ?_)
      · replace h := of_bif_true hb8 h
        obtain ⟨x9, hx9, h⟩ := of_bind h
        refine SP.rg <| .a 2 <| .call (event_isPolicy_ok p0_e.Key x9 hx9) ent123 <| .a 1 <| .nil ?_
        refine SP.ret ?_
        rw [← Option.some.inj h]
        exact ⟨[.d (eB x9)], [], ⟨resV_tmp (by kernel_rfl), trivial⟩, by kernel_rfl, by kernel_rfl, by kernel_rfl⟩
      · replace h := of_bif_false hb8 h
        refine SP.skip ?_
        refine SP.rg <| .a 1 <| .nil ?_
        refine SP.ret ?_
        rw [← Option.some.inj h]
        exact ⟨[.d (eB true)], [], ⟨resV_tmp (by kernel_rfl), trivial⟩, by kernel_rfl, by kernel_rfl, by kernel_rfl⟩

-- fedchat/event.ordered
def event_ordered_S1 (p0_l : (List Int)) (v1 : Int) : St := ⟨shp 28 [(0, .d ((eL eI) p0_l)), (5, .d ((eL eI) p0_l)), (6, .d (eI (p0_l.length : Int))), (7, .d (eI v1))], [], 0⟩
def event_ordered_B1 (p0_l : (List Int)) (k2 : (Int → Option Bool)) : Int → Option Bool := fun v1 => (bif decide (v1 < (p0_l.length : Int)) then (gIdx p0_l v1).bind fun x4 => (bif decide (x4 < 0) then some true else (bif decide (v1 > 0) then (gIdx p0_l (IntKind.i64.wrap (v1 - 1))).bind fun x9 => some (decide (x9 ≥ x4)) else some false).bind fun x7 => some x7).bind fun x5 => (bif x5 then some false else k2 (IntKind.i64.wrap (v1 + 1))) else some true)
def event_ordered_L1 (p0_l : (List Int)) : Int → Option Bool := loop1 (event_ordered_B1 p0_l) fuel
def event_ordered (p0_l : (List Int)) : Option Bool := event_ordered_L1 p0_l 0
theorem event_ordered_ok (p0_l : (List Int)) (r : Bool) (h : event_ordered p0_l = some r) : Runs Tryz.prog 94 [.d ((eL eI) p0_l)] [] (.d (eB r)) [] := by
  refine Runs.of_fin Tryz.func94 rfl ?_
  unfold event_ordered at h
  refine SP.rg <| .a 1 <| .nil ?_
  refine SP.seqc ?_
  refine SP.rg <| .a 1 <| .p (ok_lenT eI p0_l und33 rfl) <| .a 1 <| .nil ?_
  refine SP.block ?_
  refine SP.loop1 (event_ordered_S1 p0_l) (event_ordered_B1 p0_l) r 0 (sub_of (mk 28 225) []) h ?_
  clear h
  intro J11 k2 hk2 v1 h
  unfold event_ordered_B1 at h
  refine SP.rg <| .a 1 <| .nil ?_
  refine SP.seqc ?_
  refine SP.cond (decide (v1 < (p0_l.length : Int))) (by kernel_rfl) (fun hb3 => ?_) (fun hb3 => ?_)
  · replace h := of_bif_true hb3 h
    refine SP.skip ?_
    refine SP.seqc ?_
    refine SP.block ?_
    obtain ⟨x4, hx4, h⟩ := of_bind h
    refine SP.rg <| .a 1 <| .p (ok_idxT (k := .i64) eI hx4 und33 ty3 (by kernel_rfl) rfl) <| .a 3 <| .nil ?_
    refine SP.rg <| .a 2 <| ?_
    obtain ⟨x5, hx5, h⟩ := of_bind h
    refine .merge 13 [14, 15, 16, 17, 18, 19, 20, 21, 22, 23, 24, 25] 26 (.d (eB x5)) ?_ ?_
    · replace h := hx5
      rcases Bool.eq_false_or_eq_true (decide (x4 < 0)) with hb6 | hb6
      · replace h := of_bif_true hb6 h
        refine .c (congrArg some hb6) <| .a 12 <| .nil ?_
        obtain rfl := Option.some.inj h
        kernel_rfl
      · replace h := of_bif_false hb6 h
        refine .c (congrArg some hb6) <| .a 2 <| ?_
        obtain ⟨x7, hx7, h⟩ := of_bind h
        refine .merge 9 [17, 18, 19, 20, 21, 22, 23, 24] 25 (.d (eB x7)) ?_ ?_
        · replace h := hx7
          rcases Bool.eq_false_or_eq_true (decide (v1 > 0)) with hb8 | hb8
          · replace h := of_bif_true hb8 h
            obtain ⟨x9, hx9, h⟩ := of_bind h
            refine .c (congrArg some hb8) <| .a 3 <| .p (ok_idxT (k := .i64) eI hx9 und33 ty3 (by kernel_rfl) rfl) <| .a 4 <| .nil ?_
            obtain rfl := Option.some.inj h
            kernel_rfl
          · replace h := of_bif_false hb8 h
            refine .c (congrArg some hb8) <| .a 8 <| .nil ?_
            obtain rfl := Option.some.inj h
            kernel_rfl
        refine .a 1 <| .nil ?_
        obtain rfl := Option.some.inj h
        kernel_rfl
    refine .nil ?_
    refine SP.cond x5 (by kernel_rfl) (fun hb10 => ?_) (fun hb10 => ?_)
    · replace h := of_bif_true hb10 h
      refine SP.rg <| .a 1 <| .nil ?_
      refine SP.ret ?_
      rw [← Option.some.inj h]
      exact ⟨[.d (eB false)], [], ⟨resV_tmp (by kernel_rfl), trivial⟩, by kernel_rfl, by kernel_rfl, by kernel_rfl⟩
    · replace h := of_bif_false hb10 h
      refine SP.skip ?_
      refine SP.rgn <| .a 2 <| .nil ?_
      exact hk2 _ (IntKind.i64.wrap (v1 + 1)) (sub_of (mk 28 225) []) h
  · replace h := of_bif_false hb3 h
    refine SP.exit ?_
    refine SP.rg <| .a 1 <| .nil ?_
    refine SP.ret ?_
    rw [← Option.some.inj h]
    exact ⟨[.d (eB true)], [], ⟨resV_tmp (by kernel_rfl), trivial⟩, by kernel_rfl, by kernel_rfl, by kernel_rfl⟩

-- fedchat/content.known
def content_known (p0_k : Int) : Option Bool := (bif decide (p0_k ≥ 1) then some (decide (p0_k ≤ 14)) else some false).bind fun x1 => some x1
theorem content_known_ok (p0_k : Int) (r : Bool) (h : content_known p0_k = some r) : Runs Tryz.prog 125 [.d (eI p0_k)] [] (.d (eB r)) [] := by
  refine Runs.of_fin Tryz.func125 rfl ?_
  unfold content_known at h
  refine SP.rg <| .a 1 <| .nil ?_
  refine SP.rg <| .a 2 <| ?_
  obtain ⟨x1, hx1, h⟩ := of_bind h
  refine .merge 4 [5, 6, 7] 8 (.d (eB x1)) ?_ ?_
  · replace h := hx1
    rcases Bool.eq_false_or_eq_true (decide (p0_k ≥ 1)) with hb2 | hb2
    · replace h := of_bif_true hb2 h
      refine .c (congrArg some hb2) <| .a 3 <| .nil ?_
      obtain rfl := Option.some.inj h
      kernel_rfl
    · replace h := of_bif_false hb2 h
      refine .c (congrArg some hb2) <| .a 3 <| .nil ?_
      obtain rfl := Option.some.inj h
      kernel_rfl
  refine .a 1 <| .nil ?_
  refine SP.ret ?_
  rw [← Option.some.inj h]
  exact ⟨[.d (eB x1)], [], ⟨resV_tmp (by kernel_rfl), trivial⟩, by kernel_rfl, by kernel_rfl, by kernel_rfl⟩

-- fedchat/content.bare
def content_bare (p0_l : ApiLevels) : Option Bool := (bif ((p0_l.Users.length : Int) == 0) then some ((p0_l.Kinds.length : Int) == 0) else some false).bind fun x1 => (bif x1 then some (p0_l.User == 0) else some false).bind fun x3 => (bif x3 then some (p0_l.Message == 0) else some false).bind fun x5 => (bif x5 then some (p0_l.State == 0) else some false).bind fun x7 => (bif x7 then some (p0_l.Invite == 0) else some false).bind fun x9 => (bif x9 then some (p0_l.Kick == 0) else some false).bind fun x11 => (bif x11 then some (p0_l.Ban == 0) else some false).bind fun x13 => (bif x13 then some (p0_l.Redact == 0) else some false).bind fun x15 => some x15
theorem content_bare_ok (p0_l : ApiLevels) (r : Bool) (h : content_bare p0_l = some r) : Runs Tryz.prog 154 [.d (eApiLevels p0_l)] [] (.d (eB r)) [] := by
  refine Runs.of_fin Tryz.func154 rfl ?_
  unfold content_bare at h
  refine SP.rg <| .a 2 <| .nil ?_
  refine SP.rg <| .a 2 <| .p (ok_lenT eApiLevel p0_l.Users und34 rfl) <| .a 1 <| ?_
  obtain ⟨x1, hx1, h⟩ := of_bind h
  refine .merge 6 [7, 8, 9, 10, 11] 12 (.d (eB x1)) ?_ ?_
  · replace h := hx1
    rcases Bool.eq_false_or_eq_true ((p0_l.Users.length : Int) == 0) with hb2 | hb2
    · replace h := of_bif_true hb2 h
      refine .c (congrArg some hb2) <| .a 2 <| .p (ok_lenT eApiKindLevel p0_l.Kinds und35 rfl) <| .a 2 <| .nil ?_
      obtain rfl := Option.some.inj h
      kernel_rfl
    · replace h := of_bif_false hb2 h
      refine .c (congrArg some hb2) <| .a 5 <| .nil ?_
      obtain rfl := Option.some.inj h
      kernel_rfl
  refine .a 1 <| ?_
  obtain ⟨x3, hx3, h⟩ := of_bind h
  refine .merge 4 [14, 15, 16] 17 (.d (eB x3)) ?_ ?_
  · replace h := hx3
    cases x1 with
    | true =>
      replace h := of_bif_true rfl h
      refine .a 4 <| .nil ?_
      obtain rfl := Option.some.inj h
      kernel_rfl
    | false =>
      replace h := of_bif_false rfl h
      refine .a 4 <| .nil ?_
      obtain rfl := Option.some.inj h
      kernel_rfl
  refine .a 1 <| ?_
  obtain ⟨x5, hx5, h⟩ := of_bind h
  refine .merge 4 [19, 20, 21] 22 (.d (eB x5)) ?_ ?_
  · replace h := hx5
    cases x3 with
    | true =>
      replace h := of_bif_true rfl h
      refine .a 4 <| .nil ?_
      obtain rfl := Option.some.inj h
      kernel_rfl
    | false =>
      replace h := of_bif_false rfl h
      refine .a 4 <| .nil ?_
      obtain rfl := Option.some.inj h
      kernel_rfl
  refine .a 1 <| ?_
  obtain ⟨x7, hx7, h⟩ := of_bind h
  refine .merge 4 [24, 25, 26] 27 (.d (eB x7)) ?_ ?_
  · replace h := hx7
    cases x5 with
    | true =>
      replace h := of_bif_true rfl h
      refine .a 4 <| .nil ?_
      obtain rfl := Option.some.inj h
      kernel_rfl
    | false =>
      replace h := of_bif_false rfl h
      refine .a 4 <| .nil ?_
      obtain rfl := Option.some.inj h
      kernel_rfl
  refine .a 1 <| ?_
  obtain ⟨x9, hx9, h⟩ := of_bind h
  refine .merge 4 [29, 30, 31] 32 (.d (eB x9)) ?_ ?_
  · replace h := hx9
    cases x7 with
    | true =>
      replace h := of_bif_true rfl h
      refine .a 4 <| .nil ?_
      obtain rfl := Option.some.inj h
      kernel_rfl
    | false =>
      replace h := of_bif_false rfl h
      refine .a 4 <| .nil ?_
      obtain rfl := Option.some.inj h
      kernel_rfl
  refine .a 1 <| ?_
  obtain ⟨x11, hx11, h⟩ := of_bind h
  refine .merge 4 [34, 35, 36] 37 (.d (eB x11)) ?_ ?_
  · replace h := hx11
    cases x9 with
    | true =>
      replace h := of_bif_true rfl h
      refine .a 4 <| .nil ?_
      obtain rfl := Option.some.inj h
      kernel_rfl
    | false =>
      replace h := of_bif_false rfl h
      refine .a 4 <| .nil ?_
      obtain rfl := Option.some.inj h
      kernel_rfl
  refine .a 1 <| ?_
  obtain ⟨x13, hx13, h⟩ := of_bind h
  refine .merge 4 [39, 40, 41] 42 (.d (eB x13)) ?_ ?_
  · replace h := hx13
    cases x11 with
    | true =>
      replace h := of_bif_true rfl h
      refine .a 4 <| .nil ?_
      obtain rfl := Option.some.inj h
      kernel_rfl
    | false =>
      replace h := of_bif_false rfl h
      refine .a 4 <| .nil ?_
      obtain rfl := Option.some.inj h
      kernel_rfl
  refine .a 1 <| ?_
  obtain ⟨x15, hx15, h⟩ := of_bind h
  refine .merge 4 [44, 45, 46] 47 (.d (eB x15)) ?_ ?_
  · replace h := hx15
    cases x13 with
    | true =>
      replace h := of_bif_true rfl h
      refine .a 4 <| .nil ?_
      obtain rfl := Option.some.inj h
      kernel_rfl
    | false =>
      replace h := of_bif_false rfl h
      refine .a 4 <| .nil ?_
      obtain rfl := Option.some.inj h
      kernel_rfl
  refine .a 1 <| .nil ?_
  refine SP.ret ?_
  rw [← Option.some.inj h]
  exact ⟨[.d (eB x15)], [], ⟨resV_tmp (by kernel_rfl), trivial⟩, by kernel_rfl, by kernel_rfl, by kernel_rfl⟩

-- fedchat/content.set
def content_set_S1 (p0_c : ApiContent) (v1 : Int) : St := ⟨shp 47 [(1, .ptr 0 0), (3, .d (eI v1))], [.box (dc (eApiContent p0_c))], 0⟩
def content_set_S2 (p0_c : ApiContent) (v2 : Int) : St := ⟨shp 47 [(1, .ptr 0 0), (3, .d (eI v2))], [.box (dc (eApiContent p0_c))], 0⟩
def content_set_S3 (p0_c : ApiContent) (v3 : Int) : St := ⟨shp 47 [(1, .ptr 0 0), (3, .d (eI v3))], [.box (dc (eApiContent p0_c))], 0⟩
def content_set_S4 (p0_c : ApiContent) (v4 : Int) : St := ⟨shp 47 [(1, .ptr 0 0), (3, .d (eI v4))], [.box (dc (eApiContent p0_c))], 0⟩
def content_set_S5 (p0_c : ApiContent) (v5 : Int) : St := ⟨shp 47 [(1, .ptr 0 0), (3, .d (eI v5))], [.box (dc (eApiContent p0_c))], 0⟩
def content_set_S6 (p0_c : ApiContent) (v6 : Int) : St := ⟨shp 47 [(1, .ptr 0 0), (3, .d (eI v6))], [.box (dc (eApiContent p0_c))], 0⟩
def content_set_S7 (p0_c : ApiContent) (v7 : Int) : St := ⟨shp 47 [(1, .ptr 0 0), (3, .d (eI v7))], [.box (dc (eApiContent p0_c))], 0⟩
def content_set_S8 (v8 : Int) : St := ⟨shp 47 [(3, .d (eI v8))], [], 0⟩
def content_set_j8 (v8 : Int) : Option Int := some v8
def content_set_j7 (p0_c : ApiContent) (v7 : Int) : Option Int := (content_bare p0_c.Levels).bind fun x10 => (bif (!x10) then content_set_j8 (gBits .or .i64 v7 128) else content_set_j8 v7)
def content_set_j6 (p0_c : ApiContent) (v6 : Int) : Option Int := (bif decide ((p0_c.Deny.length : Int) > 0) then content_set_j7 p0_c (gBits .or .i64 v6 64) else content_set_j7 p0_c v6)
def content_set_j5 (p0_c : ApiContent) (v5 : Int) : Option Int := (bif decide ((p0_c.Allow.length : Int) > 0) then content_set_j6 p0_c (gBits .or .i64 v5 32) else content_set_j6 p0_c v5)
def content_set_j4 (p0_c : ApiContent) (v4 : Int) : Option Int := (bif (!(p0_c.Via.toList == s0.toList)) then content_set_j5 p0_c (gBits .or .i64 v4 16) else content_set_j5 p0_c v4)
def content_set_j3 (p0_c : ApiContent) (v3 : Int) : Option Int := (bif p0_c.Thread then content_set_j4 p0_c (gBits .or .i64 v3 8) else content_set_j4 p0_c v3)
def content_set_j2 (p0_c : ApiContent) (v2 : Int) : Option Int := (bif (p0_c.Target != 0) then content_set_j3 p0_c (gBits .or .i64 v2 4) else content_set_j3 p0_c v2)
def content_set_j1 (p0_c : ApiContent) (v1 : Int) : Option Int := (bif (p0_c.N != 0) then content_set_j2 p0_c (gBits .or .i64 v1 2) else content_set_j2 p0_c v1)
def content_set (p0_c : ApiContent) : Option Int := (bif (!(p0_c.Text.toList == s0.toList)) then content_set_j1 p0_c (gBits .or .i64 0 1) else content_set_j1 p0_c 0)
theorem content_set_ok (p0_c : ApiContent) (r : Int) (h : content_set p0_c = some r) : Runs Tryz.prog 126 [.d (eApiContent p0_c)] [] (.d (eI r)) [] := by
  refine Runs.of_fin Tryz.func126 rfl ?_
  unfold content_set at h
  refine SP.rg <| .a 2 <| .nil ?_
  refine SP.rg <| .a 1 <| .nil ?_
  refine SP.join (fun s => ∃ (v1 : Int), Sub s (content_set_S1 p0_c v1) ∧ content_set_j1 p0_c v1 = some r) ?_ ?_
  · clear h
    rintro s ⟨v1, hs, h⟩
    refine SP.sub hs ?_
    clear hs
    unfold content_set_j1 at h
    refine SP.join (fun s => ∃ (v2 : Int), Sub s (content_set_S2 p0_c v2) ∧ content_set_j2 p0_c v2 = some r) ?_ ?_
    · clear h
      rintro s ⟨v2, hs, h⟩
      refine SP.sub hs ?_
      clear hs
      unfold content_set_j2 at h
      refine SP.join (fun s => ∃ (v3 : Int), Sub s (content_set_S3 p0_c v3) ∧ content_set_j3 p0_c v3 = some r) ?_ ?_
      · clear h
        rintro s ⟨v3, hs, h⟩
        refine SP.sub hs ?_
        clear hs
        unfold content_set_j3 at h
        refine SP.join (fun s => ∃ (v4 : Int), Sub s (content_set_S4 p0_c v4) ∧ content_set_j4 p0_c v4 = some r) ?_ ?_
        · clear h
          rintro s ⟨v4, hs, h⟩
          refine SP.sub hs ?_
          clear hs
          unfold content_set_j4 at h
          refine SP.join (fun s => ∃ (v5 : Int), Sub s (content_set_S5 p0_c v5) ∧ content_set_j5 p0_c v5 = some r) ?_ ?_
          · clear h
            rintro s ⟨v5, hs, h⟩
            refine SP.sub hs ?_
            clear hs
            unfold content_set_j5 at h
            refine SP.join (fun s => ∃ (v6 : Int), Sub s (content_set_S6 p0_c v6) ∧ content_set_j6 p0_c v6 = some r) ?_ ?_
            · clear h
              rintro s ⟨v6, hs, h⟩
              refine SP.sub hs ?_
              clear hs
              unfold content_set_j6 at h
              refine SP.join (fun s => ∃ (v7 : Int), Sub s (content_set_S7 p0_c v7) ∧ content_set_j7 p0_c v7 = some r) ?_ ?_
              · clear h
                rintro s ⟨v7, hs, h⟩
                refine SP.sub hs ?_
                clear hs
                unfold content_set_j7 at h
                refine SP.join (fun s => ∃ (v8 : Int), Sub s (content_set_S8 v8) ∧ content_set_j8 v8 = some r) ?_ ?_
                · clear h
                  rintro s ⟨v8, hs, h⟩
                  refine SP.sub hs ?_
                  clear hs
                  unfold content_set_j8 at h
                  refine SP.rg <| .a 2 <| .nil ?_
                  refine SP.ret ?_
                  rw [← Option.some.inj h]
                  exact ⟨[.d (eI v8)], [], ⟨resV_tmp (by kernel_rfl), trivial⟩, by kernel_rfl, by kernel_rfl, by kernel_rfl⟩
                · intro K9
                  obtain ⟨x10, hx10, h⟩ := of_bind h
                  refine SP.rg <| .a 2 <| .call (content_bare_ok p0_c.Levels x10 hx10) ent154 <| .a 1 <| .nil ?_
                  refine SP.cond (!x10) (by kernel_rfl) (fun hb11 => ?_) (fun hb11 => ?_)
                  · replace h := of_bif_true hb11 h
                    refine SP.rgn <| .a 1 <| .p (ok_or (k := .i64) (u := v7) (v := 128) rfl) <| .a 1 <| .nil ?_
                    exact K9 _ ⟨(gBits .or .i64 v7 128), sub_of (mk 47 8) [], h⟩
                  · replace h := of_bif_false hb11 h
                    refine SP.skip ?_
                    exact K9 _ ⟨v7, sub_of (mk 47 8) [], h⟩
              · intro K12
                refine SP.rg <| .a 2 <| .p (ok_lenT eS p0_c.Deny und24 rfl) <| .a 1 <| .nil ?_
                refine SP.cond (decide ((p0_c.Deny.length : Int) > 0)) (by kernel_rfl) (fun hb13 => ?_) (fun hb13 => ?_)
                · replace h := of_bif_true hb13 h
                  refine SP.rgn <| .a 1 <| .p (ok_or (k := .i64) (u := v6) (v := 64) rfl) <| .a 1 <| .nil ?_
                  exact K12 _ ⟨(gBits .or .i64 v6 64), sub_of (mk 47 10) [(0, true)], h⟩
                · replace h := of_bif_false hb13 h
                  refine SP.skip ?_
                  exact K12 _ ⟨v6, sub_of (mk 47 10) [(0, true)], h⟩
            · intro K14
              refine SP.rg <| .a 2 <| .p (ok_lenT eS p0_c.Allow und24 rfl) <| .a 1 <| .nil ?_
              refine SP.cond (decide ((p0_c.Allow.length : Int) > 0)) (by kernel_rfl) (fun hb15 => ?_) (fun hb15 => ?_)
              · replace h := of_bif_true hb15 h
                refine SP.rgn <| .a 1 <| .p (ok_or (k := .i64) (u := v5) (v := 32) rfl) <| .a 1 <| .nil ?_
                exact K14 _ ⟨(gBits .or .i64 v5 32), sub_of (mk 47 10) [(0, true)], h⟩
              · replace h := of_bif_false hb15 h
                refine SP.skip ?_
                exact K14 _ ⟨v5, sub_of (mk 47 10) [(0, true)], h⟩
          · intro K16
            refine SP.rg <| .a 3 <| .nil ?_
            refine SP.cond (!(p0_c.Via.toList == s0.toList)) (by kernel_rfl) (fun hb17 => ?_) (fun hb17 => ?_)
            · replace h := of_bif_true hb17 h
              refine SP.rgn <| .a 1 <| .p (ok_or (k := .i64) (u := v4) (v := 16) rfl) <| .a 1 <| .nil ?_
              exact K16 _ ⟨(gBits .or .i64 v4 16), sub_of (mk 47 10) [(0, true)], h⟩
            · replace h := of_bif_false hb17 h
              refine SP.skip ?_
              exact K16 _ ⟨v4, sub_of (mk 47 10) [(0, true)], h⟩
        · intro K18
          refine SP.rg <| .a 2 <| .nil ?_
          refine SP.cond p0_c.Thread (by kernel_rfl) (fun hb19 => ?_) (fun hb19 => ?_)
          · replace h := of_bif_true hb19 h
            refine SP.rgn <| .a 1 <| .p (ok_or (k := .i64) (u := v3) (v := 8) rfl) <| .a 1 <| .nil ?_
            exact K18 _ ⟨(gBits .or .i64 v3 8), sub_of (mk 47 10) [(0, true)], h⟩
          · replace h := of_bif_false hb19 h
            refine SP.skip ?_
            exact K18 _ ⟨v3, sub_of (mk 47 10) [(0, true)], h⟩
      · intro K20
        refine SP.rg <| .a 3 <| .nil ?_
        refine SP.cond (p0_c.Target != 0) (by kernel_rfl) (fun hb21 => ?_) (fun hb21 => ?_)
        · replace h := of_bif_true hb21 h
          refine SP.rgn <| .a 1 <| .p (ok_or (k := .i64) (u := v2) (v := 4) rfl) <| .a 1 <| .nil ?_
          exact K20 _ ⟨(gBits .or .i64 v2 4), sub_of (mk 47 10) [(0, true)], h⟩
        · replace h := of_bif_false hb21 h
          refine SP.skip ?_
          exact K20 _ ⟨v2, sub_of (mk 47 10) [(0, true)], h⟩
    · intro K22
      refine SP.rg <| .a 3 <| .nil ?_
      refine SP.cond (p0_c.N != 0) (by kernel_rfl) (fun hb23 => ?_) (fun hb23 => ?_)
      · replace h := of_bif_true hb23 h
        refine SP.rgn <| .a 1 <| .p (ok_or (k := .i64) (u := v1) (v := 2) rfl) <| .a 1 <| .nil ?_
        exact K22 _ ⟨(gBits .or .i64 v1 2), sub_of (mk 47 10) [(0, true)], h⟩
      · replace h := of_bif_false hb23 h
        refine SP.skip ?_
        exact K22 _ ⟨v1, sub_of (mk 47 10) [(0, true)], h⟩
  · intro K24
    refine SP.rg <| .a 3 <| .nil ?_
    refine SP.cond (!(p0_c.Text.toList == s0.toList)) (by kernel_rfl) (fun hb25 => ?_) (fun hb25 => ?_)
    · replace h := of_bif_true hb25 h
      refine SP.rgn <| .a 1 <| .p (ok_or (k := .i64) (u := 0) (v := 1) rfl) <| .a 1 <| .nil ?_
      exact K24 _ ⟨(gBits .or .i64 0 1), sub_of (mk 47 10) [(0, true)], h⟩
    · replace h := of_bif_false hb25 h
      refine SP.skip ?_
      exact K24 _ ⟨0, sub_of (mk 47 10) [(0, true)], h⟩

-- fedchat/glob.Check
def glob_Check_S1 (p0_p : ByteArray) (v3 : Int) : St := ⟨shp 27 [(0, .d (eS p0_p)), (12, .d (eI (p0_p.size : Int))), (13, .d (eI v3))], [], 0⟩
def glob_Check_B1 (p0_p : ByteArray) (k4 : (Int → Option Int)) : Int → Option Int := fun v3 => (bif decide (v3 < (p0_p.size : Int)) then (gByte p0_p v3).bind fun x6 => (bif decide (x6 < 33) then some true else (gByte p0_p v3).bind fun x9 => some (decide (x9 > 126))).bind fun x7 => (bif x7 then some 3 else k4 (IntKind.i64.wrap (v3 + 1))) else some 0)
def glob_Check_L1 (p0_p : ByteArray) : Int → Option Int := loop1 (glob_Check_B1 p0_p) fuel
def glob_Check (p0_p : ByteArray) : Option Int := (bif (p0_p.toList == s0.toList) then some 9 else (bif decide ((p0_p.size : Int) > 64) then some 7 else glob_Check_L1 p0_p 0))
theorem glob_Check_ok (p0_p : ByteArray) (r : Int) (h : glob_Check p0_p = some r) : Runs Tryz.prog 155 [.d (eS p0_p)] [] (.d (eI r)) [] := by
  refine Runs.of_fin Tryz.func155 rfl ?_
  unfold glob_Check at h
  refine SP.rg <| .a 1 <| .nil ?_
  refine SP.seqc ?_
  refine SP.block ?_
  refine SP.rg <| .a 3 <| .nil ?_
  refine SP.cond (p0_p.toList == s0.toList) (by kernel_rfl) (fun hb1 => ?_) (fun hb1 => ?_)
  · replace h := of_bif_true hb1 h
    refine SP.rg <| .a 1 <| .nil ?_
    refine SP.ret ?_
    rw [← Option.some.inj h]
    exact ⟨[.d (eI 9)], [], ⟨resV_tmp (by kernel_rfl), trivial⟩, by kernel_rfl, by kernel_rfl, by kernel_rfl⟩
  · replace h := of_bif_false hb1 h
    refine SP.rg <| .a 4 <| .nil ?_
    refine SP.cond (decide ((p0_p.size : Int) > 64)) (by kernel_rfl) (fun hb2 => ?_) (fun hb2 => ?_)
    · replace h := of_bif_true hb2 h
      refine SP.rg <| .a 1 <| .nil ?_
      refine SP.ret ?_
      rw [← Option.some.inj h]
      exact ⟨[.d (eI 7)], [], ⟨resV_tmp (by kernel_rfl), trivial⟩, by kernel_rfl, by kernel_rfl, by kernel_rfl⟩
    · replace h := of_bif_false hb2 h
      refine SP.skip ?_
      refine SP.seqc ?_
      refine SP.rg <| .a 3 <| .nil ?_
      refine SP.block ?_
      refine SP.loop1 (glob_Check_S1 p0_p) (glob_Check_B1 p0_p) r 0 (sub_of (mk 27 12289) []) h ?_
      clear h
      intro J11 k4 hk4 v3 h
      unfold glob_Check_B1 at h
      refine SP.rg <| .a 1 <| .nil ?_
      refine SP.seqc ?_
      refine SP.cond (decide (v3 < (p0_p.size : Int))) (by kernel_rfl) (fun hb5 => ?_) (fun hb5 => ?_)
      · replace h := of_bif_true hb5 h
        refine SP.skip ?_
        refine SP.seqc ?_
        refine SP.block ?_
        refine SP.rg <| .a 2 <| .nil ?_
        obtain ⟨x6, hx6, h⟩ := of_bind h
        refine SP.rg <| .a 2 <| .p (ok_byteT (k := .i64) hx6 und9 rfl) <| .a 1 <| ?_
        obtain ⟨x7, hx7, h⟩ := of_bind h
        refine .merge 6 [20, 21, 22, 23, 24] 25 (.d (eB x7)) ?_ ?_
        · replace h := hx7
          rcases Bool.eq_false_or_eq_true (decide (x6 < 33)) with hb8 | hb8
          · replace h := of_bif_true hb8 h
            refine .c (congrArg some hb8) <| .a 5 <| .nil ?_
            obtain rfl := Option.some.inj h
            kernel_rfl
          · replace h := of_bif_false hb8 h
            obtain ⟨x9, hx9, h⟩ := of_bind h
            refine .c (congrArg some hb8) <| .a 2 <| .p (ok_byteT (k := .i64) hx9 und9 rfl) <| .a 2 <| .nil ?_
            obtain rfl := Option.some.inj h
            kernel_rfl
        refine .nil ?_
        refine SP.cond x7 (by kernel_rfl) (fun hb10 => ?_) (fun hb10 => ?_)
        · replace h := of_bif_true hb10 h
          refine SP.rg <| .a 1 <| .nil ?_
          refine SP.ret ?_
          rw [← Option.some.inj h]
          exact ⟨[.d (eI 3)], [], ⟨resV_tmp (by kernel_rfl), trivial⟩, by kernel_rfl, by kernel_rfl, by kernel_rfl⟩
        · replace h := of_bif_false hb10 h
          refine SP.skip ?_
          refine SP.rgn <| .a 2 <| .nil ?_
          exact hk4 _ (IntKind.i64.wrap (v3 + 1)) (sub_of (mk 27 12289) []) h
      · replace h := of_bif_false hb5 h
        refine SP.exit ?_
        refine SP.rg <| .a 1 <| .nil ?_
        refine SP.ret ?_
        rw [← Option.some.inj h]
        exact ⟨[.d (eI 0)], [], ⟨resV_tmp (by kernel_rfl), trivial⟩, by kernel_rfl, by kernel_rfl, by kernel_rfl⟩

-- fedchat/content.patterns
def content_patterns_S1 (p0_l : (List ByteArray)) (v2 : Int) : St := ⟨shp 21 [(9, .d ((eL eS) p0_l)), (10, .d (eI (p0_l.length : Int))), (11, .d (eI v2))], [], 0⟩
def content_patterns_B1 (p0_l : (List ByteArray)) (k3 : (Int → Option Int)) : Int → Option Int := fun v2 => (bif decide (v2 < (p0_l.length : Int)) then (gIdx p0_l v2).bind fun x5 => (glob_Check x5).bind fun x6 => (bif (x6 != 0) then some x6 else k3 (IntKind.i64.wrap (v2 + 1))) else some 0)
def content_patterns_L1 (p0_l : (List ByteArray)) : Int → Option Int := loop1 (content_patterns_B1 p0_l) fuel
def content_patterns (p0_l : (List ByteArray)) : Option Int := (bif decide ((p0_l.length : Int) > 100) then some 7 else content_patterns_L1 p0_l 0)
theorem content_patterns_ok (p0_l : (List ByteArray)) (r : Int) (h : content_patterns p0_l = some r) : Runs Tryz.prog 133 [.d ((eL eS) p0_l)] [] (.d (eI r)) [] := by
  refine Runs.of_fin Tryz.func133 rfl ?_
  unfold content_patterns at h
  refine SP.rg <| .a 1 <| .nil ?_
  refine SP.seqc ?_
  refine SP.rg <| .a 1 <| .p (ok_lenT eS p0_l und24 rfl) <| .a 1 <| .nil ?_
  refine SP.cond (decide ((p0_l.length : Int) > 100)) (by kernel_rfl) (fun hb1 => ?_) (fun hb1 => ?_)
  · replace h := of_bif_true hb1 h
    refine SP.rg <| .a 1 <| .nil ?_
    refine SP.ret ?_
    rw [← Option.some.inj h]
    exact ⟨[.d (eI 7)], [], ⟨resV_tmp (by kernel_rfl), trivial⟩, by kernel_rfl, by kernel_rfl, by kernel_rfl⟩
  · replace h := of_bif_false hb1 h
    refine SP.skip ?_
    refine SP.seqc ?_
    refine SP.rg <| .a 1 <| .p (ok_lenT eS p0_l und24 rfl) <| .a 1 <| .nil ?_
    refine SP.block ?_
    refine SP.loop1 (content_patterns_S1 p0_l) (content_patterns_B1 p0_l) r 0 (sub_of (mk 21 3584) []) h ?_
    clear h
    intro J8 k3 hk3 v2 h
    unfold content_patterns_B1 at h
    refine SP.rg <| .a 1 <| .nil ?_
    refine SP.seqc ?_
    refine SP.cond (decide (v2 < (p0_l.length : Int))) (by kernel_rfl) (fun hb4 => ?_) (fun hb4 => ?_)
    · replace h := of_bif_true hb4 h
      refine SP.skip ?_
      refine SP.seqc ?_
      refine SP.block ?_
      obtain ⟨x5, hx5, h⟩ := of_bind h
      refine SP.rg <| .p (ok_idxT (k := .i64) eS hx5 und24 ty9 (by kernel_rfl) rfl) <| .a 2 <| .nil ?_
      obtain ⟨x6, hx6, h⟩ := of_bind h
      refine SP.rg <| .a 1 <| .call (glob_Check_ok x5 x6 hx6) ent155 <| .a 1 <| .nil ?_
      refine SP.rg <| .a 2 <| .nil ?_
      refine SP.cond (x6 != 0) (by kernel_rfl) (fun hb7 => ?_) (fun hb7 => ?_)
      · replace h := of_bif_true hb7 h
        refine SP.rg <| .a 2 <| .nil ?_
        refine SP.ret ?_
        rw [← Option.some.inj h]
        exact ⟨[.d (eI x6)], [], ⟨resV_tmp (by kernel_rfl), trivial⟩, by kernel_rfl, by kernel_rfl, by kernel_rfl⟩
      · replace h := of_bif_false hb7 h
        refine SP.skip ?_
        refine SP.rgn <| .a 2 <| .nil ?_
        exact hk3 _ (IntKind.i64.wrap (v2 + 1)) (sub_of (mk 21 3584) []) h
    · replace h := of_bif_false hb4 h
      refine SP.exit ?_
      refine SP.rg <| .a 1 <| .nil ?_
      refine SP.ret ?_
      rw [← Option.some.inj h]
      exact ⟨[.d (eI 0)], [], ⟨resV_tmp (by kernel_rfl), trivial⟩, by kernel_rfl, by kernel_rfl, by kernel_rfl⟩

-- fedchat/content.high
def content_high (p0_n : Int) : Option Bool := (bif decide (p0_n < (-1000)) then some true else some (decide (p0_n > 1000))).bind fun x1 => some x1
theorem content_high_ok (p0_n : Int) (r : Bool) (h : content_high p0_n = some r) : Runs Tryz.prog 158 [.d (eI p0_n)] [] (.d (eB r)) [] := by
  refine Runs.of_fin Tryz.func158 rfl ?_
  unfold content_high at h
  refine SP.rg <| .a 1 <| .nil ?_
  refine SP.rg <| .a 2 <| ?_
  obtain ⟨x1, hx1, h⟩ := of_bind h
  refine .merge 4 [5, 6, 7] 8 (.d (eB x1)) ?_ ?_
  · replace h := hx1
    rcases Bool.eq_false_or_eq_true (decide (p0_n < (-1000))) with hb2 | hb2
    · replace h := of_bif_true hb2 h
      refine .c (congrArg some hb2) <| .a 3 <| .nil ?_
      obtain rfl := Option.some.inj h
      kernel_rfl
    · replace h := of_bif_false hb2 h
      refine .c (congrArg some hb2) <| .a 3 <| .nil ?_
      obtain rfl := Option.some.inj h
      kernel_rfl
  refine .a 1 <| .nil ?_
  refine SP.ret ?_
  rw [← Option.some.inj h]
  exact ⟨[.d (eB x1)], [], ⟨resV_tmp (by kernel_rfl), trivial⟩, by kernel_rfl, by kernel_rfl, by kernel_rfl⟩

-- fedchat/content.users
def content_users_S1 (p0_l : (List ApiLevel)) (v2 : Int) : St := ⟨shp 39 [(0, .d ((eL eApiLevel) p0_l)), (8, .d ((eL eApiLevel) p0_l)), (9, .d (eI (p0_l.length : Int))), (10, .d (eI v2))], [], 0⟩
def content_users_S2 (p0_l : (List ApiLevel)) (v2 : Int) (x5 : ApiLevel) (v8 : Bool) : St := ⟨shp 39 [(0, .d ((eL eApiLevel) p0_l)), (4, .ptr 0 0), (8, .d ((eL eApiLevel) p0_l)), (9, .d (eI (p0_l.length : Int))), (10, .d (eI v2)), (20, .d (eB v8))], [.box (dc (eApiLevel x5))], 0⟩
def content_users_j2 (x5 : ApiLevel) (k3 : (Int → Option Int)) (v2 : Int) (v8 : Bool) : Option Int := (bif v8 then some 8 else (content_high x5.N).bind fun x10 => (bif x10 then some 2 else k3 (IntKind.i64.wrap (v2 + 1))))
def content_users_B1 (p0_l : (List ApiLevel)) (k3 : (Int → Option Int)) : Int → Option Int := fun v2 => (bif decide (v2 < (p0_l.length : Int)) then (gIdx p0_l v2).bind fun x5 => (ids_User x5.User).bind fun x6 => (bif (x6 != 0) then some 3 else (bif decide (v2 > 0) then (gIdx p0_l (IntKind.i64.wrap (v2 - 1))).bind fun x14 => content_users_j2 x5 k3 v2 (Op.bytesLess (x5.User.toList) (x14.User.toList) || x5.User.toList == x14.User.toList) else content_users_j2 x5 k3 v2 false)) else some 0)
def content_users_L1 (p0_l : (List ApiLevel)) : Int → Option Int := loop1 (content_users_B1 p0_l) fuel
def content_users (p0_l : (List ApiLevel)) : Option Int := (bif decide ((p0_l.length : Int) > 100) then some 7 else content_users_L1 p0_l 0)
theorem content_users_ok (p0_l : (List ApiLevel)) (r : Int) (h : content_users p0_l = some r) : Runs Tryz.prog 156 [.d ((eL eApiLevel) p0_l)] [] (.d (eI r)) [] := by
  refine Runs.of_fin Tryz.func156 rfl ?_
  unfold content_users at h
  refine SP.rg <| .a 1 <| .nil ?_
  refine SP.seqc ?_
  refine SP.rg <| .a 1 <| .p (ok_lenT eApiLevel p0_l und34 rfl) <| .a 1 <| .nil ?_
  refine SP.cond (decide ((p0_l.length : Int) > 100)) (by kernel_rfl) (fun hb1 => ?_) (fun hb1 => ?_)
  · replace h := of_bif_true hb1 h
    refine SP.rg <| .a 1 <| .nil ?_
    refine SP.ret ?_
    rw [← Option.some.inj h]
    exact ⟨[.d (eI 7)], [], ⟨resV_tmp (by kernel_rfl), trivial⟩, by kernel_rfl, by kernel_rfl, by kernel_rfl⟩
  · replace h := of_bif_false hb1 h
    refine SP.skip ?_
    refine SP.seqc ?_
    refine SP.rg <| .a 1 <| .p (ok_lenT eApiLevel p0_l und34 rfl) <| .a 1 <| .nil ?_
    refine SP.block ?_
    refine SP.loop1 (content_users_S1 p0_l) (content_users_B1 p0_l) r 0 (sub_of (mk 39 1793) []) h ?_
    clear h
    intro J15 k3 hk3 v2 h
    unfold content_users_B1 at h
    refine SP.rg <| .a 1 <| .nil ?_
    refine SP.seqc ?_
    refine SP.cond (decide (v2 < (p0_l.length : Int))) (by kernel_rfl) (fun hb4 => ?_) (fun hb4 => ?_)
    · replace h := of_bif_true hb4 h
      refine SP.skip ?_
      refine SP.seqc ?_
      refine SP.block ?_
      obtain ⟨x5, hx5, h⟩ := of_bind h
      refine SP.rg <| .a 1 <| .p (ok_idxT (k := .i64) eApiLevel hx5 und34 ty71 (by kernel_rfl) rfl) <| .a 4 <| .nil ?_
      refine SP.block ?_
      obtain ⟨x6, hx6, h⟩ := of_bind h
      refine SP.rg <| .a 2 <| .call (ids_User_ok x5.User x6 hx6) ent122 <| .a 2 <| .nil ?_
      refine SP.cond (x6 != 0) (by kernel_rfl) (fun hb7 => ?_) (fun hb7 => ?_)
      · replace h := of_bif_true hb7 h
        refine SP.rg <| .a 1 <| .nil ?_
        refine SP.ret ?_
        rw [← Option.some.inj h]
        exact ⟨[.d (eI 3)], [], ⟨resV_tmp (by kernel_rfl), trivial⟩, by kernel_rfl, by kernel_rfl, by kernel_rfl⟩
      · replace h := of_bif_false hb7 h
        refine SP.join (fun s => ∃ (v8 : Bool), Sub s (content_users_S2 p0_l v2 x5 v8) ∧ content_users_j2 x5 k3 v2 v8 = some r) ?_ ?_
        · clear h
          rintro s ⟨v8, hs, h⟩
          refine SP.sub hs ?_
          clear hs
          unfold content_users_j2 at h
          refine SP.cond v8 (by kernel_rfl) (fun hb9 => ?_) (fun hb9 => ?_)
          · replace h := of_bif_true hb9 h
            refine SP.rg <| .a 1 <| .nil ?_
            refine SP.ret ?_
            rw [← Option.some.inj h]
            exact ⟨[.d (eI 8)], [], ⟨resV_tmp (by kernel_rfl), trivial⟩, by kernel_rfl, by kernel_rfl, by kernel_rfl⟩
          · replace h := of_bif_false hb9 h
            obtain ⟨x10, hx10, h⟩ := of_bind h
            refine SP.rg <| .a 2 <| .call (content_high_ok x5.N x10 hx10) ent158 <| .a 1 <| .nil ?_
            refine SP.cond x10 (by kernel_rfl) (fun hb11 => ?_) (fun hb11 => ?_)
            · replace h := of_bif_true hb11 h
              refine SP.rg <| .a 1 <| .nil ?_
              refine SP.ret ?_
              rw [← Option.some.inj h]
              exact ⟨[.d (eI 2)], [], ⟨resV_tmp (by kernel_rfl), trivial⟩, by kernel_rfl, by kernel_rfl, by kernel_rfl⟩
            · replace h := of_bif_false hb11 h
              refine SP.skip ?_
              refine SP.rgn <| .a 2 <| .nil ?_
              exact hk3 _ (IntKind.i64.wrap (v2 + 1)) (sub_of (mk 39 1793) []) h
        · intro K12
          rcases Bool.eq_false_or_eq_true (decide (v2 > 0)) with hb13 | hb13
          · replace h := of_bif_true hb13 h
            obtain ⟨x14, hx14, h⟩ := of_bind h
            refine SP.draw (by kernel_rfl) (by kernel_rfl) (by kernel_rfl) (.a 2 <| .c (congrArg some hb13) <| .a 5 <| .p (ok_idxT (k := .i64) eApiLevel hx14 und34 ty71 (by kernel_rfl) rfl) <| .a 5 <| .nil _) ?_
            exact K12 _ ⟨(Op.bytesLess (x5.User.toList) (x14.User.toList) || x5.User.toList == x14.User.toList), sub_of (mk 39 1050385) [(0, true)], h⟩
          · replace h := of_bif_false hb13 h
            refine SP.draw (by kernel_rfl) (by kernel_rfl) (by kernel_rfl) (.a 2 <| .c (congrArg some hb13) <| .a 11 <| .nil _) ?_
            exact K12 _ ⟨false, sub_of (mk 39 1050385) [(0, true)], h⟩
    · replace h := of_bif_false hb4 h
      refine SP.exit ?_
      refine SP.rg <| .a 1 <| .nil ?_
      refine SP.ret ?_
      rw [← Option.some.inj h]
      exact ⟨[.d (eI 0)], [], ⟨resV_tmp (by kernel_rfl), trivial⟩, by kernel_rfl, by kernel_rfl, by kernel_rfl⟩

-- fedchat/content.kinds
def content_kinds_S1 (p0_l : (List ApiKindLevel)) (v2 : Int) : St := ⟨shp 39 [(0, .d ((eL eApiKindLevel) p0_l)), (8, .d ((eL eApiKindLevel) p0_l)), (9, .d (eI (p0_l.length : Int))), (10, .d (eI v2))], [], 0⟩
def content_kinds_S2 (p0_l : (List ApiKindLevel)) (v2 : Int) (x5 : ApiKindLevel) (v8 : Bool) : St := ⟨shp 39 [(0, .d ((eL eApiKindLevel) p0_l)), (4, .ptr 0 0), (8, .d ((eL eApiKindLevel) p0_l)), (9, .d (eI (p0_l.length : Int))), (10, .d (eI v2)), (20, .d (eB v8))], [.box (dc (eApiKindLevel x5))], 0⟩
def content_kinds_j2 (x5 : ApiKindLevel) (k3 : (Int → Option Int)) (v2 : Int) (v8 : Bool) : Option Int := (bif v8 then some 8 else (content_high x5.N).bind fun x10 => (bif x10 then some 2 else k3 (IntKind.i64.wrap (v2 + 1))))
def content_kinds_B1 (p0_l : (List ApiKindLevel)) (k3 : (Int → Option Int)) : Int → Option Int := fun v2 => (bif decide (v2 < (p0_l.length : Int)) then (gIdx p0_l v2).bind fun x5 => (content_known x5.Kind).bind fun x6 => (bif (!x6) then some 1 else (bif decide (v2 > 0) then (gIdx p0_l (IntKind.i64.wrap (v2 - 1))).bind fun x14 => content_kinds_j2 x5 k3 v2 (decide (x5.Kind ≤ x14.Kind)) else content_kinds_j2 x5 k3 v2 false)) else some 0)
def content_kinds_L1 (p0_l : (List ApiKindLevel)) : Int → Option Int := loop1 (content_kinds_B1 p0_l) fuel
def content_kinds (p0_l : (List ApiKindLevel)) : Option Int := (bif decide ((p0_l.length : Int) > 100) then some 7 else content_kinds_L1 p0_l 0)
theorem content_kinds_ok (p0_l : (List ApiKindLevel)) (r : Int) (h : content_kinds p0_l = some r) : Runs Tryz.prog 157 [.d ((eL eApiKindLevel) p0_l)] [] (.d (eI r)) [] := by
  refine Runs.of_fin Tryz.func157 rfl ?_
  unfold content_kinds at h
  refine SP.rg <| .a 1 <| .nil ?_
  refine SP.seqc ?_
  refine SP.rg <| .a 1 <| .p (ok_lenT eApiKindLevel p0_l und35 rfl) <| .a 1 <| .nil ?_
  refine SP.cond (decide ((p0_l.length : Int) > 100)) (by kernel_rfl) (fun hb1 => ?_) (fun hb1 => ?_)
  · replace h := of_bif_true hb1 h
    refine SP.rg <| .a 1 <| .nil ?_
    refine SP.ret ?_
    rw [← Option.some.inj h]
    exact ⟨[.d (eI 7)], [], ⟨resV_tmp (by kernel_rfl), trivial⟩, by kernel_rfl, by kernel_rfl, by kernel_rfl⟩
  · replace h := of_bif_false hb1 h
    refine SP.skip ?_
    refine SP.seqc ?_
    refine SP.rg <| .a 1 <| .p (ok_lenT eApiKindLevel p0_l und35 rfl) <| .a 1 <| .nil ?_
    refine SP.block ?_
    refine SP.loop1 (content_kinds_S1 p0_l) (content_kinds_B1 p0_l) r 0 (sub_of (mk 39 1793) []) h ?_
    clear h
    intro J15 k3 hk3 v2 h
    unfold content_kinds_B1 at h
    refine SP.rg <| .a 1 <| .nil ?_
    refine SP.seqc ?_
    refine SP.cond (decide (v2 < (p0_l.length : Int))) (by kernel_rfl) (fun hb4 => ?_) (fun hb4 => ?_)
    · replace h := of_bif_true hb4 h
      refine SP.skip ?_
      refine SP.seqc ?_
      refine SP.block ?_
      obtain ⟨x5, hx5, h⟩ := of_bind h
      refine SP.rg <| .a 1 <| .p (ok_idxT (k := .i64) eApiKindLevel hx5 und35 ty108 (by kernel_rfl) rfl) <| .a 4 <| .nil ?_
      refine SP.block ?_
      obtain ⟨x6, hx6, h⟩ := of_bind h
      refine SP.rg <| .a 2 <| .call (content_known_ok x5.Kind x6 hx6) ent125 <| .a 2 <| .nil ?_
      refine SP.cond (!x6) (by kernel_rfl) (fun hb7 => ?_) (fun hb7 => ?_)
      · replace h := of_bif_true hb7 h
        refine SP.rg <| .a 1 <| .nil ?_
        refine SP.ret ?_
        rw [← Option.some.inj h]
        exact ⟨[.d (eI 1)], [], ⟨resV_tmp (by kernel_rfl), trivial⟩, by kernel_rfl, by kernel_rfl, by kernel_rfl⟩
      · replace h := of_bif_false hb7 h
        refine SP.join (fun s => ∃ (v8 : Bool), Sub s (content_kinds_S2 p0_l v2 x5 v8) ∧ content_kinds_j2 x5 k3 v2 v8 = some r) ?_ ?_
        · clear h
          rintro s ⟨v8, hs, h⟩
          refine SP.sub hs ?_
          clear hs
          unfold content_kinds_j2 at h
          refine SP.cond v8 (by kernel_rfl) (fun hb9 => ?_) (fun hb9 => ?_)
          · replace h := of_bif_true hb9 h
            refine SP.rg <| .a 1 <| .nil ?_
            refine SP.ret ?_
            rw [← Option.some.inj h]
            exact ⟨[.d (eI 8)], [], ⟨resV_tmp (by kernel_rfl), trivial⟩, by kernel_rfl, by kernel_rfl, by kernel_rfl⟩
          · replace h := of_bif_false hb9 h
            obtain ⟨x10, hx10, h⟩ := of_bind h
            refine SP.rg <| .a 2 <| .call (content_high_ok x5.N x10 hx10) ent158 <| .a 1 <| .nil ?_
            refine SP.cond x10 (by kernel_rfl) (fun hb11 => ?_) (fun hb11 => ?_)
            · replace h := of_bif_true hb11 h
              refine SP.rg <| .a 1 <| .nil ?_
              refine SP.ret ?_
              rw [← Option.some.inj h]
              exact ⟨[.d (eI 2)], [], ⟨resV_tmp (by kernel_rfl), trivial⟩, by kernel_rfl, by kernel_rfl, by kernel_rfl⟩
            · replace h := of_bif_false hb11 h
              refine SP.skip ?_
              refine SP.rgn <| .a 2 <| .nil ?_
              exact hk3 _ (IntKind.i64.wrap (v2 + 1)) (sub_of (mk 39 1793) []) h
        · intro K12
          rcases Bool.eq_false_or_eq_true (decide (v2 > 0)) with hb13 | hb13
          · replace h := of_bif_true hb13 h
            obtain ⟨x14, hx14, h⟩ := of_bind h
            refine SP.draw (by kernel_rfl) (by kernel_rfl) (by kernel_rfl) (.a 2 <| .c (congrArg some hb13) <| .a 5 <| .p (ok_idxT (k := .i64) eApiKindLevel hx14 und35 ty108 (by kernel_rfl) rfl) <| .a 5 <| .nil _) ?_
            exact K12 _ ⟨(decide (x5.Kind ≤ x14.Kind)), sub_of (mk 39 1050385) [(0, true)], h⟩
          · replace h := of_bif_false hb13 h
            refine SP.draw (by kernel_rfl) (by kernel_rfl) (by kernel_rfl) (.a 2 <| .c (congrArg some hb13) <| .a 11 <| .nil _) ?_
            exact K12 _ ⟨false, sub_of (mk 39 1050385) [(0, true)], h⟩
    · replace h := of_bif_false hb4 h
      refine SP.exit ?_
      refine SP.rg <| .a 1 <| .nil ?_
      refine SP.ret ?_
      rw [← Option.some.inj h]
      exact ⟨[.d (eI 0)], [], ⟨resV_tmp (by kernel_rfl), trivial⟩, by kernel_rfl, by kernel_rfl, by kernel_rfl⟩

-- fedchat/content.Levels
def content_Levels_S1 (p0_l : ApiLevels) (v5 : Int) : St := ⟨shp 40 [(33, .d ((eA eI) ([p0_l.User, p0_l.Message, p0_l.State, p0_l.Invite, p0_l.Kick, p0_l.Ban, p0_l.Redact] : (List Int)))), (34, .d (eI v5))], [], 0⟩
def content_Levels_B1 (p0_l : ApiLevels) (k6 : (Int → Option Int)) : Int → Option Int := fun v5 => (bif decide (v5 < 7) then (gIdx ([p0_l.User, p0_l.Message, p0_l.State, p0_l.Invite, p0_l.Kick, p0_l.Ban, p0_l.Redact] : (List Int)) v5).bind fun x8 => (content_high x8).bind fun x9 => (bif x9 then some 2 else k6 (IntKind.i64.wrap (v5 + 1))) else some 0)
def content_Levels_L1 (p0_l : ApiLevels) : Int → Option Int := loop1 (content_Levels_B1 p0_l) fuel
def content_Levels (p0_l : ApiLevels) : Option Int := (content_users p0_l.Users).bind fun x1 => (bif (x1 != 0) then some x1 else (content_kinds p0_l.Kinds).bind fun x3 => (bif (x3 != 0) then some x3 else content_Levels_L1 p0_l 0))
theorem content_Levels_ok (p0_l : ApiLevels) (r : Int) (h : content_Levels p0_l = some r) : Runs Tryz.prog 134 [.d (eApiLevels p0_l)] [] (.d (eI r)) [] := by
  refine Runs.of_fin Tryz.func134 rfl ?_
  unfold content_Levels at h
  refine SP.rg <| .a 2 <| .nil ?_
  refine SP.seqc ?_
  obtain ⟨x1, hx1, h⟩ := of_bind h
  refine SP.rg <| .a 2 <| .call (content_users_ok p0_l.Users x1 hx1) ent156 <| .a 1 <| .nil ?_
  refine SP.rg <| .a 2 <| .nil ?_
  refine SP.cond (x1 != 0) (by kernel_rfl) (fun hb2 => ?_) (fun hb2 => ?_)
  · replace h := of_bif_true hb2 h
    refine SP.rg <| .a 2 <| .nil ?_
    refine SP.ret ?_
    rw [← Option.some.inj h]
    exact ⟨[.d (eI x1)], [], ⟨resV_tmp (by kernel_rfl), trivial⟩, by kernel_rfl, by kernel_rfl, by kernel_rfl⟩
  · replace h := of_bif_false hb2 h
    refine SP.skip ?_
    refine SP.seqc ?_
    obtain ⟨x3, hx3, h⟩ := of_bind h
    refine SP.rg <| .a 2 <| .call (content_kinds_ok p0_l.Kinds x3 hx3) ent157 <| .a 1 <| .nil ?_
    refine SP.rg <| .a 2 <| .nil ?_
    refine SP.cond (x3 != 0) (by kernel_rfl) (fun hb4 => ?_) (fun hb4 => ?_)
    · replace h := of_bif_true hb4 h
      refine SP.rg <| .a 2 <| .nil ?_
      refine SP.ret ?_
      rw [← Option.some.inj h]
      exact ⟨[.d (eI x3)], [], ⟨resV_tmp (by kernel_rfl), trivial⟩, by kernel_rfl, by kernel_rfl, by kernel_rfl⟩
    · replace h := of_bif_false hb4 h
      refine SP.skip ?_
      refine SP.seqc ?_
      refine SP.rg <| .a 16 <| .nil ?_
      refine SP.block ?_
      refine SP.loop1 (content_Levels_S1 p0_l) (content_Levels_B1 p0_l) r 0 (sub_of (mk 40 25769803776) []) h ?_
      clear h
      intro J11 k6 hk6 v5 h
      unfold content_Levels_B1 at h
      refine SP.rg <| .a 1 <| .nil ?_
      refine SP.seqc ?_
      refine SP.cond (decide (v5 < 7)) (by kernel_rfl) (fun hb7 => ?_) (fun hb7 => ?_)
      · replace h := of_bif_true hb7 h
        refine SP.skip ?_
        refine SP.seqc ?_
        refine SP.block ?_
        obtain ⟨x8, hx8, h⟩ := of_bind h
        refine SP.rg <| .p (ok_idxA (k := .i64) eI hx8 und109 ty3 (by kernel_rfl) rfl) <| .a 1 <| .nil ?_
        obtain ⟨x9, hx9, h⟩ := of_bind h
        refine SP.rg <| .a 1 <| .call (content_high_ok x8 x9 hx9) ent158 <| .nil ?_
        refine SP.cond x9 (by kernel_rfl) (fun hb10 => ?_) (fun hb10 => ?_)
        · replace h := of_bif_true hb10 h
          refine SP.rg <| .a 1 <| .nil ?_
          refine SP.ret ?_
          rw [← Option.some.inj h]
          exact ⟨[.d (eI 2)], [], ⟨resV_tmp (by kernel_rfl), trivial⟩, by kernel_rfl, by kernel_rfl, by kernel_rfl⟩
        · replace h := of_bif_false hb10 h
          refine SP.skip ?_
          refine SP.rgn <| .a 2 <| .nil ?_
          exact hk6 _ (IntKind.i64.wrap (v5 + 1)) (sub_of (mk 40 25769803776) []) h
      · replace h := of_bif_false hb7 h
        refine SP.exit ?_
        refine SP.rg <| .a 1 <| .nil ?_
        refine SP.ret ?_
        rw [← Option.some.inj h]
        exact ⟨[.d (eI 0)], [], ⟨resV_tmp (by kernel_rfl), trivial⟩, by kernel_rfl, by kernel_rfl, by kernel_rfl⟩

-- fedchat/content.checkText
def content_checkText_S1 (v8 : Bool) : St := ⟨shp 37 [(24, .d (eB v8))], [], 0⟩
def content_checkText_j1 (v8 : Bool) : Option Int := (bif v8 then some 7 else some 0)
def content_checkText (p0_k : Int) (p1_c : ApiContent) : Option Int := (bif (p0_k == 9) then some (!(p1_c.Text.toList == s0.toList)) else some false).bind fun x1 => (bif x1 then (glob_Check p1_c.Text).bind fun x4 => some x4 else (bif (p0_k == 12) then some (p1_c.Text.toList == s0.toList) else some false).bind fun x5 => (bif x5 then some 9 else (bif (p0_k == 12) then some (decide ((p1_c.Text.size : Int) > 32)) else some false).bind fun x11 => (bif x11 then content_checkText_j1 x11 else content_checkText_j1 (decide ((p1_c.Text.size : Int) > 400)))))
theorem content_checkText_ok (p0_k : Int) (p1_c : ApiContent) (r : Int) (h : content_checkText p0_k p1_c = some r) : Runs Tryz.prog 127 [.d (eI p0_k), .d (eApiContent p1_c)] [] (.d (eI r)) [] := by
  refine Runs.of_fin Tryz.func127 rfl ?_
  unfold content_checkText at h
  refine SP.rg <| .a 2 <| .nil ?_
  refine SP.seqc ?_
  refine SP.block ?_
  refine SP.rg <| .a 2 <| ?_
  obtain ⟨x1, hx1, h⟩ := of_bind h
  refine .merge 5 [8, 9, 10, 11] 12 (.d (eB x1)) ?_ ?_
  · replace h := hx1
    rcases Bool.eq_false_or_eq_true (p0_k == 9) with hb2 | hb2
    · replace h := of_bif_true hb2 h
      refine .c (congrArg some hb2) <| .a 4 <| .nil ?_
      obtain rfl := Option.some.inj h
      kernel_rfl
    · replace h := of_bif_false hb2 h
      refine .c (congrArg some hb2) <| .a 4 <| .nil ?_
      obtain rfl := Option.some.inj h
      kernel_rfl
  refine .a 1 <| .nil ?_
  refine SP.cond x1 (by kernel_rfl) (fun hb3 => ?_) (fun hb3 => ?_)
  · replace h := of_bif_true hb3 h
    obtain ⟨x4, hx4, h⟩ := of_bind h
    refine SP.rg <| .a 2 <| .call (glob_Check_ok p1_c.Text x4 hx4) ent155 <| .a 1 <| .nil ?_
    refine SP.ret ?_
    rw [← Option.some.inj h]
    exact ⟨[.d (eI x4)], [], ⟨resV_tmp (by kernel_rfl), trivial⟩, by kernel_rfl, by kernel_rfl, by kernel_rfl⟩
  · replace h := of_bif_false hb3 h
    refine SP.rg <| .a 2 <| ?_
    obtain ⟨x5, hx5, h⟩ := of_bind h
    refine .merge 5 [19, 20, 21, 22] 23 (.d (eB x5)) ?_ ?_
    · replace h := hx5
      rcases Bool.eq_false_or_eq_true (p0_k == 12) with hb6 | hb6
      · replace h := of_bif_true hb6 h
        refine .c (congrArg some hb6) <| .a 4 <| .nil ?_
        obtain rfl := Option.some.inj h
        kernel_rfl
      · replace h := of_bif_false hb6 h
        refine .c (congrArg some hb6) <| .a 4 <| .nil ?_
        obtain rfl := Option.some.inj h
        kernel_rfl
    refine .a 1 <| .nil ?_
    refine SP.cond x5 (by kernel_rfl) (fun hb7 => ?_) (fun hb7 => ?_)
    · replace h := of_bif_true hb7 h
      refine SP.rg <| .a 1 <| .nil ?_
      refine SP.ret ?_
      rw [← Option.some.inj h]
      exact ⟨[.d (eI 9)], [], ⟨resV_tmp (by kernel_rfl), trivial⟩, by kernel_rfl, by kernel_rfl, by kernel_rfl⟩
    · replace h := of_bif_false hb7 h
      refine SP.join (fun s => ∃ (v8 : Bool), Sub s (content_checkText_S1 v8) ∧ content_checkText_j1 v8 = some r) ?_ ?_
      · clear h
        rintro s ⟨v8, hs, h⟩
        refine SP.sub hs ?_
        clear hs
        unfold content_checkText_j1 at h
        refine SP.cond v8 (by kernel_rfl) (fun hb9 => ?_) (fun hb9 => ?_)
        · replace h := of_bif_true hb9 h
          refine SP.rg <| .a 1 <| .nil ?_
          refine SP.ret ?_
          rw [← Option.some.inj h]
          exact ⟨[.d (eI 7)], [], ⟨resV_tmp (by kernel_rfl), trivial⟩, by kernel_rfl, by kernel_rfl, by kernel_rfl⟩
        · replace h := of_bif_false hb9 h
          refine SP.skip ?_
          refine SP.rg <| .a 1 <| .nil ?_
          refine SP.ret ?_
          rw [← Option.some.inj h]
          exact ⟨[.d (eI 0)], [], ⟨resV_tmp (by kernel_rfl), trivial⟩, by kernel_rfl, by kernel_rfl, by kernel_rfl⟩
      · intro K10
        refine SP.rg <| .a 2 <| ?_
        obtain ⟨x11, hx11, h⟩ := of_bind h
        refine .merge 6 [27, 28, 29, 30, 31] 32 (.d (eB x11)) ?_ ?_
        · replace h := hx11
          rcases Bool.eq_false_or_eq_true (p0_k == 12) with hb12 | hb12
          · replace h := of_bif_true hb12 h
            refine .c (congrArg some hb12) <| .a 5 <| .nil ?_
            obtain rfl := Option.some.inj h
            kernel_rfl
          · replace h := of_bif_false hb12 h
            refine .c (congrArg some hb12) <| .a 5 <| .nil ?_
            obtain rfl := Option.some.inj h
            kernel_rfl
        refine .a 1 <| .nil ?_
        refine SP.cond x11 (by kernel_rfl) (fun hb13 => ?_) (fun hb13 => ?_)
        · replace h := of_bif_true hb13 h
          refine SP.skip ?_
          exact K10 _ ⟨x11, sub_of (mk 37 16777216) [], h⟩
        · replace h := of_bif_false hb13 h
          refine SP.rgn <| .a 5 <| .nil ?_
          exact K10 _ ⟨(decide ((p1_c.Text.size : Int) > 400)), sub_of (mk 37 16777216) [], h⟩

-- fedchat/content.checkN
def content_checkN_S1 (p1_c : ApiContent) (v1 : Int) (v2 : Int) : St := ⟨shp 39 [(3, .ptr 0 0), (5, .d (eI v1)), (6, .d (eI v2))], [.box (dc (eApiContent p1_c))], 0⟩
def content_checkN_j1 (p1_c : ApiContent) (v1 : Int) (v2 : Int) : Option Int := (bif decide (p1_c.N < v1) then some true else some (decide (p1_c.N > v2))).bind fun x3 => (bif x3 then some 2 else some 0)
def content_checkN (p0_k : Int) (p1_c : ApiContent) : Option Int := (bif (p0_k == 2) then content_checkN_j1 p1_c 0 4 else (bif (p0_k == 8) then content_checkN_j1 p1_c 0 1000000000 else (bif (p0_k == 10) then content_checkN_j1 p1_c 1 10000 else (bif (p0_k == 9) then (bif (p1_c.N == 1) then some true else some (p1_c.N == 2)).bind fun x11 => (bif x11 then some true else some (p1_c.N == 6)).bind fun x13 => (bif x13 then some 0 else some 2) else content_checkN_j1 p1_c 0 3))))
theorem content_checkN_ok (p0_k : Int) (p1_c : ApiContent) (r : Int) (h : content_checkN p0_k p1_c = some r) : Runs Tryz.prog 128 [.d (eI p0_k), .d (eApiContent p1_c)] [] (.d (eI r)) [] := by
  refine Runs.of_fin Tryz.func128 rfl ?_
  unfold content_checkN at h
  refine SP.rg <| .a 2 <| .nil ?_
  refine SP.rg <| .a 2 <| .nil ?_
  refine SP.join (fun s => ∃ (v1 : Int) (v2 : Int), Sub s (content_checkN_S1 p1_c v1 v2) ∧ content_checkN_j1 p1_c v1 v2 = some r) ?_ ?_
  · clear h
    rintro s ⟨v1, v2, hs, h⟩
    refine SP.sub hs ?_
    clear hs
    unfold content_checkN_j1 at h
    refine SP.seqc ?_
    refine SP.rg <| .a 4 <| ?_
    obtain ⟨x3, hx3, h⟩ := of_bind h
    refine .merge 6 [33, 34, 35, 36, 37] 38 (.d (eB x3)) ?_ ?_
    · replace h := hx3
      rcases Bool.eq_false_or_eq_true (decide (p1_c.N < v1)) with hb4 | hb4
      · replace h := of_bif_true hb4 h
        refine .c (congrArg some hb4) <| .a 5 <| .nil ?_
        obtain rfl := Option.some.inj h
        kernel_rfl
      · replace h := of_bif_false hb4 h
        refine .c (congrArg some hb4) <| .a 5 <| .nil ?_
        obtain rfl := Option.some.inj h
        kernel_rfl
    refine .nil ?_
    refine SP.cond x3 (by kernel_rfl) (fun hb5 => ?_) (fun hb5 => ?_)
    · replace h := of_bif_true hb5 h
      refine SP.rg <| .a 1 <| .nil ?_
      refine SP.ret ?_
      rw [← Option.some.inj h]
      exact ⟨[.d (eI 2)], [], ⟨resV_tmp (by kernel_rfl), trivial⟩, by kernel_rfl, by kernel_rfl, by kernel_rfl⟩
    · replace h := of_bif_false hb5 h
      refine SP.skip ?_
      refine SP.rg <| .a 1 <| .nil ?_
      refine SP.ret ?_
      rw [← Option.some.inj h]
      exact ⟨[.d (eI 0)], [], ⟨resV_tmp (by kernel_rfl), trivial⟩, by kernel_rfl, by kernel_rfl, by kernel_rfl⟩
  · intro K6
    refine SP.rg <| .a 1 <| .nil ?_
    refine SP.block ?_
    refine SP.rg <| .a 2 <| .nil ?_
    refine SP.cond (p0_k == 2) (by kernel_rfl) (fun hb7 => ?_) (fun hb7 => ?_)
    · replace h := of_bif_true hb7 h
      refine SP.rgn <| .a 1 <| .nil ?_
      exact K6 _ ⟨0, 4, sub_of (mk 39 104) [(0, true)], h⟩
    · replace h := of_bif_false hb7 h
      refine SP.rg <| .a 2 <| .nil ?_
      refine SP.cond (p0_k == 8) (by kernel_rfl) (fun hb8 => ?_) (fun hb8 => ?_)
      · replace h := of_bif_true hb8 h
        refine SP.rgn <| .a 1 <| .nil ?_
        exact K6 _ ⟨0, 1000000000, sub_of (mk 39 104) [(0, true)], h⟩
      · replace h := of_bif_false hb8 h
        refine SP.rg <| .a 2 <| .nil ?_
        refine SP.cond (p0_k == 10) (by kernel_rfl) (fun hb9 => ?_) (fun hb9 => ?_)
        · replace h := of_bif_true hb9 h
          refine SP.rgn <| .a 2 <| .nil ?_
          exact K6 _ ⟨1, 10000, sub_of (mk 39 104) [(0, true)], h⟩
        · replace h := of_bif_false hb9 h
          refine SP.rg <| .a 2 <| .nil ?_
          refine SP.cond (p0_k == 9) (by kernel_rfl) (fun hb10 => ?_) (fun hb10 => ?_)
          · replace h := of_bif_true hb10 h
            refine SP.seqc ?_
            refine SP.rg <| .a 3 <| .nil ?_
            refine SP.rg <| .a 2 <| ?_
            obtain ⟨x11, hx11, h⟩ := of_bind h
            refine .merge 4 [21, 22, 23] 24 (.d (eB x11)) ?_ ?_
            · replace h := hx11
              rcases Bool.eq_false_or_eq_true (p1_c.N == 1) with hb12 | hb12
              · replace h := of_bif_true hb12 h
                refine .c (congrArg some hb12) <| .a 3 <| .nil ?_
                obtain rfl := Option.some.inj h
                kernel_rfl
              · replace h := of_bif_false hb12 h
                refine .c (congrArg some hb12) <| .a 3 <| .nil ?_
                obtain rfl := Option.some.inj h
                kernel_rfl
            refine .a 1 <| ?_
            obtain ⟨x13, hx13, h⟩ := of_bind h
            refine .merge 3 [26, 27] 28 (.d (eB x13)) ?_ ?_
            · replace h := hx13
              cases x11 with
              | true =>
                replace h := of_bif_true rfl h
                refine .a 3 <| .nil ?_
                obtain rfl := Option.some.inj h
                kernel_rfl
              | false =>
                replace h := of_bif_false rfl h
                refine .a 3 <| .nil ?_
                obtain rfl := Option.some.inj h
                kernel_rfl
            refine .nil ?_
            refine SP.cond x13 (by kernel_rfl) (fun hb15 => ?_) (fun hb15 => ?_)
            · replace h := of_bif_true hb15 h
              refine SP.rg <| .a 1 <| .nil ?_
              refine SP.ret ?_
              rw [← Option.some.inj h]
              exact ⟨[.d (eI 0)], [], ⟨resV_tmp (by kernel_rfl), trivial⟩, by kernel_rfl, by kernel_rfl, by kernel_rfl⟩
            · replace h := of_bif_false hb15 h
              refine SP.skip ?_
              refine SP.rg <| .a 1 <| .nil ?_
              refine SP.ret ?_
              rw [← Option.some.inj h]
              exact ⟨[.d (eI 2)], [], ⟨resV_tmp (by kernel_rfl), trivial⟩, by kernel_rfl, by kernel_rfl, by kernel_rfl⟩
          · replace h := of_bif_false hb10 h
            refine SP.skip ?_
            exact K6 _ ⟨0, 3, sub_of (mk 39 104) [(0, true)], h⟩

-- fedchat/content.checkTarget
def content_checkTarget (p0_k : Int) (p1_c : ApiContent) : Option Int := (bif decide (p1_c.Target < 0) then some true else (bif (p1_c.Target == 0) then some (p0_k != 11) else some false).bind fun x3 => some x3).bind fun x1 => (bif x1 then some 2 else some 0)
theorem content_checkTarget_ok (p0_k : Int) (p1_c : ApiContent) (r : Int) (h : content_checkTarget p0_k p1_c = some r) : Runs Tryz.prog 129 [.d (eI p0_k), .d (eApiContent p1_c)] [] (.d (eI r)) [] := by
  refine Runs.of_fin Tryz.func129 rfl ?_
  unfold content_checkTarget at h
  refine SP.rg <| .a 2 <| .nil ?_
  refine SP.seqc ?_
  refine SP.rg <| .a 3 <| ?_
  obtain ⟨x1, hx1, h⟩ := of_bind h
  refine .merge 9 [8, 9, 10, 11, 12, 13, 14, 15] 16 (.d (eB x1)) ?_ ?_
  · replace h := hx1
    rcases Bool.eq_false_or_eq_true (decide (p1_c.Target < 0)) with hb2 | hb2
    · replace h := of_bif_true hb2 h
      refine .c (congrArg some hb2) <| .a 8 <| .nil ?_
      obtain rfl := Option.some.inj h
      kernel_rfl
    · replace h := of_bif_false hb2 h
      refine .c (congrArg some hb2) <| .a 3 <| ?_
      obtain ⟨x3, hx3, h⟩ := of_bind h
      refine .merge 4 [12, 13, 14] 15 (.d (eB x3)) ?_ ?_
      · replace h := hx3
        rcases Bool.eq_false_or_eq_true (p1_c.Target == 0) with hb4 | hb4
        · replace h := of_bif_true hb4 h
          refine .c (congrArg some hb4) <| .a 3 <| .nil ?_
          obtain rfl := Option.some.inj h
          kernel_rfl
        · replace h := of_bif_false hb4 h
          refine .c (congrArg some hb4) <| .a 3 <| .nil ?_
          obtain rfl := Option.some.inj h
          kernel_rfl
      refine .a 1 <| .nil ?_
      obtain rfl := Option.some.inj h
      kernel_rfl
  refine .nil ?_
  refine SP.cond x1 (by kernel_rfl) (fun hb5 => ?_) (fun hb5 => ?_)
  · replace h := of_bif_true hb5 h
    refine SP.rg <| .a 1 <| .nil ?_
    refine SP.ret ?_
    rw [← Option.some.inj h]
    exact ⟨[.d (eI 2)], [], ⟨resV_tmp (by kernel_rfl), trivial⟩, by kernel_rfl, by kernel_rfl, by kernel_rfl⟩
  · replace h := of_bif_false hb5 h
    refine SP.skip ?_
    refine SP.rg <| .a 1 <| .nil ?_
    refine SP.ret ?_
    rw [← Option.some.inj h]
    exact ⟨[.d (eI 0)], [], ⟨resV_tmp (by kernel_rfl), trivial⟩, by kernel_rfl, by kernel_rfl, by kernel_rfl⟩

-- fedchat/content.checkThread
def content_checkThread (p0_k : Int) (p1_c : ApiContent) : Option Int := (bif p1_c.Thread then some (p1_c.Target == 0) else some false).bind fun x1 => (bif x1 then some 1 else some 0)
theorem content_checkThread_ok (p0_k : Int) (p1_c : ApiContent) (r : Int) (h : content_checkThread p0_k p1_c = some r) : Runs Tryz.prog 130 [.d (eI p0_k), .d (eApiContent p1_c)] [] (.d (eI r)) [] := by
  refine Runs.of_fin Tryz.func130 rfl ?_
  unfold content_checkThread at h
  refine SP.rg <| .a 2 <| .nil ?_
  refine SP.seqc ?_
  refine SP.rg <| .a 2 <| ?_
  obtain ⟨x1, hx1, h⟩ := of_bind h
  refine .merge 5 [7, 8, 9, 10] 11 (.d (eB x1)) ?_ ?_
  · replace h := hx1
    rcases Bool.eq_false_or_eq_true p1_c.Thread with hb2 | hb2
    · replace h := of_bif_true hb2 h
      refine .c (congrArg some hb2) <| .a 4 <| .nil ?_
      obtain rfl := Option.some.inj h
      kernel_rfl
    · replace h := of_bif_false hb2 h
      refine .c (congrArg some hb2) <| .a 4 <| .nil ?_
      obtain rfl := Option.some.inj h
      kernel_rfl
  refine .nil ?_
  refine SP.cond x1 (by kernel_rfl) (fun hb3 => ?_) (fun hb3 => ?_)
  · replace h := of_bif_true hb3 h
    refine SP.rg <| .a 1 <| .nil ?_
    refine SP.ret ?_
    rw [← Option.some.inj h]
    exact ⟨[.d (eI 1)], [], ⟨resV_tmp (by kernel_rfl), trivial⟩, by kernel_rfl, by kernel_rfl, by kernel_rfl⟩
  · replace h := of_bif_false hb3 h
    refine SP.skip ?_
    refine SP.rg <| .a 1 <| .nil ?_
    refine SP.ret ?_
    rw [← Option.some.inj h]
    exact ⟨[.d (eI 0)], [], ⟨resV_tmp (by kernel_rfl), trivial⟩, by kernel_rfl, by kernel_rfl, by kernel_rfl⟩

-- fedchat/content.checkVia
def content_checkVia (p0_k : Int) (p1_c : ApiContent) : Option Int := (bif (p1_c.Via.toList == s0.toList) then some 0 else (bif (p1_c.N != 3) then some 1 else (ids_User p1_c.Via).bind fun x3 => some x3))
theorem content_checkVia_ok (p0_k : Int) (p1_c : ApiContent) (r : Int) (h : content_checkVia p0_k p1_c = some r) : Runs Tryz.prog 131 [.d (eI p0_k), .d (eApiContent p1_c)] [] (.d (eI r)) [] := by
  refine Runs.of_fin Tryz.func131 rfl ?_
  unfold content_checkVia at h
  refine SP.rg <| .a 2 <| .nil ?_
  refine SP.seqc ?_
  refine SP.block ?_
  refine SP.rg <| .a 4 <| .nil ?_
  refine SP.cond (p1_c.Via.toList == s0.toList) (by kernel_rfl) (fun hb1 => ?_) (fun hb1 => ?_)
  · replace h := of_bif_true hb1 h
    refine SP.rg <| .a 1 <| .nil ?_
    refine SP.ret ?_
    rw [← Option.some.inj h]
    exact ⟨[.d (eI 0)], [], ⟨resV_tmp (by kernel_rfl), trivial⟩, by kernel_rfl, by kernel_rfl, by kernel_rfl⟩
  · replace h := of_bif_false hb1 h
    refine SP.rg <| .a 4 <| .nil ?_
    refine SP.cond (p1_c.N != 3) (by kernel_rfl) (fun hb2 => ?_) (fun hb2 => ?_)
    · replace h := of_bif_true hb2 h
      refine SP.rg <| .a 1 <| .nil ?_
      refine SP.ret ?_
      rw [← Option.some.inj h]
      exact ⟨[.d (eI 1)], [], ⟨resV_tmp (by kernel_rfl), trivial⟩, by kernel_rfl, by kernel_rfl, by kernel_rfl⟩
    · replace h := of_bif_false hb2 h
      refine SP.skip ?_
      obtain ⟨x3, hx3, h⟩ := of_bind h
      refine SP.rg <| .a 2 <| .call (ids_User_ok p1_c.Via x3 hx3) ent122 <| .a 1 <| .nil ?_
      refine SP.ret ?_
      rw [← Option.some.inj h]
      exact ⟨[.d (eI x3)], [], ⟨resV_tmp (by kernel_rfl), trivial⟩, by kernel_rfl, by kernel_rfl, by kernel_rfl⟩

-- fedchat/content.checkAllow
def content_checkAllow_S1 (p1_c : ApiContent) (v7 : Int) : St := ⟨shp 52 [(3, .ptr 0 0), (29, .d ((eL eS) p1_c.Allow)), (30, .d (eI (p1_c.Allow.length : Int))), (31, .d (eI v7))], [.box (dc (eApiContent p1_c))], 0⟩
def content_checkAllow_B1 (p1_c : ApiContent) (k8 : (Int → Option Int)) : Int → Option Int := fun v7 => (bif decide (v7 < (p1_c.Allow.length : Int)) then (gIdx p1_c.Allow v7).bind fun x10 => (ids_Room x10).bind fun x11 => (bif (x11 != 0) then some 3 else (bif decide (v7 > 0) then (gIdx p1_c.Allow (IntKind.i64.wrap (v7 - 1))).bind fun x15 => some (Op.bytesLess (x10.toList) (x15.toList) || x10.toList == x15.toList) else some false).bind fun x13 => (bif x13 then some 8 else k8 (IntKind.i64.wrap (v7 + 1)))) else some 0)
def content_checkAllow_L1 (p1_c : ApiContent) : Int → Option Int := loop1 (content_checkAllow_B1 p1_c) fuel
def content_checkAllow (p0_k : Int) (p1_c : ApiContent) : Option Int := (bif (p0_k == 6) then (content_patterns p1_c.Allow).bind fun x2 => some x2 else (bif decide ((p1_c.Allow.length : Int) > 0) then some (p1_c.N != 3) else some false).bind fun x3 => (bif x3 then some 1 else (bif decide ((p1_c.Allow.length : Int) > 100) then some 7 else content_checkAllow_L1 p1_c 0)))
theorem content_checkAllow_ok (p0_k : Int) (p1_c : ApiContent) (r : Int) (h : content_checkAllow p0_k p1_c = some r) : Runs Tryz.prog 132 [.d (eI p0_k), .d (eApiContent p1_c)] [] (.d (eI r)) [] := by
  refine Runs.of_fin Tryz.func132 rfl ?_
  unfold content_checkAllow at h
  refine SP.rg <| .a 2 <| .nil ?_
  refine SP.seqc ?_
  refine SP.block ?_
  refine SP.rg <| .a 3 <| .nil ?_
  refine SP.cond (p0_k == 6) (by kernel_rfl) (fun hb1 => ?_) (fun hb1 => ?_)
  · replace h := of_bif_true hb1 h
    obtain ⟨x2, hx2, h⟩ := of_bind h
    refine SP.rg <| .a 2 <| .call (content_patterns_ok p1_c.Allow x2 hx2) ent133 <| .a 1 <| .nil ?_
    refine SP.ret ?_
    rw [← Option.some.inj h]
    exact ⟨[.d (eI x2)], [], ⟨resV_tmp (by kernel_rfl), trivial⟩, by kernel_rfl, by kernel_rfl, by kernel_rfl⟩
  · replace h := of_bif_false hb1 h
    refine SP.rg <| .a 2 <| .p (ok_lenT eS p1_c.Allow und24 rfl) <| .a 1 <| ?_
    obtain ⟨x3, hx3, h⟩ := of_bind h
    refine .merge 5 [18, 19, 20, 21] 22 (.d (eB x3)) ?_ ?_
    · replace h := hx3
      rcases Bool.eq_false_or_eq_true (decide ((p1_c.Allow.length : Int) > 0)) with hb4 | hb4
      · replace h := of_bif_true hb4 h
        refine .c (congrArg some hb4) <| .a 4 <| .nil ?_
        obtain rfl := Option.some.inj h
        kernel_rfl
      · replace h := of_bif_false hb4 h
        refine .c (congrArg some hb4) <| .a 4 <| .nil ?_
        obtain rfl := Option.some.inj h
        kernel_rfl
    refine .a 1 <| .nil ?_
    refine SP.cond x3 (by kernel_rfl) (fun hb5 => ?_) (fun hb5 => ?_)
    · replace h := of_bif_true hb5 h
      refine SP.rg <| .a 1 <| .nil ?_
      refine SP.ret ?_
      rw [← Option.some.inj h]
      exact ⟨[.d (eI 1)], [], ⟨resV_tmp (by kernel_rfl), trivial⟩, by kernel_rfl, by kernel_rfl, by kernel_rfl⟩
    · replace h := of_bif_false hb5 h
      refine SP.rg <| .a 2 <| .p (ok_lenT eS p1_c.Allow und24 rfl) <| .a 2 <| .nil ?_
      refine SP.cond (decide ((p1_c.Allow.length : Int) > 100)) (by kernel_rfl) (fun hb6 => ?_) (fun hb6 => ?_)
      · replace h := of_bif_true hb6 h
        refine SP.rg <| .a 1 <| .nil ?_
        refine SP.ret ?_
        rw [← Option.some.inj h]
        exact ⟨[.d (eI 7)], [], ⟨resV_tmp (by kernel_rfl), trivial⟩, by kernel_rfl, by kernel_rfl, by kernel_rfl⟩
      · replace h := of_bif_false hb6 h
        refine SP.skip ?_
        refine SP.seqc ?_
        refine SP.rg <| .a 2 <| .p (ok_lenT eS p1_c.Allow und24 rfl) <| .a 1 <| .nil ?_
        refine SP.block ?_
        refine SP.loop1 (content_checkAllow_S1 p1_c) (content_checkAllow_B1 p1_c) r 0 (sub_of (mk 52 3758096392) [(0, true)]) h ?_
        clear h
        intro J17 k8 hk8 v7 h
        unfold content_checkAllow_B1 at h
        refine SP.rg <| .a 1 <| .nil ?_
        refine SP.seqc ?_
        refine SP.cond (decide (v7 < (p1_c.Allow.length : Int))) (by kernel_rfl) (fun hb9 => ?_) (fun hb9 => ?_)
        · replace h := of_bif_true hb9 h
          refine SP.skip ?_
          refine SP.seqc ?_
          refine SP.block ?_
          obtain ⟨x10, hx10, h⟩ := of_bind h
          refine SP.rg <| .a 1 <| .p (ok_idxT (k := .i64) eS hx10 und24 ty9 (by kernel_rfl) rfl) <| .a 3 <| .nil ?_
          refine SP.seqc ?_
          obtain ⟨x11, hx11, h⟩ := of_bind h
          refine SP.rg <| .a 1 <| .call (ids_Room_ok x10 x11 hx11) ent121 <| .a 1 <| .nil ?_
          refine SP.cond (x11 != 0) (by kernel_rfl) (fun hb12 => ?_) (fun hb12 => ?_)
          · replace h := of_bif_true hb12 h
            refine SP.rg <| .a 1 <| .nil ?_
            refine SP.ret ?_
            rw [← Option.some.inj h]
            exact ⟨[.d (eI 3)], [], ⟨resV_tmp (by kernel_rfl), trivial⟩, by kernel_rfl, by kernel_rfl, by kernel_rfl⟩
          · replace h := of_bif_false hb12 h
            refine SP.skip ?_
            refine SP.rg <| .a 2 <| ?_
            obtain ⟨x13, hx13, h⟩ := of_bind h
            refine .merge 10 [41, 42, 43, 44, 45, 46, 47, 48, 49] 50 (.d (eB x13)) ?_ ?_
            · replace h := hx13
              rcases Bool.eq_false_or_eq_true (decide (v7 > 0)) with hb14 | hb14
              · replace h := of_bif_true hb14 h
                obtain ⟨x15, hx15, h⟩ := of_bind h
                refine .c (congrArg some hb14) <| .a 5 <| .p (ok_idxT (k := .i64) eS hx15 und24 ty9 (by kernel_rfl) rfl) <| .a 3 <| .nil ?_
                obtain rfl := Option.some.inj h
                kernel_rfl
              · replace h := of_bif_false hb14 h
                refine .c (congrArg some hb14) <| .a 9 <| .nil ?_
                obtain rfl := Option.some.inj h
                kernel_rfl
            refine .nil ?_
            refine SP.cond x13 (by kernel_rfl) (fun hb16 => ?_) (fun hb16 => ?_)
            · replace h := of_bif_true hb16 h
              refine SP.rg <| .a 1 <| .nil ?_
              refine SP.ret ?_
              rw [← Option.some.inj h]
              exact ⟨[.d (eI 8)], [], ⟨resV_tmp (by kernel_rfl), trivial⟩, by kernel_rfl, by kernel_rfl, by kernel_rfl⟩
            · replace h := of_bif_false hb16 h
              refine SP.skip ?_
              refine SP.rgn <| .a 2 <| .nil ?_
              exact hk8 _ (IntKind.i64.wrap (v7 + 1)) (sub_of (mk 52 3758096392) [(0, true)]) h
        · replace h := of_bif_false hb9 h
          refine SP.exit ?_
          refine SP.rg <| .a 1 <| .nil ?_
          refine SP.ret ?_
          rw [← Option.some.inj h]
          exact ⟨[.d (eI 0)], [], ⟨resV_tmp (by kernel_rfl), trivial⟩, by kernel_rfl, by kernel_rfl, by kernel_rfl⟩

-- tab_content_checkText
def tab_content_checkText (n : Nat) (a0 : Int) (a1 : ApiContent) : Option Int := bif n == 127 then content_checkText a0 a1 else bif n == 128 then content_checkN a0 a1 else bif n == 129 then content_checkTarget a0 a1 else bif n == 130 then content_checkThread a0 a1 else bif n == 131 then content_checkVia a0 a1 else bif n == 132 then content_checkAllow a0 a1 else none
theorem tab_content_checkText_ok (n : Nat) (a0 : Int) (a1 : ApiContent) (r : Int) (h : tab_content_checkText n a0 a1 = some r) : Fn2 Tryz.prog eI eApiContent eI (eFn n) (tab_content_checkText n) := by
  by_cases h0 : n = 127
  · subst h0; exact ⟨127, [], rfl, ent127, fun a0 a1 c hc => content_checkText_ok a0 a1 c hc⟩
  by_cases h1 : n = 128
  · subst h1; exact ⟨128, [], rfl, ent128, fun a0 a1 c hc => content_checkN_ok a0 a1 c hc⟩
  by_cases h2 : n = 129
  · subst h2; exact ⟨129, [], rfl, ent129, fun a0 a1 c hc => content_checkTarget_ok a0 a1 c hc⟩
  by_cases h3 : n = 130
  · subst h3; exact ⟨130, [], rfl, ent130, fun a0 a1 c hc => content_checkThread_ok a0 a1 c hc⟩
  by_cases h4 : n = 131
  · subst h4; exact ⟨131, [], rfl, ent131, fun a0 a1 c hc => content_checkVia_ok a0 a1 c hc⟩
  by_cases h5 : n = 132
  · subst h5; exact ⟨132, [], rfl, ent132, fun a0 a1 c hc => content_checkAllow_ok a0 a1 c hc⟩
  rw [tab_content_checkText, beq_false_of_ne h0, beq_false_of_ne h1, beq_false_of_ne h2, beq_false_of_ne h3, beq_false_of_ne h4, beq_false_of_ne h5] at h
  have h : (none : Option Int) = some r := h
  cases h
end Go.Proofs.YtmegkokogomfnaaGreat
