/- Functions of the program, typed, each proved to be what the program computes (printed by gogen.py). No condition. -/
import Derived.Test.YtmegkokogomfnaaGreatGf3
namespace Go.Proofs.YtmegkokogomfnaaGreat
open Go.RowKit
set_option maxRecDepth 20000
set_option maxHeartbeats 4000000

-- fedchat/fedchatref07.Verify
def R07_Verify_S1 (p0_e : ApiEvent) (v3 : Bool) : St := ⟨shp 43 [(1, .ptr 0 0), (22, .d (eB v3))], [.box (dc (eApiEvent p0_e))], 0⟩
def R07_Verify_S2 (v7 : Bool) : St := ⟨shp 43 [(42, .d (eB v7))], [], 0⟩
def R07_Verify_j2 (v7 : Bool) : Option Int := (bif v7 then some 12 else some 0)
def R07_Verify_j1 (p0_e : ApiEvent) (v3 : Bool) : Option Int := (bif v3 then some 6 else (R07_IdOf p0_e).bind fun x5 => (bif (x5 != p0_e.Id) then some 11 else (R02_ServerOf p0_e.Sender).bind fun x10 => (bif (!(p0_e.Sig.Server.toList == x10.toList)) then R07_Verify_j2 true else R07_Verify_j2 (p0_e.Sig.Sum != p0_e.Id))))
def R07_Verify (p0_e : ApiEvent) : Option Int := (R07_Check p0_e).bind fun x1 => (bif (x1 != 0) then some x1 else (R07_Whole p0_e).bind fun x13 => (bif (!x13) then (R06_Strip p0_e.Kind p0_e.Content).bind fun x15 => (R06_Same p0_e.Content x15).bind fun x16 => R07_Verify_j1 p0_e (!x16) else R07_Verify_j1 p0_e false))
theorem R07_Verify_ok (p0_e : ApiEvent) (r : Int) (h : R07_Verify p0_e = some r) : Runs Tryz.prog 34 [.d (eApiEvent p0_e)] [] (.d (eI r)) [] := by
  refine Runs.of_fin Tryz.func34 rfl ?_
  unfold R07_Verify at h
  refine SP.rg <| .a 2 <| .nil ?_
  refine SP.seqc ?_
  obtain ⟨x1, hx1, h⟩ := of_bind h
  refine SP.rg <| .a 1 <| .call (R07_Check_ok p0_e x1 hx1) ent59 <| .a 1 <| .nil ?_
  refine SP.rg <| .a 2 <| .nil ?_
  refine SP.cond (x1 != 0) (by kernel_rfl) (fun hb2 => ?_) (fun hb2 => ?_)
  · replace h := of_bif_true hb2 h
    refine SP.rg <| .a 2 <| .nil ?_
    refine SP.ret ?_
    rw [← Option.some.inj h]
    exact ⟨[.d (eI x1)], [], ⟨resV_tmp (by kernel_rfl), trivial⟩, by kernel_rfl, by kernel_rfl, by kernel_rfl⟩
  · replace h := of_bif_false hb2 h
    refine SP.skip ?_
    refine SP.seqc ?_
    refine SP.join (fun s => ∃ (v3 : Bool), Sub s (R07_Verify_S1 p0_e v3) ∧ R07_Verify_j1 p0_e v3 = some r) ?_ ?_
    · clear h
      rintro s ⟨v3, hs, h⟩
      refine SP.sub hs ?_
      clear hs
      unfold R07_Verify_j1 at h
      refine SP.cond v3 (by kernel_rfl) (fun hb4 => ?_) (fun hb4 => ?_)
      · replace h := of_bif_true hb4 h
        refine SP.rg <| .a 1 <| .nil ?_
        refine SP.ret ?_
        rw [← Option.some.inj h]
        exact ⟨[.d (eI 6)], [], ⟨resV_tmp (by kernel_rfl), trivial⟩, by kernel_rfl, by kernel_rfl, by kernel_rfl⟩
      · replace h := of_bif_false hb4 h
        refine SP.skip ?_
        refine SP.seqc ?_
        obtain ⟨x5, hx5, h⟩ := of_bind h
        refine SP.dseq (by kernel_rfl) (by kernel_rfl) (by kernel_rfl) (.a 1 <| .call (R07_IdOf_ok p0_e x5 hx5) ent29 <| .a 3 <| .nil _) ?_
        refine SP.cond (x5 != p0_e.Id) (by kernel_rfl) (fun hb6 => ?_) (fun hb6 => ?_)
        · replace h := of_bif_true hb6 h
          refine SP.rg <| .a 1 <| .nil ?_
          refine SP.ret ?_
          rw [← Option.some.inj h]
          exact ⟨[.d (eI 11)], [], ⟨resV_tmp (by kernel_rfl), trivial⟩, by kernel_rfl, by kernel_rfl, by kernel_rfl⟩
        · replace h := of_bif_false hb6 h
          refine SP.skip ?_
          refine SP.seqc ?_
          refine SP.join (fun s => ∃ (v7 : Bool), Sub s (R07_Verify_S2 v7) ∧ R07_Verify_j2 v7 = some r) ?_ ?_
          · clear h
            rintro s ⟨v7, hs, h⟩
            refine SP.sub hs ?_
            clear hs
            unfold R07_Verify_j2 at h
            refine SP.cond v7 (by kernel_rfl) (fun hb8 => ?_) (fun hb8 => ?_)
            · replace h := of_bif_true hb8 h
              refine SP.rg <| .a 1 <| .nil ?_
              refine SP.ret ?_
              rw [← Option.some.inj h]
              exact ⟨[.d (eI 12)], [], ⟨resV_tmp (by kernel_rfl), trivial⟩, by kernel_rfl, by kernel_rfl, by kernel_rfl⟩
            · replace h := of_bif_false hb8 h
              refine SP.skip ?_
              refine SP.rg <| .a 1 <| .nil ?_
              refine SP.ret ?_
              rw [← Option.some.inj h]
              exact ⟨[.d (eI 0)], [], ⟨resV_tmp (by kernel_rfl), trivial⟩, by kernel_rfl, by kernel_rfl, by kernel_rfl⟩
          · intro K9
            obtain ⟨x10, hx10, h⟩ := of_bind h
            rcases Bool.eq_false_or_eq_true (!(p0_e.Sig.Server.toList == x10.toList)) with hb11 | hb11
            · replace h := of_bif_true hb11 h
              refine SP.draw (by kernel_rfl) (by kernel_rfl) (by kernel_rfl) (.a 5 <| .call (R02_ServerOf_ok p0_e.Sender x10 hx10) ent27 <| .a 1 <| .c (congrArg some hb11) <| .a 7 <| .nil _) ?_
              exact K9 _ ⟨true, sub_of (mk 43 4398046511104) [], h⟩
            · replace h := of_bif_false hb11 h
              refine SP.draw (by kernel_rfl) (by kernel_rfl) (by kernel_rfl) (.a 5 <| .call (R02_ServerOf_ok p0_e.Sender x10 hx10) ent27 <| .a 1 <| .c (congrArg some hb11) <| .a 7 <| .nil _) ?_
              exact K9 _ ⟨(p0_e.Sig.Sum != p0_e.Id), sub_of (mk 43 4398046511104) [], h⟩
    · intro K12
      obtain ⟨x13, hx13, h⟩ := of_bind h
      rcases Bool.eq_false_or_eq_true (!x13) with hb14 | hb14
      · replace h := of_bif_true hb14 h
        obtain ⟨x15, hx15, h⟩ := of_bind h
        obtain ⟨x16, hx16, h⟩ := of_bind h
        refine SP.draw (by kernel_rfl) (by kernel_rfl) (by kernel_rfl) (.a 1 <| .call (R07_Whole_ok p0_e x13 hx13) ent60 <| .a 1 <| .c (congrArg some hb14) <| .a 6 <| .call (R06_Strip_ok p0_e.Kind p0_e.Content x15 hx15) ent62 <| .call (R06_Same_ok p0_e.Content x15 x16 hx16) ent61 <| .a 2 <| .nil _) ?_
        exact K12 _ ⟨(!x16), sub_of (mk 43 4194306) [(0, true)], h⟩
      · replace h := of_bif_false hb14 h
        refine SP.draw (by kernel_rfl) (by kernel_rfl) (by kernel_rfl) (.a 1 <| .call (R07_Whole_ok p0_e x13 hx13) ent60 <| .a 1 <| .c (congrArg some hb14) <| .a 10 <| .nil _) ?_
        exact K12 _ ⟨false, sub_of (mk 43 4194306) [(0, true)], h⟩

-- fedchat/fedchatref33.Signed
def R33_Signed_S1 (p0_server : ByteArray) (p1_l : (List ApiEvent)) (v1 : Int) : St := ⟨shp 28 [(0, .d (eS p0_server)), (1, .d ((eL eApiEvent) p1_l)), (5, .d (eI v1))], [], 0⟩
def R33_Signed_B1 (p1_l : (List ApiEvent)) (p0_server : ByteArray) (k2 : (Int → Option Bool)) : Int → Option Bool := fun v1 => (bif decide (v1 < (p1_l.length : Int)) then (gIdx p1_l v1).bind fun x4 => (R07_Verify x4).bind fun x5 => (bif (x5 == 0) then (gIdx p1_l v1).bind fun x8 => (R02_ServerOf x8.Sender).bind fun x9 => some (!(x9.toList == p0_server.toList)) else some false).bind fun x6 => (bif x6 then some false else k2 (IntKind.i64.wrap (v1 + 1))) else some true)
def R33_Signed_L1 (p1_l : (List ApiEvent)) (p0_server : ByteArray) : Int → Option Bool := loop1 (R33_Signed_B1 p1_l p0_server) fuel
def R33_Signed (p0_server : ByteArray) (p1_l : (List ApiEvent)) : Option Bool := R33_Signed_L1 p1_l p0_server 0
theorem R33_Signed_ok (p0_server : ByteArray) (p1_l : (List ApiEvent)) (r : Bool) (h : R33_Signed p0_server p1_l = some r) : Runs Tryz.prog 13 [.d (eS p0_server), .d ((eL eApiEvent) p1_l)] [] (.d (eB r)) [] := by
  refine Runs.of_fin Tryz.func13 rfl ?_
  unfold R33_Signed at h
  refine SP.rg <| .a 1 <| .nil ?_
  refine SP.seqc ?_
  refine SP.rg <| .a 1 <| .nil ?_
  refine SP.block ?_
  refine SP.loop1 (R33_Signed_S1 p0_server p1_l) (R33_Signed_B1 p1_l p0_server) r 0 (sub_of (mk 28 35) []) h ?_
  clear h
  intro J11 k2 hk2 v1 h
  unfold R33_Signed_B1 at h
  refine SP.seqc ?_
  refine SP.rg <| .a 2 <| .p (ok_lenT eApiEvent p1_l und52 rfl) <| .a 1 <| .nil ?_
  refine SP.cond (decide (v1 < (p1_l.length : Int))) (by kernel_rfl) (fun hb3 => ?_) (fun hb3 => ?_)
  · replace h := of_bif_true hb3 h
    refine SP.skip ?_
    refine SP.seqc ?_
    refine SP.block ?_
    obtain ⟨x4, hx4, h⟩ := of_bind h
    obtain ⟨x5, hx5, h⟩ := of_bind h
    refine SP.rg <| .a 2 <| .p (ok_idxT (k := .i64) eApiEvent hx4 und52 ty43 (by kernel_rfl) rfl) <| .a 1 <| .call (R07_Verify_ok x4 x5 hx5) ent34 <| .a 1 <| ?_
    obtain ⟨x6, hx6, h⟩ := of_bind h
    refine .merge 10 [18, 19, 20, 21, 22, 23, 24, 25, 26] 27 (.d (eB x6)) ?_ ?_
    · replace h := hx6
      rcases Bool.eq_false_or_eq_true (x5 == 0) with hb7 | hb7
      · replace h := of_bif_true hb7 h
        obtain ⟨x8, hx8, h⟩ := of_bind h
        obtain ⟨x9, hx9, h⟩ := of_bind h
        refine .c (congrArg some hb7) <| .a 2 <| .p (ok_idxT (k := .i64) eApiEvent hx8 und52 ty43 (by kernel_rfl) rfl) <| .a 2 <| .call (R02_ServerOf_ok x8.Sender x9 hx9) ent27 <| .a 3 <| .nil ?_
        obtain rfl := Option.some.inj h
        kernel_rfl
      · replace h := of_bif_false hb7 h
        refine .c (congrArg some hb7) <| .a 9 <| .nil ?_
        obtain rfl := Option.some.inj h
        kernel_rfl
    refine .nil ?_
    refine SP.cond x6 (by kernel_rfl) (fun hb10 => ?_) (fun hb10 => ?_)
    · replace h := of_bif_true hb10 h
      refine SP.rg <| .a 1 <| .nil ?_
      refine SP.ret ?_
      rw [← Option.some.inj h]
      exact ⟨[.d (eB false)], [], ⟨resV_tmp (by kernel_rfl), trivial⟩, by kernel_rfl, by kernel_rfl, by kernel_rfl⟩
    · replace h := of_bif_false hb10 h
      refine SP.skip ?_
      refine SP.rgn <| .a 3 <| .nil ?_
      exact hk2 _ (IntKind.i64.wrap (v1 + 1)) (sub_of (mk 28 35) []) h
  · replace h := of_bif_false hb3 h
    refine SP.exit ?_
    refine SP.rg <| .a 1 <| .nil ?_
    refine SP.ret ?_
    rw [← Option.some.inj h]
    exact ⟨[.d (eB true)], [], ⟨resV_tmp (by kernel_rfl), trivial⟩, by kernel_rfl, by kernel_rfl, by kernel_rfl⟩

-- fedchat/fedchatlaw33.EvilSigned
def L33_EvilSigned (p0_server : ByteArray) (p1_l : (List ApiEvent)) : Option Bool := (bif decide ((p0_server.size : Int) > 2000) then some true else (R08_Great p1_l 14).bind fun x3 => some x3).bind fun x1 => (bif x1 then some true else (evil_Signed p0_server p1_l).bind fun x5 => (R33_Signed p0_server p1_l).bind fun x6 => (bif (x5 == x6) then (L33_live).bind fun x9 => some x9 else some false).bind fun x7 => some x7)
theorem L33_EvilSigned_ok (p0_server : ByteArray) (p1_l : (List ApiEvent)) (r : Bool) (h : L33_EvilSigned p0_server p1_l = some r) : Runs Tryz.prog 4 [.d (eS p0_server), .d ((eL eApiEvent) p1_l)] [] (.d (eB r)) [] := by
  refine Runs.of_fin Tryz.func4 rfl ?_
  unfold L33_EvilSigned at h
  refine SP.rg <| .a 1 <| .nil ?_
  refine SP.seqc ?_
  refine SP.rg <| .a 3 <| ?_
  obtain ⟨x1, hx1, h⟩ := of_bind h
  refine .merge 4 [8, 9, 10] 11 (.d (eB x1)) ?_ ?_
  · replace h := hx1
    rcases Bool.eq_false_or_eq_true (decide ((p0_server.size : Int) > 2000)) with hb2 | hb2
    · replace h := of_bif_true hb2 h
      refine .c (congrArg some hb2) <| .a 3 <| .nil ?_
      obtain rfl := Option.some.inj h
      kernel_rfl
    · replace h := of_bif_false hb2 h
      obtain ⟨x3, hx3, h⟩ := of_bind h
      refine .c (congrArg some hb2) <| .a 1 <| .call (R08_Great_ok p1_l 14 x3 hx3) ent11 <| .a 1 <| .nil ?_
      obtain rfl := Option.some.inj h
      kernel_rfl
  refine .nil ?_
  refine SP.cond x1 (by kernel_rfl) (fun hb4 => ?_) (fun hb4 => ?_)
  · replace h := of_bif_true hb4 h
    refine SP.rg <| .a 1 <| .nil ?_
    refine SP.ret ?_
    rw [← Option.some.inj h]
    exact ⟨[.d (eB true)], [], ⟨resV_tmp (by kernel_rfl), trivial⟩, by kernel_rfl, by kernel_rfl, by kernel_rfl⟩
  · replace h := of_bif_false hb4 h
    refine SP.skip ?_
    obtain ⟨x5, hx5, h⟩ := of_bind h
    obtain ⟨x6, hx6, h⟩ := of_bind h
    refine SP.rg <| .a 2 <| .call (evil_Signed_ok p0_server p1_l x5 hx5) ent12 <| .a 2 <| .call (R33_Signed_ok p0_server p1_l x6 hx6) ent13 <| .a 1 <| ?_
    obtain ⟨x7, hx7, h⟩ := of_bind h
    refine .merge 3 [19, 20] 21 (.d (eB x7)) ?_ ?_
    · replace h := hx7
      rcases Bool.eq_false_or_eq_true (x5 == x6) with hb8 | hb8
      · replace h := of_bif_true hb8 h
        obtain ⟨x9, hx9, h⟩ := of_bind h
        refine .c (congrArg some hb8) <| .call (L33_live_ok  x9 hx9) ent10 <| .a 1 <| .nil ?_
        obtain rfl := Option.some.inj h
        kernel_rfl
      · replace h := of_bif_false hb8 h
        refine .c (congrArg some hb8) <| .a 2 <| .nil ?_
        obtain rfl := Option.some.inj h
        kernel_rfl
    refine .a 1 <| .nil ?_
    refine SP.ret ?_
    rw [← Option.some.inj h]
    exact ⟨[.d (eB x7)], [], ⟨resV_tmp (by kernel_rfl), trivial⟩, by kernel_rfl, by kernel_rfl, by kernel_rfl⟩

-- fedchat/fedchatlaw33.EvilOwn
def L33_EvilOwn_S1 (x3 : ((List ApiPacket) × Int)) (p0_s : ApiServer) (v4 : Int) : St := ⟨shp 44 [(2, .ptr 0 0), (5, .d ((eL eApiPacket) x3.1)), (7, .d (eI v4))], [.box (dc (eApiServer p0_s))], 0⟩
def L33_EvilOwn_S2 (x3 : ((List ApiPacket) × Int)) (v4 : Int) (p0_s : ApiServer) (v7 : Bool) : St := ⟨shp 44 [(2, .ptr 0 0), (5, .d ((eL eApiPacket) x3.1)), (7, .d (eI v4)), (42, .d (eB v7))], [.box (dc (eApiServer p0_s))], 0⟩
def L33_EvilOwn_j2 (k5 : (Int → Option Bool)) (v4 : Int) (v7 : Bool) : Option Bool := (bif v7 then some false else k5 (IntKind.i64.wrap (v4 + 1)))
def L33_EvilOwn_B1 (x3 : ((List ApiPacket) × Int)) (p0_s : ApiServer) (k5 : (Int → Option Bool)) : Int → Option Bool := fun v4 => (bif decide (v4 < (x3.1.length : Int)) then (gIdx x3.1 v4).bind fun x10 => (evil_Signed p0_s.Name x10.Events).bind fun x11 => (bif (!x11) then L33_EvilOwn_j2 k5 v4 true else (gIdx x3.1 v4).bind fun x13 => (R33_Signed p0_s.Name x13.Events).bind fun x14 => L33_EvilOwn_j2 k5 v4 (!x14)) else (L33_live).bind fun x15 => some x15)
def L33_EvilOwn_L1 (x3 : ((List ApiPacket) × Int)) (p0_s : ApiServer) : Int → Option Bool := loop1 (L33_EvilOwn_B1 x3 p0_s) fuel
def L33_EvilOwn (p0_s : ApiServer) (p1_d : ApiDeed) : Option Bool := (L33_great p0_s p1_d).bind fun x1 => (bif x1 then some true else (evil_Forge p0_s p1_d).bind fun x3 => L33_EvilOwn_L1 x3 p0_s 0)
theorem L33_EvilOwn_ok (p0_s : ApiServer) (p1_d : ApiDeed) (r : Bool) (h : L33_EvilOwn p0_s p1_d = some r) : Runs Tryz.prog 5 [.d (eApiServer p0_s), .d (eApiDeed p1_d)] [] (.d (eB r)) [] := by
  refine Runs.of_fin Tryz.func5 rfl ?_
  unfold L33_EvilOwn at h
  refine SP.rg <| .a 3 <| .nil ?_
  refine SP.seqc ?_
  obtain ⟨x1, hx1, h⟩ := of_bind h
  refine SP.rg <| .a 2 <| .call (L33_great_ok p0_s p1_d x1 hx1) ent6 <| .nil ?_
  refine SP.cond x1 (by kernel_rfl) (fun hb2 => ?_) (fun hb2 => ?_)
  · replace h := of_bif_true hb2 h
    refine SP.rg <| .a 1 <| .nil ?_
    refine SP.ret ?_
    rw [← Option.some.inj h]
    exact ⟨[.d (eB true)], [], ⟨resV_tmp (by kernel_rfl), trivial⟩, by kernel_rfl, by kernel_rfl, by kernel_rfl⟩
  · replace h := of_bif_false hb2 h
    refine SP.skip ?_
    obtain ⟨x3, hx3, h⟩ := of_bind h
    refine SP.rg <| .a 2 <| .call (evil_Forge_ok p0_s p1_d x3 hx3) ent7 <| .a 5 <| .nil ?_
    refine SP.seqc ?_
    refine SP.rg <| .a 1 <| .nil ?_
    refine SP.block ?_
    refine SP.loop1 (L33_EvilOwn_S1 x3 p0_s) (L33_EvilOwn_B1 x3 p0_s) r 0 (sub_of (mk 44 164) [(0, true)]) h ?_
    clear h
    intro J16 k5 hk5 v4 h
    unfold L33_EvilOwn_B1 at h
    refine SP.seqc ?_
    refine SP.rg <| .a 2 <| .p (ok_lenT eApiPacket x3.1 und25 rfl) <| .a 1 <| .nil ?_
    refine SP.cond (decide (v4 < (x3.1.length : Int))) (by kernel_rfl) (fun hb6 => ?_) (fun hb6 => ?_)
    · replace h := of_bif_true hb6 h
      refine SP.skip ?_
      refine SP.seqc ?_
      refine SP.block ?_
      refine SP.join (fun s => ∃ (v7 : Bool), Sub s (L33_EvilOwn_S2 x3 v4 p0_s v7) ∧ L33_EvilOwn_j2 k5 v4 v7 = some r) ?_ ?_
      · clear h
        rintro s ⟨v7, hs, h⟩
        refine SP.sub hs ?_
        clear hs
        unfold L33_EvilOwn_j2 at h
        refine SP.cond v7 (by kernel_rfl) (fun hb8 => ?_) (fun hb8 => ?_)
        · replace h := of_bif_true hb8 h
          refine SP.rg <| .a 1 <| .nil ?_
          refine SP.ret ?_
          rw [← Option.some.inj h]
          exact ⟨[.d (eB false)], [], ⟨resV_tmp (by kernel_rfl), trivial⟩, by kernel_rfl, by kernel_rfl, by kernel_rfl⟩
        · replace h := of_bif_false hb8 h
          refine SP.skip ?_
          refine SP.rgn <| .a 3 <| .nil ?_
          exact hk5 _ (IntKind.i64.wrap (v4 + 1)) (sub_of (mk 44 164) [(0, true)]) h
      · intro K9
        obtain ⟨x10, hx10, h⟩ := of_bind h
        obtain ⟨x11, hx11, h⟩ := of_bind h
        rcases Bool.eq_false_or_eq_true (!x11) with hb12 | hb12
        · replace h := of_bif_true hb12 h
          refine SP.draw (by kernel_rfl) (by kernel_rfl) (by kernel_rfl) (.a 4 <| .p (ok_idxT (k := .i64) eApiPacket hx10 und25 ty57 (by kernel_rfl) rfl) <| .a 2 <| .call (evil_Signed_ok p0_s.Name x10.Events x11 hx11) ent12 <| .a 1 <| .c (congrArg some hb12) <| .a 10 <| .nil _) ?_
          exact K9 _ ⟨true, sub_of (mk 44 4398046511268) [(0, true)], h⟩
        · replace h := of_bif_false hb12 h
          obtain ⟨x13, hx13, h⟩ := of_bind h
          obtain ⟨x14, hx14, h⟩ := of_bind h
          refine SP.draw (by kernel_rfl) (by kernel_rfl) (by kernel_rfl) (.a 4 <| .p (ok_idxT (k := .i64) eApiPacket hx10 und25 ty57 (by kernel_rfl) rfl) <| .a 2 <| .call (evil_Signed_ok p0_s.Name x10.Events x11 hx11) ent12 <| .a 1 <| .c (congrArg some hb12) <| .a 4 <| .p (ok_idxT (k := .i64) eApiPacket hx13 und25 ty57 (by kernel_rfl) rfl) <| .a 2 <| .call (R33_Signed_ok p0_s.Name x13.Events x14 hx14) ent13 <| .a 2 <| .nil _) ?_
          exact K9 _ ⟨(!x14), sub_of (mk 44 4398046511268) [(0, true)], h⟩
    · replace h := of_bif_false hb6 h
      refine SP.exit ?_
      obtain ⟨x15, hx15, h⟩ := of_bind h
      refine SP.rg <| .call (L33_live_ok  x15 hx15) ent10 <| .a 1 <| .nil ?_
      refine SP.ret ?_
      rw [← Option.some.inj h]
      exact ⟨[.d (eB x15)], [], ⟨resV_tmp (by kernel_rfl), trivial⟩, by kernel_rfl, by kernel_rfl, by kernel_rfl⟩
end Go.Proofs.YtmegkokogomfnaaGreat
