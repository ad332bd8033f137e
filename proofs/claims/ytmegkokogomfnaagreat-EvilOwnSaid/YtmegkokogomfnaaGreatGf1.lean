/- Functions of the program, typed, each proved to be what the program computes (printed by gogen.py). No condition. -/
import Derived.Test.YtmegkokogomfnaaGreatGt
namespace Go.Proofs.YtmegkokogomfnaaGreat
open Go.RowKit
set_option maxRecDepth 20000
set_option maxHeartbeats 4000000

-- fedchat/fedchatref08.Long
def R08_Long_S1 (p0_e : ApiEvent) (v23 : Int) : St := ⟨shp 125 [(3, .ptr 0 0), (4, .d (eI v23))], [.box (dc (eApiContent p0_e.Content))], 0⟩
def R08_Long_S2 (p0_e : ApiEvent) (v28 : Int) : St := ⟨shp 125 [(3, .ptr 0 0), (5, .d (eI v28))], [.box (dc (eApiContent p0_e.Content))], 0⟩
def R08_Long_S3 (p0_e : ApiEvent) (v33 : Int) : St := ⟨shp 125 [(3, .ptr 0 0), (6, .d (eI v33))], [.box (dc (eApiContent p0_e.Content))], 0⟩
def R08_Long_B3 (p0_e : ApiEvent) (k34 : (Int → Option Bool)) : Int → Option Bool := fun v33 => (bif decide (v33 < (p0_e.Content.Levels.Users.length : Int)) then (gIdx p0_e.Content.Levels.Users v33).bind fun x36 => (bif decide ((x36.User.size : Int) > 2000) then some true else k34 (IntKind.i64.wrap (v33 + 1))) else some false)
def R08_Long_L3 (p0_e : ApiEvent) : Int → Option Bool := loop1 (R08_Long_B3 p0_e) fuel
def R08_Long_B2 (p0_e : ApiEvent) (k29 : (Int → Option Bool)) : Int → Option Bool := fun v28 => (bif decide (v28 < (p0_e.Content.Deny.length : Int)) then (gIdx p0_e.Content.Deny v28).bind fun x31 => (bif decide ((x31.size : Int) > 2000) then some true else k29 (IntKind.i64.wrap (v28 + 1))) else R08_Long_L3 p0_e 0)
def R08_Long_L2 (p0_e : ApiEvent) : Int → Option Bool := loop1 (R08_Long_B2 p0_e) fuel
def R08_Long_B1 (p0_e : ApiEvent) (k24 : (Int → Option Bool)) : Int → Option Bool := fun v23 => (bif decide (v23 < (p0_e.Content.Allow.length : Int)) then (gIdx p0_e.Content.Allow v23).bind fun x26 => (bif decide ((x26.size : Int) > 2000) then some true else k24 (IntKind.i64.wrap (v23 + 1))) else R08_Long_L2 p0_e 0)
def R08_Long_L1 (p0_e : ApiEvent) : Int → Option Bool := loop1 (R08_Long_B1 p0_e) fuel
def R08_Long (p0_e : ApiEvent) : Option Bool := (bif decide ((p0_e.Prev.length : Int) > 40) then some true else some (decide ((p0_e.Auth.length : Int) > 40))).bind fun x1 => (bif x1 then some true else some (decide ((p0_e.Content.Allow.length : Int) > 40))).bind fun x3 => (bif x3 then some true else some (decide ((p0_e.Content.Deny.length : Int) > 40))).bind fun x5 => (bif x5 then some true else some (decide ((p0_e.Content.Levels.Users.length : Int) > 40))).bind fun x7 => (bif x7 then some true else some (decide ((p0_e.Content.Levels.Kinds.length : Int) > 40))).bind fun x9 => (bif x9 then some true else (bif decide ((p0_e.Room.size : Int) > 2000) then some true else some (decide ((p0_e.Sender.size : Int) > 2000))).bind fun x12 => (bif x12 then some true else some (decide ((p0_e.Key.size : Int) > 2000))).bind fun x14 => (bif x14 then some true else some (decide ((p0_e.Content.Text.size : Int) > 2000))).bind fun x16 => (bif x16 then some true else some (decide ((p0_e.Content.Via.size : Int) > 2000))).bind fun x18 => (bif x18 then some true else some (decide ((p0_e.Sig.Server.size : Int) > 2000))).bind fun x20 => (bif x20 then some true else R08_Long_L1 p0_e 0))
theorem R08_Long_ok (p0_e : ApiEvent) (r : Bool) (h : R08_Long p0_e = some r) : Runs Tryz.prog 14 [.d (eApiEvent p0_e)] [] (.d (eB r)) [] := by
  refine Runs.of_fin Tryz.func14 rfl ?_
  unfold R08_Long at h
  refine SP.rg <| .a 2 <| .nil ?_
  refine SP.rg <| .a 4 <| .nil ?_
  refine SP.seqc ?_
  refine SP.rg <| .a 2 <| .p (ok_lenT eI p0_e.Prev und33 rfl) <| .a 1 <| ?_
  obtain ⟨x1, hx1, h⟩ := of_bind h
  refine .merge 6 [13, 14, 15, 16, 17] 18 (.d (eB x1)) ?_ ?_
  · replace h := hx1
    rcases Bool.eq_false_or_eq_true (decide ((p0_e.Prev.length : Int) > 40)) with hb2 | hb2
    · replace h := of_bif_true hb2 h
      refine .c (congrArg some hb2) <| .a 5 <| .nil ?_
      obtain rfl := Option.some.inj h
      kernel_rfl
    · replace h := of_bif_false hb2 h
      refine .c (congrArg some hb2) <| .a 2 <| .p (ok_lenT eI p0_e.Auth und33 rfl) <| .a 2 <| .nil ?_
      obtain rfl := Option.some.inj h
      kernel_rfl
  refine .a 1 <| ?_
  obtain ⟨x3, hx3, h⟩ := of_bind h
  refine .merge 5 [20, 21, 22, 23] 24 (.d (eB x3)) ?_ ?_
  · replace h := hx3
    cases x1 with
    | true =>
      replace h := of_bif_true rfl h
      refine .a 5 <| .nil ?_
      obtain rfl := Option.some.inj h
      kernel_rfl
    | false =>
      replace h := of_bif_false rfl h
      refine .a 2 <| .p (ok_lenT eS p0_e.Content.Allow und24 rfl) <| .a 2 <| .nil ?_
      obtain rfl := Option.some.inj h
      kernel_rfl
  refine .a 1 <| ?_
  obtain ⟨x5, hx5, h⟩ := of_bind h
  refine .merge 5 [26, 27, 28, 29] 30 (.d (eB x5)) ?_ ?_
  · replace h := hx5
    cases x3 with
    | true =>
      replace h := of_bif_true rfl h
      refine .a 5 <| .nil ?_
      obtain rfl := Option.some.inj h
      kernel_rfl
    | false =>
      replace h := of_bif_false rfl h
      refine .a 2 <| .p (ok_lenT eS p0_e.Content.Deny und24 rfl) <| .a 2 <| .nil ?_
      obtain rfl := Option.some.inj h
      kernel_rfl
  refine .a 1 <| ?_
  obtain ⟨x7, hx7, h⟩ := of_bind h
  refine .merge 6 [32, 33, 34, 35, 36] 37 (.d (eB x7)) ?_ ?_
  · replace h := hx7
    cases x5 with
    | true =>
      replace h := of_bif_true rfl h
      refine .a 6 <| .nil ?_
      obtain rfl := Option.some.inj h
      kernel_rfl
    | false =>
      replace h := of_bif_false rfl h
      refine .a 3 <| .p (ok_lenT eApiLevel p0_e.Content.Levels.Users und34 rfl) <| .a 2 <| .nil ?_
      obtain rfl := Option.some.inj h
      kernel_rfl
  refine .a 1 <| ?_
  obtain ⟨x9, hx9, h⟩ := of_bind h
  refine .merge 6 [39, 40, 41, 42, 43] 44 (.d (eB x9)) ?_ ?_
  · replace h := hx9
    cases x7 with
    | true =>
      replace h := of_bif_true rfl h
      refine .a 6 <| .nil ?_
      obtain rfl := Option.some.inj h
      kernel_rfl
    | false =>
      replace h := of_bif_false rfl h
      refine .a 3 <| .p (ok_lenT eApiKindLevel p0_e.Content.Levels.Kinds und35 rfl) <| .a 2 <| .nil ?_
      obtain rfl := Option.some.inj h
      kernel_rfl
  refine .nil ?_
  refine SP.cond x9 (by kernel_rfl) (fun hb11 => ?_) (fun hb11 => ?_)
  · replace h := of_bif_true hb11 h
    refine SP.rg <| .a 1 <| .nil ?_
    refine SP.ret ?_
    rw [← Option.some.inj h]
    exact ⟨[.d (eB true)], [], ⟨resV_tmp (by kernel_rfl), trivial⟩, by kernel_rfl, by kernel_rfl, by kernel_rfl⟩
  · replace h := of_bif_false hb11 h
    refine SP.skip ?_
    refine SP.seqc ?_
    refine SP.rg <| .a 4 <| ?_
    obtain ⟨x12, hx12, h⟩ := of_bind h
    refine .merge 6 [49, 50, 51, 52, 53] 54 (.d (eB x12)) ?_ ?_
    · replace h := hx12
      rcases Bool.eq_false_or_eq_true (decide ((p0_e.Room.size : Int) > 2000)) with hb13 | hb13
      · replace h := of_bif_true hb13 h
        refine .c (congrArg some hb13) <| .a 5 <| .nil ?_
        obtain rfl := Option.some.inj h
        kernel_rfl
      · replace h := of_bif_false hb13 h
        refine .c (congrArg some hb13) <| .a 5 <| .nil ?_
        obtain rfl := Option.some.inj h
        kernel_rfl
    refine .a 1 <| ?_
    obtain ⟨x14, hx14, h⟩ := of_bind h
    refine .merge 5 [56, 57, 58, 59] 60 (.d (eB x14)) ?_ ?_
    · replace h := hx14
      cases x12 with
      | true =>
        replace h := of_bif_true rfl h
        refine .a 5 <| .nil ?_
        obtain rfl := Option.some.inj h
        kernel_rfl
      | false =>
        replace h := of_bif_false rfl h
        refine .a 5 <| .nil ?_
        obtain rfl := Option.some.inj h
        kernel_rfl
    refine .a 1 <| ?_
    obtain ⟨x16, hx16, h⟩ := of_bind h
    refine .merge 5 [62, 63, 64, 65] 66 (.d (eB x16)) ?_ ?_
    · replace h := hx16
      cases x14 with
      | true =>
        replace h := of_bif_true rfl h
        refine .a 5 <| .nil ?_
        obtain rfl := Option.some.inj h
        kernel_rfl
      | false =>
        replace h := of_bif_false rfl h
        refine .a 5 <| .nil ?_
        obtain rfl := Option.some.inj h
        kernel_rfl
    refine .a 1 <| ?_
    obtain ⟨x18, hx18, h⟩ := of_bind h
    refine .merge 5 [68, 69, 70, 71] 72 (.d (eB x18)) ?_ ?_
    · replace h := hx18
      cases x16 with
      | true =>
        replace h := of_bif_true rfl h
        refine .a 5 <| .nil ?_
        obtain rfl := Option.some.inj h
        kernel_rfl
      | false =>
        replace h := of_bif_false rfl h
        refine .a 5 <| .nil ?_
        obtain rfl := Option.some.inj h
        kernel_rfl
    refine .a 1 <| ?_
    obtain ⟨x20, hx20, h⟩ := of_bind h
    refine .merge 6 [74, 75, 76, 77, 78] 79 (.d (eB x20)) ?_ ?_
    · replace h := hx20
      cases x18 with
      | true =>
        replace h := of_bif_true rfl h
        refine .a 6 <| .nil ?_
        obtain rfl := Option.some.inj h
        kernel_rfl
      | false =>
        replace h := of_bif_false rfl h
        refine .a 6 <| .nil ?_
        obtain rfl := Option.some.inj h
        kernel_rfl
    refine .nil ?_
    refine SP.cond x20 (by kernel_rfl) (fun hb22 => ?_) (fun hb22 => ?_)
    · replace h := of_bif_true hb22 h
      refine SP.rg <| .a 1 <| .nil ?_
      refine SP.ret ?_
      rw [← Option.some.inj h]
      exact ⟨[.d (eB true)], [], ⟨resV_tmp (by kernel_rfl), trivial⟩, by kernel_rfl, by kernel_rfl, by kernel_rfl⟩
    · replace h := of_bif_false hb22 h
      refine SP.skip ?_
      refine SP.seqc ?_
      refine SP.rg <| .a 1 <| .nil ?_
      refine SP.block ?_
      refine SP.loop1 (R08_Long_S1 p0_e) (R08_Long_B1 p0_e) r 0 (sub_of (mk 125 24) [(1, true)]) h ?_
      clear h
      intro J40 k24 hk24 v23 h
      unfold R08_Long_B1 at h
      refine SP.seqc ?_
      refine SP.rg <| .a 3 <| .p (ok_lenT eS p0_e.Content.Allow und24 rfl) <| .a 1 <| .nil ?_
      refine SP.cond (decide (v23 < (p0_e.Content.Allow.length : Int))) (by kernel_rfl) (fun hb25 => ?_) (fun hb25 => ?_)
      · replace h := of_bif_true hb25 h
        refine SP.skip ?_
        refine SP.seqc ?_
        refine SP.block ?_
        obtain ⟨x26, hx26, h⟩ := of_bind h
        refine SP.rg <| .a 3 <| .p (ok_idxT (k := .i64) eS hx26 und24 ty9 (by kernel_rfl) rfl) <| .a 3 <| .nil ?_
        refine SP.cond (decide ((x26.size : Int) > 2000)) (by kernel_rfl) (fun hb27 => ?_) (fun hb27 => ?_)
        · replace h := of_bif_true hb27 h
          refine SP.rg <| .a 1 <| .nil ?_
          refine SP.ret ?_
          rw [← Option.some.inj h]
          exact ⟨[.d (eB true)], [], ⟨resV_tmp (by kernel_rfl), trivial⟩, by kernel_rfl, by kernel_rfl, by kernel_rfl⟩
        · replace h := of_bif_false hb27 h
          refine SP.skip ?_
          refine SP.rgn <| .a 3 <| .nil ?_
          exact hk24 _ (IntKind.i64.wrap (v23 + 1)) (sub_of (mk 125 24) [(0, true)]) h
      · replace h := of_bif_false hb25 h
        refine SP.exit ?_
        refine SP.seqc ?_
        refine SP.rg <| .a 1 <| .nil ?_
        refine SP.block ?_
        refine SP.loop1 (R08_Long_S2 p0_e) (R08_Long_B2 p0_e) r 0 (sub_of (mk 125 40) [(0, true)]) h ?_
        clear h
        intro J39 k29 hk29 v28 h
        unfold R08_Long_B2 at h
        refine SP.seqc ?_
        refine SP.rg <| .a 3 <| .p (ok_lenT eS p0_e.Content.Deny und24 rfl) <| .a 1 <| .nil ?_
        refine SP.cond (decide (v28 < (p0_e.Content.Deny.length : Int))) (by kernel_rfl) (fun hb30 => ?_) (fun hb30 => ?_)
        · replace h := of_bif_true hb30 h
          refine SP.skip ?_
          refine SP.seqc ?_
          refine SP.block ?_
          obtain ⟨x31, hx31, h⟩ := of_bind h
          refine SP.rg <| .a 3 <| .p (ok_idxT (k := .i64) eS hx31 und24 ty9 (by kernel_rfl) rfl) <| .a 3 <| .nil ?_
          refine SP.cond (decide ((x31.size : Int) > 2000)) (by kernel_rfl) (fun hb32 => ?_) (fun hb32 => ?_)
          · replace h := of_bif_true hb32 h
            refine SP.rg <| .a 1 <| .nil ?_
            refine SP.ret ?_
            rw [← Option.some.inj h]
            exact ⟨[.d (eB true)], [], ⟨resV_tmp (by kernel_rfl), trivial⟩, by kernel_rfl, by kernel_rfl, by kernel_rfl⟩
          · replace h := of_bif_false hb32 h
            refine SP.skip ?_
            refine SP.rgn <| .a 3 <| .nil ?_
            exact hk29 _ (IntKind.i64.wrap (v28 + 1)) (sub_of (mk 125 40) [(0, true)]) h
        · replace h := of_bif_false hb30 h
          refine SP.exit ?_
          refine SP.seqc ?_
          refine SP.rg <| .a 1 <| .nil ?_
          refine SP.block ?_
          refine SP.loop1 (R08_Long_S3 p0_e) (R08_Long_B3 p0_e) r 0 (sub_of (mk 125 72) [(0, true)]) h ?_
          clear h
          intro J38 k34 hk34 v33 h
          unfold R08_Long_B3 at h
          refine SP.seqc ?_
          refine SP.rg <| .a 4 <| .p (ok_lenT eApiLevel p0_e.Content.Levels.Users und34 rfl) <| .a 1 <| .nil ?_
          refine SP.cond (decide (v33 < (p0_e.Content.Levels.Users.length : Int))) (by kernel_rfl) (fun hb35 => ?_) (fun hb35 => ?_)
          · replace h := of_bif_true hb35 h
            refine SP.skip ?_
            refine SP.seqc ?_
            refine SP.block ?_
            obtain ⟨x36, hx36, h⟩ := of_bind h
            refine SP.rg <| .a 4 <| .p (ok_idxT (k := .i64) eApiLevel hx36 und34 ty71 (by kernel_rfl) rfl) <| .a 4 <| .nil ?_
            refine SP.cond (decide ((x36.User.size : Int) > 2000)) (by kernel_rfl) (fun hb37 => ?_) (fun hb37 => ?_)
            · replace h := of_bif_true hb37 h
              refine SP.rg <| .a 1 <| .nil ?_
              refine SP.ret ?_
              rw [← Option.some.inj h]
              exact ⟨[.d (eB true)], [], ⟨resV_tmp (by kernel_rfl), trivial⟩, by kernel_rfl, by kernel_rfl, by kernel_rfl⟩
            · replace h := of_bif_false hb37 h
              refine SP.skip ?_
              refine SP.rgn <| .a 3 <| .nil ?_
              exact hk34 _ (IntKind.i64.wrap (v33 + 1)) (sub_of (mk 125 72) [(0, true)]) h
          · replace h := of_bif_false hb35 h
            refine SP.exit ?_
            refine SP.rg <| .a 1 <| .nil ?_
            refine SP.ret ?_
            rw [← Option.some.inj h]
            exact ⟨[.d (eB false)], [], ⟨resV_tmp (by kernel_rfl), trivial⟩, by kernel_rfl, by kernel_rfl, by kernel_rfl⟩

-- fedchat/fedchatlaw33.great
def L33_great (p0_s : ApiServer) (p1_d : ApiDeed) : Option Bool := (bif decide ((p0_s.Name.size : Int) > 2000) then some true else some (decide ((p1_d.To.size : Int) > 2000))).bind fun x1 => (bif x1 then some true else (R08_Long p1_d.Event).bind fun x5 => some x5).bind fun x3 => some x3
theorem L33_great_ok (p0_s : ApiServer) (p1_d : ApiDeed) (r : Bool) (h : L33_great p0_s p1_d = some r) : Runs Tryz.prog 6 [.d (eApiServer p0_s), .d (eApiDeed p1_d)] [] (.d (eB r)) [] := by
  refine Runs.of_fin Tryz.func6 rfl ?_
  unfold L33_great at h
  refine SP.rg <| .a 3 <| .nil ?_
  refine SP.rg <| .a 4 <| ?_
  obtain ⟨x1, hx1, h⟩ := of_bind h
  refine .merge 6 [9, 10, 11, 12, 13] 14 (.d (eB x1)) ?_ ?_
  · replace h := hx1
    rcases Bool.eq_false_or_eq_true (decide ((p0_s.Name.size : Int) > 2000)) with hb2 | hb2
    · replace h := of_bif_true hb2 h
      refine .c (congrArg some hb2) <| .a 5 <| .nil ?_
      obtain rfl := Option.some.inj h
      kernel_rfl
    · replace h := of_bif_false hb2 h
      refine .c (congrArg some hb2) <| .a 5 <| .nil ?_
      obtain rfl := Option.some.inj h
      kernel_rfl
  refine .a 1 <| ?_
  obtain ⟨x3, hx3, h⟩ := of_bind h
  refine .merge 4 [16, 17, 18] 19 (.d (eB x3)) ?_ ?_
  · replace h := hx3
    cases x1 with
    | true =>
      replace h := of_bif_true rfl h
      refine .a 4 <| .nil ?_
      obtain rfl := Option.some.inj h
      kernel_rfl
    | false =>
      replace h := of_bif_false rfl h
      obtain ⟨x5, hx5, h⟩ := of_bind h
      refine .a 2 <| .call (R08_Long_ok p1_d.Event x5 hx5) ent14 <| .a 1 <| .nil ?_
      obtain rfl := Option.some.inj h
      kernel_rfl
  refine .a 1 <| .nil ?_
  refine SP.ret ?_
  rw [← Option.some.inj h]
  exact ⟨[.d (eB x3)], [], ⟨resV_tmp (by kernel_rfl), trivial⟩, by kernel_rfl, by kernel_rfl, by kernel_rfl⟩

-- fedchat/ids.server$1
def ids_server_1 (p0_c : Int) : Option Bool := (bif (p0_c == 46) then some true else some (p0_c == 45)).bind fun x1 => some x1
theorem ids_server_1_ok (p0_c : Int) (r : Bool) (h : ids_server_1 p0_c = some r) : Runs Tryz.prog 107 [.d (eU8 p0_c)] [] (.d (eB r)) [] := by
  refine Runs.of_fin Tryz.func107 rfl ?_
  unfold ids_server_1 at h
  refine SP.rg <| .a 1 <| .nil ?_
  refine SP.rg <| .a 2 <| ?_
  obtain ⟨x1, hx1, h⟩ := of_bind h
  refine .merge 4 [5, 6, 7] 8 (.d (eB x1)) ?_ ?_
  · replace h := hx1
    rcases Bool.eq_false_or_eq_true (p0_c == 46) with hb2 | hb2
    · replace h := of_bif_true hb2 h
      refine .c (congrArg some hb2) <| .a 3 <| .nil ?_
      obtain rfl := Option.some.inj h
      kernel_rfl
    · replace h := of_bif_false hb2 h
      refine .c (congrArg some hb2) <| .a 3 <| .nil ?_
      obtain rfl := Option.some.inj h
      kernel_rfl
  refine .a 1 <| .nil ?_
  refine SP.ret ?_
  rw [← Option.some.inj h]
  exact ⟨[.d (eB x1)], [], ⟨resV_tmp (by kernel_rfl), trivial⟩, by kernel_rfl, by kernel_rfl, by kernel_rfl⟩

-- fedchat/ids.letter
def ids_letter (p0_c : Int) : Option Bool := (bif decide (p0_c ≥ 97) then some (decide (p0_c ≤ 122)) else some false).bind fun x1 => (bif x1 then some true else (bif decide (p0_c ≥ 48) then some (decide (p0_c ≤ 57)) else some false).bind fun x5 => some x5).bind fun x3 => some x3
theorem ids_letter_ok (p0_c : Int) (r : Bool) (h : ids_letter p0_c = some r) : Runs Tryz.prog 108 [.d (eU8 p0_c)] [] (.d (eB r)) [] := by
  refine Runs.of_fin Tryz.func108 rfl ?_
  unfold ids_letter at h
  refine SP.rg <| .a 1 <| .nil ?_
  refine SP.rg <| .a 2 <| ?_
  obtain ⟨x1, hx1, h⟩ := of_bind h
  refine .merge 4 [5, 6, 7] 8 (.d (eB x1)) ?_ ?_
  · replace h := hx1
    rcases Bool.eq_false_or_eq_true (decide (p0_c ≥ 97)) with hb2 | hb2
    · replace h := of_bif_true hb2 h
      refine .c (congrArg some hb2) <| .a 3 <| .nil ?_
      obtain rfl := Option.some.inj h
      kernel_rfl
    · replace h := of_bif_false hb2 h
      refine .c (congrArg some hb2) <| .a 3 <| .nil ?_
      obtain rfl := Option.some.inj h
      kernel_rfl
  refine .a 1 <| ?_
  obtain ⟨x3, hx3, h⟩ := of_bind h
  refine .merge 7 [10, 11, 12, 13, 14, 15] 16 (.d (eB x3)) ?_ ?_
  · replace h := hx3
    cases x1 with
    | true =>
      replace h := of_bif_true rfl h
      refine .a 7 <| .nil ?_
      obtain rfl := Option.some.inj h
      kernel_rfl
    | false =>
      replace h := of_bif_false rfl h
      refine .a 2 <| ?_
      obtain ⟨x5, hx5, h⟩ := of_bind h
      refine .merge 4 [12, 13, 14] 15 (.d (eB x5)) ?_ ?_
      · replace h := hx5
        rcases Bool.eq_false_or_eq_true (decide (p0_c ≥ 48)) with hb6 | hb6
        · replace h := of_bif_true hb6 h
          refine .c (congrArg some hb6) <| .a 3 <| .nil ?_
          obtain rfl := Option.some.inj h
          kernel_rfl
        · replace h := of_bif_false hb6 h
          refine .c (congrArg some hb6) <| .a 3 <| .nil ?_
          obtain rfl := Option.some.inj h
          kernel_rfl
      refine .a 1 <| .nil ?_
      obtain rfl := Option.some.inj h
      kernel_rfl
  refine .a 1 <| .nil ?_
  refine SP.ret ?_
  rw [← Option.some.inj h]
  exact ⟨[.d (eB x3)], [], ⟨resV_tmp (by kernel_rfl), trivial⟩, by kernel_rfl, by kernel_rfl, by kernel_rfl⟩

-- fedchat/ids.valid
def ids_valid_S1 (p0_s : ByteArray) (dp1_other : D) (v4 : Int) : St := ⟨shp 33 [(0, .d (eS p0_s)), (1, .d dp1_other), (15, .d (eI (p0_s.size : Int))), (16, .d (eI v4))], [], 0⟩
def ids_valid_B1 (p0_s : ByteArray) (p1_other : (Int → Option Bool)) (k5 : (Int → Option Bool)) : Int → Option Bool := fun v4 => (bif decide (v4 < (p0_s.size : Int)) then (gByte p0_s v4).bind fun x7 => (ids_letter x7).bind fun x8 => (bif (!x8) then (gByte p0_s v4).bind fun x11 => (p1_other x11).bind fun x12 => some (!x12) else some false).bind fun x9 => (bif x9 then some false else k5 (IntKind.i64.wrap (v4 + 1))) else some true)
def ids_valid_L1 (p0_s : ByteArray) (p1_other : (Int → Option Bool)) : Int → Option Bool := loop1 (ids_valid_B1 p0_s p1_other) fuel
def ids_valid (p0_s : ByteArray) (p1_other : (Int → Option Bool)) : Option Bool := (bif decide ((p0_s.size : Int) < 1) then some true else some (decide ((p0_s.size : Int) > 32))).bind fun x1 => (bif x1 then some false else ids_valid_L1 p0_s p1_other 0)
theorem ids_valid_ok (p0_s : ByteArray) (p1_other : (Int → Option Bool)) (dp1_other : D) (hp1_other : Fn1 Tryz.prog eU8 eB dp1_other p1_other) (r : Bool) (h : ids_valid p0_s p1_other = some r) : Runs Tryz.prog 106 [.d (eS p0_s), .d dp1_other] [] (.d (eB r)) [] := by
  refine Runs.of_fin Tryz.func106 rfl ?_
  unfold ids_valid at h
  refine SP.rg <| .a 1 <| .nil ?_
  refine SP.seqc ?_
  refine SP.rg <| .a 3 <| ?_
  obtain ⟨x1, hx1, h⟩ := of_bind h
  refine .merge 5 [9, 10, 11, 12] 13 (.d (eB x1)) ?_ ?_
  · replace h := hx1
    rcases Bool.eq_false_or_eq_true (decide ((p0_s.size : Int) < 1)) with hb2 | hb2
    · replace h := of_bif_true hb2 h
      refine .c (congrArg some hb2) <| .a 4 <| .nil ?_
      obtain rfl := Option.some.inj h
      kernel_rfl
    · replace h := of_bif_false hb2 h
      refine .c (congrArg some hb2) <| .a 4 <| .nil ?_
      obtain rfl := Option.some.inj h
      kernel_rfl
  refine .nil ?_
  refine SP.cond x1 (by kernel_rfl) (fun hb3 => ?_) (fun hb3 => ?_)
  · replace h := of_bif_true hb3 h
    refine SP.rg <| .a 1 <| .nil ?_
    refine SP.ret ?_
    rw [← Option.some.inj h]
    exact ⟨[.d (eB false)], [], ⟨resV_tmp (by kernel_rfl), trivial⟩, by kernel_rfl, by kernel_rfl, by kernel_rfl⟩
  · replace h := of_bif_false hb3 h
    refine SP.skip ?_
    refine SP.seqc ?_
    refine SP.rg <| .a 3 <| .nil ?_
    refine SP.block ?_
    refine SP.loop1 (ids_valid_S1 p0_s dp1_other) (ids_valid_B1 p0_s p1_other) r 0 (sub_of (mk 33 98307) []) h ?_
    clear h
    intro J14 k5 hk5 v4 h
    unfold ids_valid_B1 at h
    refine SP.rg <| .a 1 <| .nil ?_
    refine SP.seqc ?_
    refine SP.cond (decide (v4 < (p0_s.size : Int))) (by kernel_rfl) (fun hb6 => ?_) (fun hb6 => ?_)
    · replace h := of_bif_true hb6 h
      refine SP.skip ?_
      refine SP.seqc ?_
      refine SP.block ?_
      refine SP.rg <| .a 2 <| .nil ?_
      obtain ⟨x7, hx7, h⟩ := of_bind h
      obtain ⟨x8, hx8, h⟩ := of_bind h
      refine SP.rg <| .a 2 <| .p (ok_byteT (k := .i64) hx7 und9 rfl) <| .call (ids_letter_ok x7 x8 hx8) ent108 <| .a 1 <| ?_
      obtain ⟨x9, hx9, h⟩ := of_bind h
      refine .merge 8 [24, 25, 26, 27, 28, 29, 30] 31 (.d (eB x9)) ?_ ?_
      · replace h := hx9
        rcases Bool.eq_false_or_eq_true (!x8) with hb10 | hb10
        · replace h := of_bif_true hb10 h
          obtain ⟨x11, hx11, h⟩ := of_bind h
          obtain ⟨x12, hx12, h⟩ := of_bind h
          refine .c (congrArg some hb10) <| .a 3 <| .p (ok_byteT (k := .i64) hx11 und9 rfl) <| .p (ok_fn1 (d := dp1_other) (hp1_other : Fn1 Tryz.prog eU8 eB dp1_other p1_other) hx12 rfl) <| .a 2 <| .nil ?_
          obtain rfl := Option.some.inj h
          kernel_rfl
        · replace h := of_bif_false hb10 h
          refine .c (congrArg some hb10) <| .a 7 <| .nil ?_
          obtain rfl := Option.some.inj h
          kernel_rfl
      refine .nil ?_
      refine SP.cond x9 (by kernel_rfl) (fun hb13 => ?_) (fun hb13 => ?_)
      · replace h := of_bif_true hb13 h
        refine SP.rg <| .a 1 <| .nil ?_
        refine SP.ret ?_
        rw [← Option.some.inj h]
        exact ⟨[.d (eB false)], [], ⟨resV_tmp (by kernel_rfl), trivial⟩, by kernel_rfl, by kernel_rfl, by kernel_rfl⟩
      · replace h := of_bif_false hb13 h
        refine SP.skip ?_
        refine SP.rgn <| .a 2 <| .nil ?_
        exact hk5 _ (IntKind.i64.wrap (v4 + 1)) (sub_of (mk 33 98307) []) h
    · replace h := of_bif_false hb6 h
      refine SP.exit ?_
      refine SP.rg <| .a 1 <| .nil ?_
      refine SP.ret ?_
      rw [← Option.some.inj h]
      exact ⟨[.d (eB true)], [], ⟨resV_tmp (by kernel_rfl), trivial⟩, by kernel_rfl, by kernel_rfl, by kernel_rfl⟩

-- fedchat/ids.server
def ids_server (p0_s : ByteArray) : Option Bool := (ids_valid p0_s (fun a0 => ids_server_1 a0)).bind fun x1 => (bif x1 then (gByte p0_s 0).bind fun x4 => (ids_letter x4).bind fun x5 => some x5 else some false).bind fun x2 => (bif x2 then (gByte p0_s (IntKind.i64.wrap ((p0_s.size : Int) - 1))).bind fun x8 => (ids_letter x8).bind fun x9 => some x9 else some false).bind fun x6 => some x6
theorem ids_server_ok (p0_s : ByteArray) (r : Bool) (h : ids_server p0_s = some r) : Runs Tryz.prog 63 [.d (eS p0_s)] [] (.d (eB r)) [] := by
  refine Runs.of_fin Tryz.func63 rfl ?_
  unfold ids_server at h
  refine SP.rg <| .a 1 <| .nil ?_
  obtain ⟨x1, hx1, h⟩ := of_bind h
  refine SP.rg <| .a 1 <| .call (ids_valid_ok p0_s (fun a0 => ids_server_1 a0) (.fn (.func 107) [] []) ⟨107, [], rfl, ent107, fun a0 b hb => ids_server_1_ok a0 b hb⟩ x1 hx1) ent106 <| .a 1 <| ?_
  obtain ⟨x2, hx2, h⟩ := of_bind h
  refine .merge 4 [6, 7, 8] 9 (.d (eB x2)) ?_ ?_
  · replace h := hx2
    cases x1 with
    | true =>
      replace h := of_bif_true rfl h
      obtain ⟨x4, hx4, h⟩ := of_bind h
      obtain ⟨x5, hx5, h⟩ := of_bind h
      refine .a 1 <| .p (ok_byteT (k := .i64) hx4 und9 rfl) <| .call (ids_letter_ok x4 x5 hx5) ent108 <| .a 1 <| .nil ?_
      obtain rfl := Option.some.inj h
      kernel_rfl
    | false =>
      replace h := of_bif_false rfl h
      refine .a 4 <| .nil ?_
      obtain rfl := Option.some.inj h
      kernel_rfl
  refine .a 1 <| ?_
  obtain ⟨x6, hx6, h⟩ := of_bind h
  refine .merge 7 [11, 12, 13, 14, 15, 16] 17 (.d (eB x6)) ?_ ?_
  · replace h := hx6
    cases x2 with
    | true =>
      replace h := of_bif_true rfl h
      obtain ⟨x8, hx8, h⟩ := of_bind h
      obtain ⟨x9, hx9, h⟩ := of_bind h
      refine .a 4 <| .p (ok_byteT (k := .i64) hx8 und9 rfl) <| .call (ids_letter_ok x8 x9 hx9) ent108 <| .a 1 <| .nil ?_
      obtain rfl := Option.some.inj h
      kernel_rfl
    | false =>
      replace h := of_bif_false rfl h
      refine .a 7 <| .nil ?_
      obtain rfl := Option.some.inj h
      kernel_rfl
  refine .a 1 <| .nil ?_
  refine SP.ret ?_
  rw [← Option.some.inj h]
  exact ⟨[.d (eB x6)], [], ⟨resV_tmp (by kernel_rfl), trivial⟩, by kernel_rfl, by kernel_rfl, by kernel_rfl⟩

-- fedchat/ids.Server
def ids_Server (p0_s : ByteArray) : Option Int := (ids_server p0_s).bind fun x1 => (bif (!x1) then some 3 else some 0)
theorem ids_Server_ok (p0_s : ByteArray) (r : Int) (h : ids_Server p0_s = some r) : Runs Tryz.prog 35 [.d (eS p0_s)] [] (.d (eI r)) [] := by
  refine Runs.of_fin Tryz.func35 rfl ?_
  unfold ids_Server at h
  refine SP.rg <| .a 1 <| .nil ?_
  refine SP.seqc ?_
  obtain ⟨x1, hx1, h⟩ := of_bind h
  refine SP.rg <| .a 1 <| .call (ids_server_ok p0_s x1 hx1) ent63 <| .a 1 <| .nil ?_
  refine SP.cond (!x1) (by kernel_rfl) (fun hb2 => ?_) (fun hb2 => ?_)
  · replace h := of_bif_true hb2 h
    refine SP.rg <| .a 1 <| .nil ?_
    refine SP.ret ?_
    rw [← Option.some.inj h]
    exact ⟨[.d (eI 3)], [], ⟨resV_tmp (by kernel_rfl), trivial⟩, by kernel_rfl, by kernel_rfl, by kernel_rfl⟩
  · replace h := of_bif_false hb2 h
    refine SP.skip ?_
    refine SP.rg <| .a 1 <| .nil ?_
    refine SP.ret ?_
    rw [← Option.some.inj h]
    exact ⟨[.d (eI 0)], [], ⟨resV_tmp (by kernel_rfl), trivial⟩, by kernel_rfl, by kernel_rfl, by kernel_rfl⟩

-- fedchat/evil.Right
def evil_Right (p0_s : ApiServer) (p1_d : ApiDeed) : Option Int := (bif decide (p1_d.Kind < 1) then some true else some (decide (p1_d.Kind > 6))).bind fun x1 => (bif x1 then some 2 else (ids_Server p1_d.To).bind fun x4 => (bif (x4 != 0) then some 3 else (bif (p1_d.To.toList == p0_s.Name.toList) then some 1 else some 0)))
theorem evil_Right_ok (p0_s : ApiServer) (p1_d : ApiDeed) (r : Int) (h : evil_Right p0_s p1_d = some r) : Runs Tryz.prog 15 [.d (eApiServer p0_s), .d (eApiDeed p1_d)] [] (.d (eI r)) [] := by
  refine Runs.of_fin Tryz.func15 rfl ?_
  unfold evil_Right at h
  refine SP.rg <| .a 3 <| .nil ?_
  refine SP.seqc ?_
  refine SP.block ?_
  refine SP.rg <| .a 3 <| ?_
  obtain ⟨x1, hx1, h⟩ := of_bind h
  refine .merge 5 [9, 10, 11, 12] 13 (.d (eB x1)) ?_ ?_
  · replace h := hx1
    rcases Bool.eq_false_or_eq_true (decide (p1_d.Kind < 1)) with hb2 | hb2
    · replace h := of_bif_true hb2 h
      refine .c (congrArg some hb2) <| .a 4 <| .nil ?_
      obtain rfl := Option.some.inj h
      kernel_rfl
    · replace h := of_bif_false hb2 h
      refine .c (congrArg some hb2) <| .a 4 <| .nil ?_
      obtain rfl := Option.some.inj h
      kernel_rfl
  refine .a 1 <| .nil ?_
  refine SP.cond x1 (by kernel_rfl) (fun hb3 => ?_) (fun hb3 => ?_)
  · replace h := of_bif_true hb3 h
    refine SP.rg <| .a 1 <| .nil ?_
    refine SP.ret ?_
    rw [← Option.some.inj h]
    exact ⟨[.d (eI 2)], [], ⟨resV_tmp (by kernel_rfl), trivial⟩, by kernel_rfl, by kernel_rfl, by kernel_rfl⟩
  · replace h := of_bif_false hb3 h
    obtain ⟨x4, hx4, h⟩ := of_bind h
    refine SP.rg <| .a 2 <| .call (ids_Server_ok p1_d.To x4 hx4) ent35 <| .a 2 <| .nil ?_
    refine SP.cond (x4 != 0) (by kernel_rfl) (fun hb5 => ?_) (fun hb5 => ?_)
    · replace h := of_bif_true hb5 h
      refine SP.rg <| .a 1 <| .nil ?_
      refine SP.ret ?_
      rw [← Option.some.inj h]
      exact ⟨[.d (eI 3)], [], ⟨resV_tmp (by kernel_rfl), trivial⟩, by kernel_rfl, by kernel_rfl, by kernel_rfl⟩
    · replace h := of_bif_false hb5 h
      refine SP.rg <| .a 6 <| .nil ?_
      refine SP.cond (p1_d.To.toList == p0_s.Name.toList) (by kernel_rfl) (fun hb6 => ?_) (fun hb6 => ?_)
      · replace h := of_bif_true hb6 h
        refine SP.rg <| .a 1 <| .nil ?_
        refine SP.ret ?_
        rw [← Option.some.inj h]
        exact ⟨[.d (eI 1)], [], ⟨resV_tmp (by kernel_rfl), trivial⟩, by kernel_rfl, by kernel_rfl, by kernel_rfl⟩
      · replace h := of_bif_false hb6 h
        refine SP.skip ?_
        refine SP.rg <| .a 1 <| .nil ?_
        refine SP.ret ?_
        rw [← Option.some.inj h]
        exact ⟨[.d (eI 0)], [], ⟨resV_tmp (by kernel_rfl), trivial⟩, by kernel_rfl, by kernel_rfl, by kernel_rfl⟩

-- internal/stringslite.Cut
def internal_stringslite_Cut (p0_s : ByteArray) (p1_sep : ByteArray) : Option (ByteArray × ByteArray × Bool) := (internal_stringslite_Index p0_s p1_sep).bind fun x1 => (bif decide (x1 ≥ 0) then (gStr p0_s 0 x1).bind fun x3 => (gStr p0_s (IntKind.i64.wrap (x1 + (p1_sep.size : Int))) ((p0_s).size)).bind fun x4 => some (x3, x4, true) else some (p0_s, s0, false))
theorem internal_stringslite_Cut_ok (p0_s : ByteArray) (p1_sep : ByteArray) (r : (ByteArray × ByteArray × Bool)) (h : internal_stringslite_Cut p0_s p1_sep = some r) : Runs Tryz.prog 111 [.d (eS p0_s), .d (eS p1_sep)] [] (.tup [.d (eS r.1), .d (eS r.2.1), .d (eB r.2.2)]) [] := by
  refine Runs.of_fin Tryz.func111 rfl ?_
  unfold internal_stringslite_Cut at h
  refine SP.rg <| .a 3 <| .nil ?_
  refine SP.seqc ?_
  obtain ⟨x1, hx1, h⟩ := of_bind h
  refine SP.rg <| .a 2 <| .call (internal_stringslite_Index_ok p0_s p1_sep x1 hx1) ent151 <| .a 1 <| .nil ?_
  refine SP.rg <| .a 2 <| .nil ?_
  refine SP.cond (decide (x1 ≥ 0)) (by kernel_rfl) (fun hb2 => ?_) (fun hb2 => ?_)
  · replace h := of_bif_true hb2 h
    obtain ⟨x3, hx3, h⟩ := of_bind h
    obtain ⟨x4, hx4, h⟩ := of_bind h
    refine SP.dseq (by kernel_rfl) (by kernel_rfl) (by kernel_rfl) (.a 2 <| .p (ok_strT hx3 (fun _ => rfl) (by intro hh; cases hh) und9 rfl) <| .a 5 <| .p (ok_strT hx4 (by intro hh; cases hh) (fun _ => rfl) und9 rfl) <| .a 3 <| .nil _) ?_
    refine SP.ret ?_
    rw [← Option.some.inj h]
    exact ⟨[.d (eS x3), .d (eS x4), .d (eB true)], [], ⟨resV_tmp (by kernel_rfl), resV_tmp (by kernel_rfl), resV_tmp (by kernel_rfl), trivial⟩, by kernel_rfl, by kernel_rfl, by kernel_rfl⟩
  · replace h := of_bif_false hb2 h
    refine SP.skip ?_
    refine SP.rg <| .a 4 <| .nil ?_
    refine SP.ret ?_
    rw [← Option.some.inj h]
    exact ⟨[.d (eS p0_s), .d (eS s0), .d (eB false)], [], ⟨resV_tmp (by kernel_rfl), resV_tmp (by kernel_rfl), resV_tmp (by kernel_rfl), trivial⟩, by kernel_rfl, by kernel_rfl, by kernel_rfl⟩

-- strings.Cut
def strings_Cut (p0_s : ByteArray) (p1_sep : ByteArray) : Option (ByteArray × ByteArray × Bool) := (internal_stringslite_Cut p0_s p1_sep).bind fun x1 => some (x1.1, x1.2.1, x1.2.2)
theorem strings_Cut_ok (p0_s : ByteArray) (p1_sep : ByteArray) (r : (ByteArray × ByteArray × Bool)) (h : strings_Cut p0_s p1_sep = some r) : Runs Tryz.prog 66 [.d (eS p0_s), .d (eS p1_sep)] [] (.tup [.d (eS r.1), .d (eS r.2.1), .d (eB r.2.2)]) [] := by
  refine Runs.of_fin Tryz.func66 rfl ?_
  unfold strings_Cut at h
  refine SP.rg <| .a 3 <| .nil ?_
  obtain ⟨x1, hx1, h⟩ := of_bind h
  refine SP.rg <| .a 2 <| .call (internal_stringslite_Cut_ok p0_s p1_sep x1 hx1) ent111 <| .a 6 <| .nil ?_
  refine SP.ret ?_
  rw [← Option.some.inj h]
  exact ⟨[.d (eS x1.1), .d (eS x1.2.1), .d (eB x1.2.2)], [], ⟨resV_tmp (by kernel_rfl), resV_tmp (by kernel_rfl), resV_tmp (by kernel_rfl), trivial⟩, by kernel_rfl, by kernel_rfl, by kernel_rfl⟩

-- fedchat/ids.local$1
def ids_local_1 (p0_c : Int) : Option Bool := (bif (p0_c == 95) then some true else some (p0_c == 46)).bind fun x1 => (bif x1 then some true else some (p0_c == 45)).bind fun x3 => (bif x3 then some true else some (p0_c == 61)).bind fun x5 => some x5
theorem ids_local_1_ok (p0_c : Int) (r : Bool) (h : ids_local_1 p0_c = some r) : Runs Tryz.prog 109 [.d (eU8 p0_c)] [] (.d (eB r)) [] := by
  refine Runs.of_fin Tryz.func109 rfl ?_
  unfold ids_local_1 at h
  refine SP.rg <| .a 1 <| .nil ?_
  refine SP.rg <| .a 2 <| ?_
  obtain ⟨x1, hx1, h⟩ := of_bind h
  refine .merge 4 [5, 6, 7] 8 (.d (eB x1)) ?_ ?_
  · replace h := hx1
    rcases Bool.eq_false_or_eq_true (p0_c == 95) with hb2 | hb2
    · replace h := of_bif_true hb2 h
      refine .c (congrArg some hb2) <| .a 3 <| .nil ?_
      obtain rfl := Option.some.inj h
      kernel_rfl
    · replace h := of_bif_false hb2 h
      refine .c (congrArg some hb2) <| .a 3 <| .nil ?_
      obtain rfl := Option.some.inj h
      kernel_rfl
  refine .a 1 <| ?_
  obtain ⟨x3, hx3, h⟩ := of_bind h
  refine .merge 3 [10, 11] 12 (.d (eB x3)) ?_ ?_
  · replace h := hx3
    cases x1 with
    | true =>
      replace h := of_bif_true rfl h
      refine .a 3 <| .nil ?_
      obtain rfl := Option.some.inj h
      kernel_rfl
    | false =>
      replace h := of_bif_false rfl h
      refine .a 3 <| .nil ?_
      obtain rfl := Option.some.inj h
      kernel_rfl
  refine .a 1 <| ?_
  obtain ⟨x5, hx5, h⟩ := of_bind h
  refine .merge 3 [14, 15] 16 (.d (eB x5)) ?_ ?_
  · replace h := hx5
    cases x3 with
    | true =>
      replace h := of_bif_true rfl h
      refine .a 3 <| .nil ?_
      obtain rfl := Option.some.inj h
      kernel_rfl
    | false =>
      replace h := of_bif_false rfl h
      refine .a 3 <| .nil ?_
      obtain rfl := Option.some.inj h
      kernel_rfl
  refine .a 1 <| .nil ?_
  refine SP.ret ?_
  rw [← Option.some.inj h]
  exact ⟨[.d (eB x5)], [], ⟨resV_tmp (by kernel_rfl), trivial⟩, by kernel_rfl, by kernel_rfl, by kernel_rfl⟩

-- fedchat/ids.local
def ids_local (p0_s : ByteArray) : Option Bool := (ids_valid p0_s (fun a0 => ids_local_1 a0)).bind fun x1 => some x1
theorem ids_local_ok (p0_s : ByteArray) (r : Bool) (h : ids_local p0_s = some r) : Runs Tryz.prog 64 [.d (eS p0_s)] [] (.d (eB r)) [] := by
  refine Runs.of_fin Tryz.func64 rfl ?_
  unfold ids_local at h
  refine SP.rg <| .a 1 <| .nil ?_
  obtain ⟨x1, hx1, h⟩ := of_bind h
  refine SP.rg <| .a 1 <| .call (ids_valid_ok p0_s (fun a0 => ids_local_1 a0) (.fn (.func 109) [] []) ⟨109, [], rfl, ent109, fun a0 b hb => ids_local_1_ok a0 b hb⟩ x1 hx1) ent106 <| .a 1 <| .nil ?_
  refine SP.ret ?_
  rw [← Option.some.inj h]
  exact ⟨[.d (eB x1)], [], ⟨resV_tmp (by kernel_rfl), trivial⟩, by kernel_rfl, by kernel_rfl, by kernel_rfl⟩

-- fedchat/ids.split
def ids_split (p0_id : ByteArray) (p1_marks : ByteArray) : Option (ByteArray × ByteArray × Bool) := (bif (p0_id.toList == s0.toList) then some true else (gByte p0_id 0).bind fun x3 => (strings_IndexByte p1_marks x3).bind fun x4 => some (decide (x4 < 0))).bind fun x1 => (bif x1 then some (s0, s0, false) else (gStr p0_id 1 ((p0_id).size)).bind fun x6 => (strings_Cut x6 s__3a).bind fun x7 => (bif (!x7.2.2) then some true else (ids_local x7.1).bind fun x10 => some (!x10)).bind fun x8 => (bif x8 then some true else (ids_server x7.2.1).bind fun x13 => some (!x13)).bind fun x11 => (bif x11 then some (s0, s0, false) else some (x7.1, x7.2.1, true)))
theorem ids_split_ok (p0_id : ByteArray) (p1_marks : ByteArray) (r : (ByteArray × ByteArray × Bool)) (h : ids_split p0_id p1_marks = some r) : Runs Tryz.prog 38 [.d (eS p0_id), .d (eS p1_marks)] [] (.tup [.d (eS r.1), .d (eS r.2.1), .d (eB r.2.2)]) [] := by
  refine Runs.of_fin Tryz.func38 rfl ?_
  unfold ids_split at h
  refine SP.rg <| .a 3 <| .nil ?_
  refine SP.seqc ?_
  refine SP.rg <| .a 2 <| ?_
  obtain ⟨x1, hx1, h⟩ := of_bind h
  refine .merge 7 [12, 13, 14, 15, 16, 17] 18 (.d (eB x1)) ?_ ?_
  · replace h := hx1
    rcases Bool.eq_false_or_eq_true (p0_id.toList == s0.toList) with hb2 | hb2
    · replace h := of_bif_true hb2 h
      refine .c (congrArg some hb2) <| .a 6 <| .nil ?_
      obtain rfl := Option.some.inj h
      kernel_rfl
    · replace h := of_bif_false hb2 h
      obtain ⟨x3, hx3, h⟩ := of_bind h
      obtain ⟨x4, hx4, h⟩ := of_bind h
      refine .c (congrArg some hb2) <| .a 2 <| .p (ok_byteT (k := .i64) hx3 und9 rfl) <| .call (strings_IndexByte_ok p1_marks x3 x4 hx4) ent65 <| .a 2 <| .nil ?_
      obtain rfl := Option.some.inj h
      kernel_rfl
  refine .nil ?_
  refine SP.cond x1 (by kernel_rfl) (fun hb5 => ?_) (fun hb5 => ?_)
  · replace h := of_bif_true hb5 h
    refine SP.rg <| .a 3 <| .nil ?_
    refine SP.ret ?_
    rw [← Option.some.inj h]
    exact ⟨[.d (eS s0), .d (eS s0), .d (eB false)], [], ⟨resV_tmp (by kernel_rfl), resV_tmp (by kernel_rfl), resV_tmp (by kernel_rfl), trivial⟩, by kernel_rfl, by kernel_rfl, by kernel_rfl⟩
  · replace h := of_bif_false hb5 h
    refine SP.skip ?_
    obtain ⟨x6, hx6, h⟩ := of_bind h
    obtain ⟨x7, hx7, h⟩ := of_bind h
    refine SP.rg <| .a 1 <| .p (ok_strT hx6 (by intro hh; cases hh) (fun _ => rfl) und9 rfl) <| .call (strings_Cut_ok x6 s__3a x7 hx7) ent66 <| .a 7 <| .nil ?_
    refine SP.seqc ?_
    refine SP.rg <| .a 2 <| ?_
    obtain ⟨x8, hx8, h⟩ := of_bind h
    refine .merge 5 [28, 29, 30, 31] 32 (.d (eB x8)) ?_ ?_
    · replace h := hx8
      rcases Bool.eq_false_or_eq_true (!x7.2.2) with hb9 | hb9
      · replace h := of_bif_true hb9 h
        refine .c (congrArg some hb9) <| .a 4 <| .nil ?_
        obtain rfl := Option.some.inj h
        kernel_rfl
      · replace h := of_bif_false hb9 h
        obtain ⟨x10, hx10, h⟩ := of_bind h
        refine .c (congrArg some hb9) <| .a 1 <| .call (ids_local_ok x7.1 x10 hx10) ent64 <| .a 2 <| .nil ?_
        obtain rfl := Option.some.inj h
        kernel_rfl
    refine .a 1 <| ?_
    obtain ⟨x11, hx11, h⟩ := of_bind h
    refine .merge 4 [34, 35, 36] 37 (.d (eB x11)) ?_ ?_
    · replace h := hx11
      cases x8 with
      | true =>
        replace h := of_bif_true rfl h
        refine .a 4 <| .nil ?_
        obtain rfl := Option.some.inj h
        kernel_rfl
      | false =>
        replace h := of_bif_false rfl h
        obtain ⟨x13, hx13, h⟩ := of_bind h
        refine .a 1 <| .call (ids_server_ok x7.2.1 x13 hx13) ent63 <| .a 2 <| .nil ?_
        obtain rfl := Option.some.inj h
        kernel_rfl
    refine .nil ?_
    refine SP.cond x11 (by kernel_rfl) (fun hb14 => ?_) (fun hb14 => ?_)
    · replace h := of_bif_true hb14 h
      refine SP.rg <| .a 3 <| .nil ?_
      refine SP.ret ?_
      rw [← Option.some.inj h]
      exact ⟨[.d (eS s0), .d (eS s0), .d (eB false)], [], ⟨resV_tmp (by kernel_rfl), resV_tmp (by kernel_rfl), resV_tmp (by kernel_rfl), trivial⟩, by kernel_rfl, by kernel_rfl, by kernel_rfl⟩
    · replace h := of_bif_false hb14 h
      refine SP.skip ?_
      refine SP.rg <| .a 5 <| .nil ?_
      refine SP.ret ?_
      rw [← Option.some.inj h]
      exact ⟨[.d (eS x7.1), .d (eS x7.2.1), .d (eB true)], [], ⟨resV_tmp (by kernel_rfl), resV_tmp (by kernel_rfl), resV_tmp (by kernel_rfl), trivial⟩, by kernel_rfl, by kernel_rfl, by kernel_rfl⟩

-- fedchat/ids.LocalOf
def ids_LocalOf (p0_id : ByteArray) : Option ByteArray := (ids_split p0_id s__40_21).bind fun x1 => some x1.1
theorem ids_LocalOf_ok (p0_id : ByteArray) (r : ByteArray) (h : ids_LocalOf p0_id = some r) : Runs Tryz.prog 37 [.d (eS p0_id)] [] (.d (eS r)) [] := by
  refine Runs.of_fin Tryz.func37 rfl ?_
  unfold ids_LocalOf at h
  refine SP.rg <| .a 1 <| .nil ?_
  obtain ⟨x1, hx1, h⟩ := of_bind h
  refine SP.rg <| .a 1 <| .call (ids_split_ok p0_id s__40_21 x1 hx1) ent38 <| .a 7 <| .nil ?_
  refine SP.rg <| .a 2 <| .nil ?_
  refine SP.ret ?_
  rw [← Option.some.inj h]
  exact ⟨[.d (eS x1.1)], [], ⟨resV_tmp (by kernel_rfl), trivial⟩, by kernel_rfl, by kernel_rfl, by kernel_rfl⟩

-- fedchat/ids.Make
def ids_Make (p0_mark : Int) (p1_name : ByteArray) (p2_host : ByteArray) : Option (ByteArray × Int) := (bif (p0_mark != 64) then some (p0_mark != 33) else some false).bind fun x1 => (bif x1 then some true else (ids_local p1_name).bind fun x5 => some (!x5)).bind fun x3 => (bif x3 then some true else (ids_server p2_host).bind fun x8 => some (!x8)).bind fun x6 => (bif x6 then some (s0, 3) else (gCat (sOf [p0_mark]) p1_name).bind fun x10 => (gCat x10 s__3a).bind fun x11 => (gCat x11 p2_host).bind fun x12 => some (x12, 0))
theorem ids_Make_ok (p0_mark : Int) (p1_name : ByteArray) (p2_host : ByteArray) (r : (ByteArray × Int)) (h : ids_Make p0_mark p1_name p2_host = some r) : Runs Tryz.prog 36 [.d (eU8 p0_mark), .d (eS p1_name), .d (eS p2_host)] [] (.tup [.d (eS r.1), .d (eI r.2)]) [] := by
  refine Runs.of_fin Tryz.func36 rfl ?_
  unfold ids_Make at h
  refine SP.rg <| .a 2 <| .nil ?_
  refine SP.seqc ?_
  refine SP.rg <| .a 2 <| ?_
  obtain ⟨x1, hx1, h⟩ := of_bind h
  refine .merge 4 [10, 11, 12] 13 (.d (eB x1)) ?_ ?_
  · replace h := hx1
    rcases Bool.eq_false_or_eq_true (p0_mark != 64) with hb2 | hb2
    · replace h := of_bif_true hb2 h
      refine .c (congrArg some hb2) <| .a 3 <| .nil ?_
      obtain rfl := Option.some.inj h
      kernel_rfl
    · replace h := of_bif_false hb2 h
      refine .c (congrArg some hb2) <| .a 3 <| .nil ?_
      obtain rfl := Option.some.inj h
      kernel_rfl
  refine .a 1 <| ?_
  obtain ⟨x3, hx3, h⟩ := of_bind h
  refine .merge 4 [15, 16, 17] 18 (.d (eB x3)) ?_ ?_
  · replace h := hx3
    cases x1 with
    | true =>
      replace h := of_bif_true rfl h
      refine .a 4 <| .nil ?_
      obtain rfl := Option.some.inj h
      kernel_rfl
    | false =>
      replace h := of_bif_false rfl h
      obtain ⟨x5, hx5, h⟩ := of_bind h
      refine .a 1 <| .call (ids_local_ok p1_name x5 hx5) ent64 <| .a 2 <| .nil ?_
      obtain rfl := Option.some.inj h
      kernel_rfl
  refine .a 1 <| ?_
  obtain ⟨x6, hx6, h⟩ := of_bind h
  refine .merge 4 [20, 21, 22] 23 (.d (eB x6)) ?_ ?_
  · replace h := hx6
    cases x3 with
    | true =>
      replace h := of_bif_true rfl h
      refine .a 4 <| .nil ?_
      obtain rfl := Option.some.inj h
      kernel_rfl
    | false =>
      replace h := of_bif_false rfl h
      obtain ⟨x8, hx8, h⟩ := of_bind h
      refine .a 1 <| .call (ids_server_ok p2_host x8 hx8) ent63 <| .a 2 <| .nil ?_
      obtain rfl := Option.some.inj h
      kernel_rfl
  refine .nil ?_
  refine SP.cond x6 (by kernel_rfl) (fun hb9 => ?_) (fun hb9 => ?_)
  · replace h := of_bif_true hb9 h
    refine SP.rg <| .a 2 <| .nil ?_
    refine SP.ret ?_
    rw [← Option.some.inj h]
    exact ⟨[.d (eS s0), .d (eI 3)], [], ⟨resV_tmp (by kernel_rfl), resV_tmp (by kernel_rfl), trivial⟩, by kernel_rfl, by kernel_rfl, by kernel_rfl⟩
  · replace h := of_bif_false hb9 h
    refine SP.skip ?_
    obtain ⟨x10, hx10, h⟩ := of_bind h
    obtain ⟨x11, hx11, h⟩ := of_bind h
    obtain ⟨x12, hx12, h⟩ := of_bind h
    refine SP.rg <| .a 1 <| .p (ok_lits el78 zero5 (by kernel_rfl) (by kernel_rfl) (Nat.le_of_ble_eq_true (by kernel_rfl)) [.d (eU8 p0_mark)] [eU8 p0_mark] (by kernel_rfl) (by kernel_rfl) (by kernel_rfl) (by kernel_rfl) rfl) <| .p (ok_strB (l := [p0_mark]) und78 und5 und9 rfl) <| .a 1 <| .p (ok_cat hx10 rfl) <| .p (ok_cat hx11 rfl) <| .a 1 <| .p (ok_cat hx12 rfl) <| .a 2 <| .nil ?_
    refine SP.ret ?_
    rw [← Option.some.inj h]
    exact ⟨[.d (eS x12), .d (eI 0)], [], ⟨resV_tmp (by kernel_rfl), resV_tmp (by kernel_rfl), trivial⟩, by kernel_rfl, by kernel_rfl, by kernel_rfl⟩

-- fedchat/evil.own
def evil_own_S1 (v1 : ApiEvent) (v2 : ApiEvent) : St := ⟨shp 21 [(3, .ptr 0 0), (4, .ptr 1 0)], [.box (dc (eApiEvent v1)), .box (dc (eApiEvent v2))], 0⟩
def evil_own_j1 (v1 : ApiEvent) (v2 : ApiEvent) : Option ApiEvent := some v1
def evil_own (p0_s : ApiServer) (p1_e : ApiEvent) : Option ApiEvent := (ids_LocalOf p1_e.Sender).bind fun x4 => (ids_Make 64 x4 p0_s.Name).bind fun x5 => (bif (x5.2 == 0) then evil_own_j1 ({ p1_e with Sender := x5.1 }) zApiEvent else evil_own_j1 p1_e zApiEvent)
theorem evil_own_ok (p0_s : ApiServer) (p1_e : ApiEvent) (r : ApiEvent) (h : evil_own p0_s p1_e = some r) : Runs Tryz.prog 18 [.d (eApiServer p0_s), .d (eApiEvent p1_e)] [] (.d (eApiEvent r)) [] := by
  refine Runs.of_fin Tryz.func18 rfl ?_
  unfold evil_own at h
  refine SP.rg <| .a 3 <| .nil ?_
  refine SP.join (fun s => ∃ (v1 : ApiEvent) (v2 : ApiEvent), Sub s (evil_own_S1 v1 v2) ∧ evil_own_j1 v1 v2 = some r) ?_ ?_
  · clear h
    rintro s ⟨v1, v2, hs, h⟩
    refine SP.sub hs ?_
    clear hs
    unfold evil_own_j1 at h
    refine SP.rg <| .a 2 <| .nil ?_
    refine SP.ret ?_
    rw [← Option.some.inj h]
    exact ⟨[.d (eApiEvent v1)], [], ⟨⟨1, dc (eApiEvent v1), true, 29, by kernel_rfl, by kernel_rfl, by kernel_rfl, ty43, Nat.le_of_ble_eq_true (by kernel_rfl), (by intro hh; cases hh), by kernel_rfl⟩, trivial⟩, by kernel_rfl, by kernel_rfl, by kernel_rfl⟩
  · intro K3
    obtain ⟨x4, hx4, h⟩ := of_bind h
    obtain ⟨x5, hx5, h⟩ := of_bind h
    refine SP.dseq (by kernel_rfl) (by kernel_rfl) (by kernel_rfl) (.a 2 <| .call (ids_LocalOf_ok p1_e.Sender x4 hx4) ent37 <| .a 2 <| .call (ids_Make_ok 64 x4 p0_s.Name x5 hx5) ent36 <| .a 5 <| .nil _) ?_
    refine SP.rg <| .a 2 <| .nil ?_
    refine SP.cond (x5.2 == 0) (by kernel_rfl) (fun hb6 => ?_) (fun hb6 => ?_)
    · replace h := of_bif_true hb6 h
      refine SP.rgn <| .a 3 <| .nil ?_
      exact K3 _ ⟨({ p1_e with Sender := x5.1 }), zApiEvent, sub_of (mk 21 24) [(1, true), (2, true)], h⟩
    · replace h := of_bif_false hb6 h
      refine SP.skip ?_
      exact K3 _ ⟨p1_e, zApiEvent, sub_of (mk 21 24) [(1, true), (2, true)], h⟩

-- fedchat/codec.room
def codec_room (p0_b : (List Int)) (p1_more : Int) : Option (List Int) := (gMake 1 0 (p0_b.length : Int) (IntKind.i64.wrap ((p0_b.length : Int) + p1_more))).bind fun x1 => some (gCopy x1 p0_b)
theorem codec_room_ok (p0_b : (List Int)) (p1_more : Int) (r : (List Int)) (h : codec_room p0_b p1_more = some r) : Runs Tryz.prog 115 [.d ((eL eU8) p0_b), .d (eI p1_more)] [] (.osl 0) [.arr 5 1 (List.map eU8 r)] := by
  refine Runs.of_fin Tryz.func115 rfl ?_
  unfold codec_room at h
  refine SP.rg <| .e [.arr 5 1 (List.map eU8 [])] (ok_assign_own 5 1 rfl) <| .nil ?_
  obtain ⟨x1, hx1, h⟩ := of_bind h
  refine SP.rg <| .a 1 <| .p (ok_lenT eU8 p0_b und78 rfl) <| .a 1 <| .p (ok_lenT eU8 p0_b und78 rfl) <| .a 2 <| .e [.arr 5 1 (List.map eU8 []), .arr 5 1 (List.map eU8 x1)] (ok_make eU8 0 hx1 el78 zero5 (by kernel_rfl) (by kernel_rfl) (by kernel_rfl) (by decide) rfl) <| .a 1 <| .nil ?_
  refine SP.rg <| .a 2 <| .e [.arr 5 1 (List.map eU8 []), .arr 5 1 (List.map eU8 (gCopy x1 p0_b))] (ok_copy (k := 1) eU8 x1 p0_b el78 (by kernel_rfl) (fun _ => rfl) rfl) <| .nil ?_
  refine SP.rg <| .a 2 <| .nil ?_
  refine SP.ret ?_
  rw [← Option.some.inj h]
  exact ⟨[.osl 1], [(1, true)], ⟨resV_tmp (by kernel_rfl), trivial⟩, by kernel_rfl, by kernel_rfl, by kernel_rfl⟩

-- fedchat/codec.number
def codec_number_S1 (p0_b : (List Int)) (v2 : Int) : St := ⟨shp 28 [(0, .osl 1), (5, .d ((eK .u64) v2))], [.dead, .arr 5 1 (List.map eU8 p0_b)], 1⟩
def codec_number_S2 (v3 : (List Int)) (v4 : Int) : St := ⟨shp 28 [(0, .osl 1), (5, .d ((eK .u64) v4))], [.dead, .arr 5 1 (List.map eU8 v3)], 1⟩
def codec_number_B2  (k5 : ((List Int) → Int → Option (List Int))) : (List Int) → Int → Option (List Int) := fun v3 v4 => (bif decide (v4 ≥ 128) then (gApp 1 v3 [gBits .or .u8 (IntKind.u8.wrap v4) 128]).bind fun x7 => (gSh .shr .u64 v4 7).bind fun x8 => k5 x7 x8 else (gApp 1 v3 [IntKind.u8.wrap v4]).bind fun x9 => some x9)
def codec_number_L2  : (List Int) → Int → Option (List Int) := loop2 (codec_number_B2) fuel
def codec_number_j1 (p0_b : (List Int)) (v2 : Int) : Option (List Int) := codec_number_L2 p0_b v2
def codec_number (p0_b : (List Int)) (p1_n : Int) : Option (List Int) := (gSh .shl .u64 (IntKind.u64.wrap p1_n) 1).bind fun x1 => (bif decide (p1_n < 0) then codec_number_j1 p0_b (gNot .u64 x1) else codec_number_j1 p0_b x1)
theorem codec_number_ok (p0_b : (List Int)) (p1_n : Int) (r : (List Int)) (h : codec_number p0_b p1_n = some r) : Runs Tryz.prog 116 [.osl 0, .d (eI p1_n)] [.arr 5 1 (List.map eU8 p0_b)] (.osl 1) [.dead, .arr 5 1 (List.map eU8 r)] := by
  refine Runs.of_fin Tryz.func116 rfl ?_
  unfold codec_number at h
  refine SP.rg <| .e [.arr 5 1 (List.map eU8 p0_b), .arr 5 1 (List.map eU8 [])] (ok_assign_own 5 1 rfl) <| .nil ?_
  obtain ⟨x1, hx1, h⟩ := of_bind h
  refine SP.rg <| .a 2 <| .p (ok_shl (k := .u64) (k' := .u64) hx1 rfl) <| .a 1 <| .nil ?_
  refine SP.join (fun s => ∃ (v2 : Int), Sub s (codec_number_S1 p0_b v2) ∧ codec_number_j1 p0_b v2 = some r) ?_ ?_
  · clear h
    rintro s ⟨v2, hs, h⟩
    refine SP.sub hs ?_
    clear hs
    unfold codec_number_j1 at h
    refine SP.seqc ?_
    refine SP.block ?_
    refine SP.loop2 (codec_number_S2) (codec_number_B2) r p0_b v2 (sub_of (mk 28 33) [(0, false), (1, true)]) h ?_
    clear h
    intro J10 k5 hk5 v3 v4 h
    unfold codec_number_B2 at h
    refine SP.seqc ?_
    refine SP.rg <| .a 2 <| .nil ?_
    refine SP.cond (decide (v4 ≥ 128)) (by kernel_rfl) (fun hb6 => ?_) (fun hb6 => ?_)
    · replace h := of_bif_true hb6 h
      refine SP.skip ?_
      refine SP.block ?_
      obtain ⟨x7, hx7, h⟩ := of_bind h
      refine SP.rg <| .a 3 <| .p (ok_or (k := .u8) (u := (IntKind.u8.wrap v4)) (v := 128) rfl) <| .p (ok_lits el78 zero5 (by kernel_rfl) (by kernel_rfl) (Nat.le_of_ble_eq_true (by kernel_rfl)) [.d (eU8 (gBits .or .u8 (IntKind.u8.wrap v4) 128))] [eU8 (gBits .or .u8 (IntKind.u8.wrap v4) 128)] (by kernel_rfl) (by kernel_rfl) (by kernel_rfl) (by kernel_rfl) rfl) <| .e [.dead, .dead, .arr 5 1 (List.map eU8 x7)] (ok_appT (k := 1) eU8 hx7 el78 (by kernel_rfl) (fun _ => rfl) (by decide) rfl) <| .a 1 <| .nil ?_
      obtain ⟨x8, hx8, h⟩ := of_bind h
      refine SP.rgn <| .a 1 <| .p (ok_shr (k := .u64) (k' := .u64) hx8 rfl) <| .a 1 <| .nil ?_
      exact hk5 _ x7 x8 (sub_of (mk 28 33) [(0, false), (2, true)]) h
    · replace h := of_bif_false hb6 h
      refine SP.exit ?_
      obtain ⟨x9, hx9, h⟩ := of_bind h
      refine SP.rg <| .a 3 <| .p (ok_lits el78 zero5 (by kernel_rfl) (by kernel_rfl) (Nat.le_of_ble_eq_true (by kernel_rfl)) [.d (eU8 (IntKind.u8.wrap v4))] [eU8 (IntKind.u8.wrap v4)] (by kernel_rfl) (by kernel_rfl) (by kernel_rfl) (by kernel_rfl) rfl) <| .e [.dead, .dead, .arr 5 1 (List.map eU8 x9)] (ok_appT (k := 1) eU8 hx9 el78 (by kernel_rfl) (fun _ => rfl) (by decide) rfl) <| .a 1 <| .nil ?_
      refine SP.ret ?_
      rw [← Option.some.inj h]
      exact ⟨[.osl 2], [(0, false), (2, true)], ⟨resV_tmp (by kernel_rfl), trivial⟩, by kernel_rfl, by kernel_rfl, by kernel_rfl⟩
  · intro K11
    refine SP.rg <| .a 2 <| .nil ?_
    refine SP.cond (decide (p1_n < 0)) (by kernel_rfl) (fun hb12 => ?_) (fun hb12 => ?_)
    · replace h := of_bif_true hb12 h
      refine SP.rgn <| .a 1 <| .p (ok_not (k := .u64) (u := x1) rfl) <| .a 1 <| .nil ?_
      exact K11 _ ⟨(gNot .u64 x1), sub_of (mk 28 33) [(0, false), (0, true)], h⟩
    · replace h := of_bif_false hb12 h
      refine SP.skip ?_
      exact K11 _ ⟨x1, sub_of (mk 28 33) [(0, false), (0, true)], h⟩

-- fedchat/codec.text
def codec_text (p0_b : (List Int)) (p1_s : ByteArray) : Option (List Int) := (codec_number p0_b (p1_s.size : Int)).bind fun x1 => (gApp 1 x1 (sBytes p1_s)).bind fun x2 => some x2
theorem codec_text_ok (p0_b : (List Int)) (p1_s : ByteArray) (r : (List Int)) (h : codec_text p0_b p1_s = some r) : Runs Tryz.prog 114 [.osl 0, .d (eS p1_s)] [.arr 5 1 (List.map eU8 p0_b)] (.osl 1) [.dead, .arr 5 1 (List.map eU8 r)] := by
  refine Runs.of_fin Tryz.func114 rfl ?_
  unfold codec_text at h
  refine SP.rg <| .e [.arr 5 1 (List.map eU8 p0_b), .arr 5 1 (List.map eU8 [])] (ok_assign_own 5 1 rfl) <| .nil ?_
  obtain ⟨x1, hx1, h⟩ := of_bind h
  obtain ⟨x2, hx2, h⟩ := of_bind h
  refine SP.rg <| .a 3 <| .e (x := .osl 2) [.dead, .arr 5 1 (List.map eU8 []), .arr 5 1 (List.map eU8 x1)] (ok_callG [.ent 0] (avs := [.osl 0, .d (eI (p1_s.size : Int))]) (avs' := [.osl 0, .d (eI (p1_s.size : Int))]) (res' := .osl 2) (codec_number_ok p0_b (p1_s.size : Int) x1 hx1) ent116 (by kernel_rfl) (downs_ent (by kernel_rfl) <| trivial) ⟨⟨0, rfl, rfl⟩, .inl rfl, trivial⟩ rfl (by kernel_rfl) rfl) <| .a 1 <| .e [.dead, .arr 5 1 (List.map eU8 []), .dead, .arr 5 1 (List.map eU8 x2)] (ok_appS (k := 2) hx2 el78 zero5 und9 (by kernel_rfl) rfl) <| .a 1 <| .nil ?_
  refine SP.ret ?_
  rw [← Option.some.inj h]
  exact ⟨[.osl 3], [(0, false), (3, true)], ⟨resV_tmp (by kernel_rfl), trivial⟩, by kernel_rfl, by kernel_rfl, by kernel_rfl⟩

-- fedchat/codec.PutText
def codec_PutText (p0_b : (List Int)) (p1_s : ByteArray) : Option (List Int) := (codec_room p0_b (IntKind.i64.wrap ((p1_s.size : Int) + 10))).bind fun x1 => (codec_text x1 p1_s).bind fun x2 => some x2
theorem codec_PutText_ok (p0_b : (List Int)) (p1_s : ByteArray) (r : (List Int)) (h : codec_PutText p0_b p1_s = some r) : Runs Tryz.prog 78 [.d ((eL eU8) p0_b), .d (eS p1_s)] [] (.osl 0) [.arr 5 1 (List.map eU8 r)] := by
  refine Runs.of_fin Tryz.func78 rfl ?_
  unfold codec_PutText at h
  refine SP.rg <| .e [.arr 5 1 (List.map eU8 [])] (ok_assign_own 5 1 rfl) <| .nil ?_
  obtain ⟨x1, hx1, h⟩ := of_bind h
  obtain ⟨x2, hx2, h⟩ := of_bind h
  refine SP.rg <| .a 4 <| .e (x := .osl 1) [.arr 5 1 (List.map eU8 []), .arr 5 1 (List.map eU8 x1)] (ok_callD (avs := [.d ((eL eU8) p0_b), .d (eI (IntKind.i64.wrap ((p1_s.size : Int) + 10)))]) (avs' := [.d ((eL eU8) p0_b), .d (eI (IntKind.i64.wrap ((p1_s.size : Int) + 10)))]) (codec_room_ok p0_b (IntKind.i64.wrap ((p1_s.size : Int) + 10)) x1 hx1) ent115 (by kernel_rfl) ⟨.inl rfl, .inl rfl, trivial⟩ rfl (by kernel_rfl) rfl) <| .a 1 <| .e (x := .osl 2) [.arr 5 1 (List.map eU8 []), .dead, .arr 5 1 (List.map eU8 x2)] (ok_callG [.ent 1] (avs := [.osl 1, .d (eS p1_s)]) (avs' := [.osl 0, .d (eS p1_s)]) (res' := .osl 2) (codec_text_ok x1 p1_s x2 hx2) ent114 (by kernel_rfl) (downs_ent (by kernel_rfl) <| trivial) ⟨⟨0, rfl, rfl⟩, .inl rfl, trivial⟩ rfl (by kernel_rfl) rfl) <| .a 1 <| .nil ?_
  refine SP.ret ?_
  rw [← Option.some.inj h]
  exact ⟨[.osl 2], [(2, true)], ⟨resV_tmp (by kernel_rfl), trivial⟩, by kernel_rfl, by kernel_rfl, by kernel_rfl⟩

-- fedchat/codec.PutInt
def codec_PutInt (p0_b : (List Int)) (p1_n : Int) : Option (List Int) := (codec_room p0_b 10).bind fun x1 => (codec_number x1 p1_n).bind fun x2 => some x2
theorem codec_PutInt_ok (p0_b : (List Int)) (p1_n : Int) (r : (List Int)) (h : codec_PutInt p0_b p1_n = some r) : Runs Tryz.prog 79 [.d ((eL eU8) p0_b), .d (eI p1_n)] [] (.osl 0) [.arr 5 1 (List.map eU8 r)] := by
  refine Runs.of_fin Tryz.func79 rfl ?_
  unfold codec_PutInt at h
  refine SP.rg <| .e [.arr 5 1 (List.map eU8 [])] (ok_assign_own 5 1 rfl) <| .nil ?_
  obtain ⟨x1, hx1, h⟩ := of_bind h
  obtain ⟨x2, hx2, h⟩ := of_bind h
  refine SP.rg <| .a 1 <| .e (x := .osl 1) [.arr 5 1 (List.map eU8 []), .arr 5 1 (List.map eU8 x1)] (ok_callD (avs := [.d ((eL eU8) p0_b), .d (eI 10)]) (avs' := [.d ((eL eU8) p0_b), .d (eI 10)]) (codec_room_ok p0_b 10 x1 hx1) ent115 (by kernel_rfl) ⟨.inl rfl, .inl rfl, trivial⟩ rfl (by kernel_rfl) rfl) <| .a 1 <| .e (x := .osl 2) [.arr 5 1 (List.map eU8 []), .dead, .arr 5 1 (List.map eU8 x2)] (ok_callG [.ent 1] (avs := [.osl 1, .d (eI p1_n)]) (avs' := [.osl 0, .d (eI p1_n)]) (res' := .osl 2) (codec_number_ok x1 p1_n x2 hx2) ent116 (by kernel_rfl) (downs_ent (by kernel_rfl) <| trivial) ⟨⟨0, rfl, rfl⟩, .inl rfl, trivial⟩ rfl (by kernel_rfl) rfl) <| .a 1 <| .nil ?_
  refine SP.ret ?_
  rw [← Option.some.inj h]
  exact ⟨[.osl 2], [(2, true)], ⟨resV_tmp (by kernel_rfl), trivial⟩, by kernel_rfl, by kernel_rfl, by kernel_rfl⟩

-- fedchat/codec.PutBool
def codec_PutBool (p0_b : (List Int)) (p1_is : Bool) : Option (List Int) := (codec_room p0_b 1).bind fun x1 => (bif p1_is then (gApp 1 x1 [1]).bind fun x3 => some x3 else (gApp 1 x1 [0]).bind fun x4 => some x4)
theorem codec_PutBool_ok (p0_b : (List Int)) (p1_is : Bool) (r : (List Int)) (h : codec_PutBool p0_b p1_is = some r) : Runs Tryz.prog 80 [.d ((eL eU8) p0_b), .d (eB p1_is)] [] (.osl 0) [.arr 5 1 (List.map eU8 r)] := by
  refine Runs.of_fin Tryz.func80 rfl ?_
  unfold codec_PutBool at h
  refine SP.rg <| .e [.arr 5 1 (List.map eU8 [])] (ok_assign_own 5 1 rfl) <| .nil ?_
  obtain ⟨x1, hx1, h⟩ := of_bind h
  refine SP.rg <| .a 1 <| .e (x := .osl 1) [.arr 5 1 (List.map eU8 []), .arr 5 1 (List.map eU8 x1)] (ok_callD (avs := [.d ((eL eU8) p0_b), .d (eI 1)]) (avs' := [.d ((eL eU8) p0_b), .d (eI 1)]) (codec_room_ok p0_b 1 x1 hx1) ent115 (by kernel_rfl) ⟨.inl rfl, .inl rfl, trivial⟩ rfl (by kernel_rfl) rfl) <| .a 1 <| .nil ?_
  refine SP.seqc ?_
  refine SP.rg <| .a 1 <| .nil ?_
  refine SP.cond p1_is (by kernel_rfl) (fun hb2 => ?_) (fun hb2 => ?_)
  · replace h := of_bif_true hb2 h
    obtain ⟨x3, hx3, h⟩ := of_bind h
    refine SP.rg <| .a 1 <| .p (ok_lits el78 zero5 (by kernel_rfl) (by kernel_rfl) (Nat.le_of_ble_eq_true (by kernel_rfl)) [.d (eU8 1)] [eU8 1] (by kernel_rfl) (by kernel_rfl) (by kernel_rfl) (by kernel_rfl) rfl) <| .e [.arr 5 1 (List.map eU8 []), .dead, .arr 5 1 (List.map eU8 x3)] (ok_appT (k := 1) eU8 hx3 el78 (by kernel_rfl) (fun _ => rfl) (by decide) rfl) <| .a 1 <| .nil ?_
    refine SP.ret ?_
    rw [← Option.some.inj h]
    exact ⟨[.osl 2], [(2, true)], ⟨resV_tmp (by kernel_rfl), trivial⟩, by kernel_rfl, by kernel_rfl, by kernel_rfl⟩
  · replace h := of_bif_false hb2 h
    refine SP.skip ?_
    obtain ⟨x4, hx4, h⟩ := of_bind h
    refine SP.rg <| .a 1 <| .p (ok_lits el78 zero5 (by kernel_rfl) (by kernel_rfl) (Nat.le_of_ble_eq_true (by kernel_rfl)) [.d (eU8 0)] [eU8 0] (by kernel_rfl) (by kernel_rfl) (by kernel_rfl) (by kernel_rfl) rfl) <| .e [.arr 5 1 (List.map eU8 []), .dead, .arr 5 1 (List.map eU8 x4)] (ok_appT (k := 1) eU8 hx4 el78 (by kernel_rfl) (fun _ => rfl) (by decide) rfl) <| .a 1 <| .nil ?_
    refine SP.ret ?_
    rw [← Option.some.inj h]
    exact ⟨[.osl 2], [(2, true)], ⟨resV_tmp (by kernel_rfl), trivial⟩, by kernel_rfl, by kernel_rfl, by kernel_rfl⟩

-- fedchat/codec.list[string]
def codec_list_string_codec_text_S1 (p1_l : (List ByteArray)) (v2 : (List Int)) (v3 : Int) : St := ⟨shp 25 [(0, .osl 1), (2, .d (.fn (.func 114) [] [])), (13, .d ((eL eS) p1_l)), (14, .d (eI (p1_l.length : Int))), (15, .d (eI v3))], [.dead, .arr 5 1 (List.map eU8 v2)], 1⟩
def codec_list_string_codec_text_B1 (p1_l : (List ByteArray)) (k4 : ((List Int) → Int → Option (List Int))) : (List Int) → Int → Option (List Int) := fun v2 v3 => (bif decide (v3 < (p1_l.length : Int)) then (gIdx p1_l v3).bind fun x6 => (codec_text v2 x6).bind fun x7 => k4 x7 (IntKind.i64.wrap (v3 + 1)) else some v2)
def codec_list_string_codec_text_L1 (p1_l : (List ByteArray)) : (List Int) → Int → Option (List Int) := loop2 (codec_list_string_codec_text_B1 p1_l) fuel
def codec_list_string_codec_text (p0_b : (List Int)) (p1_l : (List ByteArray)) : Option (List Int) := (codec_number p0_b (p1_l.length : Int)).bind fun x1 => codec_list_string_codec_text_L1 p1_l x1 0
theorem codec_list_string_codec_text_ok (p0_b : (List Int)) (p1_l : (List ByteArray)) (r : (List Int)) (h : codec_list_string_codec_text p0_b p1_l = some r) : Runs Tryz.prog 117 [.osl 0, .d ((eL eS) p1_l), .d (.fn (.func 114) [] [])] [.arr 5 1 (List.map eU8 p0_b)] (.osl 1) [.dead, .arr 5 1 (List.map eU8 r)] := by
  refine Runs.of_fin Tryz.func117 rfl ?_
  unfold codec_list_string_codec_text at h
  refine SP.rg <| .e [.arr 5 1 (List.map eU8 p0_b), .arr 5 1 (List.map eU8 [])] (ok_assign_own 5 1 rfl) <| .nil ?_
  obtain ⟨x1, hx1, h⟩ := of_bind h
  refine SP.rg <| .a 2 <| .p (ok_lenT eS p1_l und24 rfl) <| .e (x := .osl 2) [.dead, .arr 5 1 (List.map eU8 []), .arr 5 1 (List.map eU8 x1)] (ok_callG [.ent 0] (avs := [.osl 0, .d (eI (p1_l.length : Int))]) (avs' := [.osl 0, .d (eI (p1_l.length : Int))]) (res' := .osl 2) (codec_number_ok p0_b (p1_l.length : Int) x1 hx1) ent116 (by kernel_rfl) (downs_ent (by kernel_rfl) <| trivial) ⟨⟨0, rfl, rfl⟩, .inl rfl, trivial⟩ rfl (by kernel_rfl) rfl) <| .a 1 <| .nil ?_
  refine SP.seqc ?_
  refine SP.rg <| .a 1 <| .p (ok_lenT eS p1_l und24 rfl) <| .a 1 <| .nil ?_
  refine SP.block ?_
  refine SP.loop2 (codec_list_string_codec_text_S1 p1_l) (codec_list_string_codec_text_B1 p1_l) r x1 0 (sub_of (mk 25 57349) [(0, false), (2, true)]) h ?_
  clear h
  intro J8 k4 hk4 v2 v3 h
  unfold codec_list_string_codec_text_B1 at h
  refine SP.rg <| .a 1 <| .nil ?_
  refine SP.seqc ?_
  refine SP.cond (decide (v3 < (p1_l.length : Int))) (by kernel_rfl) (fun hb5 => ?_) (fun hb5 => ?_)
  · replace h := of_bif_true hb5 h
    refine SP.skip ?_
    refine SP.seqc ?_
    refine SP.block ?_
    obtain ⟨x6, hx6, h⟩ := of_bind h
    refine SP.rg <| .p (ok_idxT (k := .i64) eS hx6 und24 ty9 (by kernel_rfl) rfl) <| .a 2 <| .nil ?_
    obtain ⟨x7, hx7, h⟩ := of_bind h
    refine SP.rgn <| .a 3 <| .e (x := .osl 2) [.dead, .dead, .arr 5 1 (List.map eU8 x7)] (ok_callGD [.ent 1] [] [] (avs := [.osl 1, .d (eS x6)]) (avs' := [.osl 0, .d (eS x6)]) (res' := .osl 2) (codec_text_ok v2 x6 x7 hx7) ent114 (by kernel_rfl) (downs_ent (by kernel_rfl) <| trivial) ⟨⟨0, rfl, rfl⟩, .inl rfl, trivial⟩ rfl (by kernel_rfl) rfl) <| .a 1 <| .nil ?_
    refine SP.rgn <| .a 2 <| .nil ?_
    exact hk4 _ x7 (IntKind.i64.wrap (v3 + 1)) (sub_of (mk 25 57349) [(0, false), (2, true)]) h
  · replace h := of_bif_false hb5 h
    refine SP.exit ?_
    refine SP.rg <| .a 2 <| .nil ?_
    refine SP.ret ?_
    rw [← Option.some.inj h]
    exact ⟨[.osl 1], [(0, false), (1, true)], ⟨resV_tmp (by kernel_rfl), trivial⟩, by kernel_rfl, by kernel_rfl, by kernel_rfl⟩

-- fedchat/codec.PutTexts
def codec_PutTexts (p0_b : (List Int)) (p1_l : (List ByteArray)) : Option (List Int) := (codec_room p0_b (IntKind.i64.wrap ((IntKind.i64.wrap (8 * (p1_l.length : Int))) + 10))).bind fun x1 => (codec_list_string_codec_text x1 p1_l).bind fun x2 => some x2
theorem codec_PutTexts_ok (p0_b : (List Int)) (p1_l : (List ByteArray)) (r : (List Int)) (h : codec_PutTexts p0_b p1_l = some r) : Runs Tryz.prog 81 [.d ((eL eU8) p0_b), .d ((eL eS) p1_l)] [] (.osl 0) [.arr 5 1 (List.map eU8 r)] := by
  refine Runs.of_fin Tryz.func81 rfl ?_
  unfold codec_PutTexts at h
  refine SP.rg <| .e [.arr 5 1 (List.map eU8 [])] (ok_assign_own 5 1 rfl) <| .nil ?_
  obtain ⟨x1, hx1, h⟩ := of_bind h
  obtain ⟨x2, hx2, h⟩ := of_bind h
  refine SP.rg <| .a 2 <| .p (ok_lenT eS p1_l und24 rfl) <| .a 2 <| .e (x := .osl 1) [.arr 5 1 (List.map eU8 []), .arr 5 1 (List.map eU8 x1)] (ok_callD (avs := [.d ((eL eU8) p0_b), .d (eI (IntKind.i64.wrap ((IntKind.i64.wrap (8 * (p1_l.length : Int))) + 10)))]) (avs' := [.d ((eL eU8) p0_b), .d (eI (IntKind.i64.wrap ((IntKind.i64.wrap (8 * (p1_l.length : Int))) + 10)))]) (codec_room_ok p0_b (IntKind.i64.wrap ((IntKind.i64.wrap (8 * (p1_l.length : Int))) + 10)) x1 hx1) ent115 (by kernel_rfl) ⟨.inl rfl, .inl rfl, trivial⟩ rfl (by kernel_rfl) rfl) <| .a 1 <| .e (x := .osl 2) [.arr 5 1 (List.map eU8 []), .dead, .arr 5 1 (List.map eU8 x2)] (ok_callG [.ent 1] (avs := [.osl 1, .d ((eL eS) p1_l), .d (.fn (.func 114) [] [])]) (avs' := [.osl 0, .d ((eL eS) p1_l), .d (.fn (.func 114) [] [])]) (res' := .osl 2) (codec_list_string_codec_text_ok x1 p1_l x2 hx2) ent117 (by kernel_rfl) (downs_ent (by kernel_rfl) <| trivial) ⟨⟨0, rfl, rfl⟩, .inl rfl, .inl rfl, trivial⟩ rfl (by kernel_rfl) rfl) <| .a 1 <| .nil ?_
  refine SP.ret ?_
  rw [← Option.some.inj h]
  exact ⟨[.osl 2], [(2, true)], ⟨resV_tmp (by kernel_rfl), trivial⟩, by kernel_rfl, by kernel_rfl, by kernel_rfl⟩

-- fedchat/content.Encode
def content_Encode_S1 (p0_c : ApiContent) (v9 : (List Int)) (v10 : Int) (v11 : ApiLevels) : St := ⟨shp 103 [(3, .d ((eL eU8) v9)), (4, .ptr 0 0), (46, .d ((eL eApiLevel) p0_c.Levels.Users)), (47, .d (eI (p0_c.Levels.Users.length : Int))), (48, .d (eI v10))], [.box (dc (eApiLevels v11))], 0⟩
def content_Encode_S2 (v11 : ApiLevels) (v18 : (List Int)) (v19 : Int) (v20 : ApiLevels) : St := ⟨shp 103 [(3, .d ((eL eU8) v18)), (4, .ptr 0 0), (66, .d ((eL eApiKindLevel) v11.Kinds)), (67, .d (eI (v11.Kinds.length : Int))), (68, .d (eI v19))], [.box (dc (eApiLevels v20))], 0⟩
def content_Encode_S3 (v20 : ApiLevels) (v26 : (List Int)) (v27 : Int) : St := ⟨shp 103 [(3, .d ((eL eU8) v26)), (94, .d ((eA eI) ([v20.User, v20.Message, v20.State, v20.Invite, v20.Kick, v20.Ban, v20.Redact] : (List Int)))), (95, .d (eI v27))], [], 0⟩
def content_Encode_B3 (v20 : ApiLevels) (k28 : ((List Int) → Int → Option (List Int))) : (List Int) → Int → Option (List Int) := fun v26 v27 => (bif decide (v27 < 7) then (gIdx ([v20.User, v20.Message, v20.State, v20.Invite, v20.Kick, v20.Ban, v20.Redact] : (List Int)) v27).bind fun x30 => (codec_PutInt v26 x30).bind fun x31 => k28 x31 (IntKind.i64.wrap (v27 + 1)) else some v26)
def content_Encode_L3 (v20 : ApiLevels) : (List Int) → Int → Option (List Int) := loop2 (content_Encode_B3 v20) fuel
def content_Encode_B2 (v11 : ApiLevels) (k21 : ((List Int) → Int → ApiLevels → Option (List Int))) : (List Int) → Int → ApiLevels → Option (List Int) := fun v18 v19 v20 => (bif decide (v19 < (v11.Kinds.length : Int)) then (gIdx v11.Kinds v19).bind fun x23 => (codec_PutInt v18 x23.Kind).bind fun x24 => (codec_PutInt x24 x23.N).bind fun x25 => k21 x25 (IntKind.i64.wrap (v19 + 1)) v20 else content_Encode_L3 v20 v18 0)
def content_Encode_L2 (v11 : ApiLevels) : (List Int) → Int → ApiLevels → Option (List Int) := loop3 (content_Encode_B2 v11) fuel
def content_Encode_B1 (p0_c : ApiContent) (k12 : ((List Int) → Int → ApiLevels → Option (List Int))) : (List Int) → Int → ApiLevels → Option (List Int) := fun v9 v10 v11 => (bif decide (v10 < (p0_c.Levels.Users.length : Int)) then (gIdx p0_c.Levels.Users v10).bind fun x14 => (codec_PutText v9 x14.User).bind fun x15 => (codec_PutInt x15 x14.N).bind fun x16 => k12 x16 (IntKind.i64.wrap (v10 + 1)) v11 else (codec_PutInt v9 (v11.Kinds.length : Int)).bind fun x17 => content_Encode_L2 v11 x17 0 v11)
def content_Encode_L1 (p0_c : ApiContent) : (List Int) → Int → ApiLevels → Option (List Int) := loop3 (content_Encode_B1 p0_c) fuel
def content_Encode (p0_c : ApiContent) : Option (List Int) := (codec_PutText [] p0_c.Text).bind fun x1 => (codec_PutInt x1 p0_c.N).bind fun x2 => (codec_PutInt x2 p0_c.Target).bind fun x3 => (codec_PutBool x3 p0_c.Thread).bind fun x4 => (codec_PutText x4 p0_c.Via).bind fun x5 => (codec_PutTexts x5 p0_c.Allow).bind fun x6 => (codec_PutTexts x6 p0_c.Deny).bind fun x7 => (codec_PutInt x7 (p0_c.Levels.Users.length : Int)).bind fun x8 => content_Encode_L1 p0_c x8 0 p0_c.Levels
theorem content_Encode_ok (p0_c : ApiContent) (r : (List Int)) (h : content_Encode p0_c = some r) : Runs Tryz.prog 43 [.d (eApiContent p0_c)] [] (.d ((eL eU8) r)) [] := by
  refine Runs.of_fin Tryz.func43 rfl ?_
  unfold content_Encode at h
  refine SP.rg <| .a 2 <| .nil ?_
  obtain ⟨x1, hx1, h⟩ := of_bind h
  refine SP.rg <| .a 2 <| .p (x := .d ((eL eU8) x1)) (ok_callV (avs := [.d (.lit (.slice none 0 0)), .d (eS p0_c.Text)]) (avs' := [.d ((eL eU8) []), .d (eS p0_c.Text)]) (codec_PutText_ok [] p0_c.Text x1 hx1).view ent78 ⟨.inr (.inr ⟨rfl, rfl⟩), .inl rfl, trivial⟩ rfl (by kernel_rfl) rfl) <| .a 1 <| .nil ?_
  obtain ⟨x2, hx2, h⟩ := of_bind h
  refine SP.rg <| .a 3 <| .call (codec_PutInt_ok x1 p0_c.N x2 hx2).view ent79 <| .a 1 <| .nil ?_
  obtain ⟨x3, hx3, h⟩ := of_bind h
  refine SP.rg <| .a 3 <| .call (codec_PutInt_ok x2 p0_c.Target x3 hx3).view ent79 <| .a 1 <| .nil ?_
  obtain ⟨x4, hx4, h⟩ := of_bind h
  refine SP.rg <| .a 3 <| .call (codec_PutBool_ok x3 p0_c.Thread x4 hx4).view ent80 <| .a 1 <| .nil ?_
  obtain ⟨x5, hx5, h⟩ := of_bind h
  refine SP.rg <| .a 3 <| .call (codec_PutText_ok x4 p0_c.Via x5 hx5).view ent78 <| .a 1 <| .nil ?_
  obtain ⟨x6, hx6, h⟩ := of_bind h
  refine SP.rg <| .a 3 <| .call (codec_PutTexts_ok x5 p0_c.Allow x6 hx6).view ent81 <| .a 1 <| .nil ?_
  obtain ⟨x7, hx7, h⟩ := of_bind h
  refine SP.rg <| .a 3 <| .call (codec_PutTexts_ok x6 p0_c.Deny x7 hx7).view ent81 <| .a 1 <| .nil ?_
  refine SP.rg <| .a 4 <| .nil ?_
  obtain ⟨x8, hx8, h⟩ := of_bind h
  refine SP.rg <| .a 3 <| .p (ok_lenT eApiLevel p0_c.Levels.Users und34 rfl) <| .call (codec_PutInt_ok x7 (p0_c.Levels.Users.length : Int) x8 hx8).view ent79 <| .a 1 <| .nil ?_
  refine SP.seqc ?_
  refine SP.rg <| .a 2 <| .p (ok_lenT eApiLevel p0_c.Levels.Users und34 rfl) <| .a 1 <| .nil ?_
  refine SP.block ?_
  refine SP.loop3 (content_Encode_S1 p0_c) (content_Encode_B1 p0_c) r x8 0 p0_c.Levels (sub_of (mk 103 492581209243672) [(1, true)]) h ?_
  clear h
  intro J34 k12 hk12 v9 v10 v11 h
  unfold content_Encode_B1 at h
  refine SP.rg <| .a 1 <| .nil ?_
  refine SP.seqc ?_
  refine SP.cond (decide (v10 < (p0_c.Levels.Users.length : Int))) (by kernel_rfl) (fun hb13 => ?_) (fun hb13 => ?_)
  · replace h := of_bif_true hb13 h
    refine SP.skip ?_
    refine SP.seqc ?_
    refine SP.block ?_
    obtain ⟨x14, hx14, h⟩ := of_bind h
    refine SP.rg <| .p (ok_idxT (k := .i64) eApiLevel hx14 und34 ty71 (by kernel_rfl) rfl) <| .a 3 <| .nil ?_
    obtain ⟨x15, hx15, h⟩ := of_bind h
    obtain ⟨x16, hx16, h⟩ := of_bind h
    refine SP.draw (by kernel_rfl) (by kernel_rfl) (by kernel_rfl) (.a 3 <| .call (codec_PutText_ok v9 x14.User x15 hx15).view ent78 <| .a 2 <| .call (codec_PutInt_ok x15 x14.N x16 hx16).view ent79 <| .a 1 <| .nil _) ?_
    refine SP.rgn <| .a 2 <| .nil ?_
    exact hk12 _ x16 (IntKind.i64.wrap (v10 + 1)) v11 (sub_of (mk 103 492581209243672) [(0, true)]) h
  · replace h := of_bif_false hb13 h
    refine SP.exit ?_
    obtain ⟨x17, hx17, h⟩ := of_bind h
    refine SP.rg <| .a 3 <| .p (ok_lenT eApiKindLevel v11.Kinds und35 rfl) <| .call (codec_PutInt_ok v9 (v11.Kinds.length : Int) x17 hx17).view ent79 <| .a 1 <| .nil ?_
    refine SP.seqc ?_
    refine SP.rg <| .a 2 <| .p (ok_lenT eApiKindLevel v11.Kinds und35 rfl) <| .a 1 <| .nil ?_
    refine SP.block ?_
    refine SP.loop3 (content_Encode_S2 v11) (content_Encode_B2 v11) r x17 0 v11 (sub_of (mk 103 516508834063867445272) [(0, true)]) h ?_
    clear h
    intro J33 k21 hk21 v18 v19 v20 h
    unfold content_Encode_B2 at h
    refine SP.rg <| .a 1 <| .nil ?_
    refine SP.seqc ?_
    refine SP.cond (decide (v19 < (v11.Kinds.length : Int))) (by kernel_rfl) (fun hb22 => ?_) (fun hb22 => ?_)
    · replace h := of_bif_true hb22 h
      refine SP.skip ?_
      refine SP.seqc ?_
      refine SP.block ?_
      obtain ⟨x23, hx23, h⟩ := of_bind h
      refine SP.rg <| .p (ok_idxT (k := .i64) eApiKindLevel hx23 und35 ty108 (by kernel_rfl) rfl) <| .a 3 <| .nil ?_
      obtain ⟨x24, hx24, h⟩ := of_bind h
      obtain ⟨x25, hx25, h⟩ := of_bind h
      refine SP.draw (by kernel_rfl) (by kernel_rfl) (by kernel_rfl) (.a 3 <| .call (codec_PutInt_ok v18 x23.Kind x24 hx24).view ent79 <| .a 2 <| .call (codec_PutInt_ok x24 x23.N x25 hx25).view ent79 <| .a 1 <| .nil _) ?_
      refine SP.rgn <| .a 2 <| .nil ?_
      exact hk21 _ x25 (IntKind.i64.wrap (v19 + 1)) v20 (sub_of (mk 103 516508834063867445272) [(0, true)]) h
    · replace h := of_bif_false hb22 h
      refine SP.exit ?_
      refine SP.seqc ?_
      refine SP.rg <| .a 16 <| .nil ?_
      refine SP.block ?_
      refine SP.loop2 (content_Encode_S3 v20) (content_Encode_B3 v20) r v18 0 (sub_of (mk 103 59421121885698253195157962760) []) h ?_
      clear h
      intro J32 k28 hk28 v26 v27 h
      unfold content_Encode_B3 at h
      refine SP.rg <| .a 1 <| .nil ?_
      refine SP.seqc ?_
      refine SP.cond (decide (v27 < 7)) (by kernel_rfl) (fun hb29 => ?_) (fun hb29 => ?_)
      · replace h := of_bif_true hb29 h
        refine SP.skip ?_
        refine SP.seqc ?_
        refine SP.block ?_
        obtain ⟨x30, hx30, h⟩ := of_bind h
        refine SP.rg <| .p (ok_idxA (k := .i64) eI hx30 und109 ty3 (by kernel_rfl) rfl) <| .a 1 <| .nil ?_
        obtain ⟨x31, hx31, h⟩ := of_bind h
        refine SP.rgn <| .a 2 <| .call (codec_PutInt_ok v26 x30 x31 hx31).view ent79 <| .a 1 <| .nil ?_
        refine SP.rgn <| .a 2 <| .nil ?_
        exact hk28 _ x31 (IntKind.i64.wrap (v27 + 1)) (sub_of (mk 103 59421121885698253195157962760) []) h
      · replace h := of_bif_false hb29 h
        refine SP.exit ?_
        refine SP.rg <| .a 2 <| .nil ?_
        refine SP.ret ?_
        rw [← Option.some.inj h]
        exact ⟨[.d ((eL eU8) v26)], [], ⟨resV_tmp (by kernel_rfl), trivial⟩, by kernel_rfl, by kernel_rfl, by kernel_rfl⟩

-- fedchat/sums.Start
def sums_Start  : Option Int := some 860922984064492325
theorem sums_Start_ok  (r : Int) (h : sums_Start = some r) : Runs Tryz.prog 68 [] [] (.d (eI r)) [] := by
  refine Runs.of_fin Tryz.func68 rfl ?_
  unfold sums_Start at h
  refine SP.rg <| .a 1 <| .nil ?_
  refine SP.rg <| .a 1 <| .nil ?_
  refine SP.ret ?_
  rw [← Option.some.inj h]
  exact ⟨[.d (eI 860922984064492325)], [], ⟨resV_tmp (by kernel_rfl), trivial⟩, by kernel_rfl, by kernel_rfl, by kernel_rfl⟩

-- fedchat/sums.Fold
def sums_Fold_S1 (p1_b : (List Int)) (v1 : Int) (v2 : Int) : St := ⟨shp 26 [(5, .d ((eK .u64) v1)), (11, .d ((eL eU8) p1_b)), (12, .d (eI (p1_b.length : Int))), (13, .d (eI v2))], [], 0⟩
def sums_Fold_B1 (p1_b : (List Int)) (k3 : (Int → Int → Option Int)) : Int → Int → Option Int := fun v1 v2 => (bif decide (v2 < (p1_b.length : Int)) then (gIdx p1_b v2).bind fun x5 => k3 (gBits .and .u64 (IntKind.u64.wrap ((gBits .xor .u64 v1 (IntKind.u64.wrap x5)) * 1099511628211)) 4611686018427387903) (IntKind.i64.wrap (v2 + 1)) else some (IntKind.i64.wrap v1))
def sums_Fold_L1 (p1_b : (List Int)) : Int → Int → Option Int := loop2 (sums_Fold_B1 p1_b) fuel
def sums_Fold (p0_h : Int) (p1_b : (List Int)) : Option Int := sums_Fold_L1 p1_b (gBits .and .u64 (IntKind.u64.wrap p0_h) 4611686018427387903) 0
theorem sums_Fold_ok (p0_h : Int) (p1_b : (List Int)) (r : Int) (h : sums_Fold p0_h p1_b = some r) : Runs Tryz.prog 67 [.d (eI p0_h), .d ((eL eU8) p1_b)] [] (.d (eI r)) [] := by
  refine Runs.of_fin Tryz.func67 rfl ?_
  unfold sums_Fold at h
  refine SP.rg <| .a 1 <| .nil ?_
  refine SP.rg <| .a 2 <| .p (ok_and (k := .u64) (u := (IntKind.u64.wrap p0_h)) (v := 4611686018427387903) rfl) <| .a 1 <| .nil ?_
  refine SP.seqc ?_
  refine SP.rg <| .a 1 <| .p (ok_lenT eU8 p1_b und78 rfl) <| .a 1 <| .nil ?_
  refine SP.block ?_
  refine SP.loop2 (sums_Fold_S1 p1_b) (sums_Fold_B1 p1_b) r (gBits .and .u64 (IntKind.u64.wrap p0_h) 4611686018427387903) 0 (sub_of (mk 26 14368) []) h ?_
  clear h
  intro J6 k3 hk3 v1 v2 h
  unfold sums_Fold_B1 at h
  refine SP.rg <| .a 1 <| .nil ?_
  refine SP.seqc ?_
  refine SP.cond (decide (v2 < (p1_b.length : Int))) (by kernel_rfl) (fun hb4 => ?_) (fun hb4 => ?_)
  · replace h := of_bif_true hb4 h
    refine SP.skip ?_
    refine SP.seqc ?_
    refine SP.block ?_
    obtain ⟨x5, hx5, h⟩ := of_bind h
    refine SP.rg <| .p (ok_idxT (k := .i64) eU8 hx5 und78 ty5 (by kernel_rfl) rfl) <| .a 2 <| .nil ?_
    refine SP.rgn <| .a 3 <| .p (ok_xor (k := .u64) (u := v1) (v := (IntKind.u64.wrap x5)) rfl) <| .a 1 <| .p (ok_and (k := .u64) (u := (IntKind.u64.wrap ((gBits .xor .u64 v1 (IntKind.u64.wrap x5)) * 1099511628211))) (v := 4611686018427387903) rfl) <| .a 1 <| .nil ?_
    refine SP.rgn <| .a 2 <| .nil ?_
    exact hk3 _ (gBits .and .u64 (IntKind.u64.wrap ((gBits .xor .u64 v1 (IntKind.u64.wrap x5)) * 1099511628211)) 4611686018427387903) (IntKind.i64.wrap (v2 + 1)) (sub_of (mk 26 14368) []) h
  · replace h := of_bif_false hb4 h
    refine SP.exit ?_
    refine SP.rg <| .a 3 <| .nil ?_
    refine SP.ret ?_
    rw [← Option.some.inj h]
    exact ⟨[.d (eI (IntKind.i64.wrap v1))], [], ⟨resV_tmp (by kernel_rfl), trivial⟩, by kernel_rfl, by kernel_rfl, by kernel_rfl⟩

-- fedchat/sums.Sum
def sums_Sum (p0_b : (List Int)) : Option Int := (sums_Start).bind fun x1 => (sums_Fold x1 p0_b).bind fun x2 => some x2
theorem sums_Sum_ok (p0_b : (List Int)) (r : Int) (h : sums_Sum p0_b = some r) : Runs Tryz.prog 40 [.d ((eL eU8) p0_b)] [] (.d (eI r)) [] := by
  refine Runs.of_fin Tryz.func40 rfl ?_
  unfold sums_Sum at h
  refine SP.rg <| .a 1 <| .nil ?_
  obtain ⟨x1, hx1, h⟩ := of_bind h
  obtain ⟨x2, hx2, h⟩ := of_bind h
  refine SP.rg <| .call (sums_Start_ok  x1 hx1) ent68 <| .a 1 <| .call (sums_Fold_ok x1 p0_b x2 hx2) ent67 <| .a 1 <| .nil ?_
  refine SP.ret ?_
  rw [← Option.some.inj h]
  exact ⟨[.d (eI x2)], [], ⟨resV_tmp (by kernel_rfl), trivial⟩, by kernel_rfl, by kernel_rfl, by kernel_rfl⟩

-- fedchat/event.Hash
def event_Hash (p0_e : ApiEvent) : Option Int := (content_Encode p0_e.Content).bind fun x1 => (sums_Sum x1).bind fun x2 => some x2
theorem event_Hash_ok (p0_e : ApiEvent) (r : Int) (h : event_Hash p0_e = some r) : Runs Tryz.prog 22 [.d (eApiEvent p0_e)] [] (.d (eI r)) [] := by
  refine Runs.of_fin Tryz.func22 rfl ?_
  unfold event_Hash at h
  refine SP.rg <| .a 2 <| .nil ?_
  obtain ⟨x1, hx1, h⟩ := of_bind h
  obtain ⟨x2, hx2, h⟩ := of_bind h
  refine SP.rg <| .a 2 <| .call (content_Encode_ok p0_e.Content x1 hx1) ent43 <| .call (sums_Sum_ok x1 x2 hx2) ent40 <| .a 1 <| .nil ?_
  refine SP.ret ?_
  rw [← Option.some.inj h]
  exact ⟨[.d (eI x2)], [], ⟨resV_tmp (by kernel_rfl), trivial⟩, by kernel_rfl, by kernel_rfl, by kernel_rfl⟩

-- fedchat/content.texts
def content_texts (p0_l : (List ByteArray)) : Option (List ByteArray) := (gApp 16 [] p0_l).bind fun x1 => some x1
theorem content_texts_ok (p0_l : (List ByteArray)) (r : (List ByteArray)) (h : content_texts p0_l = some r) : Runs Tryz.prog 99 [.d ((eL eS) p0_l)] [] (.osl 0) [.arr 9 1 (List.map eS r)] := by
  refine Runs.of_fin Tryz.func99 rfl ?_
  unfold content_texts at h
  refine SP.rg <| .e [.arr 9 1 (List.map eS [])] (ok_assign_own 9 1 rfl) <| .nil ?_
  obtain ⟨x1, hx1, h⟩ := of_bind h
  refine SP.rg <| .a 1 <| .e [.arr 9 1 (List.map eS []), .dead, .arr 9 1 (List.map eS x1)] (ok_nilop 9 1 (ok_appT (k := _) eS hx1 el24 (by kernel_rfl) (fun _ => rfl) (by decide) rfl)) <| .a 1 <| .nil ?_
  refine SP.ret ?_
  rw [← Option.some.inj h]
  exact ⟨[.osl 2], [(2, true)], ⟨resV_tmp (by kernel_rfl), trivial⟩, by kernel_rfl, by kernel_rfl, by kernel_rfl⟩

-- fedchat/content.copied
def content_copied (p0_l : ApiLevels) : Option ApiLevels := (gApp 24 [] p0_l.Users).bind fun x1 => (gApp 16 [] (({ p0_l with Users := x1 }).Kinds)).bind fun x2 => some ({ { p0_l with Users := x1 } with Kinds := x2 })
theorem content_copied_ok (p0_l : ApiLevels) (r : ApiLevels) (h : content_copied p0_l = some r) : Runs Tryz.prog 100 [.d (eApiLevels p0_l)] [] (.d (eApiLevels r)) [] := by
  refine Runs.of_fin Tryz.func100 rfl ?_
  unfold content_copied at h
  refine SP.rg <| .a 2 <| .nil ?_
  obtain ⟨x1, hx1, h⟩ := of_bind h
  refine SP.rg <| .a 2 <| .e [.box (dc (eApiLevels p0_l)), .box (dc (eApiLevels zApiLevels)), .dead, .arr 71 2 (List.map eApiLevel x1)] (ok_nilop 71 2 (ok_appT (k := _) eApiLevel hx1 el34 (by kernel_rfl) (fun _ => rfl) (by decide) rfl)) <| .conv _ (thaw_holds (e := 71) (s := 2) 3 (xs := List.map eApiLevel x1) (by kernel_rfl)) <| .a 2 <| .nil ?_
  obtain ⟨x2, hx2, h⟩ := of_bind h
  refine SP.rg <| .a 2 <| .e [.box (dc (eApiLevels ({ p0_l with Users := x1 }))), .box (dc (eApiLevels zApiLevels)), .dead, .dead, .dead, .arr 108 2 (List.map eApiKindLevel x2)] (ok_nilop 108 2 (ok_appT (k := _) eApiKindLevel hx2 el35 (by kernel_rfl) (fun _ => rfl) (by decide) rfl)) <| .conv _ (thaw_holds (e := 108) (s := 2) 5 (xs := List.map eApiKindLevel x2) (by kernel_rfl)) <| .a 2 <| .nil ?_
  refine SP.rg <| .a 2 <| .nil ?_
  refine SP.ret ?_
  rw [← Option.some.inj h]
  exact ⟨[.d (eApiLevels ({ { p0_l with Users := x1 } with Kinds := x2 }))], [], ⟨⟨1, dc (eApiLevels ({ { p0_l with Users := x1 } with Kinds := x2 })), true, 9, by kernel_rfl, by kernel_rfl, by kernel_rfl, ty37, Nat.le_of_ble_eq_true (by kernel_rfl), (by intro hh; cases hh), by kernel_rfl⟩, trivial⟩, by kernel_rfl, by kernel_rfl, by kernel_rfl⟩

-- fedchat/content.uses
def content_uses_S1 (p0_k : Int) (v4 : Bool) : St := ⟨shp 26 [(3, .d (eI p0_k)), (10, .d (eB v4))], [], 0⟩
def content_uses_S2 (v10 : Bool) : St := ⟨shp 26 [(22, .d (eB v10))], [], 0⟩
def content_uses_j2 (v10 : Bool) : Option Int := (bif v10 then some 5 else some 0)
def content_uses_j1 (p0_k : Int) (v4 : Bool) : Option Int := (bif v4 then some 2 else (bif (p0_k == 6) then some 96 else (bif (p0_k == 7) then some 1 else (bif (p0_k == 9) then some 3 else (bif (p0_k == 11) then some 13 else (bif (p0_k == 12) then content_uses_j2 (p0_k == 12) else (bif (p0_k == 13) then content_uses_j2 (p0_k == 13) else content_uses_j2 (p0_k == 14))))))))
def content_uses (p0_k : Int) : Option Int := (bif (p0_k == 2) then some 19 else (bif (p0_k == 3) then some 128 else (bif (p0_k == 4) then some 34 else (bif (p0_k == 5) then content_uses_j1 p0_k (p0_k == 5) else (bif (p0_k == 8) then content_uses_j1 p0_k (p0_k == 8) else content_uses_j1 p0_k (p0_k == 10))))))
theorem content_uses_ok (p0_k : Int) (r : Int) (h : content_uses p0_k = some r) : Runs Tryz.prog 124 [.d (eI p0_k)] [] (.d (eI r)) [] := by
  refine Runs.of_fin Tryz.func124 rfl ?_
  unfold content_uses at h
  refine SP.rg <| .a 1 <| .nil ?_
  refine SP.seqc ?_
  refine SP.rg <| .a 1 <| .nil ?_
  refine SP.block ?_
  refine SP.rg <| .a 2 <| .nil ?_
  refine SP.cond (p0_k == 2) (by kernel_rfl) (fun hb1 => ?_) (fun hb1 => ?_)
  · replace h := of_bif_true hb1 h
    refine SP.rg <| .a 1 <| .nil ?_
    refine SP.ret ?_
    rw [← Option.some.inj h]
    exact ⟨[.d (eI 19)], [], ⟨resV_tmp (by kernel_rfl), trivial⟩, by kernel_rfl, by kernel_rfl, by kernel_rfl⟩
  · replace h := of_bif_false hb1 h
    refine SP.rg <| .a 2 <| .nil ?_
    refine SP.cond (p0_k == 3) (by kernel_rfl) (fun hb2 => ?_) (fun hb2 => ?_)
    · replace h := of_bif_true hb2 h
      refine SP.rg <| .a 1 <| .nil ?_
      refine SP.ret ?_
      rw [← Option.some.inj h]
      exact ⟨[.d (eI 128)], [], ⟨resV_tmp (by kernel_rfl), trivial⟩, by kernel_rfl, by kernel_rfl, by kernel_rfl⟩
    · replace h := of_bif_false hb2 h
      refine SP.rg <| .a 2 <| .nil ?_
      refine SP.cond (p0_k == 4) (by kernel_rfl) (fun hb3 => ?_) (fun hb3 => ?_)
      · replace h := of_bif_true hb3 h
        refine SP.rg <| .a 1 <| .nil ?_
        refine SP.ret ?_
        rw [← Option.some.inj h]
        exact ⟨[.d (eI 34)], [], ⟨resV_tmp (by kernel_rfl), trivial⟩, by kernel_rfl, by kernel_rfl, by kernel_rfl⟩
      · replace h := of_bif_false hb3 h
        refine SP.join (fun s => ∃ (v4 : Bool), Sub s (content_uses_S1 p0_k v4) ∧ content_uses_j1 p0_k v4 = some r) ?_ ?_
        · clear h
          rintro s ⟨v4, hs, h⟩
          refine SP.sub hs ?_
          clear hs
          unfold content_uses_j1 at h
          refine SP.cond v4 (by kernel_rfl) (fun hb5 => ?_) (fun hb5 => ?_)
          · replace h := of_bif_true hb5 h
            refine SP.rg <| .a 1 <| .nil ?_
            refine SP.ret ?_
            rw [← Option.some.inj h]
            exact ⟨[.d (eI 2)], [], ⟨resV_tmp (by kernel_rfl), trivial⟩, by kernel_rfl, by kernel_rfl, by kernel_rfl⟩
          · replace h := of_bif_false hb5 h
            refine SP.rg <| .a 2 <| .nil ?_
            refine SP.cond (p0_k == 6) (by kernel_rfl) (fun hb6 => ?_) (fun hb6 => ?_)
            · replace h := of_bif_true hb6 h
              refine SP.rg <| .a 1 <| .nil ?_
              refine SP.ret ?_
              rw [← Option.some.inj h]
              exact ⟨[.d (eI 96)], [], ⟨resV_tmp (by kernel_rfl), trivial⟩, by kernel_rfl, by kernel_rfl, by kernel_rfl⟩
            · replace h := of_bif_false hb6 h
              refine SP.rg <| .a 2 <| .nil ?_
              refine SP.cond (p0_k == 7) (by kernel_rfl) (fun hb7 => ?_) (fun hb7 => ?_)
              · replace h := of_bif_true hb7 h
                refine SP.rg <| .a 1 <| .nil ?_
                refine SP.ret ?_
                rw [← Option.some.inj h]
                exact ⟨[.d (eI 1)], [], ⟨resV_tmp (by kernel_rfl), trivial⟩, by kernel_rfl, by kernel_rfl, by kernel_rfl⟩
              · replace h := of_bif_false hb7 h
                refine SP.rg <| .a 2 <| .nil ?_
                refine SP.cond (p0_k == 9) (by kernel_rfl) (fun hb8 => ?_) (fun hb8 => ?_)
                · replace h := of_bif_true hb8 h
                  refine SP.rg <| .a 1 <| .nil ?_
                  refine SP.ret ?_
                  rw [← Option.some.inj h]
                  exact ⟨[.d (eI 3)], [], ⟨resV_tmp (by kernel_rfl), trivial⟩, by kernel_rfl, by kernel_rfl, by kernel_rfl⟩
                · replace h := of_bif_false hb8 h
                  refine SP.rg <| .a 2 <| .nil ?_
                  refine SP.cond (p0_k == 11) (by kernel_rfl) (fun hb9 => ?_) (fun hb9 => ?_)
                  · replace h := of_bif_true hb9 h
                    refine SP.rg <| .a 1 <| .nil ?_
                    refine SP.ret ?_
                    rw [← Option.some.inj h]
                    exact ⟨[.d (eI 13)], [], ⟨resV_tmp (by kernel_rfl), trivial⟩, by kernel_rfl, by kernel_rfl, by kernel_rfl⟩
                  · replace h := of_bif_false hb9 h
                    refine SP.join (fun s => ∃ (v10 : Bool), Sub s (content_uses_S2 v10) ∧ content_uses_j2 v10 = some r) ?_ ?_
                    · clear h
                      rintro s ⟨v10, hs, h⟩
                      refine SP.sub hs ?_
                      clear hs
                      unfold content_uses_j2 at h
                      refine SP.cond v10 (by kernel_rfl) (fun hb11 => ?_) (fun hb11 => ?_)
                      · replace h := of_bif_true hb11 h
                        refine SP.rg <| .a 1 <| .nil ?_
                        refine SP.ret ?_
                        rw [← Option.some.inj h]
                        exact ⟨[.d (eI 5)], [], ⟨resV_tmp (by kernel_rfl), trivial⟩, by kernel_rfl, by kernel_rfl, by kernel_rfl⟩
                      · replace h := of_bif_false hb11 h
                        refine SP.skip ?_
                        refine SP.rg <| .a 1 <| .nil ?_
                        refine SP.ret ?_
                        rw [← Option.some.inj h]
                        exact ⟨[.d (eI 0)], [], ⟨resV_tmp (by kernel_rfl), trivial⟩, by kernel_rfl, by kernel_rfl, by kernel_rfl⟩
                    · intro K12
                      refine SP.rg <| .a 2 <| .nil ?_
                      refine SP.cond (p0_k == 12) (by kernel_rfl) (fun hb13 => ?_) (fun hb13 => ?_)
                      · replace h := of_bif_true hb13 h
                        refine SP.skip ?_
                        exact K12 _ ⟨(p0_k == 12), sub_of (mk 26 4194304) [], h⟩
                      · replace h := of_bif_false hb13 h
                        refine SP.rg <| .a 2 <| .nil ?_
                        refine SP.cond (p0_k == 13) (by kernel_rfl) (fun hb14 => ?_) (fun hb14 => ?_)
                        · replace h := of_bif_true hb14 h
                          refine SP.skip ?_
                          exact K12 _ ⟨(p0_k == 13), sub_of (mk 26 4194304) [], h⟩
                        · replace h := of_bif_false hb14 h
                          refine SP.rgn <| .a 2 <| .nil ?_
                          exact K12 _ ⟨(p0_k == 14), sub_of (mk 26 4194304) [], h⟩
        · intro K15
          refine SP.rg <| .a 2 <| .nil ?_
          refine SP.cond (p0_k == 5) (by kernel_rfl) (fun hb16 => ?_) (fun hb16 => ?_)
          · replace h := of_bif_true hb16 h
            refine SP.skip ?_
            exact K15 _ ⟨(p0_k == 5), sub_of (mk 26 1032) [], h⟩
          · replace h := of_bif_false hb16 h
            refine SP.rg <| .a 2 <| .nil ?_
            refine SP.cond (p0_k == 8) (by kernel_rfl) (fun hb17 => ?_) (fun hb17 => ?_)
            · replace h := of_bif_true hb17 h
              refine SP.skip ?_
              exact K15 _ ⟨(p0_k == 8), sub_of (mk 26 1032) [], h⟩
            · replace h := of_bif_false hb17 h
              refine SP.rgn <| .a 2 <| .nil ?_
              exact K15 _ ⟨(p0_k == 10), sub_of (mk 26 1032) [], h⟩

-- fedchat/content.keeps
def content_keeps_S1 (p0_k : Int) (v2 : Bool) : St := ⟨shp 15 [(0, .d (eI p0_k)), (3, .d (eI p0_k)), (6, .d (eB v2))], [], 0⟩
def content_keeps_j1 (p0_k : Int) (v2 : Bool) : Option Int := (bif v2 then (content_uses p0_k).bind fun x4 => some x4 else (bif (p0_k == 14) then some 4 else some 0))
def content_keeps (p0_k : Int) : Option Int := (bif (p0_k == 2) then some 18 else (bif (p0_k == 3) then content_keeps_j1 p0_k (p0_k == 3) else (bif (p0_k == 4) then content_keeps_j1 p0_k (p0_k == 4) else (bif (p0_k == 5) then content_keeps_j1 p0_k (p0_k == 5) else content_keeps_j1 p0_k (p0_k == 6)))))
theorem content_keeps_ok (p0_k : Int) (r : Int) (h : content_keeps p0_k = some r) : Runs Tryz.prog 101 [.d (eI p0_k)] [] (.d (eI r)) [] := by
  refine Runs.of_fin Tryz.func101 rfl ?_
  unfold content_keeps at h
  refine SP.rg <| .a 1 <| .nil ?_
  refine SP.seqc ?_
  refine SP.rg <| .a 1 <| .nil ?_
  refine SP.block ?_
  refine SP.rg <| .a 2 <| .nil ?_
  refine SP.cond (p0_k == 2) (by kernel_rfl) (fun hb1 => ?_) (fun hb1 => ?_)
  · replace h := of_bif_true hb1 h
    refine SP.rg <| .a 1 <| .nil ?_
    refine SP.ret ?_
    rw [← Option.some.inj h]
    exact ⟨[.d (eI 18)], [], ⟨resV_tmp (by kernel_rfl), trivial⟩, by kernel_rfl, by kernel_rfl, by kernel_rfl⟩
  · replace h := of_bif_false hb1 h
    refine SP.join (fun s => ∃ (v2 : Bool), Sub s (content_keeps_S1 p0_k v2) ∧ content_keeps_j1 p0_k v2 = some r) ?_ ?_
    · clear h
      rintro s ⟨v2, hs, h⟩
      refine SP.sub hs ?_
      clear hs
      unfold content_keeps_j1 at h
      refine SP.cond v2 (by kernel_rfl) (fun hb3 => ?_) (fun hb3 => ?_)
      · replace h := of_bif_true hb3 h
        obtain ⟨x4, hx4, h⟩ := of_bind h
        refine SP.rg <| .a 1 <| .call (content_uses_ok p0_k x4 hx4) ent124 <| .a 1 <| .nil ?_
        refine SP.ret ?_
        rw [← Option.some.inj h]
        exact ⟨[.d (eI x4)], [], ⟨resV_tmp (by kernel_rfl), trivial⟩, by kernel_rfl, by kernel_rfl, by kernel_rfl⟩
      · replace h := of_bif_false hb3 h
        refine SP.rg <| .a 2 <| .nil ?_
        refine SP.cond (p0_k == 14) (by kernel_rfl) (fun hb5 => ?_) (fun hb5 => ?_)
        · replace h := of_bif_true hb5 h
          refine SP.rg <| .a 1 <| .nil ?_
          refine SP.ret ?_
          rw [← Option.some.inj h]
          exact ⟨[.d (eI 4)], [], ⟨resV_tmp (by kernel_rfl), trivial⟩, by kernel_rfl, by kernel_rfl, by kernel_rfl⟩
        · replace h := of_bif_false hb5 h
          refine SP.skip ?_
          refine SP.rg <| .a 1 <| .nil ?_
          refine SP.ret ?_
          rw [← Option.some.inj h]
          exact ⟨[.d (eI 0)], [], ⟨resV_tmp (by kernel_rfl), trivial⟩, by kernel_rfl, by kernel_rfl, by kernel_rfl⟩
    · intro K6
      refine SP.rg <| .a 2 <| .nil ?_
      refine SP.cond (p0_k == 3) (by kernel_rfl) (fun hb7 => ?_) (fun hb7 => ?_)
      · replace h := of_bif_true hb7 h
        refine SP.skip ?_
        exact K6 _ ⟨(p0_k == 3), sub_of (mk 15 73) [], h⟩
      · replace h := of_bif_false hb7 h
        refine SP.rg <| .a 2 <| .nil ?_
        refine SP.cond (p0_k == 4) (by kernel_rfl) (fun hb8 => ?_) (fun hb8 => ?_)
        · replace h := of_bif_true hb8 h
          refine SP.skip ?_
          exact K6 _ ⟨(p0_k == 4), sub_of (mk 15 73) [], h⟩
        · replace h := of_bif_false hb8 h
          refine SP.rg <| .a 2 <| .nil ?_
          refine SP.cond (p0_k == 5) (by kernel_rfl) (fun hb9 => ?_) (fun hb9 => ?_)
          · replace h := of_bif_true hb9 h
            refine SP.skip ?_
            exact K6 _ ⟨(p0_k == 5), sub_of (mk 15 73) [], h⟩
          · replace h := of_bif_false hb9 h
            refine SP.rgn <| .a 2 <| .nil ?_
            exact K6 _ ⟨(p0_k == 6), sub_of (mk 15 73) [], h⟩

-- fedchat/content.Strip
def content_Strip_S1 (x5 : Int) (v6 : ApiContent) (v7 : ApiContent) (v8 : ApiContent) : St := ⟨shp 64 [(3, .ptr 0 0), (4, .ptr 1 0), (5, .ptr 2 0), (6, .d (eI x5))], [.box (dc (eApiContent v6)), .box (dc (eApiContent v7)), .box (dc (eApiContent v8))], 0⟩
def content_Strip_S2 (x5 : Int) (v9 : ApiContent) (v10 : ApiContent) (v11 : ApiContent) : St := ⟨shp 64 [(3, .ptr 0 0), (4, .ptr 1 0), (5, .ptr 2 0), (6, .d (eI x5))], [.box (dc (eApiContent v9)), .box (dc (eApiContent v10)), .box (dc (eApiContent v11))], 0⟩
def content_Strip_S3 (x5 : Int) (v12 : ApiContent) (v13 : ApiContent) (v14 : ApiContent) : St := ⟨shp 64 [(3, .ptr 0 0), (4, .ptr 1 0), (5, .ptr 2 0), (6, .d (eI x5))], [.box (dc (eApiContent v12)), .box (dc (eApiContent v13)), .box (dc (eApiContent v14))], 0⟩
def content_Strip_S4 (x5 : Int) (v15 : ApiContent) (v16 : ApiContent) (v17 : ApiContent) : St := ⟨shp 64 [(3, .ptr 0 0), (4, .ptr 1 0), (5, .ptr 2 0), (6, .d (eI x5))], [.box (dc (eApiContent v15)), .box (dc (eApiContent v16)), .box (dc (eApiContent v17))], 0⟩
def content_Strip_S5 (x5 : Int) (v18 : ApiContent) (v19 : ApiContent) (v20 : ApiContent) : St := ⟨shp 64 [(3, .ptr 0 0), (4, .ptr 1 0), (5, .ptr 2 0), (6, .d (eI x5))], [.box (dc (eApiContent v18)), .box (dc (eApiContent v19)), .box (dc (eApiContent v20))], 0⟩
def content_Strip_S6 (v21 : ApiContent) (v22 : ApiContent) : St := ⟨shp 64 [(4, .ptr 0 0), (5, .ptr 1 0)], [.box (dc (eApiContent v21)), .box (dc (eApiContent v22))], 0⟩
def content_Strip_j6 (v21 : ApiContent) (v22 : ApiContent) : Option ApiContent := some v22
def content_Strip_j5 (x5 : Int) (v18 : ApiContent) (v19 : ApiContent) (v20 : ApiContent) : Option ApiContent := (bif ((gBits .and .i64 x5 128) != 0) then (content_copied v18.Levels).bind fun x25 => content_Strip_j6 v19 ({ v20 with Levels := x25 }) else content_Strip_j6 v19 v20)
def content_Strip_j4 (x5 : Int) (v15 : ApiContent) (v16 : ApiContent) (v17 : ApiContent) : Option ApiContent := (bif ((gBits .and .i64 x5 64) != 0) then (content_texts v15.Deny).bind fun x28 => content_Strip_j5 x5 v15 v16 ({ v17 with Deny := x28 }) else content_Strip_j5 x5 v15 v16 v17)
def content_Strip_j3 (x5 : Int) (v12 : ApiContent) (v13 : ApiContent) (v14 : ApiContent) : Option ApiContent := (bif ((gBits .and .i64 x5 32) != 0) then (content_texts v12.Allow).bind fun x31 => content_Strip_j4 x5 v12 v13 ({ v14 with Allow := x31 }) else content_Strip_j4 x5 v12 v13 v14)
def content_Strip_j2 (x5 : Int) (v9 : ApiContent) (v10 : ApiContent) (v11 : ApiContent) : Option ApiContent := (bif ((gBits .and .i64 x5 16) != 0) then content_Strip_j3 x5 v9 v10 ({ v11 with Via := v9.Via }) else content_Strip_j3 x5 v9 v10 v11)
def content_Strip_j1 (x5 : Int) (v6 : ApiContent) (v7 : ApiContent) (v8 : ApiContent) : Option ApiContent := (bif ((gBits .and .i64 x5 4) != 0) then content_Strip_j2 x5 v6 v7 ({ v8 with Target := v6.Target }) else content_Strip_j2 x5 v6 v7 v8)
def content_Strip (p0_k : Int) (p1_c : ApiContent) : Option ApiContent := (bif (p0_k == 1) then (content_texts p1_c.Allow).bind fun x2 => (content_texts p1_c.Deny).bind fun x3 => (content_copied p1_c.Levels).bind fun x4 => some ({ { { p1_c with Allow := x2 } with Deny := x3 } with Levels := x4 }) else (content_keeps p0_k).bind fun x5 => (bif ((gBits .and .i64 x5 2) != 0) then content_Strip_j1 x5 p1_c zApiContent ({ zApiContent with N := p1_c.N }) else content_Strip_j1 x5 p1_c zApiContent zApiContent))
theorem content_Strip_ok (p0_k : Int) (p1_c : ApiContent) (r : ApiContent) (h : content_Strip p0_k p1_c = some r) : Runs Tryz.prog 58 [.d (eI p0_k), .d (eApiContent p1_c)] [] (.d (eApiContent r)) [] := by
  refine Runs.of_fin Tryz.func58 rfl ?_
  unfold content_Strip at h
  refine SP.rg <| .a 2 <| .nil ?_
  refine SP.seqc ?_
  refine SP.rg <| .a 2 <| .nil ?_
  refine SP.cond (p0_k == 1) (by kernel_rfl) (fun hb1 => ?_) (fun hb1 => ?_)
  · replace h := of_bif_true hb1 h
    obtain ⟨x2, hx2, h⟩ := of_bind h
    obtain ⟨x3, hx3, h⟩ := of_bind h
    obtain ⟨x4, hx4, h⟩ := of_bind h
    refine SP.dseq (by kernel_rfl) (by kernel_rfl) (by kernel_rfl) (.a 2 <| .call (content_texts_ok p1_c.Allow x2 hx2).view ent99 <| .a 2 <| .call (content_texts_ok p1_c.Deny x3 hx3).view ent99 <| .a 2 <| .call (content_copied_ok p1_c.Levels x4 hx4) ent100 <| .a 6 <| .nil _) ?_
    refine SP.rg <| .a 2 <| .nil ?_
    refine SP.ret ?_
    rw [← Option.some.inj h]
    exact ⟨[.d (eApiContent ({ { { p1_c with Allow := x2 } with Deny := x3 } with Levels := x4 }))], [], ⟨⟨1, dc (eApiContent ({ { { p1_c with Allow := x2 } with Deny := x3 } with Levels := x4 })), true, 16, by kernel_rfl, by kernel_rfl, by kernel_rfl, ty39, Nat.le_of_ble_eq_true (by kernel_rfl), (by intro hh; cases hh), by kernel_rfl⟩, trivial⟩, by kernel_rfl, by kernel_rfl, by kernel_rfl⟩
  · replace h := of_bif_false hb1 h
    refine SP.skip ?_
    refine SP.rg <| .a 1 <| .nil ?_
    obtain ⟨x5, hx5, h⟩ := of_bind h
    refine SP.rg <| .a 1 <| .call (content_keeps_ok p0_k x5 hx5) ent101 <| .a 1 <| .nil ?_
    refine SP.join (fun s => ∃ (v6 : ApiContent) (v7 : ApiContent) (v8 : ApiContent), Sub s (content_Strip_S1 x5 v6 v7 v8) ∧ content_Strip_j1 x5 v6 v7 v8 = some r) ?_ ?_
    · clear h
      rintro s ⟨v6, v7, v8, hs, h⟩
      refine SP.sub hs ?_
      clear hs
      unfold content_Strip_j1 at h
      refine SP.join (fun s => ∃ (v9 : ApiContent) (v10 : ApiContent) (v11 : ApiContent), Sub s (content_Strip_S2 x5 v9 v10 v11) ∧ content_Strip_j2 x5 v9 v10 v11 = some r) ?_ ?_
      · clear h
        rintro s ⟨v9, v10, v11, hs, h⟩
        refine SP.sub hs ?_
        clear hs
        unfold content_Strip_j2 at h
        refine SP.join (fun s => ∃ (v12 : ApiContent) (v13 : ApiContent) (v14 : ApiContent), Sub s (content_Strip_S3 x5 v12 v13 v14) ∧ content_Strip_j3 x5 v12 v13 v14 = some r) ?_ ?_
        · clear h
          rintro s ⟨v12, v13, v14, hs, h⟩
          refine SP.sub hs ?_
          clear hs
          unfold content_Strip_j3 at h
          refine SP.join (fun s => ∃ (v15 : ApiContent) (v16 : ApiContent) (v17 : ApiContent), Sub s (content_Strip_S4 x5 v15 v16 v17) ∧ content_Strip_j4 x5 v15 v16 v17 = some r) ?_ ?_
          · clear h
            rintro s ⟨v15, v16, v17, hs, h⟩
            refine SP.sub hs ?_
            clear hs
            unfold content_Strip_j4 at h
            refine SP.join (fun s => ∃ (v18 : ApiContent) (v19 : ApiContent) (v20 : ApiContent), Sub s (content_Strip_S5 x5 v18 v19 v20) ∧ content_Strip_j5 x5 v18 v19 v20 = some r) ?_ ?_
            · clear h
              rintro s ⟨v18, v19, v20, hs, h⟩
              refine SP.sub hs ?_
              clear hs
              unfold content_Strip_j5 at h
              refine SP.join (fun s => ∃ (v21 : ApiContent) (v22 : ApiContent), Sub s (content_Strip_S6 v21 v22) ∧ content_Strip_j6 v21 v22 = some r) ?_ ?_
              · clear h
                rintro s ⟨v21, v22, hs, h⟩
                refine SP.sub hs ?_
                clear hs
                unfold content_Strip_j6 at h
                refine SP.rg <| .a 2 <| .nil ?_
                refine SP.ret ?_
                rw [← Option.some.inj h]
                exact ⟨[.d (eApiContent v22)], [], ⟨⟨0, dc (eApiContent v22), true, 16, by kernel_rfl, by kernel_rfl, by kernel_rfl, ty39, Nat.le_of_ble_eq_true (by kernel_rfl), (by intro hh; cases hh), by kernel_rfl⟩, trivial⟩, by kernel_rfl, by kernel_rfl, by kernel_rfl⟩
              · intro K23
                refine SP.rg <| .a 1 <| .p (ok_and (k := .i64) (u := x5) (v := 128) rfl) <| .a 1 <| .nil ?_
                refine SP.cond ((gBits .and .i64 x5 128) != 0) (by kernel_rfl) (fun hb24 => ?_) (fun hb24 => ?_)
                · replace h := of_bif_true hb24 h
                  obtain ⟨x25, hx25, h⟩ := of_bind h
                  refine SP.rgn <| .a 2 <| .call (content_copied_ok v18.Levels x25 hx25) ent100 <| .a 2 <| .nil ?_
                  exact K23 _ ⟨v19, ({ v20 with Levels := x25 }), sub_of (mk 64 48) [(1, true), (2, true)], h⟩
                · replace h := of_bif_false hb24 h
                  refine SP.skip ?_
                  exact K23 _ ⟨v19, v20, sub_of (mk 64 48) [(1, true), (2, true)], h⟩
            · intro K26
              refine SP.rg <| .a 1 <| .p (ok_and (k := .i64) (u := x5) (v := 64) rfl) <| .a 1 <| .nil ?_
              refine SP.cond ((gBits .and .i64 x5 64) != 0) (by kernel_rfl) (fun hb27 => ?_) (fun hb27 => ?_)
              · replace h := of_bif_true hb27 h
                obtain ⟨x28, hx28, h⟩ := of_bind h
                refine SP.rgn <| .a 2 <| .call (content_texts_ok v15.Deny x28 hx28).view ent99 <| .a 2 <| .nil ?_
                exact K26 _ ⟨v15, v16, ({ v17 with Deny := x28 }), sub_of (mk 64 120) [(0, true), (1, true), (2, true)], h⟩
              · replace h := of_bif_false hb27 h
                refine SP.skip ?_
                exact K26 _ ⟨v15, v16, v17, sub_of (mk 64 120) [(0, true), (1, true), (2, true)], h⟩
          · intro K29
            refine SP.rg <| .a 1 <| .p (ok_and (k := .i64) (u := x5) (v := 32) rfl) <| .a 1 <| .nil ?_
            refine SP.cond ((gBits .and .i64 x5 32) != 0) (by kernel_rfl) (fun hb30 => ?_) (fun hb30 => ?_)
            · replace h := of_bif_true hb30 h
              obtain ⟨x31, hx31, h⟩ := of_bind h
              refine SP.rgn <| .a 2 <| .call (content_texts_ok v12.Allow x31 hx31).view ent99 <| .a 2 <| .nil ?_
              exact K29 _ ⟨v12, v13, ({ v14 with Allow := x31 }), sub_of (mk 64 120) [(0, true), (1, true), (2, true)], h⟩
            · replace h := of_bif_false hb30 h
              refine SP.skip ?_
              exact K29 _ ⟨v12, v13, v14, sub_of (mk 64 120) [(0, true), (1, true), (2, true)], h⟩
        · intro K32
          refine SP.rg <| .a 1 <| .p (ok_and (k := .i64) (u := x5) (v := 16) rfl) <| .a 1 <| .nil ?_
          refine SP.cond ((gBits .and .i64 x5 16) != 0) (by kernel_rfl) (fun hb33 => ?_) (fun hb33 => ?_)
          · replace h := of_bif_true hb33 h
            refine SP.rgn <| .a 4 <| .nil ?_
            exact K32 _ ⟨v9, v10, ({ v11 with Via := v9.Via }), sub_of (mk 64 120) [(0, true), (1, true), (2, true)], h⟩
          · replace h := of_bif_false hb33 h
            refine SP.skip ?_
            exact K32 _ ⟨v9, v10, v11, sub_of (mk 64 120) [(0, true), (1, true), (2, true)], h⟩
      · intro K34
        refine SP.rg <| .a 1 <| .p (ok_and (k := .i64) (u := x5) (v := 4) rfl) <| .a 1 <| .nil ?_
        refine SP.cond ((gBits .and .i64 x5 4) != 0) (by kernel_rfl) (fun hb35 => ?_) (fun hb35 => ?_)
        · replace h := of_bif_true hb35 h
          refine SP.rgn <| .a 4 <| .nil ?_
          exact K34 _ ⟨v6, v7, ({ v8 with Target := v6.Target }), sub_of (mk 64 120) [(0, true), (1, true), (2, true)], h⟩
        · replace h := of_bif_false hb35 h
          refine SP.skip ?_
          exact K34 _ ⟨v6, v7, v8, sub_of (mk 64 120) [(0, true), (1, true), (2, true)], h⟩
    · intro K36
      refine SP.rg <| .a 1 <| .p (ok_and (k := .i64) (u := x5) (v := 2) rfl) <| .a 1 <| .nil ?_
      refine SP.cond ((gBits .and .i64 x5 2) != 0) (by kernel_rfl) (fun hb37 => ?_) (fun hb37 => ?_)
      · replace h := of_bif_true hb37 h
        refine SP.rgn <| .a 4 <| .nil ?_
        exact K36 _ ⟨p1_c, zApiContent, ({ zApiContent with N := p1_c.N }), sub_of (mk 64 120) [(0, true), (1, true), (2, true)], h⟩
      · replace h := of_bif_false hb37 h
        refine SP.skip ?_
        exact K36 _ ⟨p1_c, zApiContent, zApiContent, sub_of (mk 64 120) [(0, true), (1, true), (2, true)], h⟩

-- fedchat/event.Strip
def event_Strip (p0_e : ApiEvent) : Option ApiEvent := (content_Strip p0_e.Kind p0_e.Content).bind fun x1 => some ({ p0_e with Content := x1 })
theorem event_Strip_ok (p0_e : ApiEvent) (r : ApiEvent) (h : event_Strip p0_e = some r) : Runs Tryz.prog 39 [.d (eApiEvent p0_e)] [] (.d (eApiEvent r)) [] := by
  refine Runs.of_fin Tryz.func39 rfl ?_
  unfold event_Strip at h
  refine SP.rg <| .a 2 <| .nil ?_
  obtain ⟨x1, hx1, h⟩ := of_bind h
  refine SP.rg <| .a 4 <| .call (content_Strip_ok p0_e.Kind p0_e.Content x1 hx1) ent58 <| .a 2 <| .nil ?_
  refine SP.rg <| .a 2 <| .nil ?_
  refine SP.ret ?_
  rw [← Option.some.inj h]
  exact ⟨[.d (eApiEvent ({ p0_e with Content := x1 }))], [], ⟨⟨1, dc (eApiEvent ({ p0_e with Content := x1 })), true, 29, by kernel_rfl, by kernel_rfl, by kernel_rfl, ty43, Nat.le_of_ble_eq_true (by kernel_rfl), (by intro hh; cases hh), by kernel_rfl⟩, trivial⟩, by kernel_rfl, by kernel_rfl, by kernel_rfl⟩

-- (*fedchat/event.writer).number
def event_writer_number (p0_w : EventWriter) (p1_n : Int) : Option EventWriter := (codec_PutInt p0_w.b_ p1_n).bind fun x1 => some ({ p0_w with b_ := x1 })
theorem event_writer_number_ok (p0_w : EventWriter) (p1_n : Int) (r : EventWriter) (h : event_writer_number p0_w p1_n = some r) : Runs Tryz.prog 70 [.ptr 0 0, .d (eI p1_n)] [.box (dc (eEventWriter p0_w))] (.tup []) [.box (dc (eEventWriter r))] := by
  refine Runs.of_fin Tryz.func70 rfl ?_
  unfold event_writer_number at h
  obtain ⟨x1, hx1, h⟩ := of_bind h
  refine SP.rgn <| .a 6 <| .call (codec_PutInt_ok p0_w.b_ p1_n x1 hx1).view ent79 <| .a 3 <| .nil ?_
  rw [← Option.some.inj h]
  exact ⟨[], [(0, true)], trivial, by kernel_rfl, by kernel_rfl, by kernel_rfl⟩

-- fedchat/event.all[int]
def event_all_int_event_writer_number_S1 (p1_l : (List Int)) (v1 : Int) (v2 : EventWriter) : St := ⟨shp 16 [(0, .fn (.func 70) [.ptr 0 0] []), (6, .d ((eL eI) p1_l)), (7, .d (eI (p1_l.length : Int))), (8, .d (eI v1))], [.box (dc (eEventWriter v2))], 1⟩
def event_all_int_event_writer_number_B1 (p1_l : (List Int)) (k3 : (Int → EventWriter → Option EventWriter)) : Int → EventWriter → Option EventWriter := fun v1 v2 => (bif decide (v1 < (p1_l.length : Int)) then (gIdx p1_l v1).bind fun x5 => (event_writer_number v2 x5).bind fun x6 => k3 (IntKind.i64.wrap (v1 + 1)) x6 else some v2)
def event_all_int_event_writer_number_L1 (p1_l : (List Int)) : Int → EventWriter → Option EventWriter := loop2 (event_all_int_event_writer_number_B1 p1_l) fuel
def event_all_int_event_writer_number (p0_write_b0 : EventWriter) (p1_l : (List Int)) : Option EventWriter := event_all_int_event_writer_number_L1 p1_l 0 p0_write_b0
theorem event_all_int_event_writer_number_ok (p0_write_b0 : EventWriter) (p1_l : (List Int)) (r : EventWriter) (h : event_all_int_event_writer_number p0_write_b0 p1_l = some r) : Runs Tryz.prog 69 [.fn (.func 70) [.ptr 0 0] [], .d ((eL eI) p1_l)] [.box (dc (eEventWriter p0_write_b0))] (.tup []) [.box (dc (eEventWriter r))] := by
  refine Runs.of_fin Tryz.func69 rfl ?_
  unfold event_all_int_event_writer_number at h
  refine SP.rg <| .a 1 <| .p (ok_lenT eI p1_l und33 rfl) <| .a 1 <| .nil ?_
  refine SP.block ?_
  refine SP.loop2 (event_all_int_event_writer_number_S1 p1_l) (event_all_int_event_writer_number_B1 p1_l) r 0 p0_write_b0 (sub_of (mk 16 449) [(0, true)]) h ?_
  clear h
  intro J7 k3 hk3 v1 v2 h
  unfold event_all_int_event_writer_number_B1 at h
  refine SP.rg <| .a 1 <| .nil ?_
  refine SP.seqc ?_
  refine SP.cond (decide (v1 < (p1_l.length : Int))) (by kernel_rfl) (fun hb4 => ?_) (fun hb4 => ?_)
  · replace h := of_bif_true hb4 h
    refine SP.skip ?_
    refine SP.seqc ?_
    refine SP.block ?_
    obtain ⟨x5, hx5, h⟩ := of_bind h
    refine SP.rg <| .p (ok_idxT (k := .i64) eI hx5 und33 ty3 (by kernel_rfl) rfl) <| .a 2 <| .nil ?_
    obtain ⟨x6, hx6, h⟩ := of_bind h
    refine SP.rgn <| .a 2 <| .e (x := .tup []) [.box (dc (eEventWriter x6))] (ok_callGX [.ent 0] [.ptr 0 0] [] (avs := [.d (eI x5)]) (avs' := [.ptr 0 0, .d (eI x5)]) (res' := .tup []) (event_writer_number_ok v2 x5 x6 hx6) ent70 (by kernel_rfl) (downs_ent (by kernel_rfl) <| trivial) ⟨⟨0, rfl, rfl⟩, .inl rfl, trivial⟩ rfl (by kernel_rfl) rfl) <| .nil ?_
    refine SP.rgn <| .a 2 <| .nil ?_
    exact hk3 _ (IntKind.i64.wrap (v1 + 1)) x6 (sub_of (mk 16 449) [(0, true)]) h
  · replace h := of_bif_false hb4 h
    refine SP.exit ?_
    rw [← Option.some.inj h]
    exact ⟨[], [(0, true)], trivial, by kernel_rfl, by kernel_rfl, by kernel_rfl⟩

-- (*fedchat/event.writer).text
def event_writer_text (p0_w : EventWriter) (p1_s : ByteArray) : Option EventWriter := (codec_PutText p0_w.b_ p1_s).bind fun x1 => some ({ p0_w with b_ := x1 })
theorem event_writer_text_ok (p0_w : EventWriter) (p1_s : ByteArray) (r : EventWriter) (h : event_writer_text p0_w p1_s = some r) : Runs Tryz.prog 72 [.ptr 0 0, .d (eS p1_s)] [.box (dc (eEventWriter p0_w))] (.tup []) [.box (dc (eEventWriter r))] := by
  refine Runs.of_fin Tryz.func72 rfl ?_
  unfold event_writer_text at h
  obtain ⟨x1, hx1, h⟩ := of_bind h
  refine SP.rgn <| .a 6 <| .call (codec_PutText_ok p0_w.b_ p1_s x1 hx1).view ent78 <| .a 3 <| .nil ?_
  rw [← Option.some.inj h]
  exact ⟨[], [(0, true)], trivial, by kernel_rfl, by kernel_rfl, by kernel_rfl⟩

-- fedchat/event.all[string]
def event_all_string_event_writer_text_S1 (p1_l : (List ByteArray)) (v1 : Int) (v2 : EventWriter) : St := ⟨shp 16 [(0, .fn (.func 72) [.ptr 0 0] []), (6, .d ((eL eS) p1_l)), (7, .d (eI (p1_l.length : Int))), (8, .d (eI v1))], [.box (dc (eEventWriter v2))], 1⟩
def event_all_string_event_writer_text_B1 (p1_l : (List ByteArray)) (k3 : (Int → EventWriter → Option EventWriter)) : Int → EventWriter → Option EventWriter := fun v1 v2 => (bif decide (v1 < (p1_l.length : Int)) then (gIdx p1_l v1).bind fun x5 => (event_writer_text v2 x5).bind fun x6 => k3 (IntKind.i64.wrap (v1 + 1)) x6 else some v2)
def event_all_string_event_writer_text_L1 (p1_l : (List ByteArray)) : Int → EventWriter → Option EventWriter := loop2 (event_all_string_event_writer_text_B1 p1_l) fuel
def event_all_string_event_writer_text (p0_write_b0 : EventWriter) (p1_l : (List ByteArray)) : Option EventWriter := event_all_string_event_writer_text_L1 p1_l 0 p0_write_b0
theorem event_all_string_event_writer_text_ok (p0_write_b0 : EventWriter) (p1_l : (List ByteArray)) (r : EventWriter) (h : event_all_string_event_writer_text p0_write_b0 p1_l = some r) : Runs Tryz.prog 71 [.fn (.func 72) [.ptr 0 0] [], .d ((eL eS) p1_l)] [.box (dc (eEventWriter p0_write_b0))] (.tup []) [.box (dc (eEventWriter r))] := by
  refine Runs.of_fin Tryz.func71 rfl ?_
  unfold event_all_string_event_writer_text at h
  refine SP.rg <| .a 1 <| .p (ok_lenT eS p1_l und24 rfl) <| .a 1 <| .nil ?_
  refine SP.block ?_
  refine SP.loop2 (event_all_string_event_writer_text_S1 p1_l) (event_all_string_event_writer_text_B1 p1_l) r 0 p0_write_b0 (sub_of (mk 16 449) [(0, true)]) h ?_
  clear h
  intro J7 k3 hk3 v1 v2 h
  unfold event_all_string_event_writer_text_B1 at h
  refine SP.rg <| .a 1 <| .nil ?_
  refine SP.seqc ?_
  refine SP.cond (decide (v1 < (p1_l.length : Int))) (by kernel_rfl) (fun hb4 => ?_) (fun hb4 => ?_)
  · replace h := of_bif_true hb4 h
    refine SP.skip ?_
    refine SP.seqc ?_
    refine SP.block ?_
    obtain ⟨x5, hx5, h⟩ := of_bind h
    refine SP.rg <| .p (ok_idxT (k := .i64) eS hx5 und24 ty9 (by kernel_rfl) rfl) <| .a 2 <| .nil ?_
    obtain ⟨x6, hx6, h⟩ := of_bind h
    refine SP.rgn <| .a 2 <| .e (x := .tup []) [.box (dc (eEventWriter x6))] (ok_callGX [.ent 0] [.ptr 0 0] [] (avs := [.d (eS x5)]) (avs' := [.ptr 0 0, .d (eS x5)]) (res' := .tup []) (event_writer_text_ok v2 x5 x6 hx6) ent72 (by kernel_rfl) (downs_ent (by kernel_rfl) <| trivial) ⟨⟨0, rfl, rfl⟩, .inl rfl, trivial⟩ rfl (by kernel_rfl) rfl) <| .nil ?_
    refine SP.rgn <| .a 2 <| .nil ?_
    exact hk3 _ (IntKind.i64.wrap (v1 + 1)) x6 (sub_of (mk 16 449) [(0, true)]) h
  · replace h := of_bif_false hb4 h
    refine SP.exit ?_
    rw [← Option.some.inj h]
    exact ⟨[], [(0, true)], trivial, by kernel_rfl, by kernel_rfl, by kernel_rfl⟩

-- (*fedchat/event.writer).flag
def event_writer_flag (p0_w : EventWriter) (p1_is : Bool) : Option EventWriter := (codec_PutBool p0_w.b_ p1_is).bind fun x1 => some ({ p0_w with b_ := x1 })
theorem event_writer_flag_ok (p0_w : EventWriter) (p1_is : Bool) (r : EventWriter) (h : event_writer_flag p0_w p1_is = some r) : Runs Tryz.prog 74 [.ptr 0 0, .d (eB p1_is)] [.box (dc (eEventWriter p0_w))] (.tup []) [.box (dc (eEventWriter r))] := by
  refine Runs.of_fin Tryz.func74 rfl ?_
  unfold event_writer_flag at h
  obtain ⟨x1, hx1, h⟩ := of_bind h
  refine SP.rgn <| .a 6 <| .call (codec_PutBool_ok p0_w.b_ p1_is x1 hx1).view ent80 <| .a 3 <| .nil ?_
  rw [← Option.some.inj h]
  exact ⟨[], [(0, true)], trivial, by kernel_rfl, by kernel_rfl, by kernel_rfl⟩

-- fedchat/event.all[bool]
def event_all_bool_event_writer_flag_S1 (p1_l : (List Bool)) (v1 : Int) (v2 : EventWriter) : St := ⟨shp 16 [(0, .fn (.func 74) [.ptr 0 0] []), (6, .d ((eL eB) p1_l)), (7, .d (eI (p1_l.length : Int))), (8, .d (eI v1))], [.box (dc (eEventWriter v2))], 1⟩
def event_all_bool_event_writer_flag_B1 (p1_l : (List Bool)) (k3 : (Int → EventWriter → Option EventWriter)) : Int → EventWriter → Option EventWriter := fun v1 v2 => (bif decide (v1 < (p1_l.length : Int)) then (gIdx p1_l v1).bind fun x5 => (event_writer_flag v2 x5).bind fun x6 => k3 (IntKind.i64.wrap (v1 + 1)) x6 else some v2)
def event_all_bool_event_writer_flag_L1 (p1_l : (List Bool)) : Int → EventWriter → Option EventWriter := loop2 (event_all_bool_event_writer_flag_B1 p1_l) fuel
def event_all_bool_event_writer_flag (p0_write_b0 : EventWriter) (p1_l : (List Bool)) : Option EventWriter := event_all_bool_event_writer_flag_L1 p1_l 0 p0_write_b0
theorem event_all_bool_event_writer_flag_ok (p0_write_b0 : EventWriter) (p1_l : (List Bool)) (r : EventWriter) (h : event_all_bool_event_writer_flag p0_write_b0 p1_l = some r) : Runs Tryz.prog 73 [.fn (.func 74) [.ptr 0 0] [], .d ((eL eB) p1_l)] [.box (dc (eEventWriter p0_write_b0))] (.tup []) [.box (dc (eEventWriter r))] := by
  refine Runs.of_fin Tryz.func73 rfl ?_
  unfold event_all_bool_event_writer_flag at h
  refine SP.rg <| .a 1 <| .p (ok_lenT eB p1_l und125 rfl) <| .a 1 <| .nil ?_
  refine SP.block ?_
  refine SP.loop2 (event_all_bool_event_writer_flag_S1 p1_l) (event_all_bool_event_writer_flag_B1 p1_l) r 0 p0_write_b0 (sub_of (mk 16 449) [(0, true)]) h ?_
  clear h
  intro J7 k3 hk3 v1 v2 h
  unfold event_all_bool_event_writer_flag_B1 at h
  refine SP.rg <| .a 1 <| .nil ?_
  refine SP.seqc ?_
  refine SP.cond (decide (v1 < (p1_l.length : Int))) (by kernel_rfl) (fun hb4 => ?_) (fun hb4 => ?_)
  · replace h := of_bif_true hb4 h
    refine SP.skip ?_
    refine SP.seqc ?_
    refine SP.block ?_
    obtain ⟨x5, hx5, h⟩ := of_bind h
    refine SP.rg <| .p (ok_idxT (k := .i64) eB hx5 und125 ty4 (by kernel_rfl) rfl) <| .a 2 <| .nil ?_
    obtain ⟨x6, hx6, h⟩ := of_bind h
    refine SP.rgn <| .a 2 <| .e (x := .tup []) [.box (dc (eEventWriter x6))] (ok_callGX [.ent 0] [.ptr 0 0] [] (avs := [.d (eB x5)]) (avs' := [.ptr 0 0, .d (eB x5)]) (res' := .tup []) (event_writer_flag_ok v2 x5 x6 hx6) ent74 (by kernel_rfl) (downs_ent (by kernel_rfl) <| trivial) ⟨⟨0, rfl, rfl⟩, .inl rfl, trivial⟩ rfl (by kernel_rfl) rfl) <| .nil ?_
    refine SP.rgn <| .a 2 <| .nil ?_
    exact hk3 _ (IntKind.i64.wrap (v1 + 1)) x6 (sub_of (mk 16 449) [(0, true)]) h
  · replace h := of_bif_false hb4 h
    refine SP.exit ?_
    rw [← Option.some.inj h]
    exact ⟨[], [(0, true)], trivial, by kernel_rfl, by kernel_rfl, by kernel_rfl⟩

-- fedchat/codec.list[int]
def codec_list_int_codec_number_S1 (p1_l : (List Int)) (v2 : (List Int)) (v3 : Int) : St := ⟨shp 25 [(0, .osl 1), (2, .d (.fn (.func 116) [] [])), (13, .d ((eL eI) p1_l)), (14, .d (eI (p1_l.length : Int))), (15, .d (eI v3))], [.dead, .arr 5 1 (List.map eU8 v2)], 1⟩
def codec_list_int_codec_number_B1 (p1_l : (List Int)) (k4 : ((List Int) → Int → Option (List Int))) : (List Int) → Int → Option (List Int) := fun v2 v3 => (bif decide (v3 < (p1_l.length : Int)) then (gIdx p1_l v3).bind fun x6 => (codec_number v2 x6).bind fun x7 => k4 x7 (IntKind.i64.wrap (v3 + 1)) else some v2)
def codec_list_int_codec_number_L1 (p1_l : (List Int)) : (List Int) → Int → Option (List Int) := loop2 (codec_list_int_codec_number_B1 p1_l) fuel
def codec_list_int_codec_number (p0_b : (List Int)) (p1_l : (List Int)) : Option (List Int) := (codec_number p0_b (p1_l.length : Int)).bind fun x1 => codec_list_int_codec_number_L1 p1_l x1 0
theorem codec_list_int_codec_number_ok (p0_b : (List Int)) (p1_l : (List Int)) (r : (List Int)) (h : codec_list_int_codec_number p0_b p1_l = some r) : Runs Tryz.prog 152 [.osl 0, .d ((eL eI) p1_l), .d (.fn (.func 116) [] [])] [.arr 5 1 (List.map eU8 p0_b)] (.osl 1) [.dead, .arr 5 1 (List.map eU8 r)] := by
  refine Runs.of_fin Tryz.func152 rfl ?_
  unfold codec_list_int_codec_number at h
  refine SP.rg <| .e [.arr 5 1 (List.map eU8 p0_b), .arr 5 1 (List.map eU8 [])] (ok_assign_own 5 1 rfl) <| .nil ?_
  obtain ⟨x1, hx1, h⟩ := of_bind h
  refine SP.rg <| .a 2 <| .p (ok_lenT eI p1_l und33 rfl) <| .e (x := .osl 2) [.dead, .arr 5 1 (List.map eU8 []), .arr 5 1 (List.map eU8 x1)] (ok_callG [.ent 0] (avs := [.osl 0, .d (eI (p1_l.length : Int))]) (avs' := [.osl 0, .d (eI (p1_l.length : Int))]) (res' := .osl 2) (codec_number_ok p0_b (p1_l.length : Int) x1 hx1) ent116 (by kernel_rfl) (downs_ent (by kernel_rfl) <| trivial) ⟨⟨0, rfl, rfl⟩, .inl rfl, trivial⟩ rfl (by kernel_rfl) rfl) <| .a 1 <| .nil ?_
  refine SP.seqc ?_
  refine SP.rg <| .a 1 <| .p (ok_lenT eI p1_l und33 rfl) <| .a 1 <| .nil ?_
  refine SP.block ?_
  refine SP.loop2 (codec_list_int_codec_number_S1 p1_l) (codec_list_int_codec_number_B1 p1_l) r x1 0 (sub_of (mk 25 57349) [(0, false), (2, true)]) h ?_
  clear h
  intro J8 k4 hk4 v2 v3 h
  unfold codec_list_int_codec_number_B1 at h
  refine SP.rg <| .a 1 <| .nil ?_
  refine SP.seqc ?_
  refine SP.cond (decide (v3 < (p1_l.length : Int))) (by kernel_rfl) (fun hb5 => ?_) (fun hb5 => ?_)
  · replace h := of_bif_true hb5 h
    refine SP.skip ?_
    refine SP.seqc ?_
    refine SP.block ?_
    obtain ⟨x6, hx6, h⟩ := of_bind h
    refine SP.rg <| .p (ok_idxT (k := .i64) eI hx6 und33 ty3 (by kernel_rfl) rfl) <| .a 2 <| .nil ?_
    obtain ⟨x7, hx7, h⟩ := of_bind h
    refine SP.rgn <| .a 3 <| .e (x := .osl 2) [.dead, .dead, .arr 5 1 (List.map eU8 x7)] (ok_callGD [.ent 1] [] [] (avs := [.osl 1, .d (eI x6)]) (avs' := [.osl 0, .d (eI x6)]) (res' := .osl 2) (codec_number_ok v2 x6 x7 hx7) ent116 (by kernel_rfl) (downs_ent (by kernel_rfl) <| trivial) ⟨⟨0, rfl, rfl⟩, .inl rfl, trivial⟩ rfl (by kernel_rfl) rfl) <| .a 1 <| .nil ?_
    refine SP.rgn <| .a 2 <| .nil ?_
    exact hk4 _ x7 (IntKind.i64.wrap (v3 + 1)) (sub_of (mk 25 57349) [(0, false), (2, true)]) h
  · replace h := of_bif_false hb5 h
    refine SP.exit ?_
    refine SP.rg <| .a 2 <| .nil ?_
    refine SP.ret ?_
    rw [← Option.some.inj h]
    exact ⟨[.osl 1], [(0, false), (1, true)], ⟨resV_tmp (by kernel_rfl), trivial⟩, by kernel_rfl, by kernel_rfl, by kernel_rfl⟩

-- fedchat/codec.PutInts
def codec_PutInts (p0_b : (List Int)) (p1_l : (List Int)) : Option (List Int) := (codec_room p0_b (IntKind.i64.wrap ((IntKind.i64.wrap (2 * (p1_l.length : Int))) + 10))).bind fun x1 => (codec_list_int_codec_number x1 p1_l).bind fun x2 => some x2
theorem codec_PutInts_ok (p0_b : (List Int)) (p1_l : (List Int)) (r : (List Int)) (h : codec_PutInts p0_b p1_l = some r) : Runs Tryz.prog 112 [.d ((eL eU8) p0_b), .d ((eL eI) p1_l)] [] (.osl 0) [.arr 5 1 (List.map eU8 r)] := by
  refine Runs.of_fin Tryz.func112 rfl ?_
  unfold codec_PutInts at h
  refine SP.rg <| .e [.arr 5 1 (List.map eU8 [])] (ok_assign_own 5 1 rfl) <| .nil ?_
  obtain ⟨x1, hx1, h⟩ := of_bind h
  obtain ⟨x2, hx2, h⟩ := of_bind h
  refine SP.rg <| .a 2 <| .p (ok_lenT eI p1_l und33 rfl) <| .a 2 <| .e (x := .osl 1) [.arr 5 1 (List.map eU8 []), .arr 5 1 (List.map eU8 x1)] (ok_callD (avs := [.d ((eL eU8) p0_b), .d (eI (IntKind.i64.wrap ((IntKind.i64.wrap (2 * (p1_l.length : Int))) + 10)))]) (avs' := [.d ((eL eU8) p0_b), .d (eI (IntKind.i64.wrap ((IntKind.i64.wrap (2 * (p1_l.length : Int))) + 10)))]) (codec_room_ok p0_b (IntKind.i64.wrap ((IntKind.i64.wrap (2 * (p1_l.length : Int))) + 10)) x1 hx1) ent115 (by kernel_rfl) ⟨.inl rfl, .inl rfl, trivial⟩ rfl (by kernel_rfl) rfl) <| .a 1 <| .e (x := .osl 2) [.arr 5 1 (List.map eU8 []), .dead, .arr 5 1 (List.map eU8 x2)] (ok_callG [.ent 1] (avs := [.osl 1, .d ((eL eI) p1_l), .d (.fn (.func 116) [] [])]) (avs' := [.osl 0, .d ((eL eI) p1_l), .d (.fn (.func 116) [] [])]) (res' := .osl 2) (codec_list_int_codec_number_ok x1 p1_l x2 hx2) ent152 (by kernel_rfl) (downs_ent (by kernel_rfl) <| trivial) ⟨⟨0, rfl, rfl⟩, .inl rfl, .inl rfl, trivial⟩ rfl (by kernel_rfl) rfl) <| .a 1 <| .nil ?_
  refine SP.ret ?_
  rw [← Option.some.inj h]
  exact ⟨[.osl 2], [(2, true)], ⟨resV_tmp (by kernel_rfl), trivial⟩, by kernel_rfl, by kernel_rfl, by kernel_rfl⟩

-- (*fedchat/event.writer).numbers
def event_writer_numbers (p0_w : EventWriter) (p1_l : (List Int)) : Option EventWriter := (codec_PutInts p0_w.b_ p1_l).bind fun x1 => some ({ p0_w with b_ := x1 })
theorem event_writer_numbers_ok (p0_w : EventWriter) (p1_l : (List Int)) (r : EventWriter) (h : event_writer_numbers p0_w p1_l = some r) : Runs Tryz.prog 76 [.ptr 0 0, .d ((eL eI) p1_l)] [.box (dc (eEventWriter p0_w))] (.tup []) [.box (dc (eEventWriter r))] := by
  refine Runs.of_fin Tryz.func76 rfl ?_
  unfold event_writer_numbers at h
  obtain ⟨x1, hx1, h⟩ := of_bind h
  refine SP.rgn <| .a 6 <| .call (codec_PutInts_ok p0_w.b_ p1_l x1 hx1).view ent112 <| .a 3 <| .nil ?_
  rw [← Option.some.inj h]
  exact ⟨[], [(0, true)], trivial, by kernel_rfl, by kernel_rfl, by kernel_rfl⟩

-- fedchat/event.all[[]int]
def event_all_int_event_writer_numbers_S1 (p1_l : (List (List Int))) (v1 : Int) (v2 : EventWriter) : St := ⟨shp 16 [(0, .fn (.func 76) [.ptr 0 0] []), (6, .d ((eL (eL eI)) p1_l)), (7, .d (eI (p1_l.length : Int))), (8, .d (eI v1))], [.box (dc (eEventWriter v2))], 1⟩
def event_all_int_event_writer_numbers_B1 (p1_l : (List (List Int))) (k3 : (Int → EventWriter → Option EventWriter)) : Int → EventWriter → Option EventWriter := fun v1 v2 => (bif decide (v1 < (p1_l.length : Int)) then (gIdx p1_l v1).bind fun x5 => (event_writer_numbers v2 x5).bind fun x6 => k3 (IntKind.i64.wrap (v1 + 1)) x6 else some v2)
def event_all_int_event_writer_numbers_L1 (p1_l : (List (List Int))) : Int → EventWriter → Option EventWriter := loop2 (event_all_int_event_writer_numbers_B1 p1_l) fuel
def event_all_int_event_writer_numbers (p0_write_b0 : EventWriter) (p1_l : (List (List Int))) : Option EventWriter := event_all_int_event_writer_numbers_L1 p1_l 0 p0_write_b0
theorem event_all_int_event_writer_numbers_ok (p0_write_b0 : EventWriter) (p1_l : (List (List Int))) (r : EventWriter) (h : event_all_int_event_writer_numbers p0_write_b0 p1_l = some r) : Runs Tryz.prog 75 [.fn (.func 76) [.ptr 0 0] [], .d ((eL (eL eI)) p1_l)] [.box (dc (eEventWriter p0_write_b0))] (.tup []) [.box (dc (eEventWriter r))] := by
  refine Runs.of_fin Tryz.func75 rfl ?_
  unfold event_all_int_event_writer_numbers at h
  refine SP.rg <| .a 1 <| .p (ok_lenT (eL eI) p1_l und126 rfl) <| .a 1 <| .nil ?_
  refine SP.block ?_
  refine SP.loop2 (event_all_int_event_writer_numbers_S1 p1_l) (event_all_int_event_writer_numbers_B1 p1_l) r 0 p0_write_b0 (sub_of (mk 16 449) [(0, true)]) h ?_
  clear h
  intro J7 k3 hk3 v1 v2 h
  unfold event_all_int_event_writer_numbers_B1 at h
  refine SP.rg <| .a 1 <| .nil ?_
  refine SP.seqc ?_
  refine SP.cond (decide (v1 < (p1_l.length : Int))) (by kernel_rfl) (fun hb4 => ?_) (fun hb4 => ?_)
  · replace h := of_bif_true hb4 h
    refine SP.skip ?_
    refine SP.seqc ?_
    refine SP.block ?_
    obtain ⟨x5, hx5, h⟩ := of_bind h
    refine SP.rg <| .p (ok_idxT (k := .i64) (eL eI) hx5 und126 ty33 (by kernel_rfl) rfl) <| .a 2 <| .nil ?_
    obtain ⟨x6, hx6, h⟩ := of_bind h
    refine SP.rgn <| .a 2 <| .e (x := .tup []) [.box (dc (eEventWriter x6))] (ok_callGX [.ent 0] [.ptr 0 0] [] (avs := [.d ((eL eI) x5)]) (avs' := [.ptr 0 0, .d ((eL eI) x5)]) (res' := .tup []) (event_writer_numbers_ok v2 x5 x6 hx6) ent76 (by kernel_rfl) (downs_ent (by kernel_rfl) <| trivial) ⟨⟨0, rfl, rfl⟩, .inl rfl, trivial⟩ rfl (by kernel_rfl) rfl) <| .nil ?_
    refine SP.rgn <| .a 2 <| .nil ?_
    exact hk3 _ (IntKind.i64.wrap (v1 + 1)) x6 (sub_of (mk 16 449) [(0, true)]) h
  · replace h := of_bif_false hb4 h
    refine SP.exit ?_
    rw [← Option.some.inj h]
    exact ⟨[], [(0, true)], trivial, by kernel_rfl, by kernel_rfl, by kernel_rfl⟩

-- fedchat/event.Encode
def event_Encode (p0_e : ApiEvent) : Option (List Int) := (event_all_int_event_writer_number zEventWriter [p0_e.Id]).bind fun x1 => (event_all_string_event_writer_text x1 [p0_e.Room, p0_e.Sender]).bind fun x2 => (event_all_int_event_writer_number x2 [p0_e.Kind]).bind fun x3 => (event_all_bool_event_writer_flag x3 [p0_e.State]).bind fun x4 => (event_all_string_event_writer_text x4 [p0_e.Key]).bind fun x5 => (event_all_int_event_writer_number x5 [p0_e.Time, p0_e.Depth]).bind fun x6 => (event_all_int_event_writer_numbers x6 [p0_e.Prev, p0_e.Auth]).bind fun x7 => (content_Encode p0_e.Content).bind fun x8 => (event_all_string_event_writer_text x7 [sOf x8]).bind fun x9 => (event_all_int_event_writer_number x9 [p0_e.Hash]).bind fun x10 => (event_all_string_event_writer_text x10 [p0_e.Sig.Server]).bind fun x11 => (event_all_int_event_writer_number x11 [p0_e.Sig.Sum]).bind fun x12 => some x12.b_
theorem event_Encode_ok (p0_e : ApiEvent) (r : (List Int)) (h : event_Encode p0_e = some r) : Runs Tryz.prog 41 [.d (eApiEvent p0_e)] [] (.d ((eL eU8) r)) [] := by
  refine Runs.of_fin Tryz.func41 rfl ?_
  unfold event_Encode at h
  refine SP.rg <| .a 2 <| .nil ?_
  refine SP.rg <| .a 3 <| .nil ?_
  obtain ⟨x1, hx1, h⟩ := of_bind h
  refine SP.rg <| .a 1 <| .p (x := .fn (.func 70) [.ptr 1 0] []) (ok_makeFuncA (fi := [.ptr 1 0]) (ca := []) rfl rfl rfl) <| .a 2 <| .p (ok_lits el33 zero3 (by kernel_rfl) (by kernel_rfl) (Nat.le_of_ble_eq_true (by kernel_rfl)) [.d (eI p0_e.Id)] [eI p0_e.Id] (by kernel_rfl) (by kernel_rfl) (by kernel_rfl) (by kernel_rfl) rfl) <| .e (x := .tup []) [.box (dc (eApiEvent p0_e)), .box (dc (eEventWriter x1))] (ok_callG [.ent 1] (avs := [.fn (.func 70) [.ptr 1 0] [], .d ((eL eI) [p0_e.Id])]) (avs' := [.fn (.func 70) [.ptr 0 0] [], .d ((eL eI) [p0_e.Id])]) (res' := .tup []) (event_all_int_event_writer_number_ok zEventWriter [p0_e.Id] x1 hx1) ent69 (by kernel_rfl) (downs_ent (by kernel_rfl) <| trivial) ⟨⟨_, _, rfl, ⟨⟨0, rfl, rfl⟩, trivial⟩, trivial⟩, .inl rfl, trivial⟩ rfl (by kernel_rfl) rfl) <| .nil ?_
  obtain ⟨x2, hx2, h⟩ := of_bind h
  refine SP.rg <| .a 1 <| .p (x := .fn (.func 72) [.ptr 1 0] []) (ok_makeFuncA (fi := [.ptr 1 0]) (ca := []) rfl rfl rfl) <| .a 4 <| .p (ok_lits el24 zero9 (by kernel_rfl) (by kernel_rfl) (Nat.le_of_ble_eq_true (by kernel_rfl)) [.d (eS p0_e.Room), .d (eS p0_e.Sender)] [eS p0_e.Room, eS p0_e.Sender] (by kernel_rfl) (by kernel_rfl) (by kernel_rfl) (by kernel_rfl) rfl) <| .e (x := .tup []) [.box (dc (eApiEvent p0_e)), .box (dc (eEventWriter x2))] (ok_callG [.ent 1] (avs := [.fn (.func 72) [.ptr 1 0] [], .d ((eL eS) [p0_e.Room, p0_e.Sender])]) (avs' := [.fn (.func 72) [.ptr 0 0] [], .d ((eL eS) [p0_e.Room, p0_e.Sender])]) (res' := .tup []) (event_all_string_event_writer_text_ok x1 [p0_e.Room, p0_e.Sender] x2 hx2) ent71 (by kernel_rfl) (downs_ent (by kernel_rfl) <| trivial) ⟨⟨_, _, rfl, ⟨⟨0, rfl, rfl⟩, trivial⟩, trivial⟩, .inl rfl, trivial⟩ rfl (by kernel_rfl) rfl) <| .nil ?_
  obtain ⟨x3, hx3, h⟩ := of_bind h
  refine SP.rg <| .a 1 <| .p (x := .fn (.func 70) [.ptr 1 0] []) (ok_makeFuncA (fi := [.ptr 1 0]) (ca := []) rfl rfl rfl) <| .a 2 <| .p (ok_lits el33 zero3 (by kernel_rfl) (by kernel_rfl) (Nat.le_of_ble_eq_true (by kernel_rfl)) [.d (eI p0_e.Kind)] [eI p0_e.Kind] (by kernel_rfl) (by kernel_rfl) (by kernel_rfl) (by kernel_rfl) rfl) <| .e (x := .tup []) [.box (dc (eApiEvent p0_e)), .box (dc (eEventWriter x3))] (ok_callG [.ent 1] (avs := [.fn (.func 70) [.ptr 1 0] [], .d ((eL eI) [p0_e.Kind])]) (avs' := [.fn (.func 70) [.ptr 0 0] [], .d ((eL eI) [p0_e.Kind])]) (res' := .tup []) (event_all_int_event_writer_number_ok x2 [p0_e.Kind] x3 hx3) ent69 (by kernel_rfl) (downs_ent (by kernel_rfl) <| trivial) ⟨⟨_, _, rfl, ⟨⟨0, rfl, rfl⟩, trivial⟩, trivial⟩, .inl rfl, trivial⟩ rfl (by kernel_rfl) rfl) <| .nil ?_
  obtain ⟨x4, hx4, h⟩ := of_bind h
  refine SP.rg <| .a 1 <| .p (x := .fn (.func 74) [.ptr 1 0] []) (ok_makeFuncA (fi := [.ptr 1 0]) (ca := []) rfl rfl rfl) <| .a 2 <| .p (ok_lits el125 zero4 (by kernel_rfl) (by kernel_rfl) (Nat.le_of_ble_eq_true (by kernel_rfl)) [.d (eB p0_e.State)] [eB p0_e.State] (by kernel_rfl) (by kernel_rfl) (by kernel_rfl) (by kernel_rfl) rfl) <| .e (x := .tup []) [.box (dc (eApiEvent p0_e)), .box (dc (eEventWriter x4))] (ok_callG [.ent 1] (avs := [.fn (.func 74) [.ptr 1 0] [], .d ((eL eB) [p0_e.State])]) (avs' := [.fn (.func 74) [.ptr 0 0] [], .d ((eL eB) [p0_e.State])]) (res' := .tup []) (event_all_bool_event_writer_flag_ok x3 [p0_e.State] x4 hx4) ent73 (by kernel_rfl) (downs_ent (by kernel_rfl) <| trivial) ⟨⟨_, _, rfl, ⟨⟨0, rfl, rfl⟩, trivial⟩, trivial⟩, .inl rfl, trivial⟩ rfl (by kernel_rfl) rfl) <| .nil ?_
  obtain ⟨x5, hx5, h⟩ := of_bind h
  refine SP.rg <| .a 1 <| .p (x := .fn (.func 72) [.ptr 1 0] []) (ok_makeFuncA (fi := [.ptr 1 0]) (ca := []) rfl rfl rfl) <| .a 2 <| .p (ok_lits el24 zero9 (by kernel_rfl) (by kernel_rfl) (Nat.le_of_ble_eq_true (by kernel_rfl)) [.d (eS p0_e.Key)] [eS p0_e.Key] (by kernel_rfl) (by kernel_rfl) (by kernel_rfl) (by kernel_rfl) rfl) <| .e (x := .tup []) [.box (dc (eApiEvent p0_e)), .box (dc (eEventWriter x5))] (ok_callG [.ent 1] (avs := [.fn (.func 72) [.ptr 1 0] [], .d ((eL eS) [p0_e.Key])]) (avs' := [.fn (.func 72) [.ptr 0 0] [], .d ((eL eS) [p0_e.Key])]) (res' := .tup []) (event_all_string_event_writer_text_ok x4 [p0_e.Key] x5 hx5) ent71 (by kernel_rfl) (downs_ent (by kernel_rfl) <| trivial) ⟨⟨_, _, rfl, ⟨⟨0, rfl, rfl⟩, trivial⟩, trivial⟩, .inl rfl, trivial⟩ rfl (by kernel_rfl) rfl) <| .nil ?_
  obtain ⟨x6, hx6, h⟩ := of_bind h
  refine SP.rg <| .a 1 <| .p (x := .fn (.func 70) [.ptr 1 0] []) (ok_makeFuncA (fi := [.ptr 1 0]) (ca := []) rfl rfl rfl) <| .a 4 <| .p (ok_lits el33 zero3 (by kernel_rfl) (by kernel_rfl) (Nat.le_of_ble_eq_true (by kernel_rfl)) [.d (eI p0_e.Time), .d (eI p0_e.Depth)] [eI p0_e.Time, eI p0_e.Depth] (by kernel_rfl) (by kernel_rfl) (by kernel_rfl) (by kernel_rfl) rfl) <| .e (x := .tup []) [.box (dc (eApiEvent p0_e)), .box (dc (eEventWriter x6))] (ok_callG [.ent 1] (avs := [.fn (.func 70) [.ptr 1 0] [], .d ((eL eI) [p0_e.Time, p0_e.Depth])]) (avs' := [.fn (.func 70) [.ptr 0 0] [], .d ((eL eI) [p0_e.Time, p0_e.Depth])]) (res' := .tup []) (event_all_int_event_writer_number_ok x5 [p0_e.Time, p0_e.Depth] x6 hx6) ent69 (by kernel_rfl) (downs_ent (by kernel_rfl) <| trivial) ⟨⟨_, _, rfl, ⟨⟨0, rfl, rfl⟩, trivial⟩, trivial⟩, .inl rfl, trivial⟩ rfl (by kernel_rfl) rfl) <| .nil ?_
  obtain ⟨x7, hx7, h⟩ := of_bind h
  refine SP.rg <| .a 1 <| .p (x := .fn (.func 76) [.ptr 1 0] []) (ok_makeFuncA (fi := [.ptr 1 0]) (ca := []) rfl rfl rfl) <| .a 4 <| .p (ok_lits el126 zero33 (by kernel_rfl) (by kernel_rfl) (Nat.le_of_ble_eq_true (by kernel_rfl)) [.d ((eL eI) p0_e.Prev), .d ((eL eI) p0_e.Auth)] [(eL eI) p0_e.Prev, (eL eI) p0_e.Auth] (by kernel_rfl) (by kernel_rfl) (by kernel_rfl) (by kernel_rfl) rfl) <| .e (x := .tup []) [.box (dc (eApiEvent p0_e)), .box (dc (eEventWriter x7))] (ok_callG [.ent 1] (avs := [.fn (.func 76) [.ptr 1 0] [], .d ((eL (eL eI)) [p0_e.Prev, p0_e.Auth])]) (avs' := [.fn (.func 76) [.ptr 0 0] [], .d ((eL (eL eI)) [p0_e.Prev, p0_e.Auth])]) (res' := .tup []) (event_all_int_event_writer_numbers_ok x6 [p0_e.Prev, p0_e.Auth] x7 hx7) ent75 (by kernel_rfl) (downs_ent (by kernel_rfl) <| trivial) ⟨⟨_, _, rfl, ⟨⟨0, rfl, rfl⟩, trivial⟩, trivial⟩, .inl rfl, trivial⟩ rfl (by kernel_rfl) rfl) <| .nil ?_
  obtain ⟨x8, hx8, h⟩ := of_bind h
  obtain ⟨x9, hx9, h⟩ := of_bind h
  refine SP.rg <| .a 1 <| .p (x := .fn (.func 72) [.ptr 1 0] []) (ok_makeFuncA (fi := [.ptr 1 0]) (ca := []) rfl rfl rfl) <| .a 2 <| .call (content_Encode_ok p0_e.Content x8 hx8) ent43 <| .p (ok_strB (l := x8) und78 und5 und9 rfl) <| .p (ok_lits el24 zero9 (by kernel_rfl) (by kernel_rfl) (Nat.le_of_ble_eq_true (by kernel_rfl)) [.d (eS (sOf x8))] [eS (sOf x8)] (by kernel_rfl) (by kernel_rfl) (by kernel_rfl) (by kernel_rfl) rfl) <| .e (x := .tup []) [.box (dc (eApiEvent p0_e)), .box (dc (eEventWriter x9))] (ok_callG [.ent 1] (avs := [.fn (.func 72) [.ptr 1 0] [], .d ((eL eS) [sOf x8])]) (avs' := [.fn (.func 72) [.ptr 0 0] [], .d ((eL eS) [sOf x8])]) (res' := .tup []) (event_all_string_event_writer_text_ok x7 [sOf x8] x9 hx9) ent71 (by kernel_rfl) (downs_ent (by kernel_rfl) <| trivial) ⟨⟨_, _, rfl, ⟨⟨0, rfl, rfl⟩, trivial⟩, trivial⟩, .inl rfl, trivial⟩ rfl (by kernel_rfl) rfl) <| .nil ?_
  obtain ⟨x10, hx10, h⟩ := of_bind h
  refine SP.rg <| .a 1 <| .p (x := .fn (.func 70) [.ptr 1 0] []) (ok_makeFuncA (fi := [.ptr 1 0]) (ca := []) rfl rfl rfl) <| .a 2 <| .p (ok_lits el33 zero3 (by kernel_rfl) (by kernel_rfl) (Nat.le_of_ble_eq_true (by kernel_rfl)) [.d (eI p0_e.Hash)] [eI p0_e.Hash] (by kernel_rfl) (by kernel_rfl) (by kernel_rfl) (by kernel_rfl) rfl) <| .e (x := .tup []) [.box (dc (eApiEvent p0_e)), .box (dc (eEventWriter x10))] (ok_callG [.ent 1] (avs := [.fn (.func 70) [.ptr 1 0] [], .d ((eL eI) [p0_e.Hash])]) (avs' := [.fn (.func 70) [.ptr 0 0] [], .d ((eL eI) [p0_e.Hash])]) (res' := .tup []) (event_all_int_event_writer_number_ok x9 [p0_e.Hash] x10 hx10) ent69 (by kernel_rfl) (downs_ent (by kernel_rfl) <| trivial) ⟨⟨_, _, rfl, ⟨⟨0, rfl, rfl⟩, trivial⟩, trivial⟩, .inl rfl, trivial⟩ rfl (by kernel_rfl) rfl) <| .nil ?_
  obtain ⟨x11, hx11, h⟩ := of_bind h
  refine SP.rg <| .a 1 <| .p (x := .fn (.func 72) [.ptr 1 0] []) (ok_makeFuncA (fi := [.ptr 1 0]) (ca := []) rfl rfl rfl) <| .a 3 <| .p (ok_lits el24 zero9 (by kernel_rfl) (by kernel_rfl) (Nat.le_of_ble_eq_true (by kernel_rfl)) [.d (eS p0_e.Sig.Server)] [eS p0_e.Sig.Server] (by kernel_rfl) (by kernel_rfl) (by kernel_rfl) (by kernel_rfl) rfl) <| .e (x := .tup []) [.box (dc (eApiEvent p0_e)), .box (dc (eEventWriter x11))] (ok_callG [.ent 1] (avs := [.fn (.func 72) [.ptr 1 0] [], .d ((eL eS) [p0_e.Sig.Server])]) (avs' := [.fn (.func 72) [.ptr 0 0] [], .d ((eL eS) [p0_e.Sig.Server])]) (res' := .tup []) (event_all_string_event_writer_text_ok x10 [p0_e.Sig.Server] x11 hx11) ent71 (by kernel_rfl) (downs_ent (by kernel_rfl) <| trivial) ⟨⟨_, _, rfl, ⟨⟨0, rfl, rfl⟩, trivial⟩, trivial⟩, .inl rfl, trivial⟩ rfl (by kernel_rfl) rfl) <| .nil ?_
  obtain ⟨x12, hx12, h⟩ := of_bind h
  refine SP.rg <| .a 1 <| .p (x := .fn (.func 70) [.ptr 1 0] []) (ok_makeFuncA (fi := [.ptr 1 0]) (ca := []) rfl rfl rfl) <| .a 3 <| .p (ok_lits el33 zero3 (by kernel_rfl) (by kernel_rfl) (Nat.le_of_ble_eq_true (by kernel_rfl)) [.d (eI p0_e.Sig.Sum)] [eI p0_e.Sig.Sum] (by kernel_rfl) (by kernel_rfl) (by kernel_rfl) (by kernel_rfl) rfl) <| .e (x := .tup []) [.box (dc (eApiEvent p0_e)), .box (dc (eEventWriter x12))] (ok_callG [.ent 1] (avs := [.fn (.func 70) [.ptr 1 0] [], .d ((eL eI) [p0_e.Sig.Sum])]) (avs' := [.fn (.func 70) [.ptr 0 0] [], .d ((eL eI) [p0_e.Sig.Sum])]) (res' := .tup []) (event_all_int_event_writer_number_ok x11 [p0_e.Sig.Sum] x12 hx12) ent69 (by kernel_rfl) (downs_ent (by kernel_rfl) <| trivial) ⟨⟨_, _, rfl, ⟨⟨0, rfl, rfl⟩, trivial⟩, trivial⟩, .inl rfl, trivial⟩ rfl (by kernel_rfl) rfl) <| .nil ?_
  refine SP.rg <| .a 5 <| .nil ?_
  refine SP.ret ?_
  rw [← Option.some.inj h]
  exact ⟨[.d ((eL eU8) x12.b_)], [], ⟨resV_tmp (by kernel_rfl), trivial⟩, by kernel_rfl, by kernel_rfl, by kernel_rfl⟩

-- fedchat/event.IdOf
def event_IdOf (p0_e : ApiEvent) : Option Int := (event_Strip p0_e).bind fun x1 => (event_Encode ({ { x1 with Id := 0 } with Sig := zApiSig })).bind fun x2 => (sums_Sum x2).bind fun x3 => some x3
theorem event_IdOf_ok (p0_e : ApiEvent) (r : Int) (h : event_IdOf p0_e = some r) : Runs Tryz.prog 20 [.d (eApiEvent p0_e)] [] (.d (eI r)) [] := by
  refine Runs.of_fin Tryz.func20 rfl ?_
  unfold event_IdOf at h
  refine SP.rg <| .a 2 <| .nil ?_
  obtain ⟨x1, hx1, h⟩ := of_bind h
  refine SP.rg <| .a 1 <| .call (event_Strip_ok p0_e x1 hx1) ent39 <| .a 2 <| .nil ?_
  refine SP.rg <| .a 5 <| .nil ?_
  obtain ⟨x2, hx2, h⟩ := of_bind h
  obtain ⟨x3, hx3, h⟩ := of_bind h
  refine SP.rg <| .a 1 <| .call (event_Encode_ok ({ { x1 with Id := 0 } with Sig := zApiSig }) x2 hx2) ent41 <| .call (sums_Sum_ok x2 x3 hx3) ent40 <| .a 1 <| .nil ?_
  refine SP.ret ?_
  rw [← Option.some.inj h]
  exact ⟨[.d (eI x3)], [], ⟨resV_tmp (by kernel_rfl), trivial⟩, by kernel_rfl, by kernel_rfl, by kernel_rfl⟩

-- fedchat/event.Sign
def event_Sign (p0_e : ApiEvent) (p1_server : ByteArray) : Option ApiEvent := (event_Hash p0_e).bind fun x1 => (event_IdOf ({ p0_e with Hash := x1 })).bind fun x2 => some ({ { { p0_e with Hash := x1 } with Id := x2 } with Sig := (⟨p1_server, ({ { p0_e with Hash := x1 } with Id := x2 }).Id⟩ : ApiSig) })
theorem event_Sign_ok (p0_e : ApiEvent) (p1_server : ByteArray) (r : ApiEvent) (h : event_Sign p0_e p1_server = some r) : Runs Tryz.prog 17 [.d (eApiEvent p0_e), .d (eS p1_server)] [] (.d (eApiEvent r)) [] := by
  refine Runs.of_fin Tryz.func17 rfl ?_
  unfold event_Sign at h
  refine SP.rg <| .a 2 <| .nil ?_
  obtain ⟨x1, hx1, h⟩ := of_bind h
  refine SP.rg <| .a 1 <| .call (event_Hash_ok p0_e x1 hx1) ent22 <| .a 2 <| .nil ?_
  obtain ⟨x2, hx2, h⟩ := of_bind h
  refine SP.rg <| .a 1 <| .call (event_IdOf_ok ({ p0_e with Hash := x1 }) x2 hx2) ent20 <| .a 2 <| .nil ?_
  refine SP.rg <| .a 6 <| .nil ?_
  refine SP.rg <| .a 2 <| .nil ?_
  refine SP.ret ?_
  rw [← Option.some.inj h]
  exact ⟨[.d (eApiEvent ({ { { p0_e with Hash := x1 } with Id := x2 } with Sig := (⟨p1_server, ({ { p0_e with Hash := x1 } with Id := x2 }).Id⟩ : ApiSig) }))], [], ⟨⟨1, dc (eApiEvent ({ { { p0_e with Hash := x1 } with Id := x2 } with Sig := (⟨p1_server, ({ { p0_e with Hash := x1 } with Id := x2 }).Id⟩ : ApiSig) })), true, 29, by kernel_rfl, by kernel_rfl, by kernel_rfl, ty43, Nat.le_of_ble_eq_true (by kernel_rfl), (by intro hh; cases hh), by kernel_rfl⟩, trivial⟩, by kernel_rfl, by kernel_rfl, by kernel_rfl⟩

-- fedchat/evil.transaction
def evil_transaction (p0_s : ApiServer) (p1_d : ApiDeed) (p2_e : ApiEvent) : Option ApiPacket := some ({ zApiPacket with From := p0_s.Name, To := p1_d.To, Kind := 1, Events := [p2_e] })
theorem evil_transaction_ok (p0_s : ApiServer) (p1_d : ApiDeed) (p2_e : ApiEvent) (r : ApiPacket) (h : evil_transaction p0_s p1_d p2_e = some r) : Runs Tryz.prog 16 [.d (eApiServer p0_s), .d (eApiDeed p1_d), .d (eApiEvent p2_e)] [] (.d (eApiPacket r)) [] := by
  refine Runs.of_fin Tryz.func16 rfl ?_
  unfold evil_transaction at h
  refine SP.rg <| .a 4 <| .nil ?_
  refine SP.rg <| .a 5 <| .p (ok_lits el52 zero43 (by kernel_rfl) (by kernel_rfl) (Nat.le_of_ble_eq_true (by kernel_rfl)) [.d (eApiEvent p2_e)] [eApiEvent p2_e] (by kernel_rfl) (by kernel_rfl) (by kernel_rfl) (by kernel_rfl) rfl) <| .a 2 <| .nil ?_
  refine SP.ret ?_
  rw [← Option.some.inj h]
  exact ⟨[.d (eApiPacket ({ zApiPacket with From := p0_s.Name, To := p1_d.To, Kind := 1, Events := [p2_e] }))], [], ⟨⟨3, dc (eApiPacket ({ zApiPacket with From := p0_s.Name, To := p1_d.To, Kind := 1, Events := [p2_e] })), true, 10, by kernel_rfl, by kernel_rfl, by kernel_rfl, ty57, Nat.le_of_ble_eq_true (by kernel_rfl), (by intro hh; cases hh), by kernel_rfl⟩, trivial⟩, by kernel_rfl, by kernel_rfl, by kernel_rfl⟩

-- fedchat/ids.ServerOf
def ids_ServerOf (p0_id : ByteArray) : Option ByteArray := (ids_split p0_id s__40_21).bind fun x1 => some x1.2.1
theorem ids_ServerOf_ok (p0_id : ByteArray) (r : ByteArray) (h : ids_ServerOf p0_id = some r) : Runs Tryz.prog 19 [.d (eS p0_id)] [] (.d (eS r)) [] := by
  refine Runs.of_fin Tryz.func19 rfl ?_
  unfold ids_ServerOf at h
  refine SP.rg <| .a 1 <| .nil ?_
  obtain ⟨x1, hx1, h⟩ := of_bind h
  refine SP.rg <| .a 1 <| .call (ids_split_ok p0_id s__40_21 x1 hx1) ent38 <| .a 7 <| .nil ?_
  refine SP.rg <| .a 2 <| .nil ?_
  refine SP.ret ?_
  rw [← Option.some.inj h]
  exact ⟨[.d (eS x1.2.1)], [], ⟨resV_tmp (by kernel_rfl), trivial⟩, by kernel_rfl, by kernel_rfl, by kernel_rfl⟩

-- fedchat/num.Clip
def num_Clip_S1 (p1_lo : Int) (p2_hi : Int) (v1 : Int) : St := ⟨shp 21 [(0, .d (eI v1)), (1, .d (eI p1_lo)), (2, .d (eI p2_hi))], [], 0⟩
def num_Clip_S2 (v2 : Int) : St := ⟨shp 21 [(0, .d (eI v2))], [], 0⟩
def num_Clip_j2 (v2 : Int) : Option Int := some v2
def num_Clip_j1 (p1_lo : Int) (p2_hi : Int) (v1 : Int) : Option Int := (bif decide (v1 < p1_lo) then some true else some (decide (p1_lo > p2_hi))).bind fun x4 => (bif x4 then num_Clip_j2 p1_lo else num_Clip_j2 v1)
def num_Clip (p0_n : Int) (p1_lo : Int) (p2_hi : Int) : Option Int := (bif decide (p0_n > p2_hi) then num_Clip_j1 p1_lo p2_hi p2_hi else num_Clip_j1 p1_lo p2_hi p0_n)
theorem num_Clip_ok (p0_n : Int) (p1_lo : Int) (p2_hi : Int) (r : Int) (h : num_Clip p0_n p1_lo p2_hi = some r) : Runs Tryz.prog 113 [.d (eI p0_n), .d (eI p1_lo), .d (eI p2_hi)] [] (.d (eI r)) [] := by
  refine Runs.of_fin Tryz.func113 rfl ?_
  unfold num_Clip at h
  refine SP.rg <| .a 1 <| .nil ?_
  refine SP.join (fun s => ∃ (v1 : Int), Sub s (num_Clip_S1 p1_lo p2_hi v1) ∧ num_Clip_j1 p1_lo p2_hi v1 = some r) ?_ ?_
  · clear h
    rintro s ⟨v1, hs, h⟩
    refine SP.sub hs ?_
    clear hs
    unfold num_Clip_j1 at h
    refine SP.join (fun s => ∃ (v2 : Int), Sub s (num_Clip_S2 v2) ∧ num_Clip_j2 v2 = some r) ?_ ?_
    · clear h
      rintro s ⟨v2, hs, h⟩
      refine SP.sub hs ?_
      clear hs
      unfold num_Clip_j2 at h
      refine SP.rg <| .a 2 <| .nil ?_
      refine SP.ret ?_
      rw [← Option.some.inj h]
      exact ⟨[.d (eI v2)], [], ⟨resV_tmp (by kernel_rfl), trivial⟩, by kernel_rfl, by kernel_rfl, by kernel_rfl⟩
    · intro K3
      refine SP.rg <| .a 3 <| ?_
      obtain ⟨x4, hx4, h⟩ := of_bind h
      refine .merge 5 [14, 15, 16, 17] 18 (.d (eB x4)) ?_ ?_
      · replace h := hx4
        rcases Bool.eq_false_or_eq_true (decide (v1 < p1_lo)) with hb5 | hb5
        · replace h := of_bif_true hb5 h
          refine .c (congrArg some hb5) <| .a 4 <| .nil ?_
          obtain rfl := Option.some.inj h
          kernel_rfl
        · replace h := of_bif_false hb5 h
          refine .c (congrArg some hb5) <| .a 4 <| .nil ?_
          obtain rfl := Option.some.inj h
          kernel_rfl
      refine .nil ?_
      refine SP.cond x4 (by kernel_rfl) (fun hb6 => ?_) (fun hb6 => ?_)
      · replace h := of_bif_true hb6 h
        refine SP.rgn <| .a 2 <| .nil ?_
        exact K3 _ ⟨p1_lo, sub_of (mk 21 1) [], h⟩
      · replace h := of_bif_false hb6 h
        refine SP.skip ?_
        exact K3 _ ⟨v1, sub_of (mk 21 1) [], h⟩
  · intro K7
    refine SP.rg <| .a 3 <| .nil ?_
    refine SP.cond (decide (p0_n > p2_hi)) (by kernel_rfl) (fun hb8 => ?_) (fun hb8 => ?_)
    · replace h := of_bif_true hb8 h
      refine SP.rgn <| .a 2 <| .nil ?_
      exact K7 _ ⟨p2_hi, sub_of (mk 21 7) [], h⟩
    · replace h := of_bif_false hb8 h
      refine SP.skip ?_
      exact K7 _ ⟨p0_n, sub_of (mk 21 7) [], h⟩

-- fedchat/num.bound
def num_bound (p0_n : Int) : Option Int := (num_Clip p0_n (-1000000000000) 1000000000000).bind fun x1 => some x1
theorem num_bound_ok (p0_n : Int) (r : Int) (h : num_bound p0_n = some r) : Runs Tryz.prog 77 [.d (eI p0_n)] [] (.d (eI r)) [] := by
  refine Runs.of_fin Tryz.func77 rfl ?_
  unfold num_bound at h
  refine SP.rg <| .a 1 <| .nil ?_
  obtain ⟨x1, hx1, h⟩ := of_bind h
  refine SP.rg <| .a 1 <| .call (num_Clip_ok p0_n (-1000000000000) 1000000000000 x1 hx1) ent113 <| .a 1 <| .nil ?_
  refine SP.ret ?_
  rw [← Option.some.inj h]
  exact ⟨[.d (eI x1)], [], ⟨resV_tmp (by kernel_rfl), trivial⟩, by kernel_rfl, by kernel_rfl, by kernel_rfl⟩

-- fedchat/num.Add
def num_Add (p0_a : Int) (p1_b : Int) : Option Int := (num_bound p0_a).bind fun x1 => (num_bound p1_b).bind fun x2 => (num_bound (IntKind.i64.wrap (x1 + x2))).bind fun x3 => some x3
theorem num_Add_ok (p0_a : Int) (p1_b : Int) (r : Int) (h : num_Add p0_a p1_b = some r) : Runs Tryz.prog 42 [.d (eI p0_a), .d (eI p1_b)] [] (.d (eI r)) [] := by
  refine Runs.of_fin Tryz.func42 rfl ?_
  unfold num_Add at h
  refine SP.rg <| .a 1 <| .nil ?_
  obtain ⟨x1, hx1, h⟩ := of_bind h
  obtain ⟨x2, hx2, h⟩ := of_bind h
  obtain ⟨x3, hx3, h⟩ := of_bind h
  refine SP.rg <| .a 1 <| .call (num_bound_ok p0_a x1 hx1) ent77 <| .a 1 <| .call (num_bound_ok p1_b x2 hx2) ent77 <| .a 1 <| .call (num_bound_ok (IntKind.i64.wrap (x1 + x2)) x3 hx3) ent77 <| .a 1 <| .nil ?_
  refine SP.ret ?_
  rw [← Option.some.inj h]
  exact ⟨[.d (eI x3)], [], ⟨resV_tmp (by kernel_rfl), trivial⟩, by kernel_rfl, by kernel_rfl, by kernel_rfl⟩

-- fedchat/evil.later
def evil_later (p0_e : ApiEvent) : Option ApiEvent := (num_Add p0_e.Time 1).bind fun x1 => some ({ p0_e with Time := x1 })
theorem evil_later_ok (p0_e : ApiEvent) (r : ApiEvent) (h : evil_later p0_e = some r) : Runs Tryz.prog 21 [.d (eApiEvent p0_e)] [] (.d (eApiEvent r)) [] := by
  refine Runs.of_fin Tryz.func21 rfl ?_
  unfold evil_later at h
  refine SP.rg <| .a 2 <| .nil ?_
  obtain ⟨x1, hx1, h⟩ := of_bind h
  refine SP.rg <| .a 2 <| .call (num_Add_ok p0_e.Time 1 x1 hx1) ent42 <| .a 2 <| .nil ?_
  refine SP.rg <| .a 2 <| .nil ?_
  refine SP.ret ?_
  rw [← Option.some.inj h]
  exact ⟨[.d (eApiEvent ({ p0_e with Time := x1 }))], [], ⟨⟨1, dc (eApiEvent ({ p0_e with Time := x1 })), true, 29, by kernel_rfl, by kernel_rfl, by kernel_rfl, ty43, Nat.le_of_ble_eq_true (by kernel_rfl), (by intro hh; cases hh), by kernel_rfl⟩, trivial⟩, by kernel_rfl, by kernel_rfl, by kernel_rfl⟩

-- fedchat/evil.Forge
def evil_Forge (p0_s : ApiServer) (p1_d : ApiDeed) : Option ((List ApiPacket) × Int) := (evil_Right p0_s p1_d).bind fun x1 => (bif (x1 != 0) then some ([], x1) else (bif (p1_d.Kind == 1) then (evil_own p0_s p1_d.Event).bind fun x4 => (event_Sign x4 p0_s.Name).bind fun x5 => (evil_transaction p0_s p1_d x5).bind fun x6 => some ([x6], 0) else (bif (p1_d.Kind == 2) then (ids_ServerOf p1_d.Event.Sender).bind fun x8 => (event_Sign p1_d.Event x8).bind fun x9 => (evil_later x9).bind fun x10 => (event_IdOf x10).bind fun x11 => (bif (x11 == x9.Id) then some ([], 0) else (evil_transaction p0_s p1_d ({ x9 with Sig := { x9.Sig with Sum := x11 } })).bind fun x13 => some ([x13], 0)) else (bif (p1_d.Kind == 3) then (evil_own p0_s p1_d.Event).bind fun x15 => (event_Sign x15 p0_s.Name).bind fun x16 => (evil_transaction p0_s p1_d x16).bind fun x17 => (evil_later x15).bind fun x18 => (event_Sign x18 p0_s.Name).bind fun x19 => (evil_transaction p0_s p1_d x19).bind fun x20 => some ([x17, x20], 0) else (bif (p1_d.Kind == 4) then (event_Sign p1_d.Event p0_s.Name).bind fun x22 => (evil_transaction p0_s p1_d x22).bind fun x23 => some ([x23], 0) else (bif (p1_d.Kind == 6) then (event_Hash p1_d.Event).bind fun x25 => (event_IdOf ({ p1_d.Event with Hash := x25 })).bind fun x26 => some ([{ zApiPacket with From := p0_s.Name, To := p1_d.To, Kind := 8, Room := ({ { { p1_d.Event with Hash := x25 } with Id := x26 } with Sig := zApiSig }).Room, Events := [{ { { p1_d.Event with Hash := x25 } with Id := x26 } with Sig := zApiSig }] }], 0) else some ([], 0)))))))
theorem evil_Forge_ok (p0_s : ApiServer) (p1_d : ApiDeed) (r : ((List ApiPacket) × Int)) (h : evil_Forge p0_s p1_d = some r) : Runs Tryz.prog 7 [.d (eApiServer p0_s), .d (eApiDeed p1_d)] [] (.tup [.d ((eL eApiPacket) r.1), .d (eI r.2)]) [] := by
  refine Runs.of_fin Tryz.func7 rfl ?_
  unfold evil_Forge at h
  refine SP.rg <| .a 4 <| .nil ?_
  refine SP.seqc ?_
  obtain ⟨x1, hx1, h⟩ := of_bind h
  refine SP.rg <| .a 2 <| .call (evil_Right_ok p0_s p1_d x1 hx1) ent15 <| .a 1 <| .nil ?_
  refine SP.rg <| .a 2 <| .nil ?_
  refine SP.cond (x1 != 0) (by kernel_rfl) (fun hb2 => ?_) (fun hb2 => ?_)
  · replace h := of_bif_true hb2 h
    refine SP.rg <| .a 3 <| .nil ?_
    refine SP.ret ?_
    rw [← Option.some.inj h]
    exact ⟨[.d ((eL eApiPacket) []), .d (eI x1)], [], ⟨resV_tmp (by kernel_rfl), resV_tmp (by kernel_rfl), trivial⟩, by kernel_rfl, by kernel_rfl, by kernel_rfl⟩
  · replace h := of_bif_false hb2 h
    refine SP.skip ?_
    refine SP.seqc ?_
    refine SP.rg <| .a 2 <| .nil ?_
    refine SP.block ?_
    refine SP.rg <| .a 2 <| .nil ?_
    refine SP.cond (p1_d.Kind == 1) (by kernel_rfl) (fun hb3 => ?_) (fun hb3 => ?_)
    · replace h := of_bif_true hb3 h
      obtain ⟨x4, hx4, h⟩ := of_bind h
      obtain ⟨x5, hx5, h⟩ := of_bind h
      obtain ⟨x6, hx6, h⟩ := of_bind h
      refine SP.dseq (by kernel_rfl) (by kernel_rfl) (by kernel_rfl) (.a 5 <| .call (evil_own_ok p0_s p1_d.Event x4 hx4) ent18 <| .a 2 <| .call (event_Sign_ok x4 p0_s.Name x5 hx5) ent17 <| .call (evil_transaction_ok p0_s p1_d x5 x6 hx6) ent16 <| .p (ok_lits el25 zero57 (by kernel_rfl) (by kernel_rfl) (Nat.le_of_ble_eq_true (by kernel_rfl)) [.d (eApiPacket x6)] [eApiPacket x6] (by kernel_rfl) (by kernel_rfl) (by kernel_rfl) (by kernel_rfl) rfl) <| .a 2 <| .nil _) ?_
      refine SP.ret ?_
      rw [← Option.some.inj h]
      exact ⟨[.d ((eL eApiPacket) [x6]), .d (eI 0)], [], ⟨resV_tmp (by kernel_rfl), resV_tmp (by kernel_rfl), trivial⟩, by kernel_rfl, by kernel_rfl, by kernel_rfl⟩
    · replace h := of_bif_false hb3 h
      refine SP.rg <| .a 2 <| .nil ?_
      refine SP.cond (p1_d.Kind == 2) (by kernel_rfl) (fun hb7 => ?_) (fun hb7 => ?_)
      · replace h := of_bif_true hb7 h
        obtain ⟨x8, hx8, h⟩ := of_bind h
        obtain ⟨x9, hx9, h⟩ := of_bind h
        refine SP.nseq1 [orc 5 (ids_ServerOf_ok p1_d.Event.Sender x8 hx8) ent19, orc 6 (event_Sign_ok p1_d.Event x8 x9 hx9) ent17] [[], [0], [2], [7], [0, 1], [0, 2], [0, 7], [2, 3], [2, 7], [0, 1, 2], [0, 1, 7], [0, 2, 3], [0, 2, 7], [2, 3, 4], [2, 3, 7], [0, 1, 2, 3], [0, 1, 2, 7], [0, 2, 3, 4], [0, 2, 3, 7], [2, 3, 4, 5], [2, 3, 4, 7], [0, 1, 2, 3, 4], [0, 1, 2, 3, 7], [0, 2, 3, 4, 5], [0, 2, 3, 4, 7], [2, 3, 4, 5, 7], [0, 1, 2, 3, 4, 5], [0, 1, 2, 3, 4, 7], [0, 2, 3, 4, 5, 7], [0, 1, 2, 3, 4, 5, 6], [0, 1, 2, 3, 4, 5, 7], [0, 1, 2, 3, 4, 5, 6, 7], [0, 1, 2, 3, 4, 5, 6, 7, 8]] [(0, 0, 1), (0, 2, 2), (0, 7, 3), (1, 1, 4), (1, 2, 5), (1, 7, 6), (2, 0, 5), (2, 3, 7), (2, 7, 8), (3, 0, 6), (3, 2, 8), (4, 2, 9), (4, 7, 10), (5, 1, 9), (5, 3, 11), (5, 7, 12), (6, 1, 10), (6, 2, 12), (7, 0, 11), (7, 4, 13), (7, 7, 14), (8, 0, 12), (8, 3, 14), (9, 3, 15), (9, 7, 16), (10, 2, 16), (11, 1, 15), (11, 4, 17), (11, 7, 18), (12, 1, 16), (12, 3, 18), (13, 0, 17), (13, 5, 19), (13, 7, 20), (14, 0, 18), (14, 4, 20), (15, 4, 21), (15, 7, 22), (16, 3, 22), (17, 1, 21), (17, 5, 23), (17, 7, 24), (18, 1, 22), (18, 4, 24), (19, 0, 23), (19, 7, 25), (20, 0, 24), (20, 5, 25), (21, 5, 26), (21, 7, 27), (22, 4, 27), (23, 1, 26), (23, 7, 28), (24, 1, 27), (24, 5, 28), (25, 0, 28), (26, 6, 29), (26, 7, 30), (27, 5, 30), (28, 1, 30), (29, 7, 31), (30, 6, 31), (31, 8, 32)] 32 ?_
        obtain ⟨x10, hx10, h⟩ := of_bind h
        obtain ⟨x11, hx11, h⟩ := of_bind h
        refine SP.rg <| .a 1 <| .call (evil_later_ok x9 x10 hx10) ent21 <| .call (event_IdOf_ok x10 x11 hx11) ent20 <| .a 1 <| .nil ?_
        refine SP.seqc ?_
        refine SP.rg <| .a 4 <| .nil ?_
        refine SP.cond (x11 == x9.Id) (by kernel_rfl) (fun hb12 => ?_) (fun hb12 => ?_)
        · replace h := of_bif_true hb12 h
          refine SP.rg <| .a 2 <| .nil ?_
          refine SP.ret ?_
          rw [← Option.some.inj h]
          exact ⟨[.d ((eL eApiPacket) []), .d (eI 0)], [], ⟨resV_tmp (by kernel_rfl), resV_tmp (by kernel_rfl), trivial⟩, by kernel_rfl, by kernel_rfl, by kernel_rfl⟩
        · replace h := of_bif_false hb12 h
          refine SP.skip ?_
          refine SP.rg <| .a 4 <| .nil ?_
          obtain ⟨x13, hx13, h⟩ := of_bind h
          refine SP.rg <| .a 3 <| .call (evil_transaction_ok p0_s p1_d ({ x9 with Sig := { x9.Sig with Sum := x11 } }) x13 hx13) ent16 <| .p (ok_lits el25 zero57 (by kernel_rfl) (by kernel_rfl) (Nat.le_of_ble_eq_true (by kernel_rfl)) [.d (eApiPacket x13)] [eApiPacket x13] (by kernel_rfl) (by kernel_rfl) (by kernel_rfl) (by kernel_rfl) rfl) <| .a 2 <| .nil ?_
          refine SP.ret ?_
          rw [← Option.some.inj h]
          exact ⟨[.d ((eL eApiPacket) [x13]), .d (eI 0)], [], ⟨resV_tmp (by kernel_rfl), resV_tmp (by kernel_rfl), trivial⟩, by kernel_rfl, by kernel_rfl, by kernel_rfl⟩
      · replace h := of_bif_false hb7 h
        refine SP.rg <| .a 2 <| .nil ?_
        refine SP.cond (p1_d.Kind == 3) (by kernel_rfl) (fun hb14 => ?_) (fun hb14 => ?_)
        · replace h := of_bif_true hb14 h
          obtain ⟨x15, hx15, h⟩ := of_bind h
          refine SP.rg <| .a 3 <| .call (evil_own_ok p0_s p1_d.Event x15 hx15) ent18 <| .a 2 <| .nil ?_
          obtain ⟨x16, hx16, h⟩ := of_bind h
          obtain ⟨x17, hx17, h⟩ := of_bind h
          obtain ⟨x18, hx18, h⟩ := of_bind h
          obtain ⟨x19, hx19, h⟩ := of_bind h
          obtain ⟨x20, hx20, h⟩ := of_bind h
          refine SP.dseq (by kernel_rfl) (by kernel_rfl) (by kernel_rfl) (.a 5 <| .call (event_Sign_ok x15 p0_s.Name x16 hx16) ent17 <| .call (evil_transaction_ok p0_s p1_d x16 x17 hx17) ent16 <| .a 3 <| .call (evil_later_ok x15 x18 hx18) ent21 <| .a 2 <| .call (event_Sign_ok x18 p0_s.Name x19 hx19) ent17 <| .call (evil_transaction_ok p0_s p1_d x19 x20 hx20) ent16 <| .p (ok_lits el25 zero57 (by kernel_rfl) (by kernel_rfl) (Nat.le_of_ble_eq_true (by kernel_rfl)) [.d (eApiPacket x17), .d (eApiPacket x20)] [eApiPacket x17, eApiPacket x20] (by kernel_rfl) (by kernel_rfl) (by kernel_rfl) (by kernel_rfl) rfl) <| .a 2 <| .nil _) ?_
          refine SP.ret ?_
          rw [← Option.some.inj h]
          exact ⟨[.d ((eL eApiPacket) [x17, x20]), .d (eI 0)], [], ⟨resV_tmp (by kernel_rfl), resV_tmp (by kernel_rfl), trivial⟩, by kernel_rfl, by kernel_rfl, by kernel_rfl⟩
        · replace h := of_bif_false hb14 h
          refine SP.rg <| .a 2 <| .nil ?_
          refine SP.cond (p1_d.Kind == 4) (by kernel_rfl) (fun hb21 => ?_) (fun hb21 => ?_)
          · replace h := of_bif_true hb21 h
            obtain ⟨x22, hx22, h⟩ := of_bind h
            obtain ⟨x23, hx23, h⟩ := of_bind h
            refine SP.dseq (by kernel_rfl) (by kernel_rfl) (by kernel_rfl) (.a 6 <| .call (event_Sign_ok p1_d.Event p0_s.Name x22 hx22) ent17 <| .call (evil_transaction_ok p0_s p1_d x22 x23 hx23) ent16 <| .p (ok_lits el25 zero57 (by kernel_rfl) (by kernel_rfl) (Nat.le_of_ble_eq_true (by kernel_rfl)) [.d (eApiPacket x23)] [eApiPacket x23] (by kernel_rfl) (by kernel_rfl) (by kernel_rfl) (by kernel_rfl) rfl) <| .a 2 <| .nil _) ?_
            refine SP.ret ?_
            rw [← Option.some.inj h]
            exact ⟨[.d ((eL eApiPacket) [x23]), .d (eI 0)], [], ⟨resV_tmp (by kernel_rfl), resV_tmp (by kernel_rfl), trivial⟩, by kernel_rfl, by kernel_rfl, by kernel_rfl⟩
          · replace h := of_bif_false hb21 h
            refine SP.rg <| .a 2 <| .nil ?_
            refine SP.cond (p1_d.Kind == 6) (by kernel_rfl) (fun hb24 => ?_) (fun hb24 => ?_)
            · replace h := of_bif_true hb24 h
              refine SP.rg <| .a 4 <| .nil ?_
              obtain ⟨x25, hx25, h⟩ := of_bind h
              refine SP.rg <| .a 1 <| .call (event_Hash_ok p1_d.Event x25 hx25) ent22 <| .a 2 <| .nil ?_
              obtain ⟨x26, hx26, h⟩ := of_bind h
              refine SP.rg <| .a 1 <| .call (event_IdOf_ok ({ p1_d.Event with Hash := x25 }) x26 hx26) ent20 <| .a 2 <| .nil ?_
              refine SP.rg <| .a 3 <| .nil ?_
              refine SP.rg <| .a 7 <| .p (ok_lits el52 zero43 (by kernel_rfl) (by kernel_rfl) (Nat.le_of_ble_eq_true (by kernel_rfl)) [.d (eApiEvent ({ { { p1_d.Event with Hash := x25 } with Id := x26 } with Sig := zApiSig }))] [eApiEvent ({ { { p1_d.Event with Hash := x25 } with Id := x26 } with Sig := zApiSig })] (by kernel_rfl) (by kernel_rfl) (by kernel_rfl) (by kernel_rfl) rfl) <| .a 1 <| .p (ok_lits el25 zero57 (by kernel_rfl) (by kernel_rfl) (Nat.le_of_ble_eq_true (by kernel_rfl)) [.d (eApiPacket ({ zApiPacket with From := p0_s.Name, To := p1_d.To, Kind := 8, Room := ({ { { p1_d.Event with Hash := x25 } with Id := x26 } with Sig := zApiSig }).Room, Events := [{ { { p1_d.Event with Hash := x25 } with Id := x26 } with Sig := zApiSig }] }))] [eApiPacket ({ zApiPacket with From := p0_s.Name, To := p1_d.To, Kind := 8, Room := ({ { { p1_d.Event with Hash := x25 } with Id := x26 } with Sig := zApiSig }).Room, Events := [{ { { p1_d.Event with Hash := x25 } with Id := x26 } with Sig := zApiSig }] })] (by kernel_rfl) (by kernel_rfl) (by kernel_rfl) (by kernel_rfl) rfl) <| .a 2 <| .nil ?_
              refine SP.ret ?_
              rw [← Option.some.inj h]
              exact ⟨[.d ((eL eApiPacket) ([{ zApiPacket with From := p0_s.Name, To := p1_d.To, Kind := 8, Room := ({ { { p1_d.Event with Hash := x25 } with Id := x26 } with Sig := zApiSig }).Room, Events := [{ { { p1_d.Event with Hash := x25 } with Id := x26 } with Sig := zApiSig }] }])), .d (eI 0)], [], ⟨resV_tmp (by kernel_rfl), resV_tmp (by kernel_rfl), trivial⟩, by kernel_rfl, by kernel_rfl, by kernel_rfl⟩
            · replace h := of_bif_false hb24 h
              refine SP.skip ?_
              refine SP.rg <| .a 2 <| .nil ?_
              refine SP.ret ?_
              rw [← Option.some.inj h]
              exact ⟨[.d ((eL eApiPacket) []), .d (eI 0)], [], ⟨resV_tmp (by kernel_rfl), resV_tmp (by kernel_rfl), trivial⟩, by kernel_rfl, by kernel_rfl, by kernel_rfl⟩

-- fedchat/fedchatref02.letter
def R02_letter (p0_c : Int) : Option Bool := (bif decide (p0_c ≥ 97) then some (decide (p0_c ≤ 122)) else some false).bind fun x1 => (bif x1 then some true else (bif decide (p0_c ≥ 48) then some (decide (p0_c ≤ 57)) else some false).bind fun x5 => some x5).bind fun x3 => some x3
theorem R02_letter_ok (p0_c : Int) (r : Bool) (h : R02_letter p0_c = some r) : Runs Tryz.prog 82 [.d (eU8 p0_c)] [] (.d (eB r)) [] := by
  refine Runs.of_fin Tryz.func82 rfl ?_
  unfold R02_letter at h
  refine SP.rg <| .a 1 <| .nil ?_
  refine SP.rg <| .a 2 <| ?_
  obtain ⟨x1, hx1, h⟩ := of_bind h
  refine .merge 4 [5, 6, 7] 8 (.d (eB x1)) ?_ ?_
  · replace h := hx1
    rcases Bool.eq_false_or_eq_true (decide (p0_c ≥ 97)) with hb2 | hb2
    · replace h := of_bif_true hb2 h
      refine .c (congrArg some hb2) <| .a 3 <| .nil ?_
      obtain rfl := Option.some.inj h
      kernel_rfl
    · replace h := of_bif_false hb2 h
      refine .c (congrArg some hb2) <| .a 3 <| .nil ?_
      obtain rfl := Option.some.inj h
      kernel_rfl
  refine .a 1 <| ?_
  obtain ⟨x3, hx3, h⟩ := of_bind h
  refine .merge 7 [10, 11, 12, 13, 14, 15] 16 (.d (eB x3)) ?_ ?_
  · replace h := hx3
    cases x1 with
    | true =>
      replace h := of_bif_true rfl h
      refine .a 7 <| .nil ?_
      obtain rfl := Option.some.inj h
      kernel_rfl
    | false =>
      replace h := of_bif_false rfl h
      refine .a 2 <| ?_
      obtain ⟨x5, hx5, h⟩ := of_bind h
      refine .merge 4 [12, 13, 14] 15 (.d (eB x5)) ?_ ?_
      · replace h := hx5
        rcases Bool.eq_false_or_eq_true (decide (p0_c ≥ 48)) with hb6 | hb6
        · replace h := of_bif_true hb6 h
          refine .c (congrArg some hb6) <| .a 3 <| .nil ?_
          obtain rfl := Option.some.inj h
          kernel_rfl
        · replace h := of_bif_false hb6 h
          refine .c (congrArg some hb6) <| .a 3 <| .nil ?_
          obtain rfl := Option.some.inj h
          kernel_rfl
      refine .a 1 <| .nil ?_
      obtain rfl := Option.some.inj h
      kernel_rfl
  refine .a 1 <| .nil ?_
  refine SP.ret ?_
  rw [← Option.some.inj h]
  exact ⟨[.d (eB x3)], [], ⟨resV_tmp (by kernel_rfl), trivial⟩, by kernel_rfl, by kernel_rfl, by kernel_rfl⟩

-- fedchat/fedchatref02.Server
def R02_Server_S1 (p0_s : ByteArray) (v12 : Int) : St := ⟨shp 50 [(0, .d (eS p0_s)), (3, .d (eI v12))], [], 0⟩
def R02_Server_B1 (p0_s : ByteArray) (k13 : (Int → Option Int)) : Int → Option Int := fun v12 => (bif decide (v12 < (p0_s.size : Int)) then (gByte p0_s v12).bind fun x15 => (R02_letter x15).bind fun x16 => (bif (!x16) then (gByte p0_s v12).bind fun x19 => some (x19 != 46) else some false).bind fun x17 => (bif x17 then (gByte p0_s v12).bind fun x22 => some (x22 != 45) else some false).bind fun x20 => (bif x20 then some 3 else k13 (IntKind.i64.wrap (v12 + 1))) else some 0)
def R02_Server_L1 (p0_s : ByteArray) : Int → Option Int := loop1 (R02_Server_B1 p0_s) fuel
def R02_Server (p0_s : ByteArray) : Option Int := (bif decide ((p0_s.size : Int) < 1) then some true else some (decide ((p0_s.size : Int) > 32))).bind fun x1 => (bif x1 then some true else (gByte p0_s 0).bind fun x5 => (R02_letter x5).bind fun x6 => some (!x6)).bind fun x3 => (bif x3 then some true else (gByte p0_s (IntKind.i64.wrap ((p0_s.size : Int) - 1))).bind fun x9 => (R02_letter x9).bind fun x10 => some (!x10)).bind fun x7 => (bif x7 then some 3 else R02_Server_L1 p0_s 0)
theorem R02_Server_ok (p0_s : ByteArray) (r : Int) (h : R02_Server p0_s = some r) : Runs Tryz.prog 44 [.d (eS p0_s)] [] (.d (eI r)) [] := by
  refine Runs.of_fin Tryz.func44 rfl ?_
  unfold R02_Server at h
  refine SP.rg <| .a 1 <| .nil ?_
  refine SP.seqc ?_
  refine SP.rg <| .a 3 <| ?_
  obtain ⟨x1, hx1, h⟩ := of_bind h
  refine .merge 5 [7, 8, 9, 10] 11 (.d (eB x1)) ?_ ?_
  · replace h := hx1
    rcases Bool.eq_false_or_eq_true (decide ((p0_s.size : Int) < 1)) with hb2 | hb2
    · replace h := of_bif_true hb2 h
      refine .c (congrArg some hb2) <| .a 4 <| .nil ?_
      obtain rfl := Option.some.inj h
      kernel_rfl
    · replace h := of_bif_false hb2 h
      refine .c (congrArg some hb2) <| .a 4 <| .nil ?_
      obtain rfl := Option.some.inj h
      kernel_rfl
  refine .a 1 <| ?_
  obtain ⟨x3, hx3, h⟩ := of_bind h
  refine .merge 5 [13, 14, 15, 16] 17 (.d (eB x3)) ?_ ?_
  · replace h := hx3
    cases x1 with
    | true =>
      replace h := of_bif_true rfl h
      refine .a 5 <| .nil ?_
      obtain rfl := Option.some.inj h
      kernel_rfl
    | false =>
      replace h := of_bif_false rfl h
      obtain ⟨x5, hx5, h⟩ := of_bind h
      obtain ⟨x6, hx6, h⟩ := of_bind h
      refine .a 1 <| .p (ok_byteT (k := .i64) hx5 und9 rfl) <| .call (R02_letter_ok x5 x6 hx6) ent82 <| .a 2 <| .nil ?_
      obtain rfl := Option.some.inj h
      kernel_rfl
  refine .a 1 <| ?_
  obtain ⟨x7, hx7, h⟩ := of_bind h
  refine .merge 8 [19, 20, 21, 22, 23, 24, 25] 26 (.d (eB x7)) ?_ ?_
  · replace h := hx7
    cases x3 with
    | true =>
      replace h := of_bif_true rfl h
      refine .a 8 <| .nil ?_
      obtain rfl := Option.some.inj h
      kernel_rfl
    | false =>
      replace h := of_bif_false rfl h
      obtain ⟨x9, hx9, h⟩ := of_bind h
      obtain ⟨x10, hx10, h⟩ := of_bind h
      refine .a 4 <| .p (ok_byteT (k := .i64) hx9 und9 rfl) <| .call (R02_letter_ok x9 x10 hx10) ent82 <| .a 2 <| .nil ?_
      obtain rfl := Option.some.inj h
      kernel_rfl
  refine .nil ?_
  refine SP.cond x7 (by kernel_rfl) (fun hb11 => ?_) (fun hb11 => ?_)
  · replace h := of_bif_true hb11 h
    refine SP.rg <| .a 1 <| .nil ?_
    refine SP.ret ?_
    rw [← Option.some.inj h]
    exact ⟨[.d (eI 3)], [], ⟨resV_tmp (by kernel_rfl), trivial⟩, by kernel_rfl, by kernel_rfl, by kernel_rfl⟩
  · replace h := of_bif_false hb11 h
    refine SP.skip ?_
    refine SP.seqc ?_
    refine SP.rg <| .a 1 <| .nil ?_
    refine SP.block ?_
    refine SP.loop1 (R02_Server_S1 p0_s) (R02_Server_B1 p0_s) r 0 (sub_of (mk 50 9) []) h ?_
    clear h
    intro J24 k13 hk13 v12 h
    unfold R02_Server_B1 at h
    refine SP.seqc ?_
    refine SP.rg <| .a 4 <| .nil ?_
    refine SP.cond (decide (v12 < (p0_s.size : Int))) (by kernel_rfl) (fun hb14 => ?_) (fun hb14 => ?_)
    · replace h := of_bif_true hb14 h
      refine SP.skip ?_
      refine SP.seqc ?_
      refine SP.block ?_
      obtain ⟨x15, hx15, h⟩ := of_bind h
      obtain ⟨x16, hx16, h⟩ := of_bind h
      refine SP.rg <| .a 2 <| .p (ok_byteT (k := .i64) hx15 und9 rfl) <| .call (R02_letter_ok x15 x16 hx16) ent82 <| .a 1 <| ?_
      obtain ⟨x17, hx17, h⟩ := of_bind h
      refine .merge 6 [38, 39, 40, 41, 42] 43 (.d (eB x17)) ?_ ?_
      · replace h := hx17
        rcases Bool.eq_false_or_eq_true (!x16) with hb18 | hb18
        · replace h := of_bif_true hb18 h
          obtain ⟨x19, hx19, h⟩ := of_bind h
          refine .c (congrArg some hb18) <| .a 2 <| .p (ok_byteT (k := .i64) hx19 und9 rfl) <| .a 2 <| .nil ?_
          obtain rfl := Option.some.inj h
          kernel_rfl
        · replace h := of_bif_false hb18 h
          refine .c (congrArg some hb18) <| .a 5 <| .nil ?_
          obtain rfl := Option.some.inj h
          kernel_rfl
      refine .a 1 <| ?_
      obtain ⟨x20, hx20, h⟩ := of_bind h
      refine .merge 5 [45, 46, 47, 48] 49 (.d (eB x20)) ?_ ?_
      · replace h := hx20
        cases x17 with
        | true =>
          replace h := of_bif_true rfl h
          obtain ⟨x22, hx22, h⟩ := of_bind h
          refine .a 2 <| .p (ok_byteT (k := .i64) hx22 und9 rfl) <| .a 2 <| .nil ?_
          obtain rfl := Option.some.inj h
          kernel_rfl
        | false =>
          replace h := of_bif_false rfl h
          refine .a 5 <| .nil ?_
          obtain rfl := Option.some.inj h
          kernel_rfl
      refine .nil ?_
      refine SP.cond x20 (by kernel_rfl) (fun hb23 => ?_) (fun hb23 => ?_)
      · replace h := of_bif_true hb23 h
        refine SP.rg <| .a 1 <| .nil ?_
        refine SP.ret ?_
        rw [← Option.some.inj h]
        exact ⟨[.d (eI 3)], [], ⟨resV_tmp (by kernel_rfl), trivial⟩, by kernel_rfl, by kernel_rfl, by kernel_rfl⟩
      · replace h := of_bif_false hb23 h
        refine SP.skip ?_
        refine SP.rgn <| .a 3 <| .nil ?_
        exact hk13 _ (IntKind.i64.wrap (v12 + 1)) (sub_of (mk 50 9) []) h
    · replace h := of_bif_false hb14 h
      refine SP.exit ?_
      refine SP.rg <| .a 1 <| .nil ?_
      refine SP.ret ?_
      rw [← Option.some.inj h]
      exact ⟨[.d (eI 0)], [], ⟨resV_tmp (by kernel_rfl), trivial⟩, by kernel_rfl, by kernel_rfl, by kernel_rfl⟩

-- fedchat/fedchatref33.Right
def R33_Right (p0_s : ApiServer) (p1_d : ApiDeed) : Option Int := (bif decide (p1_d.Kind < 1) then some true else some (decide (p1_d.Kind > 6))).bind fun x1 => (bif x1 then some 2 else (R02_Server p1_d.To).bind fun x4 => (bif (x4 != 0) then some 3 else (bif (p1_d.To.toList == p0_s.Name.toList) then some 1 else some 0)))
theorem R33_Right_ok (p0_s : ApiServer) (p1_d : ApiDeed) (r : Int) (h : R33_Right p0_s p1_d = some r) : Runs Tryz.prog 23 [.d (eApiServer p0_s), .d (eApiDeed p1_d)] [] (.d (eI r)) [] := by
  refine Runs.of_fin Tryz.func23 rfl ?_
  unfold R33_Right at h
  refine SP.rg <| .a 3 <| .nil ?_
  refine SP.seqc ?_
  refine SP.rg <| .a 3 <| ?_
  obtain ⟨x1, hx1, h⟩ := of_bind h
  refine .merge 5 [8, 9, 10, 11] 12 (.d (eB x1)) ?_ ?_
  · replace h := hx1
    rcases Bool.eq_false_or_eq_true (decide (p1_d.Kind < 1)) with hb2 | hb2
    · replace h := of_bif_true hb2 h
      refine .c (congrArg some hb2) <| .a 4 <| .nil ?_
      obtain rfl := Option.some.inj h
      kernel_rfl
    · replace h := of_bif_false hb2 h
      refine .c (congrArg some hb2) <| .a 4 <| .nil ?_
      obtain rfl := Option.some.inj h
      kernel_rfl
  refine .nil ?_
  refine SP.cond x1 (by kernel_rfl) (fun hb3 => ?_) (fun hb3 => ?_)
  · replace h := of_bif_true hb3 h
    refine SP.rg <| .a 1 <| .nil ?_
    refine SP.ret ?_
    rw [← Option.some.inj h]
    exact ⟨[.d (eI 2)], [], ⟨resV_tmp (by kernel_rfl), trivial⟩, by kernel_rfl, by kernel_rfl, by kernel_rfl⟩
  · replace h := of_bif_false hb3 h
    refine SP.skip ?_
    refine SP.seqc ?_
    obtain ⟨x4, hx4, h⟩ := of_bind h
    refine SP.rg <| .a 2 <| .call (R02_Server_ok p1_d.To x4 hx4) ent44 <| .a 1 <| .nil ?_
    refine SP.cond (x4 != 0) (by kernel_rfl) (fun hb5 => ?_) (fun hb5 => ?_)
    · replace h := of_bif_true hb5 h
      refine SP.rg <| .a 1 <| .nil ?_
      refine SP.ret ?_
      rw [← Option.some.inj h]
      exact ⟨[.d (eI 3)], [], ⟨resV_tmp (by kernel_rfl), trivial⟩, by kernel_rfl, by kernel_rfl, by kernel_rfl⟩
    · replace h := of_bif_false hb5 h
      refine SP.skip ?_
      refine SP.seqc ?_
      refine SP.rg <| .a 5 <| .nil ?_
      refine SP.cond (p1_d.To.toList == p0_s.Name.toList) (by kernel_rfl) (fun hb6 => ?_) (fun hb6 => ?_)
      · replace h := of_bif_true hb6 h
        refine SP.rg <| .a 1 <| .nil ?_
        refine SP.ret ?_
        rw [← Option.some.inj h]
        exact ⟨[.d (eI 1)], [], ⟨resV_tmp (by kernel_rfl), trivial⟩, by kernel_rfl, by kernel_rfl, by kernel_rfl⟩
      · replace h := of_bif_false hb6 h
        refine SP.skip ?_
        refine SP.rg <| .a 1 <| .nil ?_
        refine SP.ret ?_
        rw [← Option.some.inj h]
        exact ⟨[.d (eI 0)], [], ⟨resV_tmp (by kernel_rfl), trivial⟩, by kernel_rfl, by kernel_rfl, by kernel_rfl⟩

-- fedchat/fedchatref02.colon
def R02_colon_S1 (p0_s : ByteArray) (v1 : Int) : St := ⟨shp 17 [(0, .d (eS p0_s)), (3, .d (eI v1))], [], 0⟩
def R02_colon_B1 (p0_s : ByteArray) (k2 : (Int → Option Int)) : Int → Option Int := fun v1 => (bif decide (v1 < (p0_s.size : Int)) then (gByte p0_s v1).bind fun x5 => some (x5 != 58) else some false).bind fun x3 => (bif x3 then k2 (IntKind.i64.wrap (v1 + 1)) else some v1)
def R02_colon_L1 (p0_s : ByteArray) : Int → Option Int := loop1 (R02_colon_B1 p0_s) fuel
def R02_colon (p0_s : ByteArray) : Option Int := R02_colon_L1 p0_s 0
theorem R02_colon_ok (p0_s : ByteArray) (r : Int) (h : R02_colon p0_s = some r) : Runs Tryz.prog 49 [.d (eS p0_s)] [] (.d (eI r)) [] := by
  refine Runs.of_fin Tryz.func49 rfl ?_
  unfold R02_colon at h
  refine SP.rg <| .a 1 <| .nil ?_
  refine SP.rg <| .a 1 <| .nil ?_
  refine SP.seqc ?_
  refine SP.block ?_
  refine SP.loop1 (R02_colon_S1 p0_s) (R02_colon_B1 p0_s) r 0 (sub_of (mk 17 9) []) h ?_
  clear h
  intro J7 k2 hk2 v1 h
  unfold R02_colon_B1 at h
  refine SP.seqc ?_
  refine SP.rg <| .a 4 <| ?_
  obtain ⟨x3, hx3, h⟩ := of_bind h
  refine .merge 6 [8, 9, 10, 11, 12] 13 (.d (eB x3)) ?_ ?_
  · replace h := hx3
    rcases Bool.eq_false_or_eq_true (decide (v1 < (p0_s.size : Int))) with hb4 | hb4
    · replace h := of_bif_true hb4 h
      obtain ⟨x5, hx5, h⟩ := of_bind h
      refine .c (congrArg some hb4) <| .a 2 <| .p (ok_byteT (k := .i64) hx5 und9 rfl) <| .a 2 <| .nil ?_
      obtain rfl := Option.some.inj h
      kernel_rfl
    · replace h := of_bif_false hb4 h
      refine .c (congrArg some hb4) <| .a 5 <| .nil ?_
      obtain rfl := Option.some.inj h
      kernel_rfl
  refine .nil ?_
  refine SP.cond x3 (by kernel_rfl) (fun hb6 => ?_) (fun hb6 => ?_)
  · replace h := of_bif_true hb6 h
    refine SP.skip ?_
    refine SP.block ?_
    refine SP.rgn <| .a 3 <| .nil ?_
    exact hk2 _ (IntKind.i64.wrap (v1 + 1)) (sub_of (mk 17 9) []) h
  · replace h := of_bif_false hb6 h
    refine SP.exit ?_
    refine SP.rg <| .a 2 <| .nil ?_
    refine SP.ret ?_
    rw [← Option.some.inj h]
    exact ⟨[.d (eI v1)], [], ⟨resV_tmp (by kernel_rfl), trivial⟩, by kernel_rfl, by kernel_rfl, by kernel_rfl⟩

-- fedchat/fedchatref02.Local
def R02_Local_S1 (p0_s : ByteArray) (v1 : Int) : St := ⟨shp 47 [(0, .d (eS p0_s)), (3, .d (eI v1))], [], 0⟩
def R02_Local_B1 (p0_s : ByteArray) (k2 : (Int → Option Bool)) : Int → Option Bool := fun v1 => (bif decide (v1 < (p0_s.size : Int)) then (gByte p0_s v1).bind fun x4 => (R02_letter x4).bind fun x5 => (bif (!x5) then (gByte p0_s v1).bind fun x8 => some (x8 != 95) else some false).bind fun x6 => (bif x6 then (gByte p0_s v1).bind fun x11 => some (x11 != 46) else some false).bind fun x9 => (bif x9 then (gByte p0_s v1).bind fun x14 => some (x14 != 45) else some false).bind fun x12 => (bif x12 then (gByte p0_s v1).bind fun x17 => some (x17 != 61) else some false).bind fun x15 => (bif x15 then some false else k2 (IntKind.i64.wrap (v1 + 1))) else (bif decide ((p0_s.size : Int) ≥ 1) then some (decide ((p0_s.size : Int) ≤ 32)) else some false).bind fun x19 => some x19)
def R02_Local_L1 (p0_s : ByteArray) : Int → Option Bool := loop1 (R02_Local_B1 p0_s) fuel
def R02_Local (p0_s : ByteArray) : Option Bool := R02_Local_L1 p0_s 0
theorem R02_Local_ok (p0_s : ByteArray) (r : Bool) (h : R02_Local p0_s = some r) : Runs Tryz.prog 84 [.d (eS p0_s)] [] (.d (eB r)) [] := by
  refine Runs.of_fin Tryz.func84 rfl ?_
  unfold R02_Local at h
  refine SP.rg <| .a 1 <| .nil ?_
  refine SP.seqc ?_
  refine SP.rg <| .a 1 <| .nil ?_
  refine SP.block ?_
  refine SP.loop1 (R02_Local_S1 p0_s) (R02_Local_B1 p0_s) r 0 (sub_of (mk 47 9) []) h ?_
  clear h
  intro J21 k2 hk2 v1 h
  unfold R02_Local_B1 at h
  refine SP.seqc ?_
  refine SP.rg <| .a 4 <| .nil ?_
  refine SP.cond (decide (v1 < (p0_s.size : Int))) (by kernel_rfl) (fun hb3 => ?_) (fun hb3 => ?_)
  · replace h := of_bif_true hb3 h
    refine SP.skip ?_
    refine SP.seqc ?_
    refine SP.block ?_
    obtain ⟨x4, hx4, h⟩ := of_bind h
    obtain ⟨x5, hx5, h⟩ := of_bind h
    refine SP.rg <| .a 2 <| .p (ok_byteT (k := .i64) hx4 und9 rfl) <| .call (R02_letter_ok x4 x5 hx5) ent82 <| .a 1 <| ?_
    obtain ⟨x6, hx6, h⟩ := of_bind h
    refine .merge 6 [15, 16, 17, 18, 19] 20 (.d (eB x6)) ?_ ?_
    · replace h := hx6
      rcases Bool.eq_false_or_eq_true (!x5) with hb7 | hb7
      · replace h := of_bif_true hb7 h
        obtain ⟨x8, hx8, h⟩ := of_bind h
        refine .c (congrArg some hb7) <| .a 2 <| .p (ok_byteT (k := .i64) hx8 und9 rfl) <| .a 2 <| .nil ?_
        obtain rfl := Option.some.inj h
        kernel_rfl
      · replace h := of_bif_false hb7 h
        refine .c (congrArg some hb7) <| .a 5 <| .nil ?_
        obtain rfl := Option.some.inj h
        kernel_rfl
    refine .a 1 <| ?_
    obtain ⟨x9, hx9, h⟩ := of_bind h
    refine .merge 5 [22, 23, 24, 25] 26 (.d (eB x9)) ?_ ?_
    · replace h := hx9
      cases x6 with
      | true =>
        replace h := of_bif_true rfl h
        obtain ⟨x11, hx11, h⟩ := of_bind h
        refine .a 2 <| .p (ok_byteT (k := .i64) hx11 und9 rfl) <| .a 2 <| .nil ?_
        obtain rfl := Option.some.inj h
        kernel_rfl
      | false =>
        replace h := of_bif_false rfl h
        refine .a 5 <| .nil ?_
        obtain rfl := Option.some.inj h
        kernel_rfl
    refine .a 1 <| ?_
    obtain ⟨x12, hx12, h⟩ := of_bind h
    refine .merge 5 [28, 29, 30, 31] 32 (.d (eB x12)) ?_ ?_
    · replace h := hx12
      cases x9 with
      | true =>
        replace h := of_bif_true rfl h
        obtain ⟨x14, hx14, h⟩ := of_bind h
        refine .a 2 <| .p (ok_byteT (k := .i64) hx14 und9 rfl) <| .a 2 <| .nil ?_
        obtain rfl := Option.some.inj h
        kernel_rfl
      | false =>
        replace h := of_bif_false rfl h
        refine .a 5 <| .nil ?_
        obtain rfl := Option.some.inj h
        kernel_rfl
    refine .a 1 <| ?_
    obtain ⟨x15, hx15, h⟩ := of_bind h
    refine .merge 5 [34, 35, 36, 37] 38 (.d (eB x15)) ?_ ?_
    · replace h := hx15
      cases x12 with
      | true =>
        replace h := of_bif_true rfl h
        obtain ⟨x17, hx17, h⟩ := of_bind h
        refine .a 2 <| .p (ok_byteT (k := .i64) hx17 und9 rfl) <| .a 2 <| .nil ?_
        obtain rfl := Option.some.inj h
        kernel_rfl
      | false =>
        replace h := of_bif_false rfl h
        refine .a 5 <| .nil ?_
        obtain rfl := Option.some.inj h
        kernel_rfl
    refine .nil ?_
    refine SP.cond x15 (by kernel_rfl) (fun hb18 => ?_) (fun hb18 => ?_)
    · replace h := of_bif_true hb18 h
      refine SP.rg <| .a 1 <| .nil ?_
      refine SP.ret ?_
      rw [← Option.some.inj h]
      exact ⟨[.d (eB false)], [], ⟨resV_tmp (by kernel_rfl), trivial⟩, by kernel_rfl, by kernel_rfl, by kernel_rfl⟩
    · replace h := of_bif_false hb18 h
      refine SP.skip ?_
      refine SP.rgn <| .a 3 <| .nil ?_
      exact hk2 _ (IntKind.i64.wrap (v1 + 1)) (sub_of (mk 47 9) []) h
  · replace h := of_bif_false hb3 h
    refine SP.exit ?_
    refine SP.rg <| .a 3 <| ?_
    obtain ⟨x19, hx19, h⟩ := of_bind h
    refine .merge 5 [42, 43, 44, 45] 46 (.d (eB x19)) ?_ ?_
    · replace h := hx19
      rcases Bool.eq_false_or_eq_true (decide ((p0_s.size : Int) ≥ 1)) with hb20 | hb20
      · replace h := of_bif_true hb20 h
        refine .c (congrArg some hb20) <| .a 4 <| .nil ?_
        obtain rfl := Option.some.inj h
        kernel_rfl
      · replace h := of_bif_false hb20 h
        refine .c (congrArg some hb20) <| .a 4 <| .nil ?_
        obtain rfl := Option.some.inj h
        kernel_rfl
    refine .a 1 <| .nil ?_
    refine SP.ret ?_
    rw [← Option.some.inj h]
    exact ⟨[.d (eB x19)], [], ⟨resV_tmp (by kernel_rfl), trivial⟩, by kernel_rfl, by kernel_rfl, by kernel_rfl⟩

-- fedchat/fedchatref02.marked
def R02_marked (p0_s : ByteArray) (p1_mark : Int) : Option Bool := (bif decide ((p0_s.size : Int) < 1) then some true else (gByte p0_s 0).bind fun x3 => some (x3 != p1_mark)).bind fun x1 => (bif x1 then some false else (R02_colon p0_s).bind fun x5 => (bif decide (x5 < (p0_s.size : Int)) then (gStr p0_s 1 x5).bind fun x8 => (R02_Local x8).bind fun x9 => some x9 else some false).bind fun x6 => (bif x6 then (gStr p0_s (IntKind.i64.wrap (x5 + 1)) ((p0_s).size)).bind fun x12 => (R02_Server x12).bind fun x13 => some (x13 == 0) else some false).bind fun x10 => some x10)
theorem R02_marked_ok (p0_s : ByteArray) (p1_mark : Int) (r : Bool) (h : R02_marked p0_s p1_mark = some r) : Runs Tryz.prog 48 [.d (eS p0_s), .d (eU8 p1_mark)] [] (.d (eB r)) [] := by
  refine Runs.of_fin Tryz.func48 rfl ?_
  unfold R02_marked at h
  refine SP.rg <| .a 1 <| .nil ?_
  refine SP.seqc ?_
  refine SP.rg <| .a 3 <| ?_
  obtain ⟨x1, hx1, h⟩ := of_bind h
  refine .merge 6 [9, 10, 11, 12, 13] 14 (.d (eB x1)) ?_ ?_
  · replace h := hx1
    rcases Bool.eq_false_or_eq_true (decide ((p0_s.size : Int) < 1)) with hb2 | hb2
    · replace h := of_bif_true hb2 h
      refine .c (congrArg some hb2) <| .a 5 <| .nil ?_
      obtain rfl := Option.some.inj h
      kernel_rfl
    · replace h := of_bif_false hb2 h
      obtain ⟨x3, hx3, h⟩ := of_bind h
      refine .c (congrArg some hb2) <| .a 1 <| .p (ok_byteT (k := .i64) hx3 und9 rfl) <| .a 3 <| .nil ?_
      obtain rfl := Option.some.inj h
      kernel_rfl
  refine .nil ?_
  refine SP.cond x1 (by kernel_rfl) (fun hb4 => ?_) (fun hb4 => ?_)
  · replace h := of_bif_true hb4 h
    refine SP.rg <| .a 1 <| .nil ?_
    refine SP.ret ?_
    rw [← Option.some.inj h]
    exact ⟨[.d (eB false)], [], ⟨resV_tmp (by kernel_rfl), trivial⟩, by kernel_rfl, by kernel_rfl, by kernel_rfl⟩
  · replace h := of_bif_false hb4 h
    refine SP.skip ?_
    obtain ⟨x5, hx5, h⟩ := of_bind h
    refine SP.rg <| .a 1 <| .call (R02_colon_ok p0_s x5 hx5) ent49 <| .a 1 <| .nil ?_
    refine SP.rg <| .a 4 <| ?_
    obtain ⟨x6, hx6, h⟩ := of_bind h
    refine .merge 6 [21, 22, 23, 24, 25] 26 (.d (eB x6)) ?_ ?_
    · replace h := hx6
      rcases Bool.eq_false_or_eq_true (decide (x5 < (p0_s.size : Int))) with hb7 | hb7
      · replace h := of_bif_true hb7 h
        obtain ⟨x8, hx8, h⟩ := of_bind h
        obtain ⟨x9, hx9, h⟩ := of_bind h
        refine .c (congrArg some hb7) <| .a 2 <| .p (ok_strT hx8 (by intro hh; cases hh) (by intro hh; cases hh) und9 rfl) <| .call (R02_Local_ok x8 x9 hx9) ent84 <| .a 1 <| .nil ?_
        obtain rfl := Option.some.inj h
        kernel_rfl
      · replace h := of_bif_false hb7 h
        refine .c (congrArg some hb7) <| .a 5 <| .nil ?_
        obtain rfl := Option.some.inj h
        kernel_rfl
    refine .a 1 <| ?_
    obtain ⟨x10, hx10, h⟩ := of_bind h
    refine .merge 7 [28, 29, 30, 31, 32, 33] 34 (.d (eB x10)) ?_ ?_
    · replace h := hx10
      cases x6 with
      | true =>
        replace h := of_bif_true rfl h
        obtain ⟨x12, hx12, h⟩ := of_bind h
        obtain ⟨x13, hx13, h⟩ := of_bind h
        refine .a 3 <| .p (ok_strT hx12 (by intro hh; cases hh) (fun _ => rfl) und9 rfl) <| .call (R02_Server_ok x12 x13 hx13) ent44 <| .a 2 <| .nil ?_
        obtain rfl := Option.some.inj h
        kernel_rfl
      | false =>
        replace h := of_bif_false rfl h
        refine .a 7 <| .nil ?_
        obtain rfl := Option.some.inj h
        kernel_rfl
    refine .a 1 <| .nil ?_
    refine SP.ret ?_
    rw [← Option.some.inj h]
    exact ⟨[.d (eB x10)], [], ⟨resV_tmp (by kernel_rfl), trivial⟩, by kernel_rfl, by kernel_rfl, by kernel_rfl⟩

-- fedchat/fedchatref02.LocalOf
def R02_LocalOf (p0_id : ByteArray) : Option ByteArray := (R02_marked p0_id 64).bind fun x1 => (bif (!x1) then (R02_marked p0_id 33).bind fun x4 => some (!x4) else some false).bind fun x2 => (bif x2 then some s0 else (R02_colon p0_id).bind fun x6 => (gStr p0_id 1 x6).bind fun x7 => some x7)
theorem R02_LocalOf_ok (p0_id : ByteArray) (r : ByteArray) (h : R02_LocalOf p0_id = some r) : Runs Tryz.prog 46 [.d (eS p0_id)] [] (.d (eS r)) [] := by
  refine Runs.of_fin Tryz.func46 rfl ?_
  unfold R02_LocalOf at h
  refine SP.rg <| .a 1 <| .nil ?_
  refine SP.seqc ?_
  obtain ⟨x1, hx1, h⟩ := of_bind h
  refine SP.rg <| .a 1 <| .call (R02_marked_ok p0_id 64 x1 hx1) ent48 <| .a 1 <| ?_
  obtain ⟨x2, hx2, h⟩ := of_bind h
  refine .merge 5 [6, 7, 8, 9] 10 (.d (eB x2)) ?_ ?_
  · replace h := hx2
    rcases Bool.eq_false_or_eq_true (!x1) with hb3 | hb3
    · replace h := of_bif_true hb3 h
      obtain ⟨x4, hx4, h⟩ := of_bind h
      refine .c (congrArg some hb3) <| .a 1 <| .call (R02_marked_ok p0_id 33 x4 hx4) ent48 <| .a 2 <| .nil ?_
      obtain rfl := Option.some.inj h
      kernel_rfl
    · replace h := of_bif_false hb3 h
      refine .c (congrArg some hb3) <| .a 4 <| .nil ?_
      obtain rfl := Option.some.inj h
      kernel_rfl
  refine .nil ?_
  refine SP.cond x2 (by kernel_rfl) (fun hb5 => ?_) (fun hb5 => ?_)
  · replace h := of_bif_true hb5 h
    refine SP.rg <| .a 1 <| .nil ?_
    refine SP.ret ?_
    rw [← Option.some.inj h]
    exact ⟨[.d (eS s0)], [], ⟨resV_tmp (by kernel_rfl), trivial⟩, by kernel_rfl, by kernel_rfl, by kernel_rfl⟩
  · replace h := of_bif_false hb5 h
    refine SP.skip ?_
    obtain ⟨x6, hx6, h⟩ := of_bind h
    obtain ⟨x7, hx7, h⟩ := of_bind h
    refine SP.rg <| .a 2 <| .call (R02_colon_ok p0_id x6 hx6) ent49 <| .p (ok_strT hx7 (by intro hh; cases hh) (by intro hh; cases hh) und9 rfl) <| .a 1 <| .nil ?_
    refine SP.ret ?_
    rw [← Option.some.inj h]
    exact ⟨[.d (eS x7)], [], ⟨resV_tmp (by kernel_rfl), trivial⟩, by kernel_rfl, by kernel_rfl, by kernel_rfl⟩

-- fedchat/fedchatref02.Make
def R02_Make (p0_mark : Int) (p1_local : ByteArray) (p2_server : ByteArray) : Option (ByteArray × Int) := (gCat (sOf [p0_mark]) p1_local).bind fun x1 => (gCat x1 s__3a).bind fun x2 => (gCat x2 p2_server).bind fun x3 => (R02_marked x3 64).bind fun x4 => (bif (!x4) then (R02_marked x3 33).bind fun x7 => some (!x7) else some false).bind fun x5 => (bif x5 then some (s0, 3) else some (x3, 0))
theorem R02_Make_ok (p0_mark : Int) (p1_local : ByteArray) (p2_server : ByteArray) (r : (ByteArray × Int)) (h : R02_Make p0_mark p1_local p2_server = some r) : Runs Tryz.prog 45 [.d (eU8 p0_mark), .d (eS p1_local), .d (eS p2_server)] [] (.tup [.d (eS r.1), .d (eI r.2)]) [] := by
  refine Runs.of_fin Tryz.func45 rfl ?_
  unfold R02_Make at h
  refine SP.rg <| .a 2 <| .nil ?_
  obtain ⟨x1, hx1, h⟩ := of_bind h
  obtain ⟨x2, hx2, h⟩ := of_bind h
  obtain ⟨x3, hx3, h⟩ := of_bind h
  refine SP.rg <| .a 1 <| .p (ok_lits el78 zero5 (by kernel_rfl) (by kernel_rfl) (Nat.le_of_ble_eq_true (by kernel_rfl)) [.d (eU8 p0_mark)] [eU8 p0_mark] (by kernel_rfl) (by kernel_rfl) (by kernel_rfl) (by kernel_rfl) rfl) <| .p (ok_strB (l := [p0_mark]) und78 und5 und9 rfl) <| .a 1 <| .p (ok_cat hx1 rfl) <| .p (ok_cat hx2 rfl) <| .a 1 <| .p (ok_cat hx3 rfl) <| .a 1 <| .nil ?_
  refine SP.seqc ?_
  obtain ⟨x4, hx4, h⟩ := of_bind h
  refine SP.rg <| .a 1 <| .call (R02_marked_ok x3 64 x4 hx4) ent48 <| .a 1 <| ?_
  obtain ⟨x5, hx5, h⟩ := of_bind h
  refine .merge 5 [20, 21, 22, 23] 24 (.d (eB x5)) ?_ ?_
  · replace h := hx5
    rcases Bool.eq_false_or_eq_true (!x4) with hb6 | hb6
    · replace h := of_bif_true hb6 h
      obtain ⟨x7, hx7, h⟩ := of_bind h
      refine .c (congrArg some hb6) <| .a 1 <| .call (R02_marked_ok x3 33 x7 hx7) ent48 <| .a 2 <| .nil ?_
      obtain rfl := Option.some.inj h
      kernel_rfl
    · replace h := of_bif_false hb6 h
      refine .c (congrArg some hb6) <| .a 4 <| .nil ?_
      obtain rfl := Option.some.inj h
      kernel_rfl
  refine .nil ?_
  refine SP.cond x5 (by kernel_rfl) (fun hb8 => ?_) (fun hb8 => ?_)
  · replace h := of_bif_true hb8 h
    refine SP.rg <| .a 2 <| .nil ?_
    refine SP.ret ?_
    rw [← Option.some.inj h]
    exact ⟨[.d (eS s0), .d (eI 3)], [], ⟨resV_tmp (by kernel_rfl), resV_tmp (by kernel_rfl), trivial⟩, by kernel_rfl, by kernel_rfl, by kernel_rfl⟩
  · replace h := of_bif_false hb8 h
    refine SP.skip ?_
    refine SP.rg <| .a 3 <| .nil ?_
    refine SP.ret ?_
    rw [← Option.some.inj h]
    exact ⟨[.d (eS x3), .d (eI 0)], [], ⟨resV_tmp (by kernel_rfl), resV_tmp (by kernel_rfl), trivial⟩, by kernel_rfl, by kernel_rfl, by kernel_rfl⟩

-- fedchat/fedchatref33.own
def R33_own_S1 (v3 : ApiEvent) (v4 : ApiEvent) : St := ⟨shp 20 [(2, .ptr 0 0), (4, .ptr 1 0)], [.box (dc (eApiEvent v3)), .box (dc (eApiEvent v4))], 0⟩
def R33_own_j1 (v3 : ApiEvent) (v4 : ApiEvent) : Option ApiEvent := some v3
def R33_own (p0_e : ApiEvent) (p1_server : ByteArray) : Option ApiEvent := (R02_LocalOf p0_e.Sender).bind fun x1 => (R02_Make 64 x1 p1_server).bind fun x2 => (bif (x2.2 == 0) then R33_own_j1 ({ p0_e with Sender := x2.1 }) zApiEvent else R33_own_j1 p0_e zApiEvent)
theorem R33_own_ok (p0_e : ApiEvent) (p1_server : ByteArray) (r : ApiEvent) (h : R33_own p0_e p1_server = some r) : Runs Tryz.prog 24 [.d (eApiEvent p0_e), .d (eS p1_server)] [] (.d (eApiEvent r)) [] := by
  refine Runs.of_fin Tryz.func24 rfl ?_
  unfold R33_own at h
  refine SP.rg <| .a 2 <| .nil ?_
  obtain ⟨x1, hx1, h⟩ := of_bind h
  obtain ⟨x2, hx2, h⟩ := of_bind h
  refine SP.rg <| .a 2 <| .call (R02_LocalOf_ok p0_e.Sender x1 hx1) ent46 <| .a 1 <| .call (R02_Make_ok 64 x1 p1_server x2 hx2) ent45 <| .a 5 <| .nil ?_
  refine SP.join (fun s => ∃ (v3 : ApiEvent) (v4 : ApiEvent), Sub s (R33_own_S1 v3 v4) ∧ R33_own_j1 v3 v4 = some r) ?_ ?_
  · clear h
    rintro s ⟨v3, v4, hs, h⟩
    refine SP.sub hs ?_
    clear hs
    unfold R33_own_j1 at h
    refine SP.rg <| .a 2 <| .nil ?_
    refine SP.ret ?_
    rw [← Option.some.inj h]
    exact ⟨[.d (eApiEvent v3)], [], ⟨⟨1, dc (eApiEvent v3), true, 29, by kernel_rfl, by kernel_rfl, by kernel_rfl, ty43, Nat.le_of_ble_eq_true (by kernel_rfl), (by intro hh; cases hh), by kernel_rfl⟩, trivial⟩, by kernel_rfl, by kernel_rfl, by kernel_rfl⟩
  · intro K5
    refine SP.rg <| .a 2 <| .nil ?_
    refine SP.cond (x2.2 == 0) (by kernel_rfl) (fun hb6 => ?_) (fun hb6 => ?_)
    · replace h := of_bif_true hb6 h
      refine SP.rgn <| .a 3 <| .nil ?_
      exact K5 _ ⟨({ p0_e with Sender := x2.1 }), zApiEvent, sub_of (mk 20 20) [(0, true), (1, true)], h⟩
    · replace h := of_bif_false hb6 h
      refine SP.skip ?_
      exact K5 _ ⟨p0_e, zApiEvent, sub_of (mk 20 20) [(0, true), (1, true)], h⟩

-- fedchat/fedchatref05.Int
def R05_Int_S1 (v2 : Int) : St := ⟨shp 28 [(3, .d ((eK .u64) v2))], [], 0⟩
def R05_Int_S2 (v3 : Int) (v4 : (List Int)) : St := ⟨shp 28 [(3, .d ((eK .u64) v3)), (4, .osl 0)], [.arr 5 1 (List.map eU8 v4)], 0⟩
def R05_Int_B2  (k5 : (Int → (List Int) → Option (List Int))) : Int → (List Int) → Option (List Int) := fun v3 v4 => (bif decide (v3 ≥ 128) then (gRemK v3 128).bind fun x7 => (gApp 1 v4 [IntKind.u8.wrap (IntKind.u64.wrap (x7 + 128))]).bind fun x8 => (gQuoK .u64 v3 128).bind fun x9 => k5 x9 x8 else (gApp 1 v4 [IntKind.u8.wrap v3]).bind fun x10 => some x10)
def R05_Int_L2  : Int → (List Int) → Option (List Int) := loop2 (R05_Int_B2) fuel
def R05_Int_j1 (v2 : Int) : Option (List Int) := R05_Int_L2 v2 []
def R05_Int (p0_n : Int) : Option (List Int) := (gSh .shl .u64 (IntKind.u64.wrap p0_n) 1).bind fun x1 => (bif decide (p0_n < 0) then R05_Int_j1 (gNot .u64 x1) else R05_Int_j1 x1)
theorem R05_Int_ok (p0_n : Int) (r : (List Int)) (h : R05_Int p0_n = some r) : Runs Tryz.prog 120 [.d (eI p0_n)] [] (.osl 0) [.arr 5 1 (List.map eU8 r)] := by
  refine Runs.of_fin Tryz.func120 rfl ?_
  unfold R05_Int at h
  refine SP.rg <| .e [.arr 5 1 (List.map eU8 [])] (ok_assign_own 5 1 rfl) <| .nil ?_
  obtain ⟨x1, hx1, h⟩ := of_bind h
  refine SP.rg <| .a 2 <| .p (ok_shl (k := .u64) (k' := .u64) hx1 rfl) <| .a 1 <| .nil ?_
  refine SP.join (fun s => ∃ (v2 : Int), Sub s (R05_Int_S1 v2) ∧ R05_Int_j1 v2 = some r) ?_ ?_
  · clear h
    rintro s ⟨v2, hs, h⟩
    refine SP.sub hs ?_
    clear hs
    unfold R05_Int_j1 at h
    refine SP.rg <| .e [.arr 5 1 (List.map eU8 [])] (ok_assign_own 5 1 rfl) <| .nil ?_
    refine SP.seqc ?_
    refine SP.block ?_
    refine SP.loop2 (R05_Int_S2) (R05_Int_B2) r v2 [] (sub_of (mk 28 24) [(0, true)]) h ?_
    clear h
    intro J11 k5 hk5 v3 v4 h
    unfold R05_Int_B2 at h
    refine SP.seqc ?_
    refine SP.rg <| .a 2 <| .nil ?_
    refine SP.cond (decide (v3 ≥ 128)) (by kernel_rfl) (fun hb6 => ?_) (fun hb6 => ?_)
    · replace h := of_bif_true hb6 h
      refine SP.skip ?_
      refine SP.block ?_
      obtain ⟨x7, hx7, h⟩ := of_bind h
      obtain ⟨x8, hx8, h⟩ := of_bind h
      refine SP.rg <| .a 2 <| .p (ok_remK (k := .u64) hx7 rfl) <| .a 2 <| .p (ok_lits el78 zero5 (by kernel_rfl) (by kernel_rfl) (Nat.le_of_ble_eq_true (by kernel_rfl)) [.d (eU8 (IntKind.u8.wrap (IntKind.u64.wrap (x7 + 128))))] [eU8 (IntKind.u8.wrap (IntKind.u64.wrap (x7 + 128)))] (by kernel_rfl) (by kernel_rfl) (by kernel_rfl) (by kernel_rfl) rfl) <| .e [.dead, .arr 5 1 (List.map eU8 x8)] (ok_appT (k := 0) eU8 hx8 el78 (by kernel_rfl) (fun _ => rfl) (by decide) rfl) <| .a 1 <| .nil ?_
      obtain ⟨x9, hx9, h⟩ := of_bind h
      refine SP.rgn <| .a 1 <| .p (ok_quoK (k := .u64) hx9 rfl) <| .a 1 <| .nil ?_
      exact hk5 _ x9 x8 (sub_of (mk 28 24) [(1, true)]) h
    · replace h := of_bif_false hb6 h
      refine SP.exit ?_
      obtain ⟨x10, hx10, h⟩ := of_bind h
      refine SP.rg <| .a 3 <| .p (ok_lits el78 zero5 (by kernel_rfl) (by kernel_rfl) (Nat.le_of_ble_eq_true (by kernel_rfl)) [.d (eU8 (IntKind.u8.wrap v3))] [eU8 (IntKind.u8.wrap v3)] (by kernel_rfl) (by kernel_rfl) (by kernel_rfl) (by kernel_rfl) rfl) <| .e [.dead, .arr 5 1 (List.map eU8 x10)] (ok_appT (k := 0) eU8 hx10 el78 (by kernel_rfl) (fun _ => rfl) (by decide) rfl) <| .a 1 <| .nil ?_
      refine SP.ret ?_
      rw [← Option.some.inj h]
      exact ⟨[.osl 1], [(1, true)], ⟨resV_tmp (by kernel_rfl), trivial⟩, by kernel_rfl, by kernel_rfl, by kernel_rfl⟩
  · intro K12
    refine SP.rg <| .a 2 <| .nil ?_
    refine SP.cond (decide (p0_n < 0)) (by kernel_rfl) (fun hb13 => ?_) (fun hb13 => ?_)
    · replace h := of_bif_true hb13 h
      refine SP.rgn <| .a 1 <| .p (ok_not (k := .u64) (u := x1) rfl) <| .a 1 <| .nil ?_
      exact K12 _ ⟨(gNot .u64 x1), sub_of (mk 28 8) [], h⟩
    · replace h := of_bif_false hb13 h
      refine SP.skip ?_
      exact K12 _ ⟨x1, sub_of (mk 28 8) [], h⟩

-- fedchat/fedchatref05.PutInt
def R05_PutInt (p0_b : (List Int)) (p1_n : Int) : Option (List Int) := (gApp 1 [] p0_b).bind fun x1 => (R05_Int p1_n).bind fun x2 => (gApp 1 x1 x2).bind fun x3 => some x3
theorem R05_PutInt_ok (p0_b : (List Int)) (p1_n : Int) (r : (List Int)) (h : R05_PutInt p0_b p1_n = some r) : Runs Tryz.prog 88 [.d ((eL eU8) p0_b), .d (eI p1_n)] [] (.osl 0) [.arr 5 1 (List.map eU8 r)] := by
  refine Runs.of_fin Tryz.func88 rfl ?_
  unfold R05_PutInt at h
  refine SP.rg <| .e [.arr 5 1 (List.map eU8 [])] (ok_assign_own 5 1 rfl) <| .nil ?_
  obtain ⟨x1, hx1, h⟩ := of_bind h
  obtain ⟨x2, hx2, h⟩ := of_bind h
  obtain ⟨x3, hx3, h⟩ := of_bind h
  refine SP.rg <| .e [.arr 5 1 (List.map eU8 []), .arr 5 1 (List.map eU8 [])] (ok_lits_own el78 zero5 (by kernel_rfl) (by kernel_rfl) (Nat.le_of_ble_eq_true (by kernel_rfl)) [] [] (by kernel_rfl) (by kernel_rfl) (by kernel_rfl) (by kernel_rfl) rfl) <| .a 1 <| .e [.arr 5 1 (List.map eU8 []), .dead, .arr 5 1 (List.map eU8 x1)] (ok_appT (k := 1) eU8 hx1 el78 (by kernel_rfl) (fun _ => rfl) (by decide) rfl) <| .a 1 <| .call (R05_Int_ok p1_n x2 hx2).view ent120 <| .e [.arr 5 1 (List.map eU8 []), .dead, .dead, .arr 5 1 (List.map eU8 x3)] (ok_appT (k := 2) eU8 hx3 el78 (by kernel_rfl) (fun _ => rfl) (by decide) rfl) <| .a 1 <| .nil ?_
  refine SP.ret ?_
  rw [← Option.some.inj h]
  exact ⟨[.osl 3], [(3, true)], ⟨resV_tmp (by kernel_rfl), trivial⟩, by kernel_rfl, by kernel_rfl, by kernel_rfl⟩

-- fedchat/fedchatref05.PutText
def R05_PutText (p0_b : (List Int)) (p1_s : ByteArray) : Option (List Int) := (R05_PutInt p0_b (p1_s.size : Int)).bind fun x1 => (gApp 1 x1 (sBytes p1_s)).bind fun x2 => some x2
theorem R05_PutText_ok (p0_b : (List Int)) (p1_s : ByteArray) (r : (List Int)) (h : R05_PutText p0_b p1_s = some r) : Runs Tryz.prog 89 [.d ((eL eU8) p0_b), .d (eS p1_s)] [] (.osl 0) [.arr 5 1 (List.map eU8 r)] := by
  refine Runs.of_fin Tryz.func89 rfl ?_
  unfold R05_PutText at h
  refine SP.rg <| .e [.arr 5 1 (List.map eU8 [])] (ok_assign_own 5 1 rfl) <| .nil ?_
  obtain ⟨x1, hx1, h⟩ := of_bind h
  obtain ⟨x2, hx2, h⟩ := of_bind h
  refine SP.rg <| .a 3 <| .e (x := .osl 1) [.arr 5 1 (List.map eU8 []), .arr 5 1 (List.map eU8 x1)] (ok_callD (avs := [.d ((eL eU8) p0_b), .d (eI (p1_s.size : Int))]) (avs' := [.d ((eL eU8) p0_b), .d (eI (p1_s.size : Int))]) (R05_PutInt_ok p0_b (p1_s.size : Int) x1 hx1) ent88 (by kernel_rfl) ⟨.inl rfl, .inl rfl, trivial⟩ rfl (by kernel_rfl) rfl) <| .a 1 <| .p (ok_bytes (s := p1_s) und9 und78 und5 rfl) <| .e [.arr 5 1 (List.map eU8 []), .dead, .arr 5 1 (List.map eU8 x2)] (ok_appT (k := 1) eU8 hx2 el78 (by kernel_rfl) (fun _ => rfl) (by decide) rfl) <| .a 1 <| .nil ?_
  refine SP.ret ?_
  rw [← Option.some.inj h]
  exact ⟨[.osl 2], [(2, true)], ⟨resV_tmp (by kernel_rfl), trivial⟩, by kernel_rfl, by kernel_rfl, by kernel_rfl⟩

-- fedchat/fedchatref05.PutBool
def R05_PutBool (p0_b : (List Int)) (p1_is : Bool) : Option (List Int) := (gApp 1 [] p0_b).bind fun x1 => (bif p1_is then (gApp 1 x1 [1]).bind fun x3 => some x3 else (gApp 1 x1 [0]).bind fun x4 => some x4)
theorem R05_PutBool_ok (p0_b : (List Int)) (p1_is : Bool) (r : (List Int)) (h : R05_PutBool p0_b p1_is = some r) : Runs Tryz.prog 90 [.d ((eL eU8) p0_b), .d (eB p1_is)] [] (.osl 0) [.arr 5 1 (List.map eU8 r)] := by
  refine Runs.of_fin Tryz.func90 rfl ?_
  unfold R05_PutBool at h
  refine SP.rg <| .e [.arr 5 1 (List.map eU8 [])] (ok_assign_own 5 1 rfl) <| .nil ?_
  obtain ⟨x1, hx1, h⟩ := of_bind h
  refine SP.rg <| .e [.arr 5 1 (List.map eU8 []), .arr 5 1 (List.map eU8 [])] (ok_lits_own el78 zero5 (by kernel_rfl) (by kernel_rfl) (Nat.le_of_ble_eq_true (by kernel_rfl)) [] [] (by kernel_rfl) (by kernel_rfl) (by kernel_rfl) (by kernel_rfl) rfl) <| .a 1 <| .e [.arr 5 1 (List.map eU8 []), .dead, .arr 5 1 (List.map eU8 x1)] (ok_appT (k := 1) eU8 hx1 el78 (by kernel_rfl) (fun _ => rfl) (by decide) rfl) <| .a 1 <| .nil ?_
  refine SP.seqc ?_
  refine SP.rg <| .a 1 <| .nil ?_
  refine SP.cond p1_is (by kernel_rfl) (fun hb2 => ?_) (fun hb2 => ?_)
  · replace h := of_bif_true hb2 h
    obtain ⟨x3, hx3, h⟩ := of_bind h
    refine SP.rg <| .a 1 <| .p (ok_lits el78 zero5 (by kernel_rfl) (by kernel_rfl) (Nat.le_of_ble_eq_true (by kernel_rfl)) [.d (eU8 1)] [eU8 1] (by kernel_rfl) (by kernel_rfl) (by kernel_rfl) (by kernel_rfl) rfl) <| .e [.arr 5 1 (List.map eU8 []), .dead, .dead, .arr 5 1 (List.map eU8 x3)] (ok_appT (k := 2) eU8 hx3 el78 (by kernel_rfl) (fun _ => rfl) (by decide) rfl) <| .a 1 <| .nil ?_
    refine SP.ret ?_
    rw [← Option.some.inj h]
    exact ⟨[.osl 3], [(3, true)], ⟨resV_tmp (by kernel_rfl), trivial⟩, by kernel_rfl, by kernel_rfl, by kernel_rfl⟩
  · replace h := of_bif_false hb2 h
    refine SP.skip ?_
    obtain ⟨x4, hx4, h⟩ := of_bind h
    refine SP.rg <| .a 1 <| .p (ok_lits el78 zero5 (by kernel_rfl) (by kernel_rfl) (Nat.le_of_ble_eq_true (by kernel_rfl)) [.d (eU8 0)] [eU8 0] (by kernel_rfl) (by kernel_rfl) (by kernel_rfl) (by kernel_rfl) rfl) <| .e [.arr 5 1 (List.map eU8 []), .dead, .dead, .arr 5 1 (List.map eU8 x4)] (ok_appT (k := 2) eU8 hx4 el78 (by kernel_rfl) (fun _ => rfl) (by decide) rfl) <| .a 1 <| .nil ?_
    refine SP.ret ?_
    rw [← Option.some.inj h]
    exact ⟨[.osl 3], [(3, true)], ⟨resV_tmp (by kernel_rfl), trivial⟩, by kernel_rfl, by kernel_rfl, by kernel_rfl⟩
end Go.Proofs.YtmegkokogomfnaaGreat
