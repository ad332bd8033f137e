/- Functions of the program, typed, each proved to be what the program computes (printed by gogen.py). No condition. -/
import Derived.Test.YtdhhcmdofnjhiaaGt
namespace Go.Proofs.Ytdhhcmdofnjhiaa
open Go.RowKit
set_option maxRecDepth 20000
set_option maxHeartbeats 4000000

-- fedchat/fedchatref08.Long
def R08_Long_S1 (p0_e : ApiEvent) (v1 : Bool) : St := ⟨shp 125 [(1, .ptr 0 0), (3, .ptr 1 0), (44, .d (eB v1))], [.box (dc (eApiEvent p0_e)), .box (dc (eApiContent p0_e.Content))], 0⟩
def R08_Long_S2 (p0_e : ApiEvent) (v3 : Bool) : St := ⟨shp 125 [(3, .ptr 0 0), (79, .d (eB v3))], [.box (dc (eApiContent p0_e.Content))], 0⟩
def R08_Long_S3 (p0_e : ApiEvent) (v5 : Int) : St := ⟨shp 125 [(3, .ptr 0 0), (4, .d (eI v5))], [.box (dc (eApiContent p0_e.Content))], 0⟩
def R08_Long_S4 (p0_e : ApiEvent) (v10 : Int) : St := ⟨shp 125 [(3, .ptr 0 0), (5, .d (eI v10))], [.box (dc (eApiContent p0_e.Content))], 0⟩
def R08_Long_S5 (p0_e : ApiEvent) (v15 : Int) : St := ⟨shp 125 [(3, .ptr 0 0), (6, .d (eI v15))], [.box (dc (eApiContent p0_e.Content))], 0⟩
def R08_Long_B5 (p0_e : ApiEvent) (k16 : (Int → Option Bool)) : Int → Option Bool := fun v15 => (bif decide (v15 < (p0_e.Content.Levels.Users.length : Int)) then (gIdx p0_e.Content.Levels.Users v15).bind fun x18 => (bif decide ((x18.User.size : Int) > 2000) then some true else k16 (IntKind.i64.wrap (v15 + 1))) else some false)
def R08_Long_L5 (p0_e : ApiEvent) : Int → Option Bool := loop1 (R08_Long_B5 p0_e) fuel
def R08_Long_B4 (p0_e : ApiEvent) (k11 : (Int → Option Bool)) : Int → Option Bool := fun v10 => (bif decide (v10 < (p0_e.Content.Deny.length : Int)) then (gIdx p0_e.Content.Deny v10).bind fun x13 => (bif decide ((x13.size : Int) > 2000) then some true else k11 (IntKind.i64.wrap (v10 + 1))) else R08_Long_L5 p0_e 0)
def R08_Long_L4 (p0_e : ApiEvent) : Int → Option Bool := loop1 (R08_Long_B4 p0_e) fuel
def R08_Long_B3 (p0_e : ApiEvent) (k6 : (Int → Option Bool)) : Int → Option Bool := fun v5 => (bif decide (v5 < (p0_e.Content.Allow.length : Int)) then (gIdx p0_e.Content.Allow v5).bind fun x8 => (bif decide ((x8.size : Int) > 2000) then some true else k6 (IntKind.i64.wrap (v5 + 1))) else R08_Long_L4 p0_e 0)
def R08_Long_L3 (p0_e : ApiEvent) : Int → Option Bool := loop1 (R08_Long_B3 p0_e) fuel
def R08_Long_j2 (p0_e : ApiEvent) (v3 : Bool) : Option Bool := (bif v3 then some true else R08_Long_L3 p0_e 0)
def R08_Long_j1 (p0_e : ApiEvent) (v1 : Bool) : Option Bool := (bif v1 then some true else (bif decide ((p0_e.Room.size : Int) > 2000) then R08_Long_j2 p0_e true else (bif decide ((p0_e.Sender.size : Int) > 2000) then R08_Long_j2 p0_e true else (bif decide ((p0_e.Key.size : Int) > 2000) then R08_Long_j2 p0_e true else (bif decide ((p0_e.Content.Text.size : Int) > 2000) then R08_Long_j2 p0_e true else (bif decide ((p0_e.Content.Via.size : Int) > 2000) then R08_Long_j2 p0_e true else R08_Long_j2 p0_e (decide ((p0_e.Sig.Server.size : Int) > 2000))))))))
def R08_Long (p0_e : ApiEvent) : Option Bool := (bif decide ((p0_e.Prev.length : Int) > 40) then R08_Long_j1 p0_e true else (bif decide ((p0_e.Auth.length : Int) > 40) then R08_Long_j1 p0_e true else (bif decide ((p0_e.Content.Allow.length : Int) > 40) then R08_Long_j1 p0_e true else (bif decide ((p0_e.Content.Deny.length : Int) > 40) then R08_Long_j1 p0_e true else (bif decide ((p0_e.Content.Levels.Users.length : Int) > 40) then R08_Long_j1 p0_e true else R08_Long_j1 p0_e (decide ((p0_e.Content.Levels.Kinds.length : Int) > 40)))))))
theorem R08_Long_ok (p0_e : ApiEvent) (r : Bool) (h : R08_Long p0_e = some r) : Runs Try.prog 38 [.d (eApiEvent p0_e)] [] (.d (eB r)) [] := by
  refine Runs.of_fin Try.func38 rfl ?_
  unfold R08_Long at h
  refine SP.rg <| .a 2 <| .nil ?_
  refine SP.rg <| .a 4 <| .nil ?_
  refine SP.seqc ?_
  refine SP.join (fun s => ∃ (v1 : Bool), Sub s (R08_Long_S1 p0_e v1) ∧ R08_Long_j1 p0_e v1 = some r) ?_ ?_
  · clear h
    rintro s ⟨v1, hs, h⟩
    refine SP.sub hs ?_
    clear hs
    unfold R08_Long_j1 at h
    refine SP.cond v1 (by kernel_rfl) (fun hb2 => ?_) (fun hb2 => ?_)
    · replace h := of_bif_true hb2 h
      refine SP.rg <| .a 1 <| .nil ?_
      refine SP.ret ?_
      rw [← Option.some.inj h]
      exact ⟨[.d (eB true)], [], ⟨resV_tmp (by kernel_rfl), trivial⟩, by kernel_rfl, by kernel_rfl, by kernel_rfl⟩
    · replace h := of_bif_false hb2 h
      refine SP.skip ?_
      refine SP.seqc ?_
      refine SP.join (fun s => ∃ (v3 : Bool), Sub s (R08_Long_S2 p0_e v3) ∧ R08_Long_j2 p0_e v3 = some r) ?_ ?_
      · clear h
        rintro s ⟨v3, hs, h⟩
        refine SP.sub hs ?_
        clear hs
        unfold R08_Long_j2 at h
        refine SP.cond v3 (by kernel_rfl) (fun hb4 => ?_) (fun hb4 => ?_)
        · replace h := of_bif_true hb4 h
          refine SP.rg <| .a 1 <| .nil ?_
          refine SP.ret ?_
          rw [← Option.some.inj h]
          exact ⟨[.d (eB true)], [], ⟨resV_tmp (by kernel_rfl), trivial⟩, by kernel_rfl, by kernel_rfl, by kernel_rfl⟩
        · replace h := of_bif_false hb4 h
          refine SP.skip ?_
          refine SP.seqc ?_
          refine SP.rg <| .a 1 <| .nil ?_
          refine SP.block ?_
          refine SP.loop1 (R08_Long_S3 p0_e) (R08_Long_B3 p0_e) r 0 (sub_of (mk 125 24) [(0, true)]) h ?_
          clear h
          intro J22 k6 hk6 v5 h
          unfold R08_Long_B3 at h
          refine SP.seqc ?_
          refine SP.rg <| .a 3 <| .p (ok_lenT eS p0_e.Content.Allow und55 rfl) <| .a 1 <| .nil ?_
          refine SP.cond (decide (v5 < (p0_e.Content.Allow.length : Int))) (by kernel_rfl) (fun hb7 => ?_) (fun hb7 => ?_)
          · replace h := of_bif_true hb7 h
            refine SP.skip ?_
            refine SP.seqc ?_
            refine SP.block ?_
            obtain ⟨x8, hx8, h⟩ := of_bind h
            refine SP.rg <| .a 3 <| .p (ok_idxT (k := .i64) eS hx8 und55 ty9 (by kernel_rfl) rfl) <| .a 3 <| .nil ?_
            refine SP.cond (decide ((x8.size : Int) > 2000)) (by kernel_rfl) (fun hb9 => ?_) (fun hb9 => ?_)
            · replace h := of_bif_true hb9 h
              refine SP.rg <| .a 1 <| .nil ?_
              refine SP.ret ?_
              rw [← Option.some.inj h]
              exact ⟨[.d (eB true)], [], ⟨resV_tmp (by kernel_rfl), trivial⟩, by kernel_rfl, by kernel_rfl, by kernel_rfl⟩
            · replace h := of_bif_false hb9 h
              refine SP.skip ?_
              refine SP.rgn <| .a 3 <| .nil ?_
              exact hk6 _ (IntKind.i64.wrap (v5 + 1)) (sub_of (mk 125 24) [(0, true)]) h
          · replace h := of_bif_false hb7 h
            refine SP.exit ?_
            refine SP.seqc ?_
            refine SP.rg <| .a 1 <| .nil ?_
            refine SP.block ?_
            refine SP.loop1 (R08_Long_S4 p0_e) (R08_Long_B4 p0_e) r 0 (sub_of (mk 125 40) [(0, true)]) h ?_
            clear h
            intro J21 k11 hk11 v10 h
            unfold R08_Long_B4 at h
            refine SP.seqc ?_
            refine SP.rg <| .a 3 <| .p (ok_lenT eS p0_e.Content.Deny und55 rfl) <| .a 1 <| .nil ?_
            refine SP.cond (decide (v10 < (p0_e.Content.Deny.length : Int))) (by kernel_rfl) (fun hb12 => ?_) (fun hb12 => ?_)
            · replace h := of_bif_true hb12 h
              refine SP.skip ?_
              refine SP.seqc ?_
              refine SP.block ?_
              obtain ⟨x13, hx13, h⟩ := of_bind h
              refine SP.rg <| .a 3 <| .p (ok_idxT (k := .i64) eS hx13 und55 ty9 (by kernel_rfl) rfl) <| .a 3 <| .nil ?_
              refine SP.cond (decide ((x13.size : Int) > 2000)) (by kernel_rfl) (fun hb14 => ?_) (fun hb14 => ?_)
              · replace h := of_bif_true hb14 h
                refine SP.rg <| .a 1 <| .nil ?_
                refine SP.ret ?_
                rw [← Option.some.inj h]
                exact ⟨[.d (eB true)], [], ⟨resV_tmp (by kernel_rfl), trivial⟩, by kernel_rfl, by kernel_rfl, by kernel_rfl⟩
              · replace h := of_bif_false hb14 h
                refine SP.skip ?_
                refine SP.rgn <| .a 3 <| .nil ?_
                exact hk11 _ (IntKind.i64.wrap (v10 + 1)) (sub_of (mk 125 40) [(0, true)]) h
            · replace h := of_bif_false hb12 h
              refine SP.exit ?_
              refine SP.seqc ?_
              refine SP.rg <| .a 1 <| .nil ?_
              refine SP.block ?_
              refine SP.loop1 (R08_Long_S5 p0_e) (R08_Long_B5 p0_e) r 0 (sub_of (mk 125 72) [(0, true)]) h ?_
              clear h
              intro J20 k16 hk16 v15 h
              unfold R08_Long_B5 at h
              refine SP.seqc ?_
              refine SP.rg <| .a 4 <| .p (ok_lenT eApiLevel p0_e.Content.Levels.Users und56 rfl) <| .a 1 <| .nil ?_
              refine SP.cond (decide (v15 < (p0_e.Content.Levels.Users.length : Int))) (by kernel_rfl) (fun hb17 => ?_) (fun hb17 => ?_)
              · replace h := of_bif_true hb17 h
                refine SP.skip ?_
                refine SP.seqc ?_
                refine SP.block ?_
                obtain ⟨x18, hx18, h⟩ := of_bind h
                refine SP.rg <| .a 4 <| .p (ok_idxT (k := .i64) eApiLevel hx18 und56 ty81 (by kernel_rfl) rfl) <| .a 4 <| .nil ?_
                refine SP.cond (decide ((x18.User.size : Int) > 2000)) (by kernel_rfl) (fun hb19 => ?_) (fun hb19 => ?_)
                · replace h := of_bif_true hb19 h
                  refine SP.rg <| .a 1 <| .nil ?_
                  refine SP.ret ?_
                  rw [← Option.some.inj h]
                  exact ⟨[.d (eB true)], [], ⟨resV_tmp (by kernel_rfl), trivial⟩, by kernel_rfl, by kernel_rfl, by kernel_rfl⟩
                · replace h := of_bif_false hb19 h
                  refine SP.skip ?_
                  refine SP.rgn <| .a 3 <| .nil ?_
                  exact hk16 _ (IntKind.i64.wrap (v15 + 1)) (sub_of (mk 125 72) [(0, true)]) h
              · replace h := of_bif_false hb17 h
                refine SP.exit ?_
                refine SP.rg <| .a 1 <| .nil ?_
                refine SP.ret ?_
                rw [← Option.some.inj h]
                exact ⟨[.d (eB false)], [], ⟨resV_tmp (by kernel_rfl), trivial⟩, by kernel_rfl, by kernel_rfl, by kernel_rfl⟩
      · intro K23
        refine SP.rgn <| .a 4 <| ?_
        rcases Bool.eq_false_or_eq_true (decide ((p0_e.Room.size : Int) > 2000)) with hb24 | hb24
        · replace h := of_bif_true hb24 h
          refine .c (congrArg some hb24) <| .a 30 <| .nil ?_
          exact K23 _ ⟨true, sub_of (mk 125 604462909807314587353096) [(1, true)], h⟩
        · replace h := of_bif_false hb24 h
          refine .c (congrArg some hb24) <| .a 5 <| ?_
          rcases Bool.eq_false_or_eq_true (decide ((p0_e.Sender.size : Int) > 2000)) with hb25 | hb25
          · replace h := of_bif_true hb25 h
            refine .c (congrArg some hb25) <| .a 24 <| .nil ?_
            exact K23 _ ⟨true, sub_of (mk 125 604462909807314587353096) [(1, true)], h⟩
          · replace h := of_bif_false hb25 h
            refine .c (congrArg some hb25) <| .a 5 <| ?_
            rcases Bool.eq_false_or_eq_true (decide ((p0_e.Key.size : Int) > 2000)) with hb26 | hb26
            · replace h := of_bif_true hb26 h
              refine .c (congrArg some hb26) <| .a 18 <| .nil ?_
              exact K23 _ ⟨true, sub_of (mk 125 604462909807314587353096) [(1, true)], h⟩
            · replace h := of_bif_false hb26 h
              refine .c (congrArg some hb26) <| .a 5 <| ?_
              rcases Bool.eq_false_or_eq_true (decide ((p0_e.Content.Text.size : Int) > 2000)) with hb27 | hb27
              · replace h := of_bif_true hb27 h
                refine .c (congrArg some hb27) <| .a 12 <| .nil ?_
                exact K23 _ ⟨true, sub_of (mk 125 604462909807314587353096) [(1, true)], h⟩
              · replace h := of_bif_false hb27 h
                refine .c (congrArg some hb27) <| .a 5 <| ?_
                rcases Bool.eq_false_or_eq_true (decide ((p0_e.Content.Via.size : Int) > 2000)) with hb28 | hb28
                · replace h := of_bif_true hb28 h
                  refine .c (congrArg some hb28) <| .a 6 <| .nil ?_
                  exact K23 _ ⟨true, sub_of (mk 125 604462909807314587353096) [(1, true)], h⟩
                · replace h := of_bif_false hb28 h
                  refine .c (congrArg some hb28) <| .a 6 <| .nil ?_
                  exact K23 _ ⟨(decide ((p0_e.Sig.Server.size : Int) > 2000)), sub_of (mk 125 604462909807314587353096) [(1, true)], h⟩
  · intro K29
    refine SP.rgn <| .a 2 <| .p (ok_lenT eI p0_e.Prev und24 rfl) <| .a 1 <| ?_
    rcases Bool.eq_false_or_eq_true (decide ((p0_e.Prev.length : Int) > 40)) with hb30 | hb30
    · replace h := of_bif_true hb30 h
      refine .c (congrArg some hb30) <| .a 31 <| .nil ?_
      exact K29 _ ⟨true, sub_of (mk 125 17592186044426) [(0, true), (1, true)], h⟩
    · replace h := of_bif_false hb30 h
      refine .c (congrArg some hb30) <| .a 2 <| .p (ok_lenT eI p0_e.Auth und24 rfl) <| .a 2 <| ?_
      rcases Bool.eq_false_or_eq_true (decide ((p0_e.Auth.length : Int) > 40)) with hb31 | hb31
      · replace h := of_bif_true hb31 h
        refine .c (congrArg some hb31) <| .a 25 <| .nil ?_
        exact K29 _ ⟨true, sub_of (mk 125 17592186044426) [(0, true), (1, true)], h⟩
      · replace h := of_bif_false hb31 h
        refine .c (congrArg some hb31) <| .a 2 <| .p (ok_lenT eS p0_e.Content.Allow und55 rfl) <| .a 2 <| ?_
        rcases Bool.eq_false_or_eq_true (decide ((p0_e.Content.Allow.length : Int) > 40)) with hb32 | hb32
        · replace h := of_bif_true hb32 h
          refine .c (congrArg some hb32) <| .a 19 <| .nil ?_
          exact K29 _ ⟨true, sub_of (mk 125 17592186044426) [(0, true), (1, true)], h⟩
        · replace h := of_bif_false hb32 h
          refine .c (congrArg some hb32) <| .a 2 <| .p (ok_lenT eS p0_e.Content.Deny und55 rfl) <| .a 2 <| ?_
          rcases Bool.eq_false_or_eq_true (decide ((p0_e.Content.Deny.length : Int) > 40)) with hb33 | hb33
          · replace h := of_bif_true hb33 h
            refine .c (congrArg some hb33) <| .a 13 <| .nil ?_
            exact K29 _ ⟨true, sub_of (mk 125 17592186044426) [(0, true), (1, true)], h⟩
          · replace h := of_bif_false hb33 h
            refine .c (congrArg some hb33) <| .a 3 <| .p (ok_lenT eApiLevel p0_e.Content.Levels.Users und56 rfl) <| .a 2 <| ?_
            rcases Bool.eq_false_or_eq_true (decide ((p0_e.Content.Levels.Users.length : Int) > 40)) with hb34 | hb34
            · replace h := of_bif_true hb34 h
              refine .c (congrArg some hb34) <| .a 6 <| .nil ?_
              exact K29 _ ⟨true, sub_of (mk 125 17592186044426) [(0, true), (1, true)], h⟩
            · replace h := of_bif_false hb34 h
              refine .c (congrArg some hb34) <| .a 3 <| .p (ok_lenT eApiKindLevel p0_e.Content.Levels.Kinds und57 rfl) <| .a 2 <| .nil ?_
              exact K29 _ ⟨(decide ((p0_e.Content.Levels.Kinds.length : Int) > 40)), sub_of (mk 125 17592186044426) [(0, true), (1, true)], h⟩

-- fedchat/fedchatref08.Great
def R08_Great_S1 (p0_l : (List ApiEvent)) (v2 : Int) : St := ⟨shp 21 [(0, .d ((eL eApiEvent) p0_l)), (5, .d (eI v2))], [], 0⟩
def R08_Great_B1 (p0_l : (List ApiEvent)) (k3 : (Int → Option Bool)) : Int → Option Bool := fun v2 => (bif decide (v2 < (p0_l.length : Int)) then (gIdx p0_l v2).bind fun x5 => (R08_Long x5).bind fun x6 => (bif x6 then some true else k3 (IntKind.i64.wrap (v2 + 1))) else some false)
def R08_Great_L1 (p0_l : (List ApiEvent)) : Int → Option Bool := loop1 (R08_Great_B1 p0_l) fuel
def R08_Great (p0_l : (List ApiEvent)) (p1_n : Int) : Option Bool := (bif decide ((p0_l.length : Int) > p1_n) then some true else R08_Great_L1 p0_l 0)
theorem R08_Great_ok (p0_l : (List ApiEvent)) (p1_n : Int) (r : Bool) (h : R08_Great p0_l p1_n = some r) : Runs Try.prog 22 [.d ((eL eApiEvent) p0_l), .d (eI p1_n)] [] (.d (eB r)) [] := by
  refine Runs.of_fin Try.func22 rfl ?_
  unfold R08_Great at h
  refine SP.rg <| .a 1 <| .nil ?_
  refine SP.seqc ?_
  refine SP.rg <| .a 1 <| .p (ok_lenT eApiEvent p0_l und22 rfl) <| .a 2 <| .nil ?_
  refine SP.cond (decide ((p0_l.length : Int) > p1_n)) (by kernel_rfl) (fun hb1 => ?_) (fun hb1 => ?_)
  · replace h := of_bif_true hb1 h
    refine SP.rg <| .a 1 <| .nil ?_
    refine SP.ret ?_
    rw [← Option.some.inj h]
    exact ⟨[.d (eB true)], [], ⟨resV_tmp (by kernel_rfl), trivial⟩, by kernel_rfl, by kernel_rfl, by kernel_rfl⟩
  · replace h := of_bif_false hb1 h
    refine SP.skip ?_
    refine SP.seqc ?_
    refine SP.rg <| .a 1 <| .nil ?_
    refine SP.block ?_
    refine SP.loop1 (R08_Great_S1 p0_l) (R08_Great_B1 p0_l) r 0 (sub_of (mk 21 33) []) h ?_
    clear h
    intro J8 k3 hk3 v2 h
    unfold R08_Great_B1 at h
    refine SP.seqc ?_
    refine SP.rg <| .a 2 <| .p (ok_lenT eApiEvent p0_l und22 rfl) <| .a 1 <| .nil ?_
    refine SP.cond (decide (v2 < (p0_l.length : Int))) (by kernel_rfl) (fun hb4 => ?_) (fun hb4 => ?_)
    · replace h := of_bif_true hb4 h
      refine SP.skip ?_
      refine SP.seqc ?_
      refine SP.block ?_
      obtain ⟨x5, hx5, h⟩ := of_bind h
      obtain ⟨x6, hx6, h⟩ := of_bind h
      refine SP.rg <| .a 2 <| .p (ok_idxT (k := .i64) eApiEvent hx5 und22 ty65 (by kernel_rfl) rfl) <| .a 1 <| .call (R08_Long_ok x5 x6 hx6) ent38 <| .nil ?_
      refine SP.cond x6 (by kernel_rfl) (fun hb7 => ?_) (fun hb7 => ?_)
      · replace h := of_bif_true hb7 h
        refine SP.rg <| .a 1 <| .nil ?_
        refine SP.ret ?_
        rw [← Option.some.inj h]
        exact ⟨[.d (eB true)], [], ⟨resV_tmp (by kernel_rfl), trivial⟩, by kernel_rfl, by kernel_rfl, by kernel_rfl⟩
      · replace h := of_bif_false hb7 h
        refine SP.skip ?_
        refine SP.rgn <| .a 3 <| .nil ?_
        exact hk3 _ (IntKind.i64.wrap (v2 + 1)) (sub_of (mk 21 33) []) h
    · replace h := of_bif_false hb4 h
      refine SP.exit ?_
      refine SP.rg <| .a 1 <| .nil ?_
      refine SP.ret ?_
      rw [← Option.some.inj h]
      exact ⟨[.d (eB false)], [], ⟨resV_tmp (by kernel_rfl), trivial⟩, by kernel_rfl, by kernel_rfl, by kernel_rfl⟩

-- fedchat/fedchatref27.Great
def R27_Great_S1 (p0_r : ApiRoom) (v1 : Bool) : St := ⟨shp 100 [(2, .ptr 0 0), (54, .d (eB v1))], [.box (dc (eApiRoom p0_r))], 0⟩
def R27_Great_S2 (p0_r : ApiRoom) (v3 : Int) : St := ⟨shp 100 [(2, .ptr 0 0), (5, .d (eI v3))], [.box (dc (eApiRoom p0_r))], 0⟩
def R27_Great_S3 (p0_r : ApiRoom) (v8 : Int) : St := ⟨shp 100 [(2, .ptr 0 0), (6, .d (eI v8))], [.box (dc (eApiRoom p0_r))], 0⟩
def R27_Great_S4 (p0_r : ApiRoom) (v13 : Int) : St := ⟨shp 100 [(2, .ptr 0 0), (7, .d (eI v13))], [.box (dc (eApiRoom p0_r))], 0⟩
def R27_Great_B4 (p0_r : ApiRoom) (k14 : (Int → Option Bool)) : Int → Option Bool := fun v13 => (bif decide (v13 < (p0_r.Typing.length : Int)) then (gIdx p0_r.Typing v13).bind fun x16 => (bif decide ((x16.User.size : Int) > 2000) then some true else k14 (IntKind.i64.wrap (v13 + 1))) else some false)
def R27_Great_L4 (p0_r : ApiRoom) : Int → Option Bool := loop1 (R27_Great_B4 p0_r) fuel
def R27_Great_B3 (p0_r : ApiRoom) (k9 : (Int → Option Bool)) : Int → Option Bool := fun v8 => (bif decide (v8 < (p0_r.Receipts.length : Int)) then (gIdx p0_r.Receipts v8).bind fun x11 => (bif decide ((x11.User.size : Int) > 2000) then some true else k9 (IntKind.i64.wrap (v8 + 1))) else R27_Great_L4 p0_r 0)
def R27_Great_L3 (p0_r : ApiRoom) : Int → Option Bool := loop1 (R27_Great_B3 p0_r) fuel
def R27_Great_B2 (p0_r : ApiRoom) (k4 : (Int → Option Bool)) : Int → Option Bool := fun v3 => (bif decide (v3 < (p0_r.State.length : Int)) then (gIdx p0_r.State v3).bind fun x6 => (bif decide ((x6.Key.size : Int) > 2000) then some true else k4 (IntKind.i64.wrap (v3 + 1))) else R27_Great_L3 p0_r 0)
def R27_Great_L2 (p0_r : ApiRoom) : Int → Option Bool := loop1 (R27_Great_B2 p0_r) fuel
def R27_Great_j1 (p0_r : ApiRoom) (v1 : Bool) : Option Bool := (bif v1 then some true else R27_Great_L2 p0_r 0)
def R27_Great (p0_r : ApiRoom) (p1_n : Int) : Option Bool := (R08_Great p0_r.Events p1_n).bind fun x22 => (bif x22 then R27_Great_j1 p0_r true else (R08_Great p0_r.Waiting p1_n).bind fun x24 => (bif x24 then R27_Great_j1 p0_r true else (bif decide ((p0_r.Rows.length : Int) > p1_n) then R27_Great_j1 p0_r true else (bif decide ((p0_r.Heads.length : Int) > 40) then R27_Great_j1 p0_r true else (bif decide ((p0_r.State.length : Int) > 60) then R27_Great_j1 p0_r true else (bif decide ((p0_r.Receipts.length : Int) > 40) then R27_Great_j1 p0_r true else (bif decide ((p0_r.Typing.length : Int) > 40) then R27_Great_j1 p0_r true else R27_Great_j1 p0_r (decide ((p0_r.Id.size : Int) > 2000)))))))))
theorem R27_Great_ok (p0_r : ApiRoom) (p1_n : Int) (r : Bool) (h : R27_Great p0_r p1_n = some r) : Runs Try.prog 7 [.d (eApiRoom p0_r), .d (eI p1_n)] [] (.d (eB r)) [] := by
  refine Runs.of_fin Try.func7 rfl ?_
  unfold R27_Great at h
  refine SP.rg <| .a 2 <| .nil ?_
  refine SP.seqc ?_
  refine SP.join (fun s => ∃ (v1 : Bool), Sub s (R27_Great_S1 p0_r v1) ∧ R27_Great_j1 p0_r v1 = some r) ?_ ?_
  · clear h
    rintro s ⟨v1, hs, h⟩
    refine SP.sub hs ?_
    clear hs
    unfold R27_Great_j1 at h
    refine SP.cond v1 (by kernel_rfl) (fun hb2 => ?_) (fun hb2 => ?_)
    · replace h := of_bif_true hb2 h
      refine SP.rg <| .a 1 <| .nil ?_
      refine SP.ret ?_
      rw [← Option.some.inj h]
      exact ⟨[.d (eB true)], [], ⟨resV_tmp (by kernel_rfl), trivial⟩, by kernel_rfl, by kernel_rfl, by kernel_rfl⟩
    · replace h := of_bif_false hb2 h
      refine SP.skip ?_
      refine SP.seqc ?_
      refine SP.rg <| .a 1 <| .nil ?_
      refine SP.block ?_
      refine SP.loop1 (R27_Great_S2 p0_r) (R27_Great_B2 p0_r) r 0 (sub_of (mk 100 36) [(0, true)]) h ?_
      clear h
      intro J20 k4 hk4 v3 h
      unfold R27_Great_B2 at h
      refine SP.seqc ?_
      refine SP.rg <| .a 3 <| .p (ok_lenT eApiEntry p0_r.State und26 rfl) <| .a 1 <| .nil ?_
      refine SP.cond (decide (v3 < (p0_r.State.length : Int))) (by kernel_rfl) (fun hb5 => ?_) (fun hb5 => ?_)
      · replace h := of_bif_true hb5 h
        refine SP.skip ?_
        refine SP.seqc ?_
        refine SP.block ?_
        obtain ⟨x6, hx6, h⟩ := of_bind h
        refine SP.rg <| .a 3 <| .p (ok_idxT (k := .i64) eApiEntry hx6 und26 ty47 (by kernel_rfl) rfl) <| .a 4 <| .nil ?_
        refine SP.cond (decide ((x6.Key.size : Int) > 2000)) (by kernel_rfl) (fun hb7 => ?_) (fun hb7 => ?_)
        · replace h := of_bif_true hb7 h
          refine SP.rg <| .a 1 <| .nil ?_
          refine SP.ret ?_
          rw [← Option.some.inj h]
          exact ⟨[.d (eB true)], [], ⟨resV_tmp (by kernel_rfl), trivial⟩, by kernel_rfl, by kernel_rfl, by kernel_rfl⟩
        · replace h := of_bif_false hb7 h
          refine SP.skip ?_
          refine SP.rgn <| .a 3 <| .nil ?_
          exact hk4 _ (IntKind.i64.wrap (v3 + 1)) (sub_of (mk 100 36) [(0, true)]) h
      · replace h := of_bif_false hb5 h
        refine SP.exit ?_
        refine SP.seqc ?_
        refine SP.rg <| .a 1 <| .nil ?_
        refine SP.block ?_
        refine SP.loop1 (R27_Great_S3 p0_r) (R27_Great_B3 p0_r) r 0 (sub_of (mk 100 68) [(0, true)]) h ?_
        clear h
        intro J19 k9 hk9 v8 h
        unfold R27_Great_B3 at h
        refine SP.seqc ?_
        refine SP.rg <| .a 3 <| .p (ok_lenT eApiReceipt p0_r.Receipts und27 rfl) <| .a 1 <| .nil ?_
        refine SP.cond (decide (v8 < (p0_r.Receipts.length : Int))) (by kernel_rfl) (fun hb10 => ?_) (fun hb10 => ?_)
        · replace h := of_bif_true hb10 h
          refine SP.skip ?_
          refine SP.seqc ?_
          refine SP.block ?_
          obtain ⟨x11, hx11, h⟩ := of_bind h
          refine SP.rg <| .a 3 <| .p (ok_idxT (k := .i64) eApiReceipt hx11 und27 ty49 (by kernel_rfl) rfl) <| .a 4 <| .nil ?_
          refine SP.cond (decide ((x11.User.size : Int) > 2000)) (by kernel_rfl) (fun hb12 => ?_) (fun hb12 => ?_)
          · replace h := of_bif_true hb12 h
            refine SP.rg <| .a 1 <| .nil ?_
            refine SP.ret ?_
            rw [← Option.some.inj h]
            exact ⟨[.d (eB true)], [], ⟨resV_tmp (by kernel_rfl), trivial⟩, by kernel_rfl, by kernel_rfl, by kernel_rfl⟩
          · replace h := of_bif_false hb12 h
            refine SP.skip ?_
            refine SP.rgn <| .a 3 <| .nil ?_
            exact hk9 _ (IntKind.i64.wrap (v8 + 1)) (sub_of (mk 100 68) [(0, true)]) h
        · replace h := of_bif_false hb10 h
          refine SP.exit ?_
          refine SP.seqc ?_
          refine SP.rg <| .a 1 <| .nil ?_
          refine SP.block ?_
          refine SP.loop1 (R27_Great_S4 p0_r) (R27_Great_B4 p0_r) r 0 (sub_of (mk 100 132) [(0, true)]) h ?_
          clear h
          intro J18 k14 hk14 v13 h
          unfold R27_Great_B4 at h
          refine SP.seqc ?_
          refine SP.rg <| .a 3 <| .p (ok_lenT eApiTyping p0_r.Typing und28 rfl) <| .a 1 <| .nil ?_
          refine SP.cond (decide (v13 < (p0_r.Typing.length : Int))) (by kernel_rfl) (fun hb15 => ?_) (fun hb15 => ?_)
          · replace h := of_bif_true hb15 h
            refine SP.skip ?_
            refine SP.seqc ?_
            refine SP.block ?_
            obtain ⟨x16, hx16, h⟩ := of_bind h
            refine SP.rg <| .a 3 <| .p (ok_idxT (k := .i64) eApiTyping hx16 und28 ty51 (by kernel_rfl) rfl) <| .a 4 <| .nil ?_
            refine SP.cond (decide ((x16.User.size : Int) > 2000)) (by kernel_rfl) (fun hb17 => ?_) (fun hb17 => ?_)
            · replace h := of_bif_true hb17 h
              refine SP.rg <| .a 1 <| .nil ?_
              refine SP.ret ?_
              rw [← Option.some.inj h]
              exact ⟨[.d (eB true)], [], ⟨resV_tmp (by kernel_rfl), trivial⟩, by kernel_rfl, by kernel_rfl, by kernel_rfl⟩
            · replace h := of_bif_false hb17 h
              refine SP.skip ?_
              refine SP.rgn <| .a 3 <| .nil ?_
              exact hk14 _ (IntKind.i64.wrap (v13 + 1)) (sub_of (mk 100 132) [(0, true)]) h
          · replace h := of_bif_false hb15 h
            refine SP.exit ?_
            refine SP.rg <| .a 1 <| .nil ?_
            refine SP.ret ?_
            rw [← Option.some.inj h]
            exact ⟨[.d (eB false)], [], ⟨resV_tmp (by kernel_rfl), trivial⟩, by kernel_rfl, by kernel_rfl, by kernel_rfl⟩
  · intro K21
    obtain ⟨x22, hx22, h⟩ := of_bind h
    refine SP.rgn <| .a 3 <| .call (R08_Great_ok p0_r.Events p1_n x22 hx22) ent22 <| .a 1 <| ?_
    cases x22 with
    | true =>
      replace h := of_bif_true rfl h
      refine .a 42 <| .nil ?_
      exact K21 _ ⟨true, sub_of (mk 100 18014398509481988) [(0, true)], h⟩
    | false =>
      replace h := of_bif_false rfl h
      obtain ⟨x24, hx24, h⟩ := of_bind h
      refine .a 3 <| .call (R08_Great_ok p0_r.Waiting p1_n x24 hx24) ent22 <| .a 2 <| ?_
      cases x24 with
      | true =>
        replace h := of_bif_true rfl h
        refine .a 36 <| .nil ?_
        exact K21 _ ⟨true, sub_of (mk 100 18014398509481988) [(0, true)], h⟩
      | false =>
        replace h := of_bif_false rfl h
        refine .a 2 <| .p (ok_lenT eApiRow p0_r.Rows und23 rfl) <| .a 3 <| ?_
        rcases Bool.eq_false_or_eq_true (decide ((p0_r.Rows.length : Int) > p1_n)) with hb26 | hb26
        · replace h := of_bif_true hb26 h
          refine .c (congrArg some hb26) <| .a 29 <| .nil ?_
          exact K21 _ ⟨true, sub_of (mk 100 18014398509481988) [(0, true)], h⟩
        · replace h := of_bif_false hb26 h
          refine .c (congrArg some hb26) <| .a 2 <| .p (ok_lenT eI p0_r.Heads und24 rfl) <| .a 2 <| ?_
          rcases Bool.eq_false_or_eq_true (decide ((p0_r.Heads.length : Int) > 40)) with hb27 | hb27
          · replace h := of_bif_true hb27 h
            refine .c (congrArg some hb27) <| .a 23 <| .nil ?_
            exact K21 _ ⟨true, sub_of (mk 100 18014398509481988) [(0, true)], h⟩
          · replace h := of_bif_false hb27 h
            refine .c (congrArg some hb27) <| .a 2 <| .p (ok_lenT eApiEntry p0_r.State und26 rfl) <| .a 2 <| ?_
            rcases Bool.eq_false_or_eq_true (decide ((p0_r.State.length : Int) > 60)) with hb28 | hb28
            · replace h := of_bif_true hb28 h
              refine .c (congrArg some hb28) <| .a 17 <| .nil ?_
              exact K21 _ ⟨true, sub_of (mk 100 18014398509481988) [(0, true)], h⟩
            · replace h := of_bif_false hb28 h
              refine .c (congrArg some hb28) <| .a 2 <| .p (ok_lenT eApiReceipt p0_r.Receipts und27 rfl) <| .a 2 <| ?_
              rcases Bool.eq_false_or_eq_true (decide ((p0_r.Receipts.length : Int) > 40)) with hb29 | hb29
              · replace h := of_bif_true hb29 h
                refine .c (congrArg some hb29) <| .a 11 <| .nil ?_
                exact K21 _ ⟨true, sub_of (mk 100 18014398509481988) [(0, true)], h⟩
              · replace h := of_bif_false hb29 h
                refine .c (congrArg some hb29) <| .a 2 <| .p (ok_lenT eApiTyping p0_r.Typing und28 rfl) <| .a 2 <| ?_
                rcases Bool.eq_false_or_eq_true (decide ((p0_r.Typing.length : Int) > 40)) with hb30 | hb30
                · replace h := of_bif_true hb30 h
                  refine .c (congrArg some hb30) <| .a 5 <| .nil ?_
                  exact K21 _ ⟨true, sub_of (mk 100 18014398509481988) [(0, true)], h⟩
                · replace h := of_bif_false hb30 h
                  refine .c (congrArg some hb30) <| .a 5 <| .nil ?_
                  exact K21 _ ⟨(decide ((p0_r.Id.size : Int) > 2000)), sub_of (mk 100 18014398509481988) [(0, true)], h⟩

-- fedchat/codec.room
def codec_room (p0_b : (List Int)) (p1_more : Int) : Option (List Int) := (gMake 1 0 (p0_b.length : Int) (IntKind.i64.wrap ((p0_b.length : Int) + p1_more))).bind fun x1 => some (gCopy x1 p0_b)
theorem codec_room_ok (p0_b : (List Int)) (p1_more : Int) (r : (List Int)) (h : codec_room p0_b p1_more = some r) : Runs Try.prog 40 [.d ((eL eU8) p0_b), .d (eI p1_more)] [] (.osl 0) [.arr 5 1 (List.map eU8 r)] := by
  refine Runs.of_fin Try.func40 rfl ?_
  unfold codec_room at h
  refine SP.rg <| .e [.arr 5 1 (List.map eU8 [])] (ok_assign_own 5 1 rfl) <| .nil ?_
  obtain ⟨x1, hx1, h⟩ := of_bind h
  refine SP.rg <| .a 1 <| .p (ok_lenT eU8 p0_b und52 rfl) <| .a 1 <| .p (ok_lenT eU8 p0_b und52 rfl) <| .a 2 <| .e [.arr 5 1 (List.map eU8 []), .arr 5 1 (List.map eU8 x1)] (ok_make eU8 0 hx1 el52 zero5 (by kernel_rfl) (by kernel_rfl) (by kernel_rfl) (by decide) rfl) <| .a 1 <| .nil ?_
  refine SP.rg <| .a 2 <| .e [.arr 5 1 (List.map eU8 []), .arr 5 1 (List.map eU8 (gCopy x1 p0_b))] (ok_copy (k := 1) eU8 x1 p0_b el52 (by kernel_rfl) (fun _ => rfl) rfl) <| .nil ?_
  refine SP.rg <| .a 2 <| .nil ?_
  refine SP.ret ?_
  rw [← Option.some.inj h]
  exact ⟨[.osl 1], [(1, true)], ⟨resV_tmp (by kernel_rfl), trivial⟩, by kernel_rfl, by kernel_rfl, by kernel_rfl⟩

-- fedchat/codec.number
def codec_number_S1 (p0_b : (List Int)) (v2 : Int) : St := ⟨shp 28 [(0, .osl 1), (5, .d ((eK .u64) v2))], [.dead, .arr 5 1 (List.map eU8 p0_b)], 1⟩
def codec_number_S2 (v3 : (List Int)) (v4 : Int) : St := ⟨shp 28 [(0, .osl 1), (5, .d ((eK .u64) v4))], [.dead, .arr 5 1 (List.map eU8 v3)], 1⟩
def codec_number_B2  (k5 : ((List Int) → Int → Option (List Int))) : (List Int) → Int → Option (List Int) := fun v3 v4 => (bif decide (v4 ≥ 128) then (gApp 1 v3 [gBits .or .u8 (IntKind.u8.wrap v4) 128]).bind fun x7 => (gSh .shr .u64 v4 7).bind fun x8 => k5 x7 x8 else (gApp 1 v3 [IntKind.u8.wrap v4]).bind fun x9 => some x9)
def codec_number_L2  : (List Int) → Int → Option (List Int) := loop2 (codec_number_B2) fuel
def codec_number_j1 (p0_b : (List Int)) (v2 : Int) : Option (List Int) := codec_number_L2 p0_b v2
def codec_number (p0_b : (List Int)) (p1_n : Int) : Option (List Int) := (gSh .shl .u64 (IntKind.u64.wrap p1_n) 1).bind fun x1 => (bif decide (p1_n < 0) then codec_number_j1 p0_b (gNot .u64 x1) else codec_number_j1 p0_b x1)
theorem codec_number_ok (p0_b : (List Int)) (p1_n : Int) (r : (List Int)) (h : codec_number p0_b p1_n = some r) : Runs Try.prog 41 [.osl 0, .d (eI p1_n)] [.arr 5 1 (List.map eU8 p0_b)] (.osl 1) [.dead, .arr 5 1 (List.map eU8 r)] := by
  refine Runs.of_fin Try.func41 rfl ?_
  unfold codec_number at h
  refine SP.rg <| .e [.arr 5 1 (List.map eU8 p0_b), .arr 5 1 (List.map eU8 [])] (ok_assign_own 5 1 rfl) <| .nil ?_
  obtain ⟨x1, hx1, h⟩ := of_bind h
  refine SP.rg <| .a 2 <| .p (ok_shl (k := .u64) (k' := .u64) hx1 rfl) <| .a 1 <| .nil ?_
  refine SP.join (fun s => ∃ (v2 : Int), Sub s (codec_number_S1 p0_b v2) ∧ codec_number_j1 p0_b v2 = some r) ?_ ?_
  · clear h
    rintro s ⟨v2, hs, h⟩
    refine SP.sub hs ?_
    clear hs
    unfold codec_number_j1 at h
    refine SP.seqc ?_
    refine SP.block ?_
    refine SP.loop2 (codec_number_S2) (codec_number_B2) r p0_b v2 (sub_of (mk 28 33) [(0, false), (1, true)]) h ?_
    clear h
    intro J10 k5 hk5 v3 v4 h
    unfold codec_number_B2 at h
    refine SP.seqc ?_
    refine SP.rg <| .a 2 <| .nil ?_
    refine SP.cond (decide (v4 ≥ 128)) (by kernel_rfl) (fun hb6 => ?_) (fun hb6 => ?_)
    · replace h := of_bif_true hb6 h
      refine SP.skip ?_
      refine SP.block ?_
      obtain ⟨x7, hx7, h⟩ := of_bind h
      refine SP.rg <| .a 3 <| .p (ok_or (k := .u8) (u := (IntKind.u8.wrap v4)) (v := 128) rfl) <| .p (ok_lits el52 zero5 (by kernel_rfl) (by kernel_rfl) (Nat.le_of_ble_eq_true (by kernel_rfl)) [.d (eU8 (gBits .or .u8 (IntKind.u8.wrap v4) 128))] [eU8 (gBits .or .u8 (IntKind.u8.wrap v4) 128)] (by kernel_rfl) (by kernel_rfl) (by kernel_rfl) (by kernel_rfl) rfl) <| .e [.dead, .dead, .arr 5 1 (List.map eU8 x7)] (ok_appT (k := 1) eU8 hx7 el52 (by kernel_rfl) (fun _ => rfl) (by decide) rfl) <| .a 1 <| .nil ?_
      obtain ⟨x8, hx8, h⟩ := of_bind h
      refine SP.rgn <| .a 1 <| .p (ok_shr (k := .u64) (k' := .u64) hx8 rfl) <| .a 1 <| .nil ?_
      exact hk5 _ x7 x8 (sub_of (mk 28 33) [(0, false), (2, true)]) h
    · replace h := of_bif_false hb6 h
      refine SP.exit ?_
      obtain ⟨x9, hx9, h⟩ := of_bind h
      refine SP.rg <| .a 3 <| .p (ok_lits el52 zero5 (by kernel_rfl) (by kernel_rfl) (Nat.le_of_ble_eq_true (by kernel_rfl)) [.d (eU8 (IntKind.u8.wrap v4))] [eU8 (IntKind.u8.wrap v4)] (by kernel_rfl) (by kernel_rfl) (by kernel_rfl) (by kernel_rfl) rfl) <| .e [.dead, .dead, .arr 5 1 (List.map eU8 x9)] (ok_appT (k := 1) eU8 hx9 el52 (by kernel_rfl) (fun _ => rfl) (by decide) rfl) <| .a 1 <| .nil ?_
      refine SP.ret ?_
      rw [← Option.some.inj h]
      exact ⟨[.osl 2], [(0, false), (2, true)], ⟨resV_tmp (by kernel_rfl), trivial⟩, by kernel_rfl, by kernel_rfl, by kernel_rfl⟩
  · intro K11
    refine SP.rg <| .a 2 <| .nil ?_
    refine SP.cond (decide (p1_n < 0)) (by kernel_rfl) (fun hb12 => ?_) (fun hb12 => ?_)
    · replace h := of_bif_true hb12 h
      refine SP.rgn <| .a 1 <| .p (ok_not (k := .u64) (u := x1) rfl) <| .a 1 <| .nil ?_
      exact K11 _ ⟨(gNot .u64 x1), sub_of (mk 28 33) [(0, false), (0, true)], h⟩
    · replace h := of_bif_false hb12 h
      refine SP.skip ?_
      exact K11 _ ⟨x1, sub_of (mk 28 33) [(0, false), (0, true)], h⟩

-- fedchat/codec.text
def codec_text (p0_b : (List Int)) (p1_s : ByteArray) : Option (List Int) := (codec_number p0_b (p1_s.size : Int)).bind fun x1 => (gApp 1 x1 (sBytes p1_s)).bind fun x2 => some x2
theorem codec_text_ok (p0_b : (List Int)) (p1_s : ByteArray) (r : (List Int)) (h : codec_text p0_b p1_s = some r) : Runs Try.prog 39 [.osl 0, .d (eS p1_s)] [.arr 5 1 (List.map eU8 p0_b)] (.osl 1) [.dead, .arr 5 1 (List.map eU8 r)] := by
  refine Runs.of_fin Try.func39 rfl ?_
  unfold codec_text at h
  refine SP.rg <| .e [.arr 5 1 (List.map eU8 p0_b), .arr 5 1 (List.map eU8 [])] (ok_assign_own 5 1 rfl) <| .nil ?_
  obtain ⟨x1, hx1, h⟩ := of_bind h
  obtain ⟨x2, hx2, h⟩ := of_bind h
  refine SP.rg <| .a 3 <| .e (x := .osl 2) [.dead, .arr 5 1 (List.map eU8 []), .arr 5 1 (List.map eU8 x1)] (ok_callG [.ent 0] (avs := [.osl 0, .d (eI (p1_s.size : Int))]) (avs' := [.osl 0, .d (eI (p1_s.size : Int))]) (res' := .osl 2) (codec_number_ok p0_b (p1_s.size : Int) x1 hx1) ent41 (by kernel_rfl) (downs_ent (by kernel_rfl) <| trivial) ⟨⟨0, rfl, rfl⟩, .inl rfl, trivial⟩ rfl (by kernel_rfl) rfl) <| .a 1 <| .e [.dead, .arr 5 1 (List.map eU8 []), .dead, .arr 5 1 (List.map eU8 x2)] (ok_appS (k := 2) hx2 el52 zero5 und9 (by kernel_rfl) rfl) <| .a 1 <| .nil ?_
  refine SP.ret ?_
  rw [← Option.some.inj h]
  exact ⟨[.osl 3], [(0, false), (3, true)], ⟨resV_tmp (by kernel_rfl), trivial⟩, by kernel_rfl, by kernel_rfl, by kernel_rfl⟩

-- fedchat/codec.PutText
def codec_PutText (p0_b : (List Int)) (p1_s : ByteArray) : Option (List Int) := (codec_room p0_b (IntKind.i64.wrap ((p1_s.size : Int) + 10))).bind fun x1 => (codec_text x1 p1_s).bind fun x2 => some x2
theorem codec_PutText_ok (p0_b : (List Int)) (p1_s : ByteArray) (r : (List Int)) (h : codec_PutText p0_b p1_s = some r) : Runs Try.prog 23 [.d ((eL eU8) p0_b), .d (eS p1_s)] [] (.osl 0) [.arr 5 1 (List.map eU8 r)] := by
  refine Runs.of_fin Try.func23 rfl ?_
  unfold codec_PutText at h
  refine SP.rg <| .e [.arr 5 1 (List.map eU8 [])] (ok_assign_own 5 1 rfl) <| .nil ?_
  obtain ⟨x1, hx1, h⟩ := of_bind h
  obtain ⟨x2, hx2, h⟩ := of_bind h
  refine SP.rg <| .a 4 <| .e (x := .osl 1) [.arr 5 1 (List.map eU8 []), .arr 5 1 (List.map eU8 x1)] (ok_callD (avs := [.d ((eL eU8) p0_b), .d (eI (IntKind.i64.wrap ((p1_s.size : Int) + 10)))]) (avs' := [.d ((eL eU8) p0_b), .d (eI (IntKind.i64.wrap ((p1_s.size : Int) + 10)))]) (codec_room_ok p0_b (IntKind.i64.wrap ((p1_s.size : Int) + 10)) x1 hx1) ent40 (by kernel_rfl) ⟨.inl rfl, .inl rfl, trivial⟩ rfl (by kernel_rfl) rfl) <| .a 1 <| .e (x := .osl 2) [.arr 5 1 (List.map eU8 []), .dead, .arr 5 1 (List.map eU8 x2)] (ok_callG [.ent 1] (avs := [.osl 1, .d (eS p1_s)]) (avs' := [.osl 0, .d (eS p1_s)]) (res' := .osl 2) (codec_text_ok x1 p1_s x2 hx2) ent39 (by kernel_rfl) (downs_ent (by kernel_rfl) <| trivial) ⟨⟨0, rfl, rfl⟩, .inl rfl, trivial⟩ rfl (by kernel_rfl) rfl) <| .a 1 <| .nil ?_
  refine SP.ret ?_
  rw [← Option.some.inj h]
  exact ⟨[.osl 2], [(2, true)], ⟨resV_tmp (by kernel_rfl), trivial⟩, by kernel_rfl, by kernel_rfl, by kernel_rfl⟩

-- fedchat/codec.PutInt
def codec_PutInt (p0_b : (List Int)) (p1_n : Int) : Option (List Int) := (codec_room p0_b 10).bind fun x1 => (codec_number x1 p1_n).bind fun x2 => some x2
theorem codec_PutInt_ok (p0_b : (List Int)) (p1_n : Int) (r : (List Int)) (h : codec_PutInt p0_b p1_n = some r) : Runs Try.prog 24 [.d ((eL eU8) p0_b), .d (eI p1_n)] [] (.osl 0) [.arr 5 1 (List.map eU8 r)] := by
  refine Runs.of_fin Try.func24 rfl ?_
  unfold codec_PutInt at h
  refine SP.rg <| .e [.arr 5 1 (List.map eU8 [])] (ok_assign_own 5 1 rfl) <| .nil ?_
  obtain ⟨x1, hx1, h⟩ := of_bind h
  obtain ⟨x2, hx2, h⟩ := of_bind h
  refine SP.rg <| .a 1 <| .e (x := .osl 1) [.arr 5 1 (List.map eU8 []), .arr 5 1 (List.map eU8 x1)] (ok_callD (avs := [.d ((eL eU8) p0_b), .d (eI 10)]) (avs' := [.d ((eL eU8) p0_b), .d (eI 10)]) (codec_room_ok p0_b 10 x1 hx1) ent40 (by kernel_rfl) ⟨.inl rfl, .inl rfl, trivial⟩ rfl (by kernel_rfl) rfl) <| .a 1 <| .e (x := .osl 2) [.arr 5 1 (List.map eU8 []), .dead, .arr 5 1 (List.map eU8 x2)] (ok_callG [.ent 1] (avs := [.osl 1, .d (eI p1_n)]) (avs' := [.osl 0, .d (eI p1_n)]) (res' := .osl 2) (codec_number_ok x1 p1_n x2 hx2) ent41 (by kernel_rfl) (downs_ent (by kernel_rfl) <| trivial) ⟨⟨0, rfl, rfl⟩, .inl rfl, trivial⟩ rfl (by kernel_rfl) rfl) <| .a 1 <| .nil ?_
  refine SP.ret ?_
  rw [← Option.some.inj h]
  exact ⟨[.osl 2], [(2, true)], ⟨resV_tmp (by kernel_rfl), trivial⟩, by kernel_rfl, by kernel_rfl, by kernel_rfl⟩

-- fedchat/room.Row
def room_Row_S1 (p1_id : Int) (p0_r : ApiRoom) (v1 : Int) (v2 : ApiRow) : St := ⟨shp 22 [(1, .d (eI p1_id)), (4, .ptr 0 0), (9, .d ((eL eApiRow) p0_r.Rows)), (10, .d (eI (p0_r.Rows.length : Int))), (11, .d (eI v1))], [.box (dc (eApiRow v2))], 0⟩
def room_Row_B1 (p0_r : ApiRoom) (p1_id : Int) (k3 : (Int → ApiRow → Option (ApiRow × Bool))) : Int → ApiRow → Option (ApiRow × Bool) := fun v1 v2 => (bif decide (v1 < (p0_r.Rows.length : Int)) then (gIdx p0_r.Rows v1).bind fun x5 => (bif (x5.Id == p1_id) then some (x5, true) else k3 (IntKind.i64.wrap (v1 + 1)) v2) else some (zApiRow, false))
def room_Row_L1 (p0_r : ApiRoom) (p1_id : Int) : Int → ApiRow → Option (ApiRow × Bool) := loop2 (room_Row_B1 p0_r p1_id) fuel
def room_Row (p0_r : ApiRoom) (p1_id : Int) : Option (ApiRow × Bool) := room_Row_L1 p0_r p1_id 0 zApiRow
theorem room_Row_ok (p0_r : ApiRoom) (p1_id : Int) (r : (ApiRow × Bool)) (h : room_Row p0_r p1_id = some r) : Runs Try.prog 42 [.d (eApiRoom p0_r), .d (eI p1_id)] [] (.tup [.d (eApiRow r.1), .d (eB r.2)]) [] := by
  refine Runs.of_fin Try.func42 rfl ?_
  unfold room_Row at h
  refine SP.rg <| .a 3 <| .nil ?_
  refine SP.seqc ?_
  refine SP.rg <| .a 2 <| .p (ok_lenT eApiRow p0_r.Rows und23 rfl) <| .a 1 <| .nil ?_
  refine SP.block ?_
  refine SP.loop2 (room_Row_S1 p1_id p0_r) (room_Row_B1 p0_r p1_id) r 0 zApiRow (sub_of (mk 22 3602) [(1, true)]) h ?_
  clear h
  intro J7 k3 hk3 v1 v2 h
  unfold room_Row_B1 at h
  refine SP.rg <| .a 1 <| .nil ?_
  refine SP.seqc ?_
  refine SP.cond (decide (v1 < (p0_r.Rows.length : Int))) (by kernel_rfl) (fun hb4 => ?_) (fun hb4 => ?_)
  · replace h := of_bif_true hb4 h
    refine SP.skip ?_
    refine SP.seqc ?_
    refine SP.block ?_
    obtain ⟨x5, hx5, h⟩ := of_bind h
    refine SP.rg <| .p (ok_idxT (k := .i64) eApiRow hx5 und23 ty43 (by kernel_rfl) rfl) <| .a 3 <| .nil ?_
    refine SP.rg <| .a 4 <| .nil ?_
    refine SP.cond (x5.Id == p1_id) (by kernel_rfl) (fun hb6 => ?_) (fun hb6 => ?_)
    · replace h := of_bif_true hb6 h
      refine SP.rg <| .a 3 <| .nil ?_
      refine SP.ret ?_
      rw [← Option.some.inj h]
      exact ⟨[.d (eApiRow x5), .d (eB true)], [], ⟨⟨0, dc (eApiRow x5), true, 4, by kernel_rfl, by kernel_rfl, by kernel_rfl, ty43, Nat.le_of_ble_eq_true (by kernel_rfl), (by intro hh; cases hh), by kernel_rfl⟩, resV_tmp (by kernel_rfl), trivial⟩, by kernel_rfl, by kernel_rfl, by kernel_rfl⟩
    · replace h := of_bif_false hb6 h
      refine SP.skip ?_
      refine SP.rgn <| .a 2 <| .nil ?_
      exact hk3 _ (IntKind.i64.wrap (v1 + 1)) v2 (sub_of (mk 22 3602) [(0, true)]) h
  · replace h := of_bif_false hb4 h
    refine SP.exit ?_
    refine SP.rg <| .a 3 <| .nil ?_
    refine SP.ret ?_
    rw [← Option.some.inj h]
    exact ⟨[.d (eApiRow zApiRow), .d (eB false)], [], ⟨⟨0, dc (eApiRow zApiRow), true, 4, by kernel_rfl, by kernel_rfl, by kernel_rfl, ty43, Nat.le_of_ble_eq_true (by kernel_rfl), (by intro hh; cases hh), by kernel_rfl⟩, resV_tmp (by kernel_rfl), trivial⟩, by kernel_rfl, by kernel_rfl, by kernel_rfl⟩

-- fedchat/digest.verdict
def digest_verdict_S1  : St := ⟨shp 23 [], [], 0⟩
def digest_verdict_j1  : Option Int := some 4
def digest_verdict (p0_r : ApiRoom) (p1_id : Int) : Option Int := (room_Row p0_r p1_id).bind fun x1 => (bif (!x1.2) then some 0 else (bif (x1.1.Status == 3) then digest_verdict_j1 else (bif (x1.1.Status == 4) then digest_verdict_j1 else some x1.1.Status)))
theorem digest_verdict_ok (p0_r : ApiRoom) (p1_id : Int) (r : Int) (h : digest_verdict p0_r p1_id = some r) : Runs Try.prog 25 [.d (eApiRoom p0_r), .d (eI p1_id)] [] (.d (eI r)) [] := by
  refine Runs.of_fin Try.func25 rfl ?_
  unfold digest_verdict at h
  refine SP.rg <| .a 2 <| .nil ?_
  obtain ⟨x1, hx1, h⟩ := of_bind h
  refine SP.rg <| .a 2 <| .call (room_Row_ok p0_r p1_id x1 hx1) ent42 <| .a 6 <| .nil ?_
  refine SP.seqc ?_
  refine SP.rg <| .a 2 <| .nil ?_
  refine SP.cond (!x1.2) (by kernel_rfl) (fun hb2 => ?_) (fun hb2 => ?_)
  · replace h := of_bif_true hb2 h
    refine SP.rg <| .a 1 <| .nil ?_
    refine SP.ret ?_
    rw [← Option.some.inj h]
    exact ⟨[.d (eI 0)], [], ⟨resV_tmp (by kernel_rfl), trivial⟩, by kernel_rfl, by kernel_rfl, by kernel_rfl⟩
  · replace h := of_bif_false hb2 h
    refine SP.skip ?_
    refine SP.seqc ?_
    refine SP.rg <| .a 2 <| .nil ?_
    refine SP.block ?_
    refine SP.join (fun s => Sub s (digest_verdict_S1 ) ∧ digest_verdict_j1 = some r) ?_ ?_
    · clear h
      rintro s ⟨hs, h⟩
      refine SP.sub hs ?_
      clear hs
      unfold digest_verdict_j1 at h
      refine SP.seqc ?_
      refine SP.rg <| .a 1 <| .nil ?_
      refine SP.ret ?_
      rw [← Option.some.inj h]
      exact ⟨[.d (eI 4)], [], ⟨resV_tmp (by kernel_rfl), trivial⟩, by kernel_rfl, by kernel_rfl, by kernel_rfl⟩
    · intro K3
      refine SP.block ?_
      refine SP.block ?_
      refine SP.seqc ?_
      refine SP.seqc ?_
      refine SP.rg <| .a 2 <| .nil ?_
      refine SP.cond (x1.1.Status == 3) (by kernel_rfl) (fun hb4 => ?_) (fun hb4 => ?_)
      · replace h := of_bif_true hb4 h
        refine SP.exit ?_
        exact K3 _ ⟨sub_of (mk 23 0) [], h⟩
      · replace h := of_bif_false hb4 h
        refine SP.skip ?_
        refine SP.rg <| .a 2 <| .nil ?_
        refine SP.cond (x1.1.Status == 4) (by kernel_rfl) (fun hb5 => ?_) (fun hb5 => ?_)
        · replace h := of_bif_true hb5 h
          refine SP.exit ?_
          exact K3 _ ⟨sub_of (mk 23 0) [], h⟩
        · replace h := of_bif_false hb5 h
          refine SP.skip ?_
          refine SP.exit ?_
          refine SP.rg <| .a 3 <| .nil ?_
          refine SP.ret ?_
          rw [← Option.some.inj h]
          exact ⟨[.d (eI x1.1.Status)], [], ⟨resV_tmp (by kernel_rfl), trivial⟩, by kernel_rfl, by kernel_rfl, by kernel_rfl⟩

-- fedchat/sums.Start
def sums_Start  : Option Int := some 860922984064492325
theorem sums_Start_ok  (r : Int) (h : sums_Start = some r) : Runs Try.prog 44 [] [] (.d (eI r)) [] := by
  refine Runs.of_fin Try.func44 rfl ?_
  unfold sums_Start at h
  refine SP.rg <| .a 1 <| .nil ?_
  refine SP.rg <| .a 1 <| .nil ?_
  refine SP.ret ?_
  rw [← Option.some.inj h]
  exact ⟨[.d (eI 860922984064492325)], [], ⟨resV_tmp (by kernel_rfl), trivial⟩, by kernel_rfl, by kernel_rfl, by kernel_rfl⟩

-- fedchat/sums.Fold
def sums_Fold_S1 (p1_b : (List Int)) (v1 : Int) (v2 : Int) : St := ⟨shp 26 [(5, .d ((eK .u64) v1)), (11, .d ((eL eU8) p1_b)), (12, .d (eI (p1_b.length : Int))), (13, .d (eI v2))], [], 0⟩
def sums_Fold_B1 (p1_b : (List Int)) (k3 : (Int → Int → Option Int)) : Int → Int → Option Int := fun v1 v2 => (bif decide (v2 < (p1_b.length : Int)) then (gIdx p1_b v2).bind fun x5 => k3 (gBits .and .u64 (IntKind.u64.wrap ((gBits .xor .u64 v1 (IntKind.u64.wrap x5)) * 1099511628211)) 4611686018427387903) (IntKind.i64.wrap (v2 + 1)) else some (IntKind.i64.wrap v1))
def sums_Fold_L1 (p1_b : (List Int)) : Int → Int → Option Int := loop2 (sums_Fold_B1 p1_b) fuel
def sums_Fold (p0_h : Int) (p1_b : (List Int)) : Option Int := sums_Fold_L1 p1_b (gBits .and .u64 (IntKind.u64.wrap p0_h) 4611686018427387903) 0
theorem sums_Fold_ok (p0_h : Int) (p1_b : (List Int)) (r : Int) (h : sums_Fold p0_h p1_b = some r) : Runs Try.prog 43 [.d (eI p0_h), .d ((eL eU8) p1_b)] [] (.d (eI r)) [] := by
  refine Runs.of_fin Try.func43 rfl ?_
  unfold sums_Fold at h
  refine SP.rg <| .a 1 <| .nil ?_
  refine SP.rg <| .a 2 <| .p (ok_and (k := .u64) (u := (IntKind.u64.wrap p0_h)) (v := 4611686018427387903) rfl) <| .a 1 <| .nil ?_
  refine SP.seqc ?_
  refine SP.rg <| .a 1 <| .p (ok_lenT eU8 p1_b und52 rfl) <| .a 1 <| .nil ?_
  refine SP.block ?_
  refine SP.loop2 (sums_Fold_S1 p1_b) (sums_Fold_B1 p1_b) r (gBits .and .u64 (IntKind.u64.wrap p0_h) 4611686018427387903) 0 (sub_of (mk 26 14368) []) h ?_
  clear h
  intro J6 k3 hk3 v1 v2 h
  unfold sums_Fold_B1 at h
  refine SP.rg <| .a 1 <| .nil ?_
  refine SP.seqc ?_
  refine SP.cond (decide (v2 < (p1_b.length : Int))) (by kernel_rfl) (fun hb4 => ?_) (fun hb4 => ?_)
  · replace h := of_bif_true hb4 h
    refine SP.skip ?_
    refine SP.seqc ?_
    refine SP.block ?_
    obtain ⟨x5, hx5, h⟩ := of_bind h
    refine SP.rg <| .p (ok_idxT (k := .i64) eU8 hx5 und52 ty5 (by kernel_rfl) rfl) <| .a 2 <| .nil ?_
    refine SP.rgn <| .a 3 <| .p (ok_xor (k := .u64) (u := v1) (v := (IntKind.u64.wrap x5)) rfl) <| .a 1 <| .p (ok_and (k := .u64) (u := (IntKind.u64.wrap ((gBits .xor .u64 v1 (IntKind.u64.wrap x5)) * 1099511628211))) (v := 4611686018427387903) rfl) <| .a 1 <| .nil ?_
    refine SP.rgn <| .a 2 <| .nil ?_
    exact hk3 _ (gBits .and .u64 (IntKind.u64.wrap ((gBits .xor .u64 v1 (IntKind.u64.wrap x5)) * 1099511628211)) 4611686018427387903) (IntKind.i64.wrap (v2 + 1)) (sub_of (mk 26 14368) []) h
  · replace h := of_bif_false hb4 h
    refine SP.exit ?_
    refine SP.rg <| .a 3 <| .nil ?_
    refine SP.ret ?_
    rw [← Option.some.inj h]
    exact ⟨[.d (eI (IntKind.i64.wrap v1))], [], ⟨resV_tmp (by kernel_rfl), trivial⟩, by kernel_rfl, by kernel_rfl, by kernel_rfl⟩

-- fedchat/sums.Sum
def sums_Sum (p0_b : (List Int)) : Option Int := (sums_Start).bind fun x1 => (sums_Fold x1 p0_b).bind fun x2 => some x2
theorem sums_Sum_ok (p0_b : (List Int)) (r : Int) (h : sums_Sum p0_b = some r) : Runs Try.prog 26 [.d ((eL eU8) p0_b)] [] (.d (eI r)) [] := by
  refine Runs.of_fin Try.func26 rfl ?_
  unfold sums_Sum at h
  refine SP.rg <| .a 1 <| .nil ?_
  obtain ⟨x1, hx1, h⟩ := of_bind h
  obtain ⟨x2, hx2, h⟩ := of_bind h
  refine SP.rg <| .call (sums_Start_ok  x1 hx1) ent44 <| .a 1 <| .call (sums_Fold_ok x1 p0_b x2 hx2) ent43 <| .a 1 <| .nil ?_
  refine SP.ret ?_
  rw [← Option.some.inj h]
  exact ⟨[.d (eI x2)], [], ⟨resV_tmp (by kernel_rfl), trivial⟩, by kernel_rfl, by kernel_rfl, by kernel_rfl⟩

-- fedchat/digest.Room
def digest_Room_S1 (p0_r : ApiRoom) (v3 : (List Int)) (v4 : Int) (v5 : ApiRoom) : St := ⟨shp 61 [(1, .ptr 0 0), (3, .d ((eL eU8) v3)), (17, .d ((eL eApiEvent) p0_r.Events)), (18, .d (eI (p0_r.Events.length : Int))), (19, .d (eI v4))], [.box (dc (eApiRoom v5))], 0⟩
def digest_Room_S2 (v5 : ApiRoom) (v13 : (List Int)) (v14 : Int) : St := ⟨shp 61 [(3, .d ((eL eU8) v13)), (40, .d ((eL eApiEntry) v5.State)), (41, .d (eI (v5.State.length : Int))), (42, .d (eI v14))], [], 0⟩
def digest_Room_B2 (v5 : ApiRoom) (k15 : ((List Int) → Int → Option Int)) : (List Int) → Int → Option Int := fun v13 v14 => (bif decide (v14 < (v5.State.length : Int)) then (gIdx v5.State v14).bind fun x17 => (codec_PutInt v13 x17.Kind).bind fun x18 => (codec_PutText x18 x17.Key).bind fun x19 => (codec_PutInt x19 x17.Id).bind fun x20 => k15 x20 (IntKind.i64.wrap (v14 + 1)) else (sums_Sum v13).bind fun x21 => some x21)
def digest_Room_L2 (v5 : ApiRoom) : (List Int) → Int → Option Int := loop2 (digest_Room_B2 v5) fuel
def digest_Room_B1 (p0_r : ApiRoom) (k6 : ((List Int) → Int → ApiRoom → Option Int)) : (List Int) → Int → ApiRoom → Option Int := fun v3 v4 v5 => (bif decide (v4 < (p0_r.Events.length : Int)) then (gIdx p0_r.Events v4).bind fun x8 => (codec_PutInt v3 x8.Id).bind fun x9 => (digest_verdict v5 x8.Id).bind fun x10 => (codec_PutInt x9 x10).bind fun x11 => k6 x11 (IntKind.i64.wrap (v4 + 1)) v5 else (codec_PutInt v3 (v5.State.length : Int)).bind fun x12 => digest_Room_L2 v5 x12 0)
def digest_Room_L1 (p0_r : ApiRoom) : (List Int) → Int → ApiRoom → Option Int := loop3 (digest_Room_B1 p0_r) fuel
def digest_Room (p0_r : ApiRoom) : Option Int := (codec_PutText [] p0_r.Id).bind fun x1 => (codec_PutInt x1 (p0_r.Events.length : Int)).bind fun x2 => digest_Room_L1 p0_r x2 0 p0_r
theorem digest_Room_ok (p0_r : ApiRoom) (r : Int) (h : digest_Room p0_r = some r) : Runs Try.prog 8 [.d (eApiRoom p0_r)] [] (.d (eI r)) [] := by
  refine Runs.of_fin Try.func8 rfl ?_
  unfold digest_Room at h
  refine SP.rg <| .a 2 <| .nil ?_
  obtain ⟨x1, hx1, h⟩ := of_bind h
  refine SP.rg <| .a 2 <| .p (x := .d ((eL eU8) x1)) (ok_callV (avs := [.d (.lit (.slice none 0 0)), .d (eS p0_r.Id)]) (avs' := [.d ((eL eU8) []), .d (eS p0_r.Id)]) (codec_PutText_ok [] p0_r.Id x1 hx1).view ent23 ⟨.inr (.inr ⟨rfl, rfl⟩), .inl rfl, trivial⟩ rfl (by kernel_rfl) rfl) <| .a 1 <| .nil ?_
  obtain ⟨x2, hx2, h⟩ := of_bind h
  refine SP.rg <| .a 3 <| .p (ok_lenT eApiEvent p0_r.Events und22 rfl) <| .call (codec_PutInt_ok x1 (p0_r.Events.length : Int) x2 hx2).view ent24 <| .a 1 <| .nil ?_
  refine SP.seqc ?_
  refine SP.rg <| .a 2 <| .p (ok_lenT eApiEvent p0_r.Events und22 rfl) <| .a 1 <| .nil ?_
  refine SP.block ?_
  refine SP.loop3 (digest_Room_S1 p0_r) (digest_Room_B1 p0_r) r x2 0 p0_r (sub_of (mk 61 917514) [(0, true)]) h ?_
  clear h
  intro J23 k6 hk6 v3 v4 v5 h
  unfold digest_Room_B1 at h
  refine SP.rg <| .a 1 <| .nil ?_
  refine SP.seqc ?_
  refine SP.cond (decide (v4 < (p0_r.Events.length : Int))) (by kernel_rfl) (fun hb7 => ?_) (fun hb7 => ?_)
  · replace h := of_bif_true hb7 h
    refine SP.skip ?_
    refine SP.seqc ?_
    refine SP.block ?_
    obtain ⟨x8, hx8, h⟩ := of_bind h
    refine SP.rg <| .p (ok_idxT (k := .i64) eApiEvent hx8 und22 ty65 (by kernel_rfl) rfl) <| .a 3 <| .nil ?_
    obtain ⟨x9, hx9, h⟩ := of_bind h
    refine SP.rg <| .a 3 <| .call (codec_PutInt_ok v3 x8.Id x9 hx9).view ent24 <| .a 1 <| .nil ?_
    obtain ⟨x10, hx10, h⟩ := of_bind h
    obtain ⟨x11, hx11, h⟩ := of_bind h
    refine SP.rgn <| .a 4 <| .call (digest_verdict_ok v5 x8.Id x10 hx10) ent25 <| .call (codec_PutInt_ok x9 x10 x11 hx11).view ent24 <| .a 1 <| .nil ?_
    refine SP.rgn <| .a 2 <| .nil ?_
    exact hk6 _ x11 (IntKind.i64.wrap (v4 + 1)) v5 (sub_of (mk 61 917514) [(0, true)]) h
  · replace h := of_bif_false hb7 h
    refine SP.exit ?_
    obtain ⟨x12, hx12, h⟩ := of_bind h
    refine SP.rg <| .a 3 <| .p (ok_lenT eApiEntry v5.State und26 rfl) <| .call (codec_PutInt_ok v3 (v5.State.length : Int) x12 hx12).view ent24 <| .a 1 <| .nil ?_
    refine SP.seqc ?_
    refine SP.rg <| .a 2 <| .p (ok_lenT eApiEntry v5.State und26 rfl) <| .a 1 <| .nil ?_
    refine SP.block ?_
    refine SP.loop2 (digest_Room_S2 v5) (digest_Room_B2 v5) r x12 0 (sub_of (mk 61 7696581394440) []) h ?_
    clear h
    intro J22 k15 hk15 v13 v14 h
    unfold digest_Room_B2 at h
    refine SP.rg <| .a 1 <| .nil ?_
    refine SP.seqc ?_
    refine SP.cond (decide (v14 < (v5.State.length : Int))) (by kernel_rfl) (fun hb16 => ?_) (fun hb16 => ?_)
    · replace h := of_bif_true hb16 h
      refine SP.skip ?_
      refine SP.seqc ?_
      refine SP.block ?_
      obtain ⟨x17, hx17, h⟩ := of_bind h
      refine SP.rg <| .p (ok_idxT (k := .i64) eApiEntry hx17 und26 ty47 (by kernel_rfl) rfl) <| .a 3 <| .nil ?_
      obtain ⟨x18, hx18, h⟩ := of_bind h
      refine SP.rg <| .a 3 <| .call (codec_PutInt_ok v13 x17.Kind x18 hx18).view ent24 <| .a 1 <| .nil ?_
      obtain ⟨x19, hx19, h⟩ := of_bind h
      refine SP.rg <| .a 3 <| .call (codec_PutText_ok x18 x17.Key x19 hx19).view ent23 <| .a 1 <| .nil ?_
      obtain ⟨x20, hx20, h⟩ := of_bind h
      refine SP.rgn <| .a 3 <| .call (codec_PutInt_ok x19 x17.Id x20 hx20).view ent24 <| .a 1 <| .nil ?_
      refine SP.rgn <| .a 2 <| .nil ?_
      exact hk15 _ x20 (IntKind.i64.wrap (v14 + 1)) (sub_of (mk 61 7696581394440) []) h
    · replace h := of_bif_false hb16 h
      refine SP.exit ?_
      obtain ⟨x21, hx21, h⟩ := of_bind h
      refine SP.rg <| .a 1 <| .call (sums_Sum_ok v13 x21 hx21) ent26 <| .a 1 <| .nil ?_
      refine SP.ret ?_
      rw [← Option.some.inj h]
      exact ⟨[.d (eI x21)], [], ⟨resV_tmp (by kernel_rfl), trivial⟩, by kernel_rfl, by kernel_rfl, by kernel_rfl⟩

-- fedchat/fedchatref05.Int
def R05_Int_S1 (v2 : Int) : St := ⟨shp 28 [(3, .d ((eK .u64) v2))], [], 0⟩
def R05_Int_S2 (v3 : Int) (v4 : (List Int)) : St := ⟨shp 28 [(3, .d ((eK .u64) v3)), (4, .osl 0)], [.arr 5 1 (List.map eU8 v4)], 0⟩
def R05_Int_B2  (k5 : (Int → (List Int) → Option (List Int))) : Int → (List Int) → Option (List Int) := fun v3 v4 => (bif decide (v3 ≥ 128) then (gRemK v3 128).bind fun x7 => (gApp 1 v4 [IntKind.u8.wrap (IntKind.u64.wrap (x7 + 128))]).bind fun x8 => (gQuoK .u64 v3 128).bind fun x9 => k5 x9 x8 else (gApp 1 v4 [IntKind.u8.wrap v3]).bind fun x10 => some x10)
def R05_Int_L2  : Int → (List Int) → Option (List Int) := loop2 (R05_Int_B2) fuel
def R05_Int_j1 (v2 : Int) : Option (List Int) := R05_Int_L2 v2 []
def R05_Int (p0_n : Int) : Option (List Int) := (gSh .shl .u64 (IntKind.u64.wrap p0_n) 1).bind fun x1 => (bif decide (p0_n < 0) then R05_Int_j1 (gNot .u64 x1) else R05_Int_j1 x1)
theorem R05_Int_ok (p0_n : Int) (r : (List Int)) (h : R05_Int p0_n = some r) : Runs Try.prog 45 [.d (eI p0_n)] [] (.osl 0) [.arr 5 1 (List.map eU8 r)] := by
  refine Runs.of_fin Try.func45 rfl ?_
  unfold R05_Int at h
  refine SP.rg <| .e [.arr 5 1 (List.map eU8 [])] (ok_assign_own 5 1 rfl) <| .nil ?_
  obtain ⟨x1, hx1, h⟩ := of_bind h
  refine SP.rg <| .a 2 <| .p (ok_shl (k := .u64) (k' := .u64) hx1 rfl) <| .a 1 <| .nil ?_
  refine SP.join (fun s => ∃ (v2 : Int), Sub s (R05_Int_S1 v2) ∧ R05_Int_j1 v2 = some r) ?_ ?_
  · clear h
    rintro s ⟨v2, hs, h⟩
    refine SP.sub hs ?_
    clear hs
    unfold R05_Int_j1 at h
    refine SP.rg <| .e [.arr 5 1 (List.map eU8 [])] (ok_assign_own 5 1 rfl) <| .nil ?_
    refine SP.seqc ?_
    refine SP.block ?_
    refine SP.loop2 (R05_Int_S2) (R05_Int_B2) r v2 [] (sub_of (mk 28 24) [(0, true)]) h ?_
    clear h
    intro J11 k5 hk5 v3 v4 h
    unfold R05_Int_B2 at h
    refine SP.seqc ?_
    refine SP.rg <| .a 2 <| .nil ?_
    refine SP.cond (decide (v3 ≥ 128)) (by kernel_rfl) (fun hb6 => ?_) (fun hb6 => ?_)
    · replace h := of_bif_true hb6 h
      refine SP.skip ?_
      refine SP.block ?_
      obtain ⟨x7, hx7, h⟩ := of_bind h
      obtain ⟨x8, hx8, h⟩ := of_bind h
      refine SP.rg <| .a 2 <| .p (ok_remK (k := .u64) hx7 rfl) <| .a 2 <| .p (ok_lits el52 zero5 (by kernel_rfl) (by kernel_rfl) (Nat.le_of_ble_eq_true (by kernel_rfl)) [.d (eU8 (IntKind.u8.wrap (IntKind.u64.wrap (x7 + 128))))] [eU8 (IntKind.u8.wrap (IntKind.u64.wrap (x7 + 128)))] (by kernel_rfl) (by kernel_rfl) (by kernel_rfl) (by kernel_rfl) rfl) <| .e [.dead, .arr 5 1 (List.map eU8 x8)] (ok_appT (k := 0) eU8 hx8 el52 (by kernel_rfl) (fun _ => rfl) (by decide) rfl) <| .a 1 <| .nil ?_
      obtain ⟨x9, hx9, h⟩ := of_bind h
      refine SP.rgn <| .a 1 <| .p (ok_quoK (k := .u64) hx9 rfl) <| .a 1 <| .nil ?_
      exact hk5 _ x9 x8 (sub_of (mk 28 24) [(1, true)]) h
    · replace h := of_bif_false hb6 h
      refine SP.exit ?_
      obtain ⟨x10, hx10, h⟩ := of_bind h
      refine SP.rg <| .a 3 <| .p (ok_lits el52 zero5 (by kernel_rfl) (by kernel_rfl) (Nat.le_of_ble_eq_true (by kernel_rfl)) [.d (eU8 (IntKind.u8.wrap v3))] [eU8 (IntKind.u8.wrap v3)] (by kernel_rfl) (by kernel_rfl) (by kernel_rfl) (by kernel_rfl) rfl) <| .e [.dead, .arr 5 1 (List.map eU8 x10)] (ok_appT (k := 0) eU8 hx10 el52 (by kernel_rfl) (fun _ => rfl) (by decide) rfl) <| .a 1 <| .nil ?_
      refine SP.ret ?_
      rw [← Option.some.inj h]
      exact ⟨[.osl 1], [(1, true)], ⟨resV_tmp (by kernel_rfl), trivial⟩, by kernel_rfl, by kernel_rfl, by kernel_rfl⟩
  · intro K12
    refine SP.rg <| .a 2 <| .nil ?_
    refine SP.cond (decide (p0_n < 0)) (by kernel_rfl) (fun hb13 => ?_) (fun hb13 => ?_)
    · replace h := of_bif_true hb13 h
      refine SP.rgn <| .a 1 <| .p (ok_not (k := .u64) (u := x1) rfl) <| .a 1 <| .nil ?_
      exact K12 _ ⟨(gNot .u64 x1), sub_of (mk 28 8) [], h⟩
    · replace h := of_bif_false hb13 h
      refine SP.skip ?_
      exact K12 _ ⟨x1, sub_of (mk 28 8) [], h⟩

-- fedchat/fedchatref05.PutInt
def R05_PutInt (p0_b : (List Int)) (p1_n : Int) : Option (List Int) := (gApp 1 [] p0_b).bind fun x1 => (R05_Int p1_n).bind fun x2 => (gApp 1 x1 x2).bind fun x3 => some x3
theorem R05_PutInt_ok (p0_b : (List Int)) (p1_n : Int) (r : (List Int)) (h : R05_PutInt p0_b p1_n = some r) : Runs Try.prog 28 [.d ((eL eU8) p0_b), .d (eI p1_n)] [] (.osl 0) [.arr 5 1 (List.map eU8 r)] := by
  refine Runs.of_fin Try.func28 rfl ?_
  unfold R05_PutInt at h
  refine SP.rg <| .e [.arr 5 1 (List.map eU8 [])] (ok_assign_own 5 1 rfl) <| .nil ?_
  obtain ⟨x1, hx1, h⟩ := of_bind h
  obtain ⟨x2, hx2, h⟩ := of_bind h
  obtain ⟨x3, hx3, h⟩ := of_bind h
  refine SP.rg <| .e [.arr 5 1 (List.map eU8 []), .arr 5 1 (List.map eU8 [])] (ok_lits_own el52 zero5 (by kernel_rfl) (by kernel_rfl) (Nat.le_of_ble_eq_true (by kernel_rfl)) [] [] (by kernel_rfl) (by kernel_rfl) (by kernel_rfl) (by kernel_rfl) rfl) <| .a 1 <| .e [.arr 5 1 (List.map eU8 []), .dead, .arr 5 1 (List.map eU8 x1)] (ok_appT (k := 1) eU8 hx1 el52 (by kernel_rfl) (fun _ => rfl) (by decide) rfl) <| .a 1 <| .call (R05_Int_ok p1_n x2 hx2).view ent45 <| .e [.arr 5 1 (List.map eU8 []), .dead, .dead, .arr 5 1 (List.map eU8 x3)] (ok_appT (k := 2) eU8 hx3 el52 (by kernel_rfl) (fun _ => rfl) (by decide) rfl) <| .a 1 <| .nil ?_
  refine SP.ret ?_
  rw [← Option.some.inj h]
  exact ⟨[.osl 3], [(3, true)], ⟨resV_tmp (by kernel_rfl), trivial⟩, by kernel_rfl, by kernel_rfl, by kernel_rfl⟩

-- fedchat/fedchatref05.PutText
def R05_PutText (p0_b : (List Int)) (p1_s : ByteArray) : Option (List Int) := (R05_PutInt p0_b (p1_s.size : Int)).bind fun x1 => (gApp 1 x1 (sBytes p1_s)).bind fun x2 => some x2
theorem R05_PutText_ok (p0_b : (List Int)) (p1_s : ByteArray) (r : (List Int)) (h : R05_PutText p0_b p1_s = some r) : Runs Try.prog 27 [.d ((eL eU8) p0_b), .d (eS p1_s)] [] (.osl 0) [.arr 5 1 (List.map eU8 r)] := by
  refine Runs.of_fin Try.func27 rfl ?_
  unfold R05_PutText at h
  refine SP.rg <| .e [.arr 5 1 (List.map eU8 [])] (ok_assign_own 5 1 rfl) <| .nil ?_
  obtain ⟨x1, hx1, h⟩ := of_bind h
  obtain ⟨x2, hx2, h⟩ := of_bind h
  refine SP.rg <| .a 3 <| .e (x := .osl 1) [.arr 5 1 (List.map eU8 []), .arr 5 1 (List.map eU8 x1)] (ok_callD (avs := [.d ((eL eU8) p0_b), .d (eI (p1_s.size : Int))]) (avs' := [.d ((eL eU8) p0_b), .d (eI (p1_s.size : Int))]) (R05_PutInt_ok p0_b (p1_s.size : Int) x1 hx1) ent28 (by kernel_rfl) ⟨.inl rfl, .inl rfl, trivial⟩ rfl (by kernel_rfl) rfl) <| .a 1 <| .p (ok_bytes (s := p1_s) und9 und52 und5 rfl) <| .e [.arr 5 1 (List.map eU8 []), .dead, .arr 5 1 (List.map eU8 x2)] (ok_appT (k := 1) eU8 hx2 el52 (by kernel_rfl) (fun _ => rfl) (by decide) rfl) <| .a 1 <| .nil ?_
  refine SP.ret ?_
  rw [← Option.some.inj h]
  exact ⟨[.osl 2], [(2, true)], ⟨resV_tmp (by kernel_rfl), trivial⟩, by kernel_rfl, by kernel_rfl, by kernel_rfl⟩

-- fedchat/fedchatref24.Row
def R24_Row_S1 (p1_id : Int) (v1 : Int) (v2 : ApiRoom) (v3 : ApiRow) : St := ⟨shp 28 [(1, .d (eI p1_id)), (2, .ptr 0 0), (4, .ptr 1 0), (6, .d (eI v1))], [.box (dc (eApiRoom v2)), .box (dc (eApiRow v3))], 0⟩
def R24_Row_B1 (p1_id : Int) (k4 : (Int → ApiRoom → ApiRow → Option (ApiRow × Bool))) : Int → ApiRoom → ApiRow → Option (ApiRow × Bool) := fun v1 v2 v3 => (bif decide (v1 < (v2.Rows.length : Int)) then (gIdx v2.Rows v1).bind fun x6 => (bif (x6.Id == p1_id) then (gIdx v2.Rows v1).bind fun x8 => some (x8, true) else k4 (IntKind.i64.wrap (v1 + 1)) v2 v3) else some (zApiRow, false))
def R24_Row_L1 (p1_id : Int) : Int → ApiRoom → ApiRow → Option (ApiRow × Bool) := loop3 (R24_Row_B1 p1_id) fuel
def R24_Row (p0_r : ApiRoom) (p1_id : Int) : Option (ApiRow × Bool) := R24_Row_L1 p1_id 0 p0_r zApiRow
theorem R24_Row_ok (p0_r : ApiRoom) (p1_id : Int) (r : (ApiRow × Bool)) (h : R24_Row p0_r p1_id = some r) : Runs Try.prog 46 [.d (eApiRoom p0_r), .d (eI p1_id)] [] (.tup [.d (eApiRow r.1), .d (eB r.2)]) [] := by
  refine Runs.of_fin Try.func46 rfl ?_
  unfold R24_Row at h
  refine SP.rg <| .a 3 <| .nil ?_
  refine SP.seqc ?_
  refine SP.rg <| .a 1 <| .nil ?_
  refine SP.block ?_
  refine SP.loop3 (R24_Row_S1 p1_id) (R24_Row_B1 p1_id) r 0 p0_r zApiRow (sub_of (mk 28 86) [(0, true), (1, true)]) h ?_
  clear h
  intro J9 k4 hk4 v1 v2 v3 h
  unfold R24_Row_B1 at h
  refine SP.seqc ?_
  refine SP.rg <| .a 3 <| .p (ok_lenT eApiRow v2.Rows und23 rfl) <| .a 1 <| .nil ?_
  refine SP.cond (decide (v1 < (v2.Rows.length : Int))) (by kernel_rfl) (fun hb5 => ?_) (fun hb5 => ?_)
  · replace h := of_bif_true hb5 h
    refine SP.skip ?_
    refine SP.seqc ?_
    refine SP.block ?_
    obtain ⟨x6, hx6, h⟩ := of_bind h
    refine SP.rg <| .a 3 <| .p (ok_idxT (k := .i64) eApiRow hx6 und23 ty43 (by kernel_rfl) rfl) <| .a 4 <| .nil ?_
    refine SP.cond (x6.Id == p1_id) (by kernel_rfl) (fun hb7 => ?_) (fun hb7 => ?_)
    · replace h := of_bif_true hb7 h
      obtain ⟨x8, hx8, h⟩ := of_bind h
      refine SP.rg <| .a 3 <| .p (ok_idxT (k := .i64) eApiRow hx8 und23 ty43 (by kernel_rfl) rfl) <| .a 3 <| .nil ?_
      refine SP.ret ?_
      rw [← Option.some.inj h]
      exact ⟨[.d (eApiRow x8), .d (eB true)], [], ⟨⟨1, dc (eApiRow x8), true, 4, by kernel_rfl, by kernel_rfl, by kernel_rfl, ty43, Nat.le_of_ble_eq_true (by kernel_rfl), (by intro hh; cases hh), by kernel_rfl⟩, resV_tmp (by kernel_rfl), trivial⟩, by kernel_rfl, by kernel_rfl, by kernel_rfl⟩
    · replace h := of_bif_false hb7 h
      refine SP.skip ?_
      refine SP.rgn <| .a 3 <| .nil ?_
      exact hk4 _ (IntKind.i64.wrap (v1 + 1)) v2 v3 (sub_of (mk 28 86) [(0, true), (1, true)]) h
  · replace h := of_bif_false hb5 h
    refine SP.exit ?_
    refine SP.rg <| .a 3 <| .nil ?_
    refine SP.ret ?_
    rw [← Option.some.inj h]
    exact ⟨[.d (eApiRow zApiRow), .d (eB false)], [], ⟨⟨1, dc (eApiRow zApiRow), true, 4, by kernel_rfl, by kernel_rfl, by kernel_rfl, ty43, Nat.le_of_ble_eq_true (by kernel_rfl), (by intro hh; cases hh), by kernel_rfl⟩, resV_tmp (by kernel_rfl), trivial⟩, by kernel_rfl, by kernel_rfl, by kernel_rfl⟩

-- fedchat/fedchatref54.verdict
def R54_verdict (p0_r : ApiRoom) (p1_id : Int) : Option Int := (R24_Row p0_r p1_id).bind fun x1 => (bif (!x1.2) then some 0 else (bif (x1.1.Status == 3) then some 4 else some x1.1.Status))
theorem R54_verdict_ok (p0_r : ApiRoom) (p1_id : Int) (r : Int) (h : R54_verdict p0_r p1_id = some r) : Runs Try.prog 29 [.d (eApiRoom p0_r), .d (eI p1_id)] [] (.d (eI r)) [] := by
  refine Runs.of_fin Try.func29 rfl ?_
  unfold R54_verdict at h
  refine SP.rg <| .a 2 <| .nil ?_
  obtain ⟨x1, hx1, h⟩ := of_bind h
  refine SP.rg <| .a 2 <| .call (R24_Row_ok p0_r p1_id x1 hx1) ent46 <| .a 6 <| .nil ?_
  refine SP.seqc ?_
  refine SP.rg <| .a 2 <| .nil ?_
  refine SP.cond (!x1.2) (by kernel_rfl) (fun hb2 => ?_) (fun hb2 => ?_)
  · replace h := of_bif_true hb2 h
    refine SP.rg <| .a 1 <| .nil ?_
    refine SP.ret ?_
    rw [← Option.some.inj h]
    exact ⟨[.d (eI 0)], [], ⟨resV_tmp (by kernel_rfl), trivial⟩, by kernel_rfl, by kernel_rfl, by kernel_rfl⟩
  · replace h := of_bif_false hb2 h
    refine SP.skip ?_
    refine SP.seqc ?_
    refine SP.rg <| .a 3 <| .nil ?_
    refine SP.cond (x1.1.Status == 3) (by kernel_rfl) (fun hb3 => ?_) (fun hb3 => ?_)
    · replace h := of_bif_true hb3 h
      refine SP.rg <| .a 1 <| .nil ?_
      refine SP.ret ?_
      rw [← Option.some.inj h]
      exact ⟨[.d (eI 4)], [], ⟨resV_tmp (by kernel_rfl), trivial⟩, by kernel_rfl, by kernel_rfl, by kernel_rfl⟩
    · replace h := of_bif_false hb3 h
      refine SP.skip ?_
      refine SP.rg <| .a 3 <| .nil ?_
      refine SP.ret ?_
      rw [← Option.some.inj h]
      exact ⟨[.d (eI x1.1.Status)], [], ⟨resV_tmp (by kernel_rfl), trivial⟩, by kernel_rfl, by kernel_rfl, by kernel_rfl⟩

-- fedchat/fedchatref04.Start
def R04_Start  : Option Int := some 860922984064492325
theorem R04_Start_ok  (r : Int) (h : R04_Start = some r) : Runs Try.prog 48 [] [] (.d (eI r)) [] := by
  refine Runs.of_fin Try.func48 rfl ?_
  unfold R04_Start at h
  refine SP.rg <| .a 1 <| .nil ?_
  refine SP.rg <| .a 1 <| .nil ?_
  refine SP.ret ?_
  rw [← Option.some.inj h]
  exact ⟨[.d (eI 860922984064492325)], [], ⟨resV_tmp (by kernel_rfl), trivial⟩, by kernel_rfl, by kernel_rfl, by kernel_rfl⟩

-- fedchat/fedchatref04.Fold
def R04_Fold_S1 (p1_b : (List Int)) (v2 : Int) (v3 : Int) : St := ⟨shp 27 [(1, .d ((eL eU8) p1_b)), (5, .d ((eK .u64) v2)), (6, .d (eI v3))], [], 0⟩
def R04_Fold_B1 (p1_b : (List Int)) (k4 : (Int → Int → Option Int)) : Int → Int → Option Int := fun v2 v3 => (bif decide (v3 < (p1_b.length : Int)) then (gIdx p1_b v3).bind fun x6 => (gRemK (IntKind.u64.wrap ((gBits .xor .u64 v2 (IntKind.u64.wrap x6)) * 1099511628211)) 4611686018427387904).bind fun x7 => k4 x7 (IntKind.i64.wrap (v3 + 1)) else some (IntKind.i64.wrap v2))
def R04_Fold_L1 (p1_b : (List Int)) : Int → Int → Option Int := loop2 (R04_Fold_B1 p1_b) fuel
def R04_Fold (p0_h : Int) (p1_b : (List Int)) : Option Int := (gRemK (IntKind.u64.wrap p0_h) 4611686018427387904).bind fun x1 => R04_Fold_L1 p1_b x1 0
theorem R04_Fold_ok (p0_h : Int) (p1_b : (List Int)) (r : Int) (h : R04_Fold p0_h p1_b = some r) : Runs Try.prog 47 [.d (eI p0_h), .d ((eL eU8) p1_b)] [] (.d (eI r)) [] := by
  refine Runs.of_fin Try.func47 rfl ?_
  unfold R04_Fold at h
  refine SP.rg <| .a 1 <| .nil ?_
  obtain ⟨x1, hx1, h⟩ := of_bind h
  refine SP.rg <| .a 2 <| .p (ok_remK (k := .u64) hx1 rfl) <| .a 1 <| .nil ?_
  refine SP.seqc ?_
  refine SP.rg <| .a 1 <| .nil ?_
  refine SP.block ?_
  refine SP.loop2 (R04_Fold_S1 p1_b) (R04_Fold_B1 p1_b) r x1 0 (sub_of (mk 27 98) []) h ?_
  clear h
  intro J8 k4 hk4 v2 v3 h
  unfold R04_Fold_B1 at h
  refine SP.seqc ?_
  refine SP.rg <| .a 2 <| .p (ok_lenT eU8 p1_b und52 rfl) <| .a 1 <| .nil ?_
  refine SP.cond (decide (v3 < (p1_b.length : Int))) (by kernel_rfl) (fun hb5 => ?_) (fun hb5 => ?_)
  · replace h := of_bif_true hb5 h
    refine SP.skip ?_
    refine SP.seqc ?_
    refine SP.block ?_
    obtain ⟨x6, hx6, h⟩ := of_bind h
    obtain ⟨x7, hx7, h⟩ := of_bind h
    refine SP.rgn <| .a 3 <| .p (ok_idxT (k := .i64) eU8 hx6 und52 ty5 (by kernel_rfl) rfl) <| .a 2 <| .p (ok_xor (k := .u64) (u := v2) (v := (IntKind.u64.wrap x6)) rfl) <| .a 1 <| .p (ok_remK (k := .u64) hx7 rfl) <| .a 1 <| .nil ?_
    refine SP.rgn <| .a 3 <| .nil ?_
    exact hk4 _ x7 (IntKind.i64.wrap (v3 + 1)) (sub_of (mk 27 98) []) h
  · replace h := of_bif_false hb5 h
    refine SP.exit ?_
    refine SP.rg <| .a 3 <| .nil ?_
    refine SP.ret ?_
    rw [← Option.some.inj h]
    exact ⟨[.d (eI (IntKind.i64.wrap v2))], [], ⟨resV_tmp (by kernel_rfl), trivial⟩, by kernel_rfl, by kernel_rfl, by kernel_rfl⟩

-- fedchat/fedchatref04.Sum
def R04_Sum (p0_b : (List Int)) : Option Int := (R04_Start).bind fun x1 => (R04_Fold x1 p0_b).bind fun x2 => some x2
theorem R04_Sum_ok (p0_b : (List Int)) (r : Int) (h : R04_Sum p0_b = some r) : Runs Try.prog 30 [.d ((eL eU8) p0_b)] [] (.d (eI r)) [] := by
  refine Runs.of_fin Try.func30 rfl ?_
  unfold R04_Sum at h
  refine SP.rg <| .a 1 <| .nil ?_
  obtain ⟨x1, hx1, h⟩ := of_bind h
  obtain ⟨x2, hx2, h⟩ := of_bind h
  refine SP.rg <| .call (R04_Start_ok  x1 hx1) ent48 <| .a 1 <| .call (R04_Fold_ok x1 p0_b x2 hx2) ent47 <| .a 1 <| .nil ?_
  refine SP.ret ?_
  rw [← Option.some.inj h]
  exact ⟨[.d (eI x2)], [], ⟨resV_tmp (by kernel_rfl), trivial⟩, by kernel_rfl, by kernel_rfl, by kernel_rfl⟩

-- fedchat/fedchatref54.Room
def R54_Room_S1 (p0_r : ApiRoom) (v3 : (List Int)) (v4 : Int) : St := ⟨shp 77 [(1, .ptr 0 0), (3, .d ((eL eU8) v3)), (4, .d (eI v4))], [.box (dc (eApiRoom p0_r))], 0⟩
def R54_Room_S2 (p0_r : ApiRoom) (v13 : (List Int)) (v14 : Int) : St := ⟨shp 77 [(1, .ptr 0 0), (3, .d ((eL eU8) v13)), (5, .d (eI v14))], [.box (dc (eApiRoom p0_r))], 0⟩
def R54_Room_B2 (p0_r : ApiRoom) (k15 : ((List Int) → Int → Option Int)) : (List Int) → Int → Option Int := fun v13 v14 => (bif decide (v14 < (p0_r.State.length : Int)) then (gIdx p0_r.State v14).bind fun x17 => (R05_PutInt v13 x17.Kind).bind fun x18 => (gIdx p0_r.State v14).bind fun x19 => (R05_PutText x18 x19.Key).bind fun x20 => (gIdx p0_r.State v14).bind fun x21 => (R05_PutInt x20 x21.Id).bind fun x22 => k15 x22 (IntKind.i64.wrap (v14 + 1)) else (R04_Sum v13).bind fun x23 => some x23)
def R54_Room_L2 (p0_r : ApiRoom) : (List Int) → Int → Option Int := loop2 (R54_Room_B2 p0_r) fuel
def R54_Room_B1 (p0_r : ApiRoom) (k5 : ((List Int) → Int → Option Int)) : (List Int) → Int → Option Int := fun v3 v4 => (bif decide (v4 < (p0_r.Events.length : Int)) then (gIdx p0_r.Events v4).bind fun x7 => (R05_PutInt v3 x7.Id).bind fun x8 => (gIdx p0_r.Events v4).bind fun x9 => (R54_verdict p0_r x9.Id).bind fun x10 => (R05_PutInt x8 x10).bind fun x11 => k5 x11 (IntKind.i64.wrap (v4 + 1)) else (R05_PutInt v3 (p0_r.State.length : Int)).bind fun x12 => R54_Room_L2 p0_r x12 0)
def R54_Room_L1 (p0_r : ApiRoom) : (List Int) → Int → Option Int := loop2 (R54_Room_B1 p0_r) fuel
def R54_Room (p0_r : ApiRoom) : Option Int := (R05_PutText [] p0_r.Id).bind fun x1 => (R05_PutInt x1 (p0_r.Events.length : Int)).bind fun x2 => R54_Room_L1 p0_r x2 0
theorem R54_Room_ok (p0_r : ApiRoom) (r : Int) (h : R54_Room p0_r = some r) : Runs Try.prog 9 [.d (eApiRoom p0_r)] [] (.d (eI r)) [] := by
  refine Runs.of_fin Try.func9 rfl ?_
  unfold R54_Room at h
  refine SP.rg <| .a 2 <| .nil ?_
  obtain ⟨x1, hx1, h⟩ := of_bind h
  refine SP.rg <| .a 2 <| .p (x := .d ((eL eU8) x1)) (ok_callV (avs := [.d (.lit (.slice none 0 0)), .d (eS p0_r.Id)]) (avs' := [.d ((eL eU8) []), .d (eS p0_r.Id)]) (R05_PutText_ok [] p0_r.Id x1 hx1).view ent27 ⟨.inr (.inr ⟨rfl, rfl⟩), .inl rfl, trivial⟩ rfl (by kernel_rfl) rfl) <| .a 1 <| .nil ?_
  obtain ⟨x2, hx2, h⟩ := of_bind h
  refine SP.rg <| .a 3 <| .p (ok_lenT eApiEvent p0_r.Events und22 rfl) <| .call (R05_PutInt_ok x1 (p0_r.Events.length : Int) x2 hx2).view ent28 <| .a 1 <| .nil ?_
  refine SP.seqc ?_
  refine SP.rg <| .a 1 <| .nil ?_
  refine SP.block ?_
  refine SP.loop2 (R54_Room_S1 p0_r) (R54_Room_B1 p0_r) r x2 0 (sub_of (mk 77 26) [(0, true)]) h ?_
  clear h
  intro J25 k5 hk5 v3 v4 h
  unfold R54_Room_B1 at h
  refine SP.seqc ?_
  refine SP.rg <| .a 3 <| .p (ok_lenT eApiEvent p0_r.Events und22 rfl) <| .a 1 <| .nil ?_
  refine SP.cond (decide (v4 < (p0_r.Events.length : Int))) (by kernel_rfl) (fun hb6 => ?_) (fun hb6 => ?_)
  · replace h := of_bif_true hb6 h
    refine SP.skip ?_
    refine SP.seqc ?_
    refine SP.block ?_
    obtain ⟨x7, hx7, h⟩ := of_bind h
    obtain ⟨x8, hx8, h⟩ := of_bind h
    refine SP.rg <| .a 4 <| .p (ok_idxT (k := .i64) eApiEvent hx7 und22 ty65 (by kernel_rfl) rfl) <| .a 2 <| .call (R05_PutInt_ok v3 x7.Id x8 hx8).view ent28 <| .a 1 <| .nil ?_
    obtain ⟨x9, hx9, h⟩ := of_bind h
    obtain ⟨x10, hx10, h⟩ := of_bind h
    obtain ⟨x11, hx11, h⟩ := of_bind h
    refine SP.draw (by kernel_rfl) (by kernel_rfl) (by kernel_rfl) (.a 5 <| .p (ok_idxT (k := .i64) eApiEvent hx9 und22 ty65 (by kernel_rfl) rfl) <| .a 2 <| .call (R54_verdict_ok p0_r x9.Id x10 hx10) ent29 <| .call (R05_PutInt_ok x8 x10 x11 hx11).view ent28 <| .a 1 <| .nil _) ?_
    refine SP.rgn <| .a 3 <| .nil ?_
    exact hk5 _ x11 (IntKind.i64.wrap (v4 + 1)) (sub_of (mk 77 26) [(0, true)]) h
  · replace h := of_bif_false hb6 h
    refine SP.exit ?_
    obtain ⟨x12, hx12, h⟩ := of_bind h
    refine SP.rg <| .a 3 <| .p (ok_lenT eApiEntry p0_r.State und26 rfl) <| .call (R05_PutInt_ok v3 (p0_r.State.length : Int) x12 hx12).view ent28 <| .a 1 <| .nil ?_
    refine SP.seqc ?_
    refine SP.rg <| .a 1 <| .nil ?_
    refine SP.block ?_
    refine SP.loop2 (R54_Room_S2 p0_r) (R54_Room_B2 p0_r) r x12 0 (sub_of (mk 77 42) [(0, true)]) h ?_
    clear h
    intro J24 k15 hk15 v13 v14 h
    unfold R54_Room_B2 at h
    refine SP.seqc ?_
    refine SP.rg <| .a 3 <| .p (ok_lenT eApiEntry p0_r.State und26 rfl) <| .a 1 <| .nil ?_
    refine SP.cond (decide (v14 < (p0_r.State.length : Int))) (by kernel_rfl) (fun hb16 => ?_) (fun hb16 => ?_)
    · replace h := of_bif_true hb16 h
      refine SP.skip ?_
      refine SP.seqc ?_
      refine SP.block ?_
      obtain ⟨x17, hx17, h⟩ := of_bind h
      obtain ⟨x18, hx18, h⟩ := of_bind h
      refine SP.rg <| .a 4 <| .p (ok_idxT (k := .i64) eApiEntry hx17 und26 ty47 (by kernel_rfl) rfl) <| .a 2 <| .call (R05_PutInt_ok v13 x17.Kind x18 hx18).view ent28 <| .a 1 <| .nil ?_
      obtain ⟨x19, hx19, h⟩ := of_bind h
      obtain ⟨x20, hx20, h⟩ := of_bind h
      refine SP.rg <| .a 4 <| .p (ok_idxT (k := .i64) eApiEntry hx19 und26 ty47 (by kernel_rfl) rfl) <| .a 2 <| .call (R05_PutText_ok x18 x19.Key x20 hx20).view ent27 <| .a 1 <| .nil ?_
      obtain ⟨x21, hx21, h⟩ := of_bind h
      obtain ⟨x22, hx22, h⟩ := of_bind h
      refine SP.rgn <| .a 4 <| .p (ok_idxT (k := .i64) eApiEntry hx21 und26 ty47 (by kernel_rfl) rfl) <| .a 2 <| .call (R05_PutInt_ok x20 x21.Id x22 hx22).view ent28 <| .a 1 <| .nil ?_
      refine SP.rgn <| .a 3 <| .nil ?_
      exact hk15 _ x22 (IntKind.i64.wrap (v14 + 1)) (sub_of (mk 77 42) [(0, true)]) h
    · replace h := of_bif_false hb16 h
      refine SP.exit ?_
      obtain ⟨x23, hx23, h⟩ := of_bind h
      refine SP.rg <| .a 1 <| .call (R04_Sum_ok v13 x23 hx23) ent30 <| .a 1 <| .nil ?_
      refine SP.ret ?_
      rw [← Option.some.inj h]
      exact ⟨[.d (eI x23)], [], ⟨resV_tmp (by kernel_rfl), trivial⟩, by kernel_rfl, by kernel_rfl, by kernel_rfl⟩

-- slices.Clone[[]int,int]
def slices_Clone_intint (p0_s : (List Int)) : Option (List Int) := (gApp 8 [] p0_s).bind fun x1 => some x1
theorem slices_Clone_intint_ok (p0_s : (List Int)) (r : (List Int)) (h : slices_Clone_intint p0_s = some r) : Runs Try.prog 50 [.d ((eL eI) p0_s)] [] (.osl 0) [.arr 3 1 (List.map eI r)] := by
  refine Runs.of_fin Try.func50 rfl ?_
  unfold slices_Clone_intint at h
  refine SP.rg <| .e [.arr 3 1 (List.map eI [])] (ok_assign_own 3 1 rfl) <| .nil ?_
  refine SP.seqc ?_
  refine SP.rseq_nil (x := .tmp 3) (t' := 24) (d := 4) (es := List.map eI p0_s) 1 rfl (.a 1 <| .nil _) (by kernel_rfl) (by kernel_rfl) (by kernel_rfl) und24 (by kernel_rfl) ?_
  intro b hn2
  cases b
  · clear hn2
    refine SP.condF (by kernel_rfl) ?_
    refine SP.skip ?_
    obtain ⟨x1, hx1, h⟩ := of_bind h
    refine SP.rg <| .e [.arr 3 1 (List.map eI []), .arr 3 1 (List.map eI [])] (ok_lits_own el24 zero3 (by kernel_rfl) (by kernel_rfl) (Nat.le_of_ble_eq_true (by kernel_rfl)) [] [] (by kernel_rfl) (by kernel_rfl) (by kernel_rfl) (by kernel_rfl) rfl) <| .a 1 <| .e [.arr 3 1 (List.map eI []), .dead, .arr 3 1 (List.map eI x1)] (ok_appT (k := 1) eI hx1 el24 (by kernel_rfl) (fun _ => rfl) (by decide) rfl) <| .a 1 <| .nil ?_
    refine SP.ret ?_
    rw [← Option.some.inj h]
    exact ⟨[.osl 2], [(2, true)], ⟨resV_tmp (by kernel_rfl), trivial⟩, by kernel_rfl, by kernel_rfl, by kernel_rfl⟩
  · replace hn2 := nil_of hn2
    replace h : some [] = some r := by rw [hn2] at h; exact h
    refine SP.condT (by kernel_rfl) ?_
    refine SP.rg <| .e [.arr 3 1 (List.map eI []), .arr 3 1 (List.map eI [])] (ok_assign_own 3 1 rfl) <| .nil ?_
    refine SP.ret ?_
    rw [← Option.some.inj h]
    exact ⟨[.osl 1], [(1, true)], ⟨resV_tmp (by kernel_rfl), trivial⟩, by kernel_rfl, by kernel_rfl, by kernel_rfl⟩

-- fedchat/num.Sorted
def num_Sorted (p0_l : (List Int)) : Option (List Int) := (slices_Clone_intint p0_l).bind fun x1 => (slices_Sort_intint x1).bind fun x2 => (slices_Compact_intint x2).bind fun x3 => some x3
theorem num_Sorted_ok (p0_l : (List Int)) (r : (List Int)) (h : num_Sorted p0_l = some r) : Runs Try.prog 49 [.d ((eL eI) p0_l)] [] (.osl 0) [.arr 3 1 (List.map eI r)] := by
  refine Runs.of_fin Try.func49 rfl ?_
  unfold num_Sorted at h
  refine SP.rg <| .e [.arr 3 1 (List.map eI [])] (ok_assign_own 3 1 rfl) <| .nil ?_
  obtain ⟨x1, hx1, h⟩ := of_bind h
  refine SP.rg <| .a 1 <| .e (x := .osl 1) [.arr 3 1 (List.map eI []), .arr 3 1 (List.map eI x1)] (ok_callD (avs := [.d ((eL eI) p0_l)]) (avs' := [.d ((eL eI) p0_l)]) (slices_Clone_intint_ok p0_l x1 hx1) ent50 (by kernel_rfl) ⟨.inl rfl, trivial⟩ rfl (by kernel_rfl) rfl) <| .a 1 <| .nil ?_
  obtain ⟨x2, hx2, h⟩ := of_bind h
  refine SP.rg <| .a 1 <| .e (x := .tup []) [.arr 3 1 (List.map eI []), .arr 3 1 (List.map eI x2)] (ok_callG [.ent 1] (avs := [.osl 1]) (avs' := [.osl 0]) (res' := .tup []) (slices_Sort_intint_ok x1 x2 hx2) ent53 (by kernel_rfl) (downs_ent (by kernel_rfl) <| trivial) ⟨⟨0, rfl, rfl⟩, trivial⟩ rfl (by kernel_rfl) rfl) <| .nil ?_
  obtain ⟨x3, hx3, h⟩ := of_bind h
  refine SP.rg <| .a 1 <| .e (x := .osl 2) [.arr 3 1 (List.map eI []), .dead, .arr 3 1 (List.map eI x3)] (ok_callG [.ent 1] (avs := [.osl 1]) (avs' := [.osl 0]) (res' := .osl 2) (slices_Compact_intint_ok x2 x3 hx3) ent54 (by kernel_rfl) (downs_ent (by kernel_rfl) <| trivial) ⟨⟨0, rfl, rfl⟩, trivial⟩ rfl (by kernel_rfl) rfl) <| .a 1 <| .nil ?_
  refine SP.ret ?_
  rw [← Option.some.inj h]
  exact ⟨[.osl 2], [(2, true)], ⟨resV_tmp (by kernel_rfl), trivial⟩, by kernel_rfl, by kernel_rfl, by kernel_rfl⟩

-- fedchat/digest.ids
def digest_ids_S1 (p0_r : ApiRoom) (v1 : (List Int)) (v2 : Int) : St := ⟨shp 21 [(3, .osl 0), (7, .d ((eL eApiEvent) p0_r.Events)), (8, .d (eI (p0_r.Events.length : Int))), (9, .d (eI v2))], [.arr 3 1 (List.map eI v1)], 0⟩
def digest_ids_B1 (p0_r : ApiRoom) (k3 : ((List Int) → Int → Option (List Int))) : (List Int) → Int → Option (List Int) := fun v1 v2 => (bif decide (v2 < (p0_r.Events.length : Int)) then (gIdx p0_r.Events v2).bind fun x5 => (gApp 8 v1 [x5.Id]).bind fun x6 => k3 x6 (IntKind.i64.wrap (v2 + 1)) else (num_Sorted v1).bind fun x7 => some x7)
def digest_ids_L1 (p0_r : ApiRoom) : (List Int) → Int → Option (List Int) := loop2 (digest_ids_B1 p0_r) fuel
def digest_ids (p0_r : ApiRoom) : Option (List Int) := digest_ids_L1 p0_r [] 0
theorem digest_ids_ok (p0_r : ApiRoom) (r : (List Int)) (h : digest_ids p0_r = some r) : Runs Try.prog 31 [.d (eApiRoom p0_r)] [] (.osl 0) [.arr 3 1 (List.map eI r)] := by
  refine Runs.of_fin Try.func31 rfl ?_
  unfold digest_ids at h
  refine SP.rg <| .a 1 <| .e [.box (dc (eApiRoom p0_r)), .arr 3 1 (List.map eI [])] (ok_assign_own 3 1 rfl) <| .nil ?_
  refine SP.rg <| .e [.box (dc (eApiRoom p0_r)), .arr 3 1 (List.map eI []), .arr 3 1 (List.map eI [])] (ok_assign_own 3 1 rfl) <| .nil ?_
  refine SP.seqc ?_
  refine SP.rg <| .a 2 <| .p (ok_lenT eApiEvent p0_r.Events und22 rfl) <| .a 1 <| .nil ?_
  refine SP.block ?_
  refine SP.loop2 (digest_ids_S1 p0_r) (digest_ids_B1 p0_r) r [] 0 (sub_of (mk 21 904) [(2, true)]) h ?_
  clear h
  intro J8 k3 hk3 v1 v2 h
  unfold digest_ids_B1 at h
  refine SP.rg <| .a 1 <| .nil ?_
  refine SP.seqc ?_
  refine SP.cond (decide (v2 < (p0_r.Events.length : Int))) (by kernel_rfl) (fun hb4 => ?_) (fun hb4 => ?_)
  · replace h := of_bif_true hb4 h
    refine SP.skip ?_
    refine SP.seqc ?_
    refine SP.block ?_
    obtain ⟨x5, hx5, h⟩ := of_bind h
    refine SP.rg <| .p (ok_idxT (k := .i64) eApiEvent hx5 und22 ty65 (by kernel_rfl) rfl) <| .a 3 <| .nil ?_
    obtain ⟨x6, hx6, h⟩ := of_bind h
    refine SP.rgn <| .a 3 <| .p (ok_lits el24 zero3 (by kernel_rfl) (by kernel_rfl) (Nat.le_of_ble_eq_true (by kernel_rfl)) [.d (eI x5.Id)] [eI x5.Id] (by kernel_rfl) (by kernel_rfl) (by kernel_rfl) (by kernel_rfl) rfl) <| .e [.dead, .box (dc (eApiEvent x5)), .arr 3 1 (List.map eI x6)] (ok_appT (k := 0) eI hx6 el24 (by kernel_rfl) (fun _ => rfl) (by decide) rfl) <| .a 1 <| .nil ?_
    refine SP.rgn <| .a 2 <| .nil ?_
    exact hk3 _ x6 (IntKind.i64.wrap (v2 + 1)) (sub_of (mk 21 904) [(2, true)]) h
  · replace h := of_bif_false hb4 h
    refine SP.exit ?_
    obtain ⟨x7, hx7, h⟩ := of_bind h
    refine SP.rg <| .a 1 <| .conv _ (thaw_holds (e := 3) (s := 1) 0 (xs := List.map eI v1) (by kernel_rfl)) <| .e (x := .osl 1) [.dead, .arr 3 1 (List.map eI x7)] (ok_callD (avs := [.d ((eL eI) v1)]) (avs' := [.d ((eL eI) v1)]) (num_Sorted_ok v1 x7 hx7) ent49 (by kernel_rfl) ⟨.inl rfl, trivial⟩ rfl (by kernel_rfl) rfl) <| .a 1 <| .nil ?_
    refine SP.ret ?_
    rw [← Option.some.inj h]
    exact ⟨[.osl 1], [(1, true)], ⟨resV_tmp (by kernel_rfl), trivial⟩, by kernel_rfl, by kernel_rfl, by kernel_rfl⟩

-- cmp.isNaN[int]
def cmp_isNaN_int (p0_x : Int) : Option Bool := some (p0_x != p0_x)
theorem cmp_isNaN_int_ok (p0_x : Int) (r : Bool) (h : cmp_isNaN_int p0_x = some r) : Runs Try.prog 59 [.d (eI p0_x)] [] (.d (eB r)) [] := by
  refine Runs.of_fin Try.func59 rfl ?_
  unfold cmp_isNaN_int at h
  refine SP.rg <| .a 1 <| .nil ?_
  refine SP.rg <| .a 4 <| .nil ?_
  refine SP.ret ?_
  rw [← Option.some.inj h]
  exact ⟨[.d (eB (p0_x != p0_x))], [], ⟨resV_tmp (by kernel_rfl), trivial⟩, by kernel_rfl, by kernel_rfl, by kernel_rfl⟩

-- cmp.Less[int]
def cmp_Less_int_S1 (v1 : Bool) : St := ⟨shp 17 [(4, .d (eB v1))], [], 0⟩
def cmp_Less_int_j1 (v1 : Bool) : Option Bool := some v1
def cmp_Less_int (p0_x : Int) (p1_y : Int) : Option Bool := (cmp_isNaN_int p0_x).bind fun x3 => (bif x3 then (cmp_isNaN_int p1_y).bind fun x5 => (bif (!x5) then cmp_Less_int_j1 true else cmp_Less_int_j1 (decide (p0_x < p1_y))) else cmp_Less_int_j1 (decide (p0_x < p1_y)))
theorem cmp_Less_int_ok (p0_x : Int) (p1_y : Int) (r : Bool) (h : cmp_Less_int p0_x p1_y = some r) : Runs Try.prog 55 [.d (eI p0_x), .d (eI p1_y)] [] (.d (eB r)) [] := by
  refine Runs.of_fin Try.func55 rfl ?_
  unfold cmp_Less_int at h
  refine SP.rg <| .a 1 <| .nil ?_
  refine SP.join (fun s => ∃ (v1 : Bool), Sub s (cmp_Less_int_S1 v1) ∧ cmp_Less_int_j1 v1 = some r) ?_ ?_
  · clear h
    rintro s ⟨v1, hs, h⟩
    refine SP.sub hs ?_
    clear hs
    unfold cmp_Less_int_j1 at h
    refine SP.ret ?_
    rw [← Option.some.inj h]
    exact ⟨[.d (eB v1)], [], ⟨resV_tmp (by kernel_rfl), trivial⟩, by kernel_rfl, by kernel_rfl, by kernel_rfl⟩
  · intro K2
    obtain ⟨x3, hx3, h⟩ := of_bind h
    refine SP.rgn <| .a 1 <| .call (cmp_isNaN_int_ok p0_x x3 hx3) ent59 <| .a 1 <| ?_
    cases x3 with
    | true =>
      replace h := of_bif_true rfl h
      obtain ⟨x5, hx5, h⟩ := of_bind h
      refine .a 1 <| .call (cmp_isNaN_int_ok p1_y x5 hx5) ent59 <| .a 2 <| ?_
      rcases Bool.eq_false_or_eq_true (!x5) with hb6 | hb6
      · replace h := of_bif_true hb6 h
        refine .c (congrArg some hb6) <| .a 5 <| .nil ?_
        exact K2 _ ⟨true, sub_of (mk 17 16) [], h⟩
      · replace h := of_bif_false hb6 h
        refine .c (congrArg some hb6) <| .a 5 <| .nil ?_
        exact K2 _ ⟨(decide (p0_x < p1_y)), sub_of (mk 17 16) [], h⟩
    | false =>
      replace h := of_bif_false rfl h
      refine .a 10 <| .nil ?_
      exact K2 _ ⟨(decide (p0_x < p1_y)), sub_of (mk 17 16) [], h⟩

-- slices.isNaN[int]
def slices_isNaN_int (p0_x : Int) : Option Bool := some (p0_x != p0_x)
theorem slices_isNaN_int_ok (p0_x : Int) (r : Bool) (h : slices_isNaN_int p0_x = some r) : Runs Try.prog 56 [.d (eI p0_x)] [] (.d (eB r)) [] := by
  refine Runs.of_fin Try.func56 rfl ?_
  unfold slices_isNaN_int at h
  refine SP.rg <| .a 1 <| .nil ?_
  refine SP.rg <| .a 4 <| .nil ?_
  refine SP.ret ?_
  rw [← Option.some.inj h]
  exact ⟨[.d (eB (p0_x != p0_x))], [], ⟨resV_tmp (by kernel_rfl), trivial⟩, by kernel_rfl, by kernel_rfl, by kernel_rfl⟩

-- slices.BinarySearch[[]int,int]
def slices_BinarySearch_intint_S1 (p0_x : (List Int)) (p1_target : Int) (v1 : Int) (v2 : Int) : St := ⟨shp 54 [(0, .d ((eL eI) p0_x)), (1, .d (eI p1_target)), (6, .d (eI (p0_x.length : Int))), (7, .d (eI v1)), (8, .d (eI v2))], [], 0⟩
def slices_BinarySearch_intint_S2 (v1 : Int) (v9 : Bool) : St := ⟨shp 54 [(4, .d (eI v1)), (5, .d (eB v9))], [], 0⟩
def slices_BinarySearch_intint_j2 (v1 : Int) (v9 : Bool) : Option (Int × Bool) := some (v1, v9)
def slices_BinarySearch_intint_B1 (p0_x : (List Int)) (p1_target : Int) (k3 : (Int → Int → Option (Int × Bool))) : Int → Int → Option (Int × Bool) := fun v1 v2 => (bif decide (v1 < v2) then (gSh .shr .u64 (IntKind.u64.wrap (IntKind.i64.wrap (v1 + v2))) 1).bind fun x5 => (gIdx p0_x (IntKind.i64.wrap x5)).bind fun x6 => (cmp_Less_int x6 p1_target).bind fun x7 => (bif x7 then k3 (IntKind.i64.wrap ((IntKind.i64.wrap x5) + 1)) v2 else k3 v1 (IntKind.i64.wrap x5)) else (bif decide (v1 < (p0_x.length : Int)) then (gIdx p0_x v1).bind fun x12 => (bif (x12 == p1_target) then slices_BinarySearch_intint_j2 v1 true else (gIdx p0_x v1).bind fun x14 => (slices_isNaN_int x14).bind fun x15 => (bif x15 then (slices_isNaN_int p1_target).bind fun x17 => slices_BinarySearch_intint_j2 v1 x17 else slices_BinarySearch_intint_j2 v1 false)) else slices_BinarySearch_intint_j2 v1 false))
def slices_BinarySearch_intint_L1 (p0_x : (List Int)) (p1_target : Int) : Int → Int → Option (Int × Bool) := loop2 (slices_BinarySearch_intint_B1 p0_x p1_target) fuel
def slices_BinarySearch_intint (p0_x : (List Int)) (p1_target : Int) : Option (Int × Bool) := slices_BinarySearch_intint_L1 p0_x p1_target 0 (p0_x.length : Int)
theorem slices_BinarySearch_intint_ok (p0_x : (List Int)) (p1_target : Int) (r : (Int × Bool)) (h : slices_BinarySearch_intint p0_x p1_target = some r) : Runs Try.prog 51 [.d ((eL eI) p0_x), .d (eI p1_target)] [] (.tup [.d (eI r.1), .d (eB r.2)]) [] := by
  refine Runs.of_fin Try.func51 rfl ?_
  unfold slices_BinarySearch_intint at h
  refine SP.rg <| .a 2 <| .nil ?_
  refine SP.rg <| .a 1 <| .p (ok_lenT eI p0_x und24 rfl) <| .a 1 <| .nil ?_
  refine SP.rg <| .a 3 <| .nil ?_
  refine SP.seqc ?_
  refine SP.block ?_
  refine SP.loop2 (slices_BinarySearch_intint_S1 p0_x p1_target) (slices_BinarySearch_intint_B1 p0_x p1_target) r 0 (p0_x.length : Int) (sub_of (mk 54 451) []) h ?_
  clear h
  intro J18 k3 hk3 v1 v2 h
  unfold slices_BinarySearch_intint_B1 at h
  refine SP.seqc ?_
  refine SP.rg <| .a 3 <| .nil ?_
  refine SP.cond (decide (v1 < v2)) (by kernel_rfl) (fun hb4 => ?_) (fun hb4 => ?_)
  · replace h := of_bif_true hb4 h
    refine SP.skip ?_
    refine SP.block ?_
    obtain ⟨x5, hx5, h⟩ := of_bind h
    refine SP.rg <| .a 4 <| .p (ok_shr (k := .u64) (k' := .u64) hx5 rfl) <| .a 2 <| .nil ?_
    obtain ⟨x6, hx6, h⟩ := of_bind h
    obtain ⟨x7, hx7, h⟩ := of_bind h
    refine SP.rg <| .a 2 <| .p (ok_idxT (k := .i64) eI hx6 und24 ty3 (by kernel_rfl) rfl) <| .a 2 <| .call (cmp_Less_int_ok x6 p1_target x7 hx7) ent55 <| .nil ?_
    refine SP.cond x7 (by kernel_rfl) (fun hb8 => ?_) (fun hb8 => ?_)
    · replace h := of_bif_true hb8 h
      refine SP.rgn <| .a 3 <| .nil ?_
      exact hk3 _ (IntKind.i64.wrap ((IntKind.i64.wrap x5) + 1)) v2 (sub_of (mk 54 451) []) h
    · replace h := of_bif_false hb8 h
      refine SP.rgn <| .a 2 <| .nil ?_
      exact hk3 _ v1 (IntKind.i64.wrap x5) (sub_of (mk 54 451) []) h
  · replace h := of_bif_false hb4 h
    refine SP.exit ?_
    refine SP.join (fun s => ∃ (v9 : Bool), Sub s (slices_BinarySearch_intint_S2 v1 v9) ∧ slices_BinarySearch_intint_j2 v1 v9 = some r) ?_ ?_
    · clear h
      rintro s ⟨v9, hs, h⟩
      refine SP.sub hs ?_
      clear hs
      unfold slices_BinarySearch_intint_j2 at h
      refine SP.ret ?_
      rw [← Option.some.inj h]
      exact ⟨[.d (eI v1), .d (eB v9)], [], ⟨resV_tmp (by kernel_rfl), resV_tmp (by kernel_rfl), trivial⟩, by kernel_rfl, by kernel_rfl, by kernel_rfl⟩
    · intro K10
      refine SP.rgn <| .a 4 <| ?_
      rcases Bool.eq_false_or_eq_true (decide (v1 < (p0_x.length : Int))) with hb11 | hb11
      · replace h := of_bif_true hb11 h
        obtain ⟨x12, hx12, h⟩ := of_bind h
        refine .c (congrArg some hb11) <| .a 2 <| .p (ok_idxT (k := .i64) eI hx12 und24 ty3 (by kernel_rfl) rfl) <| .a 3 <| ?_
        rcases Bool.eq_false_or_eq_true (x12 == p1_target) with hb13 | hb13
        · replace h := of_bif_true hb13 h
          refine .c (congrArg some hb13) <| .a 13 <| .nil ?_
          exact K10 _ ⟨true, sub_of (mk 54 48) [], h⟩
        · replace h := of_bif_false hb13 h
          obtain ⟨x14, hx14, h⟩ := of_bind h
          obtain ⟨x15, hx15, h⟩ := of_bind h
          refine .c (congrArg some hb13) <| .a 2 <| .p (ok_idxT (k := .i64) eI hx14 und24 ty3 (by kernel_rfl) rfl) <| .a 1 <| .call (slices_isNaN_int_ok x14 x15 hx15) ent56 <| .a 1 <| ?_
          cases x15 with
          | true =>
            replace h := of_bif_true rfl h
            obtain ⟨x17, hx17, h⟩ := of_bind h
            refine .a 1 <| .call (slices_isNaN_int_ok p1_target x17 hx17) ent56 <| .a 5 <| .nil ?_
            exact K10 _ ⟨x17, sub_of (mk 54 48) [], h⟩
          | false =>
            replace h := of_bif_false rfl h
            refine .a 7 <| .nil ?_
            exact K10 _ ⟨false, sub_of (mk 54 48) [], h⟩
      · replace h := of_bif_false hb11 h
        refine .c (congrArg some hb11) <| .a 20 <| .nil ?_
        exact K10 _ ⟨false, sub_of (mk 54 48) [], h⟩

-- fedchat/num.Minus
def num_Minus_S1 (x1 : (List Int)) (x2 : (List Int)) (v3 : (List Int)) (v4 : Int) : St := ⟨shp 34 [(5, .d ((eL eI) x1)), (6, .osl 0), (14, .d ((eL eI) x2)), (15, .d (eI (x2.length : Int))), (16, .d (eI v4))], [.arr 3 1 (List.map eI v3)], 0⟩
def num_Minus_S2 (x1 : (List Int)) (x2 : (List Int)) (v4 : Int) (v7 : (List Int)) : St := ⟨shp 34 [(5, .d ((eL eI) x1)), (6, .osl 0), (14, .d ((eL eI) x2)), (15, .d (eI (x2.length : Int))), (16, .d (eI v4))], [.arr 3 1 (List.map eI v7)], 0⟩
def num_Minus_j2 (k5 : ((List Int) → Int → Option (List Int))) (v4 : Int) (v7 : (List Int)) : Option (List Int) := k5 v7 (IntKind.i64.wrap (v4 + 1))
def num_Minus_B1 (x2 : (List Int)) (x1 : (List Int)) (k5 : ((List Int) → Int → Option (List Int))) : (List Int) → Int → Option (List Int) := fun v3 v4 => (bif decide (v4 < (x2.length : Int)) then (gIdx x2 v4).bind fun x9 => (slices_BinarySearch_intint x1 x9).bind fun x10 => (bif (!x10.2) then (gApp 8 v3 [x9]).bind fun x12 => num_Minus_j2 k5 v4 x12 else num_Minus_j2 k5 v4 v3) else some v3)
def num_Minus_L1 (x2 : (List Int)) (x1 : (List Int)) : (List Int) → Int → Option (List Int) := loop2 (num_Minus_B1 x2 x1) fuel
def num_Minus (p0_a : (List Int)) (p1_b : (List Int)) : Option (List Int) := (num_Sorted p1_b).bind fun x1 => (num_Sorted p0_a).bind fun x2 => num_Minus_L1 x2 x1 [] 0
theorem num_Minus_ok (p0_a : (List Int)) (p1_b : (List Int)) (r : (List Int)) (h : num_Minus p0_a p1_b = some r) : Runs Try.prog 33 [.d ((eL eI) p0_a), .d ((eL eI) p1_b)] [] (.osl 0) [.arr 3 1 (List.map eI r)] := by
  refine Runs.of_fin Try.func33 rfl ?_
  unfold num_Minus at h
  refine SP.rg <| .e [.arr 3 1 (List.map eI [])] (ok_assign_own 3 1 rfl) <| .nil ?_
  obtain ⟨x1, hx1, h⟩ := of_bind h
  refine SP.rg <| .a 1 <| .call (num_Sorted_ok p1_b x1 hx1).view ent49 <| .a 1 <| .nil ?_
  refine SP.rg <| .e [.arr 3 1 (List.map eI []), .arr 3 1 (List.map eI [])] (ok_assign_own 3 1 rfl) <| .nil ?_
  refine SP.seqc ?_
  obtain ⟨x2, hx2, h⟩ := of_bind h
  refine SP.rg <| .a 1 <| .call (num_Sorted_ok p0_a x2 hx2).view ent49 <| .p (ok_lenT eI x2 und24 rfl) <| .a 1 <| .nil ?_
  refine SP.block ?_
  refine SP.loop2 (num_Minus_S1 x1 x2) (num_Minus_B1 x2 x1) r [] 0 (sub_of (mk 34 114784) [(1, true)]) h ?_
  clear h
  intro J13 k5 hk5 v3 v4 h
  unfold num_Minus_B1 at h
  refine SP.rg <| .a 1 <| .nil ?_
  refine SP.seqc ?_
  refine SP.cond (decide (v4 < (x2.length : Int))) (by kernel_rfl) (fun hb6 => ?_) (fun hb6 => ?_)
  · replace h := of_bif_true hb6 h
    refine SP.skip ?_
    refine SP.join (fun s => ∃ (v7 : (List Int)), Sub s (num_Minus_S2 x1 x2 v4 v7) ∧ num_Minus_j2 k5 v4 v7 = some r) ?_ ?_
    · clear h
      rintro s ⟨v7, hs, h⟩
      refine SP.sub hs ?_
      clear hs
      unfold num_Minus_j2 at h
      refine SP.rgn <| .a 2 <| .nil ?_
      exact hk5 _ v7 (IntKind.i64.wrap (v4 + 1)) (sub_of (mk 34 114784) [(0, true)]) h
    · intro K8
      refine SP.block ?_
      obtain ⟨x9, hx9, h⟩ := of_bind h
      refine SP.rg <| .p (ok_idxT (k := .i64) eI hx9 und24 ty3 (by kernel_rfl) rfl) <| .a 2 <| .nil ?_
      obtain ⟨x10, hx10, h⟩ := of_bind h
      refine SP.rg <| .a 2 <| .call (slices_BinarySearch_intint_ok x1 x9 x10 hx10) ent51 <| .a 5 <| .nil ?_
      refine SP.rg <| .a 2 <| .nil ?_
      refine SP.cond (!x10.2) (by kernel_rfl) (fun hb11 => ?_) (fun hb11 => ?_)
      · replace h := of_bif_true hb11 h
        obtain ⟨x12, hx12, h⟩ := of_bind h
        refine SP.rgn <| .a 2 <| .p (ok_lits el24 zero3 (by kernel_rfl) (by kernel_rfl) (Nat.le_of_ble_eq_true (by kernel_rfl)) [.d (eI x9)] [eI x9] (by kernel_rfl) (by kernel_rfl) (by kernel_rfl) (by kernel_rfl) rfl) <| .e [.dead, .arr 3 1 (List.map eI x12)] (ok_appT (k := 0) eI hx12 el24 (by kernel_rfl) (fun _ => rfl) (by decide) rfl) <| .a 1 <| .nil ?_
        exact K8 _ ⟨x12, sub_of (mk 34 114784) [(1, true)], h⟩
      · replace h := of_bif_false hb11 h
        refine SP.skip ?_
        exact K8 _ ⟨v3, sub_of (mk 34 114784) [(0, true)], h⟩
  · replace h := of_bif_false hb6 h
    refine SP.exit ?_
    refine SP.rg <| .a 2 <| .nil ?_
    refine SP.ret ?_
    rw [← Option.some.inj h]
    exact ⟨[.osl 0], [(0, true)], ⟨resV_tmp (by kernel_rfl), trivial⟩, by kernel_rfl, by kernel_rfl, by kernel_rfl⟩

-- fedchat/num.Union
def num_Union (p0_a : (List Int)) (p1_b : (List Int)) : Option (List Int) := (slices_Clone_intint p0_a).bind fun x1 => (gApp 8 x1 p1_b).bind fun x2 => (num_Sorted x2).bind fun x3 => some x3
theorem num_Union_ok (p0_a : (List Int)) (p1_b : (List Int)) (r : (List Int)) (h : num_Union p0_a p1_b = some r) : Runs Try.prog 32 [.d ((eL eI) p0_a), .d ((eL eI) p1_b)] [] (.osl 0) [.arr 3 1 (List.map eI r)] := by
  refine Runs.of_fin Try.func32 rfl ?_
  unfold num_Union at h
  refine SP.rg <| .e [.arr 3 1 (List.map eI [])] (ok_assign_own 3 1 rfl) <| .nil ?_
  obtain ⟨x1, hx1, h⟩ := of_bind h
  obtain ⟨x2, hx2, h⟩ := of_bind h
  obtain ⟨x3, hx3, h⟩ := of_bind h
  refine SP.rg <| .a 1 <| .e (x := .osl 1) [.arr 3 1 (List.map eI []), .arr 3 1 (List.map eI x1)] (ok_callD (avs := [.d ((eL eI) p0_a)]) (avs' := [.d ((eL eI) p0_a)]) (slices_Clone_intint_ok p0_a x1 hx1) ent50 (by kernel_rfl) ⟨.inl rfl, trivial⟩ rfl (by kernel_rfl) rfl) <| .a 1 <| .e [.arr 3 1 (List.map eI []), .dead, .arr 3 1 (List.map eI x2)] (ok_appT (k := 1) eI hx2 el24 (by kernel_rfl) (fun _ => rfl) (by decide) rfl) <| .conv _ (thaw_holds (e := 3) (s := 1) 2 (xs := List.map eI x2) (by kernel_rfl)) <| .e (x := .osl 3) [.arr 3 1 (List.map eI []), .dead, .dead, .arr 3 1 (List.map eI x3)] (ok_callD (avs := [.d ((eL eI) x2)]) (avs' := [.d ((eL eI) x2)]) (num_Sorted_ok x2 x3 hx3) ent49 (by kernel_rfl) ⟨.inl rfl, trivial⟩ rfl (by kernel_rfl) rfl) <| .a 1 <| .nil ?_
  refine SP.ret ?_
  rw [← Option.some.inj h]
  exact ⟨[.osl 3], [(3, true)], ⟨resV_tmp (by kernel_rfl), trivial⟩, by kernel_rfl, by kernel_rfl, by kernel_rfl⟩

-- fedchat/digest.Differ
def digest_Differ (p0_a : ApiRoom) (p1_b : ApiRoom) : Option (List Int) := (digest_ids p0_a).bind fun x1 => (digest_ids p1_b).bind fun x2 => (num_Minus x1 x2).bind fun x3 => (num_Minus x2 x1).bind fun x4 => (num_Union x3 x4).bind fun x5 => some x5
theorem digest_Differ_ok (p0_a : ApiRoom) (p1_b : ApiRoom) (r : (List Int)) (h : digest_Differ p0_a p1_b = some r) : Runs Try.prog 12 [.d (eApiRoom p0_a), .d (eApiRoom p1_b)] [] (.osl 0) [.arr 3 1 (List.map eI r)] := by
  refine Runs.of_fin Try.func12 rfl ?_
  unfold digest_Differ at h
  refine SP.rg <| .a 2 <| .e [.box (dc (eApiRoom p0_a)), .box (dc (eApiRoom p1_b)), .arr 3 1 (List.map eI [])] (ok_assign_own 3 1 rfl) <| .nil ?_
  obtain ⟨x1, hx1, h⟩ := of_bind h
  obtain ⟨x2, hx2, h⟩ := of_bind h
  refine SP.dseq (by kernel_rfl) (by kernel_rfl) (by kernel_rfl) (.a 1 <| .call (digest_ids_ok p0_a x1 hx1).view ent31 <| .a 1 <| .call (digest_ids_ok p1_b x2 hx2).view ent31 <| .a 2 <| .nil _) ?_
  obtain ⟨x3, hx3, h⟩ := of_bind h
  obtain ⟨x4, hx4, h⟩ := of_bind h
  obtain ⟨x5, hx5, h⟩ := of_bind h
  refine SP.rg <| .a 2 <| .call (num_Minus_ok x1 x2 x3 hx3).view ent33 <| .a 2 <| .call (num_Minus_ok x2 x1 x4 hx4).view ent33 <| .e (x := .osl 3) [.box (dc (eApiRoom p0_a)), .box (dc (eApiRoom p1_b)), .arr 3 1 (List.map eI []), .arr 3 1 (List.map eI x5)] (ok_callD (avs := [.d ((eL eI) x3), .d ((eL eI) x4)]) (avs' := [.d ((eL eI) x3), .d ((eL eI) x4)]) (num_Union_ok x3 x4 x5 hx5) ent32 (by kernel_rfl) ⟨.inl rfl, .inl rfl, trivial⟩ rfl (by kernel_rfl) rfl) <| .a 1 <| .nil ?_
  refine SP.ret ?_
  rw [← Option.some.inj h]
  exact ⟨[.osl 3], [(3, true)], ⟨resV_tmp (by kernel_rfl), trivial⟩, by kernel_rfl, by kernel_rfl, by kernel_rfl⟩

-- fedchat/fedchatref01.Same
def R01_Same_S1 (p0_a : (List Int)) (p1_b : (List Int)) (v2 : Int) : St := ⟨shp 26 [(0, .d ((eL eI) p0_a)), (1, .d ((eL eI) p1_b)), (5, .d (eI v2))], [], 0⟩
def R01_Same_B1 (p0_a : (List Int)) (p1_b : (List Int)) (k3 : (Int → Option Bool)) : Int → Option Bool := fun v2 => (bif decide (v2 < (p0_a.length : Int)) then (gIdx p0_a v2).bind fun x5 => (gIdx p1_b v2).bind fun x6 => (bif (x5 != x6) then some false else k3 (IntKind.i64.wrap (v2 + 1))) else some true)
def R01_Same_L1 (p0_a : (List Int)) (p1_b : (List Int)) : Int → Option Bool := loop1 (R01_Same_B1 p0_a p1_b) fuel
def R01_Same (p0_a : (List Int)) (p1_b : (List Int)) : Option Bool := (bif ((p0_a.length : Int) != (p1_b.length : Int)) then some false else R01_Same_L1 p0_a p1_b 0)
theorem R01_Same_ok (p0_a : (List Int)) (p1_b : (List Int)) (r : Bool) (h : R01_Same p0_a p1_b = some r) : Runs Try.prog 11 [.d ((eL eI) p0_a), .d ((eL eI) p1_b)] [] (.d (eB r)) [] := by
  refine Runs.of_fin Try.func11 rfl ?_
  unfold R01_Same at h
  refine SP.rg <| .a 1 <| .nil ?_
  refine SP.seqc ?_
  refine SP.rg <| .a 1 <| .p (ok_lenT eI p0_a und24 rfl) <| .a 1 <| .p (ok_lenT eI p1_b und24 rfl) <| .a 1 <| .nil ?_
  refine SP.cond ((p0_a.length : Int) != (p1_b.length : Int)) (by kernel_rfl) (fun hb1 => ?_) (fun hb1 => ?_)
  · replace h := of_bif_true hb1 h
    refine SP.rg <| .a 1 <| .nil ?_
    refine SP.ret ?_
    rw [← Option.some.inj h]
    exact ⟨[.d (eB false)], [], ⟨resV_tmp (by kernel_rfl), trivial⟩, by kernel_rfl, by kernel_rfl, by kernel_rfl⟩
  · replace h := of_bif_false hb1 h
    refine SP.skip ?_
    refine SP.seqc ?_
    refine SP.rg <| .a 1 <| .nil ?_
    refine SP.block ?_
    refine SP.loop1 (R01_Same_S1 p0_a p1_b) (R01_Same_B1 p0_a p1_b) r 0 (sub_of (mk 26 35) []) h ?_
    clear h
    intro J8 k3 hk3 v2 h
    unfold R01_Same_B1 at h
    refine SP.seqc ?_
    refine SP.rg <| .a 2 <| .p (ok_lenT eI p0_a und24 rfl) <| .a 1 <| .nil ?_
    refine SP.cond (decide (v2 < (p0_a.length : Int))) (by kernel_rfl) (fun hb4 => ?_) (fun hb4 => ?_)
    · replace h := of_bif_true hb4 h
      refine SP.skip ?_
      refine SP.seqc ?_
      refine SP.block ?_
      obtain ⟨x5, hx5, h⟩ := of_bind h
      obtain ⟨x6, hx6, h⟩ := of_bind h
      refine SP.dseq (by kernel_rfl) (by kernel_rfl) (by kernel_rfl) (.a 2 <| .p (ok_idxT (k := .i64) eI hx5 und24 ty3 (by kernel_rfl) rfl) <| .a 3 <| .p (ok_idxT (k := .i64) eI hx6 und24 ty3 (by kernel_rfl) rfl) <| .a 2 <| .nil _) ?_
      refine SP.cond (x5 != x6) (by kernel_rfl) (fun hb7 => ?_) (fun hb7 => ?_)
      · replace h := of_bif_true hb7 h
        refine SP.rg <| .a 1 <| .nil ?_
        refine SP.ret ?_
        rw [← Option.some.inj h]
        exact ⟨[.d (eB false)], [], ⟨resV_tmp (by kernel_rfl), trivial⟩, by kernel_rfl, by kernel_rfl, by kernel_rfl⟩
      · replace h := of_bif_false hb7 h
        refine SP.skip ?_
        refine SP.rgn <| .a 3 <| .nil ?_
        exact hk3 _ (IntKind.i64.wrap (v2 + 1)) (sub_of (mk 26 35) []) h
    · replace h := of_bif_false hb4 h
      refine SP.exit ?_
      refine SP.rg <| .a 1 <| .nil ?_
      refine SP.ret ?_
      rw [← Option.some.inj h]
      exact ⟨[.d (eB true)], [], ⟨resV_tmp (by kernel_rfl), trivial⟩, by kernel_rfl, by kernel_rfl, by kernel_rfl⟩

-- fedchat/digest.Common
def digest_Common (p0_a : ApiRoom) (p1_b : ApiRoom) : Option (List Int) := (digest_ids p0_a).bind fun x1 => (digest_ids p1_b).bind fun x2 => (num_Minus x1 x2).bind fun x3 => (num_Minus x1 x3).bind fun x4 => some x4
theorem digest_Common_ok (p0_a : ApiRoom) (p1_b : ApiRoom) (r : (List Int)) (h : digest_Common p0_a p1_b = some r) : Runs Try.prog 14 [.d (eApiRoom p0_a), .d (eApiRoom p1_b)] [] (.osl 0) [.arr 3 1 (List.map eI r)] := by
  refine Runs.of_fin Try.func14 rfl ?_
  unfold digest_Common at h
  refine SP.rg <| .a 2 <| .e [.box (dc (eApiRoom p0_a)), .box (dc (eApiRoom p1_b)), .arr 3 1 (List.map eI [])] (ok_assign_own 3 1 rfl) <| .nil ?_
  obtain ⟨x1, hx1, h⟩ := of_bind h
  refine SP.rg <| .a 1 <| .call (digest_ids_ok p0_a x1 hx1).view ent31 <| .a 1 <| .nil ?_
  obtain ⟨x2, hx2, h⟩ := of_bind h
  obtain ⟨x3, hx3, h⟩ := of_bind h
  obtain ⟨x4, hx4, h⟩ := of_bind h
  refine SP.rg <| .a 3 <| .call (digest_ids_ok p1_b x2 hx2).view ent31 <| .call (num_Minus_ok x1 x2 x3 hx3).view ent33 <| .e (x := .osl 3) [.box (dc (eApiRoom p0_a)), .box (dc (eApiRoom p1_b)), .arr 3 1 (List.map eI []), .arr 3 1 (List.map eI x4)] (ok_callD (avs := [.d ((eL eI) x1), .d ((eL eI) x3)]) (avs' := [.d ((eL eI) x1), .d ((eL eI) x3)]) (num_Minus_ok x1 x3 x4 hx4) ent33 (by kernel_rfl) ⟨.inl rfl, .inl rfl, trivial⟩ rfl (by kernel_rfl) rfl) <| .a 1 <| .nil ?_
  refine SP.ret ?_
  rw [← Option.some.inj h]
  exact ⟨[.osl 3], [(3, true)], ⟨resV_tmp (by kernel_rfl), trivial⟩, by kernel_rfl, by kernel_rfl, by kernel_rfl⟩

-- fedchat/digest.Behind
def digest_Behind (p0_a : ApiRoom) (p1_b : ApiRoom) : Option Int := (digest_ids p1_b).bind fun x1 => (digest_ids p0_a).bind fun x2 => (num_Minus x1 x2).bind fun x3 => some (x3.length : Int)
theorem digest_Behind_ok (p0_a : ApiRoom) (p1_b : ApiRoom) (r : Int) (h : digest_Behind p0_a p1_b = some r) : Runs Try.prog 16 [.d (eApiRoom p0_a), .d (eApiRoom p1_b)] [] (.d (eI r)) [] := by
  refine Runs.of_fin Try.func16 rfl ?_
  unfold digest_Behind at h
  refine SP.rg <| .a 3 <| .nil ?_
  obtain ⟨x1, hx1, h⟩ := of_bind h
  obtain ⟨x2, hx2, h⟩ := of_bind h
  obtain ⟨x3, hx3, h⟩ := of_bind h
  refine SP.dseq (by kernel_rfl) (by kernel_rfl) (by kernel_rfl) (.a 1 <| .call (digest_ids_ok p1_b x1 hx1).view ent31 <| .a 1 <| .call (digest_ids_ok p0_a x2 hx2).view ent31 <| .call (num_Minus_ok x1 x2 x3 hx3).view ent33 <| .p (ok_lenT eI x3 und24 rfl) <| .a 1 <| .nil _) ?_
  refine SP.ret ?_
  rw [← Option.some.inj h]
  exact ⟨[.d (eI (x3.length : Int))], [], ⟨resV_tmp (by kernel_rfl), trivial⟩, by kernel_rfl, by kernel_rfl, by kernel_rfl⟩

-- fedchat/digest.Same
def digest_Same (p0_a : ApiRoom) (p1_b : ApiRoom) : Option Bool := (digest_Differ p0_a p1_b).bind fun x1 => some ((x1.length : Int) == 0)
theorem digest_Same_ok (p0_a : ApiRoom) (p1_b : ApiRoom) (r : Bool) (h : digest_Same p0_a p1_b = some r) : Runs Try.prog 18 [.d (eApiRoom p0_a), .d (eApiRoom p1_b)] [] (.d (eB r)) [] := by
  refine Runs.of_fin Try.func18 rfl ?_
  unfold digest_Same at h
  refine SP.rg <| .a 3 <| .nil ?_
  obtain ⟨x1, hx1, h⟩ := of_bind h
  refine SP.rg <| .a 2 <| .call (digest_Differ_ok p0_a p1_b x1 hx1).view ent12 <| .p (ok_lenT eI x1 und24 rfl) <| .a 2 <| .nil ?_
  refine SP.ret ?_
  rw [← Option.some.inj h]
  exact ⟨[.d (eB ((x1.length : Int) == 0))], [], ⟨resV_tmp (by kernel_rfl), trivial⟩, by kernel_rfl, by kernel_rfl, by kernel_rfl⟩

-- fedchat/fedchatlaw54.live
def L54_live_c1 : (List ApiEvent) := [{ zApiEvent with Id := 1 }, { zApiEvent with Id := 2 }]
def L54_live_c2 : ApiRow := { zApiRow with Pos := 1, Id := 2, Status := 3 }
def L54_live_c3 : (List ApiRow) := [{ zApiRow with Id := 1, Status := 4 }, L54_live_c2]
def L54_live_c4 : ApiRoom := { zApiRoom with Id := s__21r_3aa, Events := L54_live_c1, Rows := L54_live_c3 }
def L54_live_c5 : (List ApiEvent) := [{ zApiEvent with Id := 2 }, { zApiEvent with Id := 3 }]
def L54_live_c6 : ApiRoom := { zApiRoom with Id := s__21r_3aa, Events := L54_live_c5 }
def L54_live_c7 : ApiRow := { zApiRow with Id := 2, Status := 4, Gone := true }
def L54_live_c8 : ApiRow := { zApiRow with Pos := 1, Id := 1, Status := 4 }
def L54_live_S1 (v1 : Bool) : St := ⟨shp 69 [(0, .d (eB v1))], [], 0⟩
def L54_live_j1 (v1 : Bool) : Option Bool := some v1
def L54_live  : Option Bool := (digest_Differ L54_live_c4 L54_live_c6).bind fun x3 => (R01_Same x3 [1, 3]).bind fun x4 => (bif x4 then (digest_Common L54_live_c4 L54_live_c6).bind fun x6 => (R01_Same x6 [2]).bind fun x7 => (bif x7 then (digest_Behind L54_live_c4 L54_live_c6).bind fun x9 => (bif (x9 == 1) then (digest_Behind L54_live_c6 L54_live_c4).bind fun x11 => (bif (x11 == 1) then (digest_Same L54_live_c4 L54_live_c6).bind fun x13 => (bif (!x13) then (digest_Same L54_live_c4 ({ L54_live_c4 with Rows := [L54_live_c7, L54_live_c8] })).bind fun x15 => (bif x15 then (digest_Room L54_live_c4).bind fun x17 => (digest_Room ({ L54_live_c4 with Rows := [L54_live_c7, L54_live_c8] })).bind fun x18 => (bif (x17 == x18) then (digest_Room L54_live_c4).bind fun x20 => (R54_Room L54_live_c4).bind fun x21 => L54_live_j1 (x20 == x21) else L54_live_j1 false) else L54_live_j1 false) else L54_live_j1 false) else L54_live_j1 false) else L54_live_j1 false) else L54_live_j1 false) else L54_live_j1 false)
theorem L54_live_is (h : L54_live = some true) : Runs Try.prog 10 [] [] (.d (eB true)) [] := by
  refine Runs.of_fin Try.func10 rfl ?_
  unfold L54_live at h
  refine SP.rg <| .a 1 <| .nil ?_
  refine SP.rg <| .a 2 <| .p (ok_lits el22 zero65 (by kernel_rfl) (by kernel_rfl) (Nat.le_of_ble_eq_true (by kernel_rfl)) [.d (eApiEvent ({ zApiEvent with Id := 1 })), .d (eApiEvent ({ zApiEvent with Id := 2 }))] [eApiEvent ({ zApiEvent with Id := 1 }), eApiEvent ({ zApiEvent with Id := 2 })] (by kernel_rfl) (by kernel_rfl) (by kernel_rfl) (by kernel_rfl) rfl) <| .a 2 <| .p (ok_lits el23 zero43 (by kernel_rfl) (by kernel_rfl) (Nat.le_of_ble_eq_true (by kernel_rfl)) [.d (eApiRow ({ zApiRow with Id := 1, Status := 4 })), .d (eApiRow L54_live_c2)] [eApiRow ({ zApiRow with Id := 1, Status := 4 }), eApiRow L54_live_c2] (by kernel_rfl) (by kernel_rfl) (by kernel_rfl) (by kernel_rfl) rfl) <| .a 3 <| .nil ?_
  refine SP.rg <| .a 2 <| .p (ok_lits el22 zero65 (by kernel_rfl) (by kernel_rfl) (Nat.le_of_ble_eq_true (by kernel_rfl)) [.d (eApiEvent ({ zApiEvent with Id := 2 })), .d (eApiEvent ({ zApiEvent with Id := 3 }))] [eApiEvent ({ zApiEvent with Id := 2 }), eApiEvent ({ zApiEvent with Id := 3 })] (by kernel_rfl) (by kernel_rfl) (by kernel_rfl) (by kernel_rfl) rfl) <| .a 3 <| .nil ?_
  refine SP.rg <| .a 3 <| .nil ?_
  refine SP.rg <| .a 2 <| .p (ok_lits el23 zero43 (by kernel_rfl) (by kernel_rfl) (Nat.le_of_ble_eq_true (by kernel_rfl)) [.d (eApiRow L54_live_c7), .d (eApiRow L54_live_c8)] [eApiRow L54_live_c7, eApiRow L54_live_c8] (by kernel_rfl) (by kernel_rfl) (by kernel_rfl) (by kernel_rfl) rfl) <| .a 2 <| .nil ?_
  refine SP.join (fun s => ∃ (v1 : Bool), Sub s (L54_live_S1 v1) ∧ L54_live_j1 v1 = some true) ?_ ?_
  · clear h
    rintro s ⟨v1, hs, h⟩
    refine SP.sub hs ?_
    clear hs
    unfold L54_live_j1 at h
    refine SP.ret ?_
    rw [← Option.some.inj h]
    exact ⟨[.d (eB v1)], [], ⟨resV_tmp (by kernel_rfl), trivial⟩, by kernel_rfl, by kernel_rfl, by kernel_rfl⟩
  · intro K2
    obtain ⟨x3, hx3, h⟩ := of_bind h
    obtain ⟨x4, hx4, h⟩ := of_bind h
    cases x4 with
    | true =>
      replace h := of_bif_true rfl h
      obtain ⟨x6, hx6, h⟩ := of_bind h
      obtain ⟨x7, hx7, h⟩ := of_bind h
      cases x7 with
      | true =>
        replace h := of_bif_true rfl h
        obtain ⟨x9, hx9, h⟩ := of_bind h
        rcases Bool.eq_false_or_eq_true (x9 == 1) with hb10 | hb10
        · replace h := of_bif_true hb10 h
          obtain ⟨x11, hx11, h⟩ := of_bind h
          rcases Bool.eq_false_or_eq_true (x11 == 1) with hb12 | hb12
          · replace h := of_bif_true hb12 h
            obtain ⟨x13, hx13, h⟩ := of_bind h
            rcases Bool.eq_false_or_eq_true (!x13) with hb14 | hb14
            · replace h := of_bif_true hb14 h
              obtain ⟨x15, hx15, h⟩ := of_bind h
              cases x15 with
              | true =>
                replace h := of_bif_true rfl h
                obtain ⟨x17, hx17, h⟩ := of_bind h
                obtain ⟨x18, hx18, h⟩ := of_bind h
                rcases Bool.eq_false_or_eq_true (x17 == x18) with hb19 | hb19
                · replace h := of_bif_true hb19 h
                  obtain ⟨x20, hx20, h⟩ := of_bind h
                  obtain ⟨x21, hx21, h⟩ := of_bind h
                  refine SP.draw (by kernel_rfl) (by kernel_rfl) (by kernel_rfl) (.a 2 <| .call (digest_Differ_ok L54_live_c4 L54_live_c6 x3 hx3).view ent12 <| .p (ok_lits el24 zero3 (by kernel_rfl) (by kernel_rfl) (Nat.le_of_ble_eq_true (by kernel_rfl)) [.d (eI 1), .d (eI 3)] [eI 1, eI 3] (by kernel_rfl) (by kernel_rfl) (by kernel_rfl) (by kernel_rfl) rfl) <| .call (R01_Same_ok x3 [1, 3] true hx4) ent11 <| .a 3 <| .call (digest_Common_ok L54_live_c4 L54_live_c6 x6 hx6).view ent14 <| .p (ok_lits el24 zero3 (by kernel_rfl) (by kernel_rfl) (Nat.le_of_ble_eq_true (by kernel_rfl)) [.d (eI 2)] [eI 2] (by kernel_rfl) (by kernel_rfl) (by kernel_rfl) (by kernel_rfl) rfl) <| .call (R01_Same_ok x6 [2] true hx7) ent11 <| .a 4 <| .call (digest_Behind_ok L54_live_c4 L54_live_c6 x9 hx9) ent16 <| .a 2 <| .c (congrArg some hb10) <| .a 2 <| .call (digest_Behind_ok L54_live_c6 L54_live_c4 x11 hx11) ent16 <| .a 2 <| .c (congrArg some hb12) <| .a 2 <| .call (digest_Same_ok L54_live_c4 L54_live_c6 x13 hx13) ent18 <| .a 2 <| .c (congrArg some hb14) <| .a 2 <| .call (digest_Same_ok L54_live_c4 _ true hx15) ent18 <| .a 3 <| .call (digest_Room_ok L54_live_c4 x17 hx17) ent8 <| .a 1 <| .call (digest_Room_ok _ x18 hx18) ent8 <| .a 2 <| .c (congrArg some hb19) <| .a 1 <| .call (digest_Room_ok L54_live_c4 x20 hx20) ent8 <| .a 1 <| .call (R54_Room_ok L54_live_c4 x21 hx21) ent9 <| .a 3 <| .nil _) ?_
                  exact K2 _ ⟨(x20 == x21), sub_of (mk 69 1) [], h⟩
                · replace h := of_bif_false hb19 h
                  exact absurd (Option.some.inj (show some false = some true from h)) (by decide)
              | false =>
                replace h := of_bif_false rfl h
                exact absurd (Option.some.inj (show some false = some true from h)) (by decide)
            · replace h := of_bif_false hb14 h
              exact absurd (Option.some.inj (show some false = some true from h)) (by decide)
          · replace h := of_bif_false hb12 h
            exact absurd (Option.some.inj (show some false = some true from h)) (by decide)
        · replace h := of_bif_false hb10 h
          exact absurd (Option.some.inj (show some false = some true from h)) (by decide)
      | false =>
        replace h := of_bif_false rfl h
        exact absurd (Option.some.inj (show some false = some true from h)) (by decide)
    | false =>
      replace h := of_bif_false rfl h
      exact absurd (Option.some.inj (show some false = some true from h)) (by decide)
theorem L54_live_val : L54_live = some true := by kernel_rfl
theorem L54_live_ok (r : Bool) (h : L54_live = some r) : Runs Try.prog 10 [] [] (.d (eB r)) [] := by
  obtain rfl := Option.some.inj (h.symm.trans L54_live_val)
  exact L54_live_is L54_live_val

-- fedchat/fedchatlaw54.DigestRooms
def L54_DigestRooms_S1 (v3 : Bool) : St := ⟨shp 13 [(2, .d (eB v3))], [], 0⟩
def L54_DigestRooms_j1 (v3 : Bool) : Option Bool := some v3
def L54_DigestRooms (p0_r : ApiRoom) : Option Bool := (R27_Great p0_r 14).bind fun x1 => (bif x1 then some true else (digest_Room p0_r).bind fun x5 => (R54_Room p0_r).bind fun x6 => (bif (x5 == x6) then (L54_live).bind fun x8 => L54_DigestRooms_j1 x8 else L54_DigestRooms_j1 false))
theorem L54_DigestRooms_ok (p0_r : ApiRoom) (r : Bool) (h : L54_DigestRooms p0_r = some r) : Runs Try.prog 3 [.d (eApiRoom p0_r)] [] (.d (eB r)) [] := by
  refine Runs.of_fin Try.func3 rfl ?_
  unfold L54_DigestRooms at h
  refine SP.rg <| .a 2 <| .nil ?_
  refine SP.seqc ?_
  obtain ⟨x1, hx1, h⟩ := of_bind h
  refine SP.rg <| .a 1 <| .call (R27_Great_ok p0_r 14 x1 hx1) ent7 <| .nil ?_
  refine SP.cond x1 (by kernel_rfl) (fun hb2 => ?_) (fun hb2 => ?_)
  · replace h := of_bif_true hb2 h
    refine SP.rg <| .a 1 <| .nil ?_
    refine SP.ret ?_
    rw [← Option.some.inj h]
    exact ⟨[.d (eB true)], [], ⟨resV_tmp (by kernel_rfl), trivial⟩, by kernel_rfl, by kernel_rfl, by kernel_rfl⟩
  · replace h := of_bif_false hb2 h
    refine SP.skip ?_
    refine SP.join (fun s => ∃ (v3 : Bool), Sub s (L54_DigestRooms_S1 v3) ∧ L54_DigestRooms_j1 v3 = some r) ?_ ?_
    · clear h
      rintro s ⟨v3, hs, h⟩
      refine SP.sub hs ?_
      clear hs
      unfold L54_DigestRooms_j1 at h
      refine SP.ret ?_
      rw [← Option.some.inj h]
      exact ⟨[.d (eB v3)], [], ⟨resV_tmp (by kernel_rfl), trivial⟩, by kernel_rfl, by kernel_rfl, by kernel_rfl⟩
    · intro K4
      obtain ⟨x5, hx5, h⟩ := of_bind h
      obtain ⟨x6, hx6, h⟩ := of_bind h
      rcases Bool.eq_false_or_eq_true (x5 == x6) with hb7 | hb7
      · replace h := of_bif_true hb7 h
        obtain ⟨x8, hx8, h⟩ := of_bind h
        refine SP.draw (by kernel_rfl) (by kernel_rfl) (by kernel_rfl) (.a 1 <| .call (digest_Room_ok p0_r x5 hx5) ent8 <| .a 1 <| .call (R54_Room_ok p0_r x6 hx6) ent9 <| .a 1 <| .c (congrArg some hb7) <| .call (L54_live_ok  x8 hx8) ent10 <| .a 2 <| .nil _) ?_
        exact K4 _ ⟨x8, sub_of (mk 13 4) [], h⟩
      · replace h := of_bif_false hb7 h
        refine SP.draw (by kernel_rfl) (by kernel_rfl) (by kernel_rfl) (.a 1 <| .call (digest_Room_ok p0_r x5 hx5) ent8 <| .a 1 <| .call (R54_Room_ok p0_r x6 hx6) ent9 <| .a 1 <| .c (congrArg some hb7) <| .a 3 <| .nil _) ?_
        exact K4 _ ⟨false, sub_of (mk 13 4) [], h⟩

-- fedchat/fedchatref08.Ids
def R08_Ids_S1 (p0_l : (List ApiEvent)) (v1 : (List Int)) (v2 : Int) : St := ⟨shp 20 [(0, .d ((eL eApiEvent) p0_l)), (3, .osl 0), (4, .d (eI v2))], [.arr 3 1 (List.map eI v1)], 0⟩
def R08_Ids_B1 (p0_l : (List ApiEvent)) (k3 : ((List Int) → Int → Option (List Int))) : (List Int) → Int → Option (List Int) := fun v1 v2 => (bif decide (v2 < (p0_l.length : Int)) then (gIdx p0_l v2).bind fun x5 => (gApp 8 v1 [x5.Id]).bind fun x6 => k3 x6 (IntKind.i64.wrap (v2 + 1)) else some v1)
def R08_Ids_L1 (p0_l : (List ApiEvent)) : (List Int) → Int → Option (List Int) := loop2 (R08_Ids_B1 p0_l) fuel
def R08_Ids (p0_l : (List ApiEvent)) : Option (List Int) := R08_Ids_L1 p0_l [] 0
theorem R08_Ids_ok (p0_l : (List ApiEvent)) (r : (List Int)) (h : R08_Ids p0_l = some r) : Runs Try.prog 21 [.d ((eL eApiEvent) p0_l)] [] (.osl 0) [.arr 3 1 (List.map eI r)] := by
  refine Runs.of_fin Try.func21 rfl ?_
  unfold R08_Ids at h
  refine SP.rg <| .e [.arr 3 1 (List.map eI [])] (ok_assign_own 3 1 rfl) <| .nil ?_
  refine SP.rg <| .e [.arr 3 1 (List.map eI []), .arr 3 1 (List.map eI [])] (ok_assign_own 3 1 rfl) <| .nil ?_
  refine SP.seqc ?_
  refine SP.rg <| .a 1 <| .nil ?_
  refine SP.block ?_
  refine SP.loop2 (R08_Ids_S1 p0_l) (R08_Ids_B1 p0_l) r [] 0 (sub_of (mk 20 25) [(1, true)]) h ?_
  clear h
  intro J7 k3 hk3 v1 v2 h
  unfold R08_Ids_B1 at h
  refine SP.seqc ?_
  refine SP.rg <| .a 2 <| .p (ok_lenT eApiEvent p0_l und22 rfl) <| .a 1 <| .nil ?_
  refine SP.cond (decide (v2 < (p0_l.length : Int))) (by kernel_rfl) (fun hb4 => ?_) (fun hb4 => ?_)
  · replace h := of_bif_true hb4 h
    refine SP.skip ?_
    refine SP.seqc ?_
    refine SP.block ?_
    obtain ⟨x5, hx5, h⟩ := of_bind h
    obtain ⟨x6, hx6, h⟩ := of_bind h
    refine SP.rgn <| .a 3 <| .p (ok_idxT (k := .i64) eApiEvent hx5 und22 ty65 (by kernel_rfl) rfl) <| .a 2 <| .p (ok_lits el24 zero3 (by kernel_rfl) (by kernel_rfl) (Nat.le_of_ble_eq_true (by kernel_rfl)) [.d (eI x5.Id)] [eI x5.Id] (by kernel_rfl) (by kernel_rfl) (by kernel_rfl) (by kernel_rfl) rfl) <| .e [.dead, .arr 3 1 (List.map eI x6)] (ok_appT (k := 0) eI hx6 el24 (by kernel_rfl) (fun _ => rfl) (by decide) rfl) <| .a 1 <| .nil ?_
    refine SP.rgn <| .a 3 <| .nil ?_
    exact hk3 _ x6 (IntKind.i64.wrap (v2 + 1)) (sub_of (mk 20 25) [(1, true)]) h
  · replace h := of_bif_false hb4 h
    refine SP.exit ?_
    refine SP.rg <| .a 2 <| .nil ?_
    refine SP.ret ?_
    rw [← Option.some.inj h]
    exact ⟨[.osl 0], [(0, true)], ⟨resV_tmp (by kernel_rfl), trivial⟩, by kernel_rfl, by kernel_rfl, by kernel_rfl⟩

-- fedchat/fedchatref01.Has
def R01_Has_S1 (p0_l : (List Int)) (p1_n : Int) (v1 : Int) : St := ⟨shp 18 [(0, .d ((eL eI) p0_l)), (1, .d (eI p1_n)), (5, .d (eI v1))], [], 0⟩
def R01_Has_B1 (p0_l : (List Int)) (p1_n : Int) (k2 : (Int → Option Bool)) : Int → Option Bool := fun v1 => (bif decide (v1 < (p0_l.length : Int)) then (gIdx p0_l v1).bind fun x4 => (bif (x4 == p1_n) then some true else k2 (IntKind.i64.wrap (v1 + 1))) else some false)
def R01_Has_L1 (p0_l : (List Int)) (p1_n : Int) : Int → Option Bool := loop1 (R01_Has_B1 p0_l p1_n) fuel
def R01_Has (p0_l : (List Int)) (p1_n : Int) : Option Bool := R01_Has_L1 p0_l p1_n 0
theorem R01_Has_ok (p0_l : (List Int)) (p1_n : Int) (r : Bool) (h : R01_Has p0_l p1_n = some r) : Runs Try.prog 52 [.d ((eL eI) p0_l), .d (eI p1_n)] [] (.d (eB r)) [] := by
  refine Runs.of_fin Try.func52 rfl ?_
  unfold R01_Has at h
  refine SP.rg <| .a 1 <| .nil ?_
  refine SP.seqc ?_
  refine SP.rg <| .a 1 <| .nil ?_
  refine SP.block ?_
  refine SP.loop1 (R01_Has_S1 p0_l p1_n) (R01_Has_B1 p0_l p1_n) r 0 (sub_of (mk 18 35) []) h ?_
  clear h
  intro J6 k2 hk2 v1 h
  unfold R01_Has_B1 at h
  refine SP.seqc ?_
  refine SP.rg <| .a 2 <| .p (ok_lenT eI p0_l und24 rfl) <| .a 1 <| .nil ?_
  refine SP.cond (decide (v1 < (p0_l.length : Int))) (by kernel_rfl) (fun hb3 => ?_) (fun hb3 => ?_)
  · replace h := of_bif_true hb3 h
    refine SP.skip ?_
    refine SP.seqc ?_
    refine SP.block ?_
    obtain ⟨x4, hx4, h⟩ := of_bind h
    refine SP.rg <| .a 2 <| .p (ok_idxT (k := .i64) eI hx4 und24 ty3 (by kernel_rfl) rfl) <| .a 3 <| .nil ?_
    refine SP.cond (x4 == p1_n) (by kernel_rfl) (fun hb5 => ?_) (fun hb5 => ?_)
    · replace h := of_bif_true hb5 h
      refine SP.rg <| .a 1 <| .nil ?_
      refine SP.ret ?_
      rw [← Option.some.inj h]
      exact ⟨[.d (eB true)], [], ⟨resV_tmp (by kernel_rfl), trivial⟩, by kernel_rfl, by kernel_rfl, by kernel_rfl⟩
    · replace h := of_bif_false hb5 h
      refine SP.skip ?_
      refine SP.rgn <| .a 3 <| .nil ?_
      exact hk2 _ (IntKind.i64.wrap (v1 + 1)) (sub_of (mk 18 35) []) h
  · replace h := of_bif_false hb3 h
    refine SP.exit ?_
    refine SP.rg <| .a 1 <| .nil ?_
    refine SP.ret ?_
    rw [← Option.some.inj h]
    exact ⟨[.d (eB false)], [], ⟨resV_tmp (by kernel_rfl), trivial⟩, by kernel_rfl, by kernel_rfl, by kernel_rfl⟩

-- fedchat/fedchatref01.Put
def R01_Put_S1 (p0_l : (List Int)) (p1_n : Int) (v3 : Int) : St := ⟨shp 39 [(0, .d ((eL eI) p0_l)), (1, .d (eI p1_n)), (5, .d (eI v3))], [], 0⟩
def R01_Put_S2 (p0_l : (List Int)) (p1_n : Int) (v3 : Int) (v5 : Bool) : St := ⟨shp 39 [(0, .d ((eL eI) p0_l)), (1, .d (eI p1_n)), (5, .d (eI v3)), (22, .d (eB v5))], [], 0⟩
def R01_Put_j2 (k4 : (Int → Option (List Int))) (v3 : Int) (p0_l : (List Int)) (p1_n : Int) (v5 : Bool) : Option (List Int) := (bif v5 then k4 (IntKind.i64.wrap (v3 + 1)) else (gSub p0_l 0 v3).bind fun x7 => (gApp 8 [] x7).bind fun x8 => (gApp 8 x8 [p1_n]).bind fun x9 => (gSub p0_l v3 ((p0_l).length)).bind fun x10 => (gApp 8 x9 x10).bind fun x11 => some x11)
def R01_Put_B1 (p0_l : (List Int)) (p1_n : Int) (k4 : (Int → Option (List Int))) : Int → Option (List Int) := fun v3 => (bif decide (v3 < (p0_l.length : Int)) then (gIdx p0_l v3).bind fun x14 => R01_Put_j2 k4 v3 p0_l p1_n (decide (x14 < p1_n)) else R01_Put_j2 k4 v3 p0_l p1_n false)
def R01_Put_L1 (p0_l : (List Int)) (p1_n : Int) : Int → Option (List Int) := loop1 (R01_Put_B1 p0_l p1_n) fuel
def R01_Put (p0_l : (List Int)) (p1_n : Int) : Option (List Int) := (R01_Has p0_l p1_n).bind fun x1 => (bif x1 then some p0_l else R01_Put_L1 p0_l p1_n 0)
theorem R01_Put_ok (p0_l : (List Int)) (p1_n : Int) (r : (List Int)) (h : R01_Put p0_l p1_n = some r) : Runs Try.prog 37 [.d ((eL eI) p0_l), .d (eI p1_n)] [] (.d ((eL eI) r)) [] := by
  refine Runs.of_fin Try.func37 rfl ?_
  unfold R01_Put at h
  refine SP.rg <| .a 1 <| .nil ?_
  refine SP.seqc ?_
  obtain ⟨x1, hx1, h⟩ := of_bind h
  refine SP.rg <| .a 2 <| .call (R01_Has_ok p0_l p1_n x1 hx1) ent52 <| .nil ?_
  refine SP.cond x1 (by kernel_rfl) (fun hb2 => ?_) (fun hb2 => ?_)
  · replace h := of_bif_true hb2 h
    refine SP.rg <| .a 2 <| .nil ?_
    refine SP.ret ?_
    rw [← Option.some.inj h]
    exact ⟨[.d ((eL eI) p0_l)], [], ⟨resV_tmp (by kernel_rfl), trivial⟩, by kernel_rfl, by kernel_rfl, by kernel_rfl⟩
  · replace h := of_bif_false hb2 h
    refine SP.skip ?_
    refine SP.rg <| .a 1 <| .nil ?_
    refine SP.seqc ?_
    refine SP.block ?_
    refine SP.loop1 (R01_Put_S1 p0_l p1_n) (R01_Put_B1 p0_l p1_n) r 0 (sub_of (mk 39 35) []) h ?_
    clear h
    intro J15 k4 hk4 v3 h
    unfold R01_Put_B1 at h
    refine SP.seqc ?_
    refine SP.join (fun s => ∃ (v5 : Bool), Sub s (R01_Put_S2 p0_l p1_n v3 v5) ∧ R01_Put_j2 k4 v3 p0_l p1_n v5 = some r) ?_ ?_
    · clear h
      rintro s ⟨v5, hs, h⟩
      refine SP.sub hs ?_
      clear hs
      unfold R01_Put_j2 at h
      refine SP.cond v5 (by kernel_rfl) (fun hb6 => ?_) (fun hb6 => ?_)
      · replace h := of_bif_true hb6 h
        refine SP.skip ?_
        refine SP.block ?_
        refine SP.rgn <| .a 3 <| .nil ?_
        exact hk4 _ (IntKind.i64.wrap (v3 + 1)) (sub_of (mk 39 35) []) h
      · replace h := of_bif_false hb6 h
        refine SP.exit ?_
        obtain ⟨x7, hx7, h⟩ := of_bind h
        obtain ⟨x8, hx8, h⟩ := of_bind h
        refine SP.rg <| .e [.arr 3 1 (List.map eI [])] (ok_lits_own el24 zero3 (by kernel_rfl) (by kernel_rfl) (Nat.le_of_ble_eq_true (by kernel_rfl)) [] [] (by kernel_rfl) (by kernel_rfl) (by kernel_rfl) (by kernel_rfl) rfl) <| .a 2 <| .p (ok_subT eI hx7 (fun _ => rfl) (by intro hh; cases hh) und24 ty3 (fun _ => rfl) rfl) <| .e [.dead, .arr 3 1 (List.map eI x8)] (ok_appT (k := 0) eI hx8 el24 (by kernel_rfl) (fun _ => rfl) (by decide) rfl) <| .a 1 <| .nil ?_
        obtain ⟨x9, hx9, h⟩ := of_bind h
        refine SP.rg <| .a 2 <| .p (ok_lits el24 zero3 (by kernel_rfl) (by kernel_rfl) (Nat.le_of_ble_eq_true (by kernel_rfl)) [.d (eI p1_n)] [eI p1_n] (by kernel_rfl) (by kernel_rfl) (by kernel_rfl) (by kernel_rfl) rfl) <| .e [.dead, .dead, .arr 3 1 (List.map eI x9)] (ok_appT (k := 1) eI hx9 el24 (by kernel_rfl) (fun _ => rfl) (by decide) rfl) <| .a 1 <| .nil ?_
        obtain ⟨x10, hx10, h⟩ := of_bind h
        obtain ⟨x11, hx11, h⟩ := of_bind h
        refine SP.rg <| .a 3 <| .p (ok_subT eI hx10 (by intro hh; cases hh) (fun _ => rfl) und24 ty3 (fun _ => rfl) rfl) <| .e [.dead, .dead, .dead, .arr 3 1 (List.map eI x11)] (ok_appT (k := 2) eI hx11 el24 (by kernel_rfl) (fun _ => rfl) (by decide) rfl) <| .conv _ (thaw_holds (e := 3) (s := 1) 3 (xs := List.map eI x11) (by kernel_rfl)) <| .a 1 <| .nil ?_
        refine SP.ret ?_
        rw [← Option.some.inj h]
        exact ⟨[.d ((eL eI) x11)], [], ⟨resV_tmp (by kernel_rfl), trivial⟩, by kernel_rfl, by kernel_rfl, by kernel_rfl⟩
    · intro K12
      refine SP.rgn <| .a 2 <| .p (ok_lenT eI p0_l und24 rfl) <| .a 1 <| ?_
      rcases Bool.eq_false_or_eq_true (decide (v3 < (p0_l.length : Int))) with hb13 | hb13
      · replace h := of_bif_true hb13 h
        obtain ⟨x14, hx14, h⟩ := of_bind h
        refine .c (congrArg some hb13) <| .a 2 <| .p (ok_idxT (k := .i64) eI hx14 und24 ty3 (by kernel_rfl) rfl) <| .a 4 <| .nil ?_
        exact K12 _ ⟨(decide (x14 < p1_n)), sub_of (mk 39 4194339) [], h⟩
      · replace h := of_bif_false hb13 h
        refine .c (congrArg some hb13) <| .a 7 <| .nil ?_
        exact K12 _ ⟨false, sub_of (mk 39 4194339) [], h⟩

-- fedchat/fedchatref01.Sorted
def R01_Sorted_S1 (p0_l : (List Int)) (v1 : (List Int)) (v2 : Int) : St := ⟨shp 19 [(0, .d ((eL eI) p0_l)), (3, .d ((eL eI) v1)), (4, .d (eI v2))], [], 0⟩
def R01_Sorted_B1 (p0_l : (List Int)) (k3 : ((List Int) → Int → Option (List Int))) : (List Int) → Int → Option (List Int) := fun v1 v2 => (bif decide (v2 < (p0_l.length : Int)) then (gIdx p0_l v2).bind fun x5 => (R01_Put v1 x5).bind fun x6 => k3 x6 (IntKind.i64.wrap (v2 + 1)) else some v1)
def R01_Sorted_L1 (p0_l : (List Int)) : (List Int) → Int → Option (List Int) := loop2 (R01_Sorted_B1 p0_l) fuel
def R01_Sorted (p0_l : (List Int)) : Option (List Int) := R01_Sorted_L1 p0_l [] 0
theorem R01_Sorted_ok (p0_l : (List Int)) (r : (List Int)) (h : R01_Sorted p0_l = some r) : Runs Try.prog 36 [.d ((eL eI) p0_l)] [] (.d ((eL eI) r)) [] := by
  refine Runs.of_fin Try.func36 rfl ?_
  unfold R01_Sorted at h
  refine SP.rg <| .a 1 <| .nil ?_
  refine SP.rg <| .p (ok_lits el24 zero3 (by kernel_rfl) (by kernel_rfl) (Nat.le_of_ble_eq_true (by kernel_rfl)) [] [] (by kernel_rfl) (by kernel_rfl) (by kernel_rfl) (by kernel_rfl) rfl) <| .a 1 <| .nil ?_
  refine SP.seqc ?_
  refine SP.rg <| .a 1 <| .nil ?_
  refine SP.block ?_
  refine SP.loop2 (R01_Sorted_S1 p0_l) (R01_Sorted_B1 p0_l) r [] 0 (sub_of (mk 19 25) []) h ?_
  clear h
  intro J7 k3 hk3 v1 v2 h
  unfold R01_Sorted_B1 at h
  refine SP.seqc ?_
  refine SP.rg <| .a 2 <| .p (ok_lenT eI p0_l und24 rfl) <| .a 1 <| .nil ?_
  refine SP.cond (decide (v2 < (p0_l.length : Int))) (by kernel_rfl) (fun hb4 => ?_) (fun hb4 => ?_)
  · replace h := of_bif_true hb4 h
    refine SP.skip ?_
    refine SP.seqc ?_
    refine SP.block ?_
    obtain ⟨x5, hx5, h⟩ := of_bind h
    obtain ⟨x6, hx6, h⟩ := of_bind h
    refine SP.rgn <| .a 3 <| .p (ok_idxT (k := .i64) eI hx5 und24 ty3 (by kernel_rfl) rfl) <| .a 1 <| .call (R01_Put_ok v1 x5 x6 hx6) ent37 <| .a 1 <| .nil ?_
    refine SP.rgn <| .a 3 <| .nil ?_
    exact hk3 _ x6 (IntKind.i64.wrap (v2 + 1)) (sub_of (mk 19 25) []) h
  · replace h := of_bif_false hb4 h
    refine SP.exit ?_
    refine SP.rg <| .a 2 <| .nil ?_
    refine SP.ret ?_
    rw [← Option.some.inj h]
    exact ⟨[.d ((eL eI) v1)], [], ⟨resV_tmp (by kernel_rfl), trivial⟩, by kernel_rfl, by kernel_rfl, by kernel_rfl⟩

-- fedchat/fedchatref54.ids
def R54_ids (p0_r : ApiRoom) : Option (List Int) := (R08_Ids p0_r.Events).bind fun x1 => (R01_Sorted x1).bind fun x2 => some x2
theorem R54_ids_ok (p0_r : ApiRoom) (r : (List Int)) (h : R54_ids p0_r = some r) : Runs Try.prog 35 [.d (eApiRoom p0_r)] [] (.d ((eL eI) r)) [] := by
  refine Runs.of_fin Try.func35 rfl ?_
  unfold R54_ids at h
  refine SP.rg <| .a 2 <| .nil ?_
  obtain ⟨x1, hx1, h⟩ := of_bind h
  obtain ⟨x2, hx2, h⟩ := of_bind h
  refine SP.rg <| .a 2 <| .call (R08_Ids_ok p0_r.Events x1 hx1).view ent21 <| .call (R01_Sorted_ok x1 x2 hx2) ent36 <| .a 1 <| .nil ?_
  refine SP.ret ?_
  rw [← Option.some.inj h]
  exact ⟨[.d ((eL eI) x2)], [], ⟨resV_tmp (by kernel_rfl), trivial⟩, by kernel_rfl, by kernel_rfl, by kernel_rfl⟩

-- fedchat/fedchatref01.Minus
def R01_Minus_S1 (p1_b : (List Int)) (x1 : (List Int)) (v2 : (List Int)) (v3 : Int) : St := ⟨shp 32 [(1, .d ((eL eI) p1_b)), (5, .d ((eL eI) x1)), (6, .osl 0), (7, .d (eI v3))], [.arr 3 1 (List.map eI v2)], 0⟩
def R01_Minus_S2 (p1_b : (List Int)) (x1 : (List Int)) (v3 : Int) (v6 : (List Int)) : St := ⟨shp 32 [(1, .d ((eL eI) p1_b)), (5, .d ((eL eI) x1)), (6, .osl 0), (7, .d (eI v3))], [.arr 3 1 (List.map eI v6)], 0⟩
def R01_Minus_j2 (k4 : ((List Int) → Int → Option (List Int))) (v3 : Int) (v6 : (List Int)) : Option (List Int) := k4 v6 (IntKind.i64.wrap (v3 + 1))
def R01_Minus_B1 (x1 : (List Int)) (p1_b : (List Int)) (k4 : ((List Int) → Int → Option (List Int))) : (List Int) → Int → Option (List Int) := fun v2 v3 => (bif decide (v3 < (x1.length : Int)) then (gIdx x1 v3).bind fun x8 => (R01_Has p1_b x8).bind fun x9 => (bif (!x9) then (gIdx x1 v3).bind fun x11 => (gApp 8 v2 [x11]).bind fun x12 => R01_Minus_j2 k4 v3 x12 else R01_Minus_j2 k4 v3 v2) else some v2)
def R01_Minus_L1 (x1 : (List Int)) (p1_b : (List Int)) : (List Int) → Int → Option (List Int) := loop2 (R01_Minus_B1 x1 p1_b) fuel
def R01_Minus (p0_a : (List Int)) (p1_b : (List Int)) : Option (List Int) := (R01_Sorted p0_a).bind fun x1 => R01_Minus_L1 x1 p1_b [] 0
theorem R01_Minus_ok (p0_a : (List Int)) (p1_b : (List Int)) (r : (List Int)) (h : R01_Minus p0_a p1_b = some r) : Runs Try.prog 34 [.d ((eL eI) p0_a), .d ((eL eI) p1_b)] [] (.osl 0) [.arr 3 1 (List.map eI r)] := by
  refine Runs.of_fin Try.func34 rfl ?_
  unfold R01_Minus at h
  refine SP.rg <| .e [.arr 3 1 (List.map eI [])] (ok_assign_own 3 1 rfl) <| .nil ?_
  obtain ⟨x1, hx1, h⟩ := of_bind h
  refine SP.rg <| .a 1 <| .call (R01_Sorted_ok p0_a x1 hx1) ent36 <| .a 1 <| .nil ?_
  refine SP.rg <| .e [.arr 3 1 (List.map eI []), .arr 3 1 (List.map eI [])] (ok_lits_own el24 zero3 (by kernel_rfl) (by kernel_rfl) (Nat.le_of_ble_eq_true (by kernel_rfl)) [] [] (by kernel_rfl) (by kernel_rfl) (by kernel_rfl) (by kernel_rfl) rfl) <| .a 1 <| .nil ?_
  refine SP.seqc ?_
  refine SP.rg <| .a 1 <| .nil ?_
  refine SP.block ?_
  refine SP.loop2 (R01_Minus_S1 p1_b x1) (R01_Minus_B1 x1 p1_b) r [] 0 (sub_of (mk 32 226) [(1, true)]) h ?_
  clear h
  intro J13 k4 hk4 v2 v3 h
  unfold R01_Minus_B1 at h
  refine SP.seqc ?_
  refine SP.rg <| .a 2 <| .p (ok_lenT eI x1 und24 rfl) <| .a 1 <| .nil ?_
  refine SP.cond (decide (v3 < (x1.length : Int))) (by kernel_rfl) (fun hb5 => ?_) (fun hb5 => ?_)
  · replace h := of_bif_true hb5 h
    refine SP.skip ?_
    refine SP.join (fun s => ∃ (v6 : (List Int)), Sub s (R01_Minus_S2 p1_b x1 v3 v6) ∧ R01_Minus_j2 k4 v3 v6 = some r) ?_ ?_
    · clear h
      rintro s ⟨v6, hs, h⟩
      refine SP.sub hs ?_
      clear hs
      unfold R01_Minus_j2 at h
      refine SP.rgn <| .a 3 <| .nil ?_
      exact hk4 _ v6 (IntKind.i64.wrap (v3 + 1)) (sub_of (mk 32 226) [(0, true)]) h
    · intro K7
      refine SP.block ?_
      obtain ⟨x8, hx8, h⟩ := of_bind h
      obtain ⟨x9, hx9, h⟩ := of_bind h
      refine SP.rg <| .a 3 <| .p (ok_idxT (k := .i64) eI hx8 und24 ty3 (by kernel_rfl) rfl) <| .a 1 <| .call (R01_Has_ok p1_b x8 x9 hx9) ent52 <| .a 1 <| .nil ?_
      refine SP.cond (!x9) (by kernel_rfl) (fun hb10 => ?_) (fun hb10 => ?_)
      · replace h := of_bif_true hb10 h
        obtain ⟨x11, hx11, h⟩ := of_bind h
        obtain ⟨x12, hx12, h⟩ := of_bind h
        refine SP.rgn <| .a 3 <| .p (ok_idxT (k := .i64) eI hx11 und24 ty3 (by kernel_rfl) rfl) <| .a 1 <| .p (ok_lits el24 zero3 (by kernel_rfl) (by kernel_rfl) (Nat.le_of_ble_eq_true (by kernel_rfl)) [.d (eI x11)] [eI x11] (by kernel_rfl) (by kernel_rfl) (by kernel_rfl) (by kernel_rfl) rfl) <| .e [.dead, .arr 3 1 (List.map eI x12)] (ok_appT (k := 0) eI hx12 el24 (by kernel_rfl) (fun _ => rfl) (by decide) rfl) <| .a 1 <| .nil ?_
        exact K7 _ ⟨x12, sub_of (mk 32 226) [(1, true)], h⟩
      · replace h := of_bif_false hb10 h
        refine SP.skip ?_
        exact K7 _ ⟨v2, sub_of (mk 32 226) [(0, true)], h⟩
  · replace h := of_bif_false hb5 h
    refine SP.exit ?_
    refine SP.rg <| .a 2 <| .nil ?_
    refine SP.ret ?_
    rw [← Option.some.inj h]
    exact ⟨[.osl 0], [(0, true)], ⟨resV_tmp (by kernel_rfl), trivial⟩, by kernel_rfl, by kernel_rfl, by kernel_rfl⟩

-- fedchat/fedchatref01.Union
def R01_Union_S1 (p1_b : (List Int)) (v2 : (List Int)) (v3 : Int) : St := ⟨shp 22 [(1, .d ((eL eI) p1_b)), (5, .d ((eL eI) v2)), (6, .d (eI v3))], [], 0⟩
def R01_Union_B1 (p1_b : (List Int)) (k4 : ((List Int) → Int → Option (List Int))) : (List Int) → Int → Option (List Int) := fun v2 v3 => (bif decide (v3 < (p1_b.length : Int)) then (gIdx p1_b v3).bind fun x6 => (R01_Put v2 x6).bind fun x7 => k4 x7 (IntKind.i64.wrap (v3 + 1)) else some v2)
def R01_Union_L1 (p1_b : (List Int)) : (List Int) → Int → Option (List Int) := loop2 (R01_Union_B1 p1_b) fuel
def R01_Union (p0_a : (List Int)) (p1_b : (List Int)) : Option (List Int) := (R01_Sorted p0_a).bind fun x1 => R01_Union_L1 p1_b x1 0
theorem R01_Union_ok (p0_a : (List Int)) (p1_b : (List Int)) (r : (List Int)) (h : R01_Union p0_a p1_b = some r) : Runs Try.prog 20 [.d ((eL eI) p0_a), .d ((eL eI) p1_b)] [] (.d ((eL eI) r)) [] := by
  refine Runs.of_fin Try.func20 rfl ?_
  unfold R01_Union at h
  refine SP.rg <| .a 1 <| .nil ?_
  obtain ⟨x1, hx1, h⟩ := of_bind h
  refine SP.rg <| .a 1 <| .call (R01_Sorted_ok p0_a x1 hx1) ent36 <| .a 1 <| .nil ?_
  refine SP.seqc ?_
  refine SP.rg <| .a 1 <| .nil ?_
  refine SP.block ?_
  refine SP.loop2 (R01_Union_S1 p1_b) (R01_Union_B1 p1_b) r x1 0 (sub_of (mk 22 98) []) h ?_
  clear h
  intro J8 k4 hk4 v2 v3 h
  unfold R01_Union_B1 at h
  refine SP.seqc ?_
  refine SP.rg <| .a 2 <| .p (ok_lenT eI p1_b und24 rfl) <| .a 1 <| .nil ?_
  refine SP.cond (decide (v3 < (p1_b.length : Int))) (by kernel_rfl) (fun hb5 => ?_) (fun hb5 => ?_)
  · replace h := of_bif_true hb5 h
    refine SP.skip ?_
    refine SP.seqc ?_
    refine SP.block ?_
    obtain ⟨x6, hx6, h⟩ := of_bind h
    obtain ⟨x7, hx7, h⟩ := of_bind h
    refine SP.rgn <| .a 3 <| .p (ok_idxT (k := .i64) eI hx6 und24 ty3 (by kernel_rfl) rfl) <| .a 1 <| .call (R01_Put_ok v2 x6 x7 hx7) ent37 <| .a 1 <| .nil ?_
    refine SP.rgn <| .a 3 <| .nil ?_
    exact hk4 _ x7 (IntKind.i64.wrap (v3 + 1)) (sub_of (mk 22 98) []) h
  · replace h := of_bif_false hb5 h
    refine SP.exit ?_
    refine SP.rg <| .a 2 <| .nil ?_
    refine SP.ret ?_
    rw [← Option.some.inj h]
    exact ⟨[.d ((eL eI) v2)], [], ⟨resV_tmp (by kernel_rfl), trivial⟩, by kernel_rfl, by kernel_rfl, by kernel_rfl⟩

-- fedchat/fedchatref54.Differ
def R54_Differ (p0_a : ApiRoom) (p1_b : ApiRoom) : Option (List Int) := (R54_ids p0_a).bind fun x1 => (R54_ids p1_b).bind fun x2 => (R01_Minus x1 x2).bind fun x3 => (R54_ids p1_b).bind fun x4 => (R54_ids p0_a).bind fun x5 => (R01_Minus x4 x5).bind fun x6 => (R01_Union x3 x6).bind fun x7 => some x7
theorem R54_Differ_ok (p0_a : ApiRoom) (p1_b : ApiRoom) (r : (List Int)) (h : R54_Differ p0_a p1_b = some r) : Runs Try.prog 13 [.d (eApiRoom p0_a), .d (eApiRoom p1_b)] [] (.d ((eL eI) r)) [] := by
  refine Runs.of_fin Try.func13 rfl ?_
  unfold R54_Differ at h
  refine SP.rg <| .a 3 <| .nil ?_
  obtain ⟨x1, hx1, h⟩ := of_bind h
  obtain ⟨x2, hx2, h⟩ := of_bind h
  obtain ⟨x3, hx3, h⟩ := of_bind h
  obtain ⟨x4, hx4, h⟩ := of_bind h
  obtain ⟨x5, hx5, h⟩ := of_bind h
  obtain ⟨x6, hx6, h⟩ := of_bind h
  obtain ⟨x7, hx7, h⟩ := of_bind h
  refine SP.dseq (by kernel_rfl) (by kernel_rfl) (by kernel_rfl) (.a 1 <| .call (R54_ids_ok p0_a x1 hx1) ent35 <| .a 1 <| .call (R54_ids_ok p1_b x2 hx2) ent35 <| .call (R01_Minus_ok x1 x2 x3 hx3).view ent34 <| .a 1 <| .call (R54_ids_ok p1_b x4 hx4) ent35 <| .a 1 <| .call (R54_ids_ok p0_a x5 hx5) ent35 <| .call (R01_Minus_ok x4 x5 x6 hx6).view ent34 <| .call (R01_Union_ok x3 x6 x7 hx7) ent20 <| .a 1 <| .nil _) ?_
  refine SP.ret ?_
  rw [← Option.some.inj h]
  exact ⟨[.d ((eL eI) x7)], [], ⟨resV_tmp (by kernel_rfl), trivial⟩, by kernel_rfl, by kernel_rfl, by kernel_rfl⟩

-- fedchat/fedchatref54.Common
def R54_Common (p0_a : ApiRoom) (p1_b : ApiRoom) : Option (List Int) := (R54_ids p0_a).bind fun x1 => (R54_ids p0_a).bind fun x2 => (R54_ids p1_b).bind fun x3 => (R01_Minus x2 x3).bind fun x4 => (R01_Minus x1 x4).bind fun x5 => some x5
theorem R54_Common_ok (p0_a : ApiRoom) (p1_b : ApiRoom) (r : (List Int)) (h : R54_Common p0_a p1_b = some r) : Runs Try.prog 15 [.d (eApiRoom p0_a), .d (eApiRoom p1_b)] [] (.d ((eL eI) r)) [] := by
  refine Runs.of_fin Try.func15 rfl ?_
  unfold R54_Common at h
  refine SP.rg <| .a 3 <| .nil ?_
  obtain ⟨x1, hx1, h⟩ := of_bind h
  obtain ⟨x2, hx2, h⟩ := of_bind h
  obtain ⟨x3, hx3, h⟩ := of_bind h
  obtain ⟨x4, hx4, h⟩ := of_bind h
  obtain ⟨x5, hx5, h⟩ := of_bind h
  refine SP.dseq (by kernel_rfl) (by kernel_rfl) (by kernel_rfl) (.a 1 <| .call (R54_ids_ok p0_a x1 hx1) ent35 <| .a 1 <| .call (R54_ids_ok p0_a x2 hx2) ent35 <| .a 1 <| .call (R54_ids_ok p1_b x3 hx3) ent35 <| .call (R01_Minus_ok x2 x3 x4 hx4).view ent34 <| .call (R01_Minus_ok x1 x4 x5 hx5).view ent34 <| .a 1 <| .nil _) ?_
  refine SP.ret ?_
  rw [← Option.some.inj h]
  exact ⟨[.d ((eL eI) x5)], [], ⟨resV_tmp (by kernel_rfl), trivial⟩, by kernel_rfl, by kernel_rfl, by kernel_rfl⟩

-- fedchat/fedchatref54.Behind
def R54_Behind (p0_a : ApiRoom) (p1_b : ApiRoom) : Option Int := (R54_ids p1_b).bind fun x1 => (R54_ids p0_a).bind fun x2 => (R01_Minus x1 x2).bind fun x3 => some (x3.length : Int)
theorem R54_Behind_ok (p0_a : ApiRoom) (p1_b : ApiRoom) (r : Int) (h : R54_Behind p0_a p1_b = some r) : Runs Try.prog 17 [.d (eApiRoom p0_a), .d (eApiRoom p1_b)] [] (.d (eI r)) [] := by
  refine Runs.of_fin Try.func17 rfl ?_
  unfold R54_Behind at h
  refine SP.rg <| .a 3 <| .nil ?_
  obtain ⟨x1, hx1, h⟩ := of_bind h
  obtain ⟨x2, hx2, h⟩ := of_bind h
  obtain ⟨x3, hx3, h⟩ := of_bind h
  refine SP.dseq (by kernel_rfl) (by kernel_rfl) (by kernel_rfl) (.a 1 <| .call (R54_ids_ok p1_b x1 hx1) ent35 <| .a 1 <| .call (R54_ids_ok p0_a x2 hx2) ent35 <| .call (R01_Minus_ok x1 x2 x3 hx3).view ent34 <| .p (ok_lenT eI x3 und24 rfl) <| .a 1 <| .nil _) ?_
  refine SP.ret ?_
  rw [← Option.some.inj h]
  exact ⟨[.d (eI (x3.length : Int))], [], ⟨resV_tmp (by kernel_rfl), trivial⟩, by kernel_rfl, by kernel_rfl, by kernel_rfl⟩

-- fedchat/fedchatref54.Same
def R54_Same (p0_a : ApiRoom) (p1_b : ApiRoom) : Option Bool := (R54_Differ p0_a p1_b).bind fun x1 => some ((x1.length : Int) == 0)
theorem R54_Same_ok (p0_a : ApiRoom) (p1_b : ApiRoom) (r : Bool) (h : R54_Same p0_a p1_b = some r) : Runs Try.prog 19 [.d (eApiRoom p0_a), .d (eApiRoom p1_b)] [] (.d (eB r)) [] := by
  refine Runs.of_fin Try.func19 rfl ?_
  unfold R54_Same at h
  refine SP.rg <| .a 3 <| .nil ?_
  obtain ⟨x1, hx1, h⟩ := of_bind h
  refine SP.rg <| .a 2 <| .call (R54_Differ_ok p0_a p1_b x1 hx1) ent13 <| .p (ok_lenT eI x1 und24 rfl) <| .a 2 <| .nil ?_
  refine SP.ret ?_
  rw [← Option.some.inj h]
  exact ⟨[.d (eB ((x1.length : Int) == 0))], [], ⟨resV_tmp (by kernel_rfl), trivial⟩, by kernel_rfl, by kernel_rfl, by kernel_rfl⟩

-- fedchat/fedchatlaw54.DigestDiffers
def L54_DigestDiffers_S1 (p0_a : ApiRoom) (p1_b : ApiRoom) (v1 : Bool) : St := ⟨shp 48 [(2, .ptr 0 0), (3, .ptr 1 0), (10, .d (eB v1))], [.box (dc (eApiRoom p0_a)), .box (dc (eApiRoom p1_b))], 0⟩
def L54_DigestDiffers_S2 (v3 : Bool) : St := ⟨shp 48 [(4, .d (eB v3))], [], 0⟩
def L54_DigestDiffers_j2 (v3 : Bool) : Option Bool := some v3
def L54_DigestDiffers_j1 (p0_a : ApiRoom) (p1_b : ApiRoom) (v1 : Bool) : Option Bool := (bif v1 then some true else (digest_Differ p0_a p1_b).bind fun x5 => (R54_Differ p0_a p1_b).bind fun x6 => (R01_Same x5 x6).bind fun x7 => (bif x7 then (digest_Common p0_a p1_b).bind fun x9 => (R54_Common p0_a p1_b).bind fun x10 => (R01_Same x9 x10).bind fun x11 => (bif x11 then (digest_Behind p0_a p1_b).bind fun x13 => (R54_Behind p0_a p1_b).bind fun x14 => (bif (x13 == x14) then (digest_Same p0_a p1_b).bind fun x16 => (R54_Same p0_a p1_b).bind fun x17 => (bif (x16 == x17) then (L54_live).bind fun x19 => L54_DigestDiffers_j2 x19 else L54_DigestDiffers_j2 false) else L54_DigestDiffers_j2 false) else L54_DigestDiffers_j2 false) else L54_DigestDiffers_j2 false))
def L54_DigestDiffers (p0_a : ApiRoom) (p1_b : ApiRoom) : Option Bool := (R27_Great p0_a 14).bind fun x21 => (bif x21 then L54_DigestDiffers_j1 p0_a p1_b true else (R27_Great p1_b 14).bind fun x23 => L54_DigestDiffers_j1 p0_a p1_b x23)
theorem L54_DigestDiffers_ok (p0_a : ApiRoom) (p1_b : ApiRoom) (r : Bool) (h : L54_DigestDiffers p0_a p1_b = some r) : Runs Try.prog 4 [.d (eApiRoom p0_a), .d (eApiRoom p1_b)] [] (.d (eB r)) [] := by
  refine Runs.of_fin Try.func4 rfl ?_
  unfold L54_DigestDiffers at h
  refine SP.rg <| .a 3 <| .nil ?_
  refine SP.seqc ?_
  refine SP.join (fun s => ∃ (v1 : Bool), Sub s (L54_DigestDiffers_S1 p0_a p1_b v1) ∧ L54_DigestDiffers_j1 p0_a p1_b v1 = some r) ?_ ?_
  · clear h
    rintro s ⟨v1, hs, h⟩
    refine SP.sub hs ?_
    clear hs
    unfold L54_DigestDiffers_j1 at h
    refine SP.cond v1 (by kernel_rfl) (fun hb2 => ?_) (fun hb2 => ?_)
    · replace h := of_bif_true hb2 h
      refine SP.rg <| .a 1 <| .nil ?_
      refine SP.ret ?_
      rw [← Option.some.inj h]
      exact ⟨[.d (eB true)], [], ⟨resV_tmp (by kernel_rfl), trivial⟩, by kernel_rfl, by kernel_rfl, by kernel_rfl⟩
    · replace h := of_bif_false hb2 h
      refine SP.skip ?_
      refine SP.join (fun s => ∃ (v3 : Bool), Sub s (L54_DigestDiffers_S2 v3) ∧ L54_DigestDiffers_j2 v3 = some r) ?_ ?_
      · clear h
        rintro s ⟨v3, hs, h⟩
        refine SP.sub hs ?_
        clear hs
        unfold L54_DigestDiffers_j2 at h
        refine SP.ret ?_
        rw [← Option.some.inj h]
        exact ⟨[.d (eB v3)], [], ⟨resV_tmp (by kernel_rfl), trivial⟩, by kernel_rfl, by kernel_rfl, by kernel_rfl⟩
      · intro K4
        obtain ⟨x5, hx5, h⟩ := of_bind h
        obtain ⟨x6, hx6, h⟩ := of_bind h
        obtain ⟨x7, hx7, h⟩ := of_bind h
        cases x7 with
        | true =>
          replace h := of_bif_true rfl h
          obtain ⟨x9, hx9, h⟩ := of_bind h
          obtain ⟨x10, hx10, h⟩ := of_bind h
          obtain ⟨x11, hx11, h⟩ := of_bind h
          cases x11 with
          | true =>
            replace h := of_bif_true rfl h
            obtain ⟨x13, hx13, h⟩ := of_bind h
            obtain ⟨x14, hx14, h⟩ := of_bind h
            rcases Bool.eq_false_or_eq_true (x13 == x14) with hb15 | hb15
            · replace h := of_bif_true hb15 h
              obtain ⟨x16, hx16, h⟩ := of_bind h
              obtain ⟨x17, hx17, h⟩ := of_bind h
              rcases Bool.eq_false_or_eq_true (x16 == x17) with hb18 | hb18
              · replace h := of_bif_true hb18 h
                obtain ⟨x19, hx19, h⟩ := of_bind h
                refine SP.draw (by kernel_rfl) (by kernel_rfl) (by kernel_rfl) (.a 2 <| .call (digest_Differ_ok p0_a p1_b x5 hx5).view ent12 <| .a 2 <| .call (R54_Differ_ok p0_a p1_b x6 hx6) ent13 <| .call (R01_Same_ok x5 x6 true hx7) ent11 <| .a 3 <| .call (digest_Common_ok p0_a p1_b x9 hx9).view ent14 <| .a 2 <| .call (R54_Common_ok p0_a p1_b x10 hx10) ent15 <| .call (R01_Same_ok x9 x10 true hx11) ent11 <| .a 4 <| .call (digest_Behind_ok p0_a p1_b x13 hx13) ent16 <| .a 2 <| .call (R54_Behind_ok p0_a p1_b x14 hx14) ent17 <| .a 2 <| .c (congrArg some hb15) <| .a 2 <| .call (digest_Same_ok p0_a p1_b x16 hx16) ent18 <| .a 2 <| .call (R54_Same_ok p0_a p1_b x17 hx17) ent19 <| .a 2 <| .c (congrArg some hb18) <| .call (L54_live_ok  x19 hx19) ent10 <| .a 2 <| .nil _) ?_
                exact K4 _ ⟨x19, sub_of (mk 48 16) [], h⟩
              · replace h := of_bif_false hb18 h
                refine SP.draw (by kernel_rfl) (by kernel_rfl) (by kernel_rfl) (.a 2 <| .call (digest_Differ_ok p0_a p1_b x5 hx5).view ent12 <| .a 2 <| .call (R54_Differ_ok p0_a p1_b x6 hx6) ent13 <| .call (R01_Same_ok x5 x6 true hx7) ent11 <| .a 3 <| .call (digest_Common_ok p0_a p1_b x9 hx9).view ent14 <| .a 2 <| .call (R54_Common_ok p0_a p1_b x10 hx10) ent15 <| .call (R01_Same_ok x9 x10 true hx11) ent11 <| .a 4 <| .call (digest_Behind_ok p0_a p1_b x13 hx13) ent16 <| .a 2 <| .call (R54_Behind_ok p0_a p1_b x14 hx14) ent17 <| .a 2 <| .c (congrArg some hb15) <| .a 2 <| .call (digest_Same_ok p0_a p1_b x16 hx16) ent18 <| .a 2 <| .call (R54_Same_ok p0_a p1_b x17 hx17) ent19 <| .a 2 <| .c (congrArg some hb18) <| .a 3 <| .nil _) ?_
                exact K4 _ ⟨false, sub_of (mk 48 16) [], h⟩
            · replace h := of_bif_false hb15 h
              refine SP.draw (by kernel_rfl) (by kernel_rfl) (by kernel_rfl) (.a 2 <| .call (digest_Differ_ok p0_a p1_b x5 hx5).view ent12 <| .a 2 <| .call (R54_Differ_ok p0_a p1_b x6 hx6) ent13 <| .call (R01_Same_ok x5 x6 true hx7) ent11 <| .a 3 <| .call (digest_Common_ok p0_a p1_b x9 hx9).view ent14 <| .a 2 <| .call (R54_Common_ok p0_a p1_b x10 hx10) ent15 <| .call (R01_Same_ok x9 x10 true hx11) ent11 <| .a 4 <| .call (digest_Behind_ok p0_a p1_b x13 hx13) ent16 <| .a 2 <| .call (R54_Behind_ok p0_a p1_b x14 hx14) ent17 <| .a 2 <| .c (congrArg some hb15) <| .a 12 <| .nil _) ?_
              exact K4 _ ⟨false, sub_of (mk 48 16) [], h⟩
          | false =>
            replace h := of_bif_false rfl h
            refine SP.draw (by kernel_rfl) (by kernel_rfl) (by kernel_rfl) (.a 2 <| .call (digest_Differ_ok p0_a p1_b x5 hx5).view ent12 <| .a 2 <| .call (R54_Differ_ok p0_a p1_b x6 hx6) ent13 <| .call (R01_Same_ok x5 x6 true hx7) ent11 <| .a 3 <| .call (digest_Common_ok p0_a p1_b x9 hx9).view ent14 <| .a 2 <| .call (R54_Common_ok p0_a p1_b x10 hx10) ent15 <| .call (R01_Same_ok x9 x10 false hx11) ent11 <| .a 23 <| .nil _) ?_
            exact K4 _ ⟨false, sub_of (mk 48 16) [], h⟩
        | false =>
          replace h := of_bif_false rfl h
          refine SP.draw (by kernel_rfl) (by kernel_rfl) (by kernel_rfl) (.a 2 <| .call (digest_Differ_ok p0_a p1_b x5 hx5).view ent12 <| .a 2 <| .call (R54_Differ_ok p0_a p1_b x6 hx6) ent13 <| .call (R01_Same_ok x5 x6 false hx7) ent11 <| .a 31 <| .nil _) ?_
          exact K4 _ ⟨false, sub_of (mk 48 16) [], h⟩
  · intro K20
    obtain ⟨x21, hx21, h⟩ := of_bind h
    refine SP.rgn <| .a 1 <| .call (R27_Great_ok p0_a 14 x21 hx21) ent7 <| .a 1 <| ?_
    cases x21 with
    | true =>
      replace h := of_bif_true rfl h
      refine .a 3 <| .nil ?_
      exact K20 _ ⟨true, sub_of (mk 48 1036) [(0, true), (1, true)], h⟩
    | false =>
      replace h := of_bif_false rfl h
      obtain ⟨x23, hx23, h⟩ := of_bind h
      refine .a 1 <| .call (R27_Great_ok p1_b 14 x23 hx23) ent7 <| .a 1 <| .nil ?_
      exact K20 _ ⟨x23, sub_of (mk 48 1036) [(0, true), (1, true)], h⟩

-- fedchat/fedchatlaw54.DigestCounts
def L54_DigestCounts_S1 (p0_a : ApiRoom) (p1_b : ApiRoom) (v1 : Bool) : St := ⟨shp 80 [(2, .ptr 0 0), (3, .ptr 1 0), (13, .d (eB v1))], [.box (dc (eApiRoom p0_a)), .box (dc (eApiRoom p1_b))], 0⟩
def L54_DigestCounts_S2 (v8 : Bool) : St := ⟨shp 80 [(4, .d (eB v8))], [], 0⟩
def L54_DigestCounts_j2 (v8 : Bool) : Option Bool := some v8
def L54_DigestCounts_j1 (p0_a : ApiRoom) (p1_b : ApiRoom) (v1 : Bool) : Option Bool := (bif v1 then some true else (digest_Differ p0_a p1_b).bind fun x3 => (digest_Common p0_a p1_b).bind fun x4 => (R08_Ids p0_a.Events).bind fun x5 => (R08_Ids p1_b.Events).bind fun x6 => (R01_Union x5 x6).bind fun x7 => (digest_Behind p0_a p1_b).bind fun x10 => (digest_Behind p1_b p0_a).bind fun x11 => (bif ((x3.length : Int) == (IntKind.i64.wrap (x10 + x11))) then (digest_Same p0_a p1_b).bind fun x13 => (bif (x13 == ((x3.length : Int) == 0)) then (R01_Union x3 x4).bind fun x15 => (R01_Same x15 x7).bind fun x16 => (bif x16 then (bif ((IntKind.i64.wrap ((x3.length : Int) + (x4.length : Int))) == (x7.length : Int)) then (digest_Differ p1_b p0_a).bind fun x19 => (R01_Same x19 x3).bind fun x20 => (bif x20 then (digest_Common p1_b p0_a).bind fun x22 => (R01_Same x22 x4).bind fun x23 => (bif x23 then (L54_live).bind fun x25 => L54_DigestCounts_j2 x25 else L54_DigestCounts_j2 false) else L54_DigestCounts_j2 false) else L54_DigestCounts_j2 false) else L54_DigestCounts_j2 false) else L54_DigestCounts_j2 false) else L54_DigestCounts_j2 false))
def L54_DigestCounts (p0_a : ApiRoom) (p1_b : ApiRoom) : Option Bool := (R27_Great p0_a 14).bind fun x27 => (bif x27 then L54_DigestCounts_j1 p0_a p1_b true else (R27_Great p1_b 14).bind fun x29 => L54_DigestCounts_j1 p0_a p1_b x29)
theorem L54_DigestCounts_ok (p0_a : ApiRoom) (p1_b : ApiRoom) (r : Bool) (h : L54_DigestCounts p0_a p1_b = some r) : Runs Try.prog 5 [.d (eApiRoom p0_a), .d (eApiRoom p1_b)] [] (.d (eB r)) [] := by
  refine Runs.of_fin Try.func5 rfl ?_
  unfold L54_DigestCounts at h
  refine SP.rg <| .a 3 <| .nil ?_
  refine SP.seqc ?_
  refine SP.join (fun s => ∃ (v1 : Bool), Sub s (L54_DigestCounts_S1 p0_a p1_b v1) ∧ L54_DigestCounts_j1 p0_a p1_b v1 = some r) ?_ ?_
  · clear h
    rintro s ⟨v1, hs, h⟩
    refine SP.sub hs ?_
    clear hs
    unfold L54_DigestCounts_j1 at h
    refine SP.cond v1 (by kernel_rfl) (fun hb2 => ?_) (fun hb2 => ?_)
    · replace h := of_bif_true hb2 h
      refine SP.rg <| .a 1 <| .nil ?_
      refine SP.ret ?_
      rw [← Option.some.inj h]
      exact ⟨[.d (eB true)], [], ⟨resV_tmp (by kernel_rfl), trivial⟩, by kernel_rfl, by kernel_rfl, by kernel_rfl⟩
    · replace h := of_bif_false hb2 h
      refine SP.skip ?_
      obtain ⟨x3, hx3, h⟩ := of_bind h
      obtain ⟨x4, hx4, h⟩ := of_bind h
      refine SP.dseq (by kernel_rfl) (by kernel_rfl) (by kernel_rfl) (.a 2 <| .call (digest_Differ_ok p0_a p1_b x3 hx3).view ent12 <| .a 2 <| .call (digest_Common_ok p0_a p1_b x4 hx4).view ent14 <| .a 2 <| .nil _) ?_
      obtain ⟨x5, hx5, h⟩ := of_bind h
      obtain ⟨x6, hx6, h⟩ := of_bind h
      obtain ⟨x7, hx7, h⟩ := of_bind h
      refine SP.dseq (by kernel_rfl) (by kernel_rfl) (by kernel_rfl) (.a 2 <| .call (R08_Ids_ok p0_a.Events x5 hx5).view ent21 <| .a 2 <| .call (R08_Ids_ok p1_b.Events x6 hx6).view ent21 <| .call (R01_Union_ok x5 x6 x7 hx7) ent20 <| .a 1 <| .nil _) ?_
      refine SP.join (fun s => ∃ (v8 : Bool), Sub s (L54_DigestCounts_S2 v8) ∧ L54_DigestCounts_j2 v8 = some r) ?_ ?_
      · clear h
        rintro s ⟨v8, hs, h⟩
        refine SP.sub hs ?_
        clear hs
        unfold L54_DigestCounts_j2 at h
        refine SP.ret ?_
        rw [← Option.some.inj h]
        exact ⟨[.d (eB v8)], [], ⟨resV_tmp (by kernel_rfl), trivial⟩, by kernel_rfl, by kernel_rfl, by kernel_rfl⟩
      · intro K9
        obtain ⟨x10, hx10, h⟩ := of_bind h
        obtain ⟨x11, hx11, h⟩ := of_bind h
        rcases Bool.eq_false_or_eq_true ((x3.length : Int) == (IntKind.i64.wrap (x10 + x11))) with hb12 | hb12
        · replace h := of_bif_true hb12 h
          obtain ⟨x13, hx13, h⟩ := of_bind h
          rcases Bool.eq_false_or_eq_true (x13 == ((x3.length : Int) == 0)) with hb14 | hb14
          · replace h := of_bif_true hb14 h
            obtain ⟨x15, hx15, h⟩ := of_bind h
            obtain ⟨x16, hx16, h⟩ := of_bind h
            cases x16 with
            | true =>
              replace h := of_bif_true rfl h
              rcases Bool.eq_false_or_eq_true ((IntKind.i64.wrap ((x3.length : Int) + (x4.length : Int))) == (x7.length : Int)) with hb18 | hb18
              · replace h := of_bif_true hb18 h
                obtain ⟨x19, hx19, h⟩ := of_bind h
                obtain ⟨x20, hx20, h⟩ := of_bind h
                cases x20 with
                | true =>
                  replace h := of_bif_true rfl h
                  obtain ⟨x22, hx22, h⟩ := of_bind h
                  obtain ⟨x23, hx23, h⟩ := of_bind h
                  cases x23 with
                  | true =>
                    replace h := of_bif_true rfl h
                    obtain ⟨x25, hx25, h⟩ := of_bind h
                    refine SP.draw (by kernel_rfl) (by kernel_rfl) (by kernel_rfl) (.a 1 <| .p (ok_lenT eI x3 und24 rfl) <| .a 2 <| .call (digest_Behind_ok p0_a p1_b x10 hx10) ent16 <| .a 2 <| .call (digest_Behind_ok p1_b p0_a x11 hx11) ent16 <| .a 2 <| .c (congrArg some hb12) <| .a 2 <| .call (digest_Same_ok p0_a p1_b x13 hx13) ent18 <| .a 1 <| .p (ok_lenT eI x3 und24 rfl) <| .a 3 <| .c (congrArg some hb14) <| .a 2 <| .call (R01_Union_ok x3 x4 x15 hx15) ent20 <| .a 1 <| .call (R01_Same_ok x15 x7 true hx16) ent11 <| .a 3 <| .p (ok_lenT eI x3 und24 rfl) <| .a 1 <| .p (ok_lenT eI x4 und24 rfl) <| .a 2 <| .p (ok_lenT eI x7 und24 rfl) <| .a 2 <| .c (congrArg some hb18) <| .a 2 <| .call (digest_Differ_ok p1_b p0_a x19 hx19).view ent12 <| .a 1 <| .call (R01_Same_ok x19 x3 true hx20) ent11 <| .a 4 <| .call (digest_Common_ok p1_b p0_a x22 hx22).view ent14 <| .a 1 <| .call (R01_Same_ok x22 x4 true hx23) ent11 <| .a 2 <| .call (L54_live_ok  x25 hx25) ent10 <| .a 2 <| .nil _) ?_
                    exact K9 _ ⟨x25, sub_of (mk 80 16) [], h⟩
                  | false =>
                    replace h := of_bif_false rfl h
                    refine SP.draw (by kernel_rfl) (by kernel_rfl) (by kernel_rfl) (.a 1 <| .p (ok_lenT eI x3 und24 rfl) <| .a 2 <| .call (digest_Behind_ok p0_a p1_b x10 hx10) ent16 <| .a 2 <| .call (digest_Behind_ok p1_b p0_a x11 hx11) ent16 <| .a 2 <| .c (congrArg some hb12) <| .a 2 <| .call (digest_Same_ok p0_a p1_b x13 hx13) ent18 <| .a 1 <| .p (ok_lenT eI x3 und24 rfl) <| .a 3 <| .c (congrArg some hb14) <| .a 2 <| .call (R01_Union_ok x3 x4 x15 hx15) ent20 <| .a 1 <| .call (R01_Same_ok x15 x7 true hx16) ent11 <| .a 3 <| .p (ok_lenT eI x3 und24 rfl) <| .a 1 <| .p (ok_lenT eI x4 und24 rfl) <| .a 2 <| .p (ok_lenT eI x7 und24 rfl) <| .a 2 <| .c (congrArg some hb18) <| .a 2 <| .call (digest_Differ_ok p1_b p0_a x19 hx19).view ent12 <| .a 1 <| .call (R01_Same_ok x19 x3 true hx20) ent11 <| .a 4 <| .call (digest_Common_ok p1_b p0_a x22 hx22).view ent14 <| .a 1 <| .call (R01_Same_ok x22 x4 false hx23) ent11 <| .a 5 <| .nil _) ?_
                    exact K9 _ ⟨false, sub_of (mk 80 16) [], h⟩
                | false =>
                  replace h := of_bif_false rfl h
                  refine SP.draw (by kernel_rfl) (by kernel_rfl) (by kernel_rfl) (.a 1 <| .p (ok_lenT eI x3 und24 rfl) <| .a 2 <| .call (digest_Behind_ok p0_a p1_b x10 hx10) ent16 <| .a 2 <| .call (digest_Behind_ok p1_b p0_a x11 hx11) ent16 <| .a 2 <| .c (congrArg some hb12) <| .a 2 <| .call (digest_Same_ok p0_a p1_b x13 hx13) ent18 <| .a 1 <| .p (ok_lenT eI x3 und24 rfl) <| .a 3 <| .c (congrArg some hb14) <| .a 2 <| .call (R01_Union_ok x3 x4 x15 hx15) ent20 <| .a 1 <| .call (R01_Same_ok x15 x7 true hx16) ent11 <| .a 3 <| .p (ok_lenT eI x3 und24 rfl) <| .a 1 <| .p (ok_lenT eI x4 und24 rfl) <| .a 2 <| .p (ok_lenT eI x7 und24 rfl) <| .a 2 <| .c (congrArg some hb18) <| .a 2 <| .call (digest_Differ_ok p1_b p0_a x19 hx19).view ent12 <| .a 1 <| .call (R01_Same_ok x19 x3 false hx20) ent11 <| .a 12 <| .nil _) ?_
                  exact K9 _ ⟨false, sub_of (mk 80 16) [], h⟩
              · replace h := of_bif_false hb18 h
                refine SP.draw (by kernel_rfl) (by kernel_rfl) (by kernel_rfl) (.a 1 <| .p (ok_lenT eI x3 und24 rfl) <| .a 2 <| .call (digest_Behind_ok p0_a p1_b x10 hx10) ent16 <| .a 2 <| .call (digest_Behind_ok p1_b p0_a x11 hx11) ent16 <| .a 2 <| .c (congrArg some hb12) <| .a 2 <| .call (digest_Same_ok p0_a p1_b x13 hx13) ent18 <| .a 1 <| .p (ok_lenT eI x3 und24 rfl) <| .a 3 <| .c (congrArg some hb14) <| .a 2 <| .call (R01_Union_ok x3 x4 x15 hx15) ent20 <| .a 1 <| .call (R01_Same_ok x15 x7 true hx16) ent11 <| .a 3 <| .p (ok_lenT eI x3 und24 rfl) <| .a 1 <| .p (ok_lenT eI x4 und24 rfl) <| .a 2 <| .p (ok_lenT eI x7 und24 rfl) <| .a 2 <| .c (congrArg some hb18) <| .a 17 <| .nil _) ?_
                exact K9 _ ⟨false, sub_of (mk 80 16) [], h⟩
            | false =>
              replace h := of_bif_false rfl h
              refine SP.draw (by kernel_rfl) (by kernel_rfl) (by kernel_rfl) (.a 1 <| .p (ok_lenT eI x3 und24 rfl) <| .a 2 <| .call (digest_Behind_ok p0_a p1_b x10 hx10) ent16 <| .a 2 <| .call (digest_Behind_ok p1_b p0_a x11 hx11) ent16 <| .a 2 <| .c (congrArg some hb12) <| .a 2 <| .call (digest_Same_ok p0_a p1_b x13 hx13) ent18 <| .a 1 <| .p (ok_lenT eI x3 und24 rfl) <| .a 3 <| .c (congrArg some hb14) <| .a 2 <| .call (R01_Union_ok x3 x4 x15 hx15) ent20 <| .a 1 <| .call (R01_Same_ok x15 x7 false hx16) ent11 <| .a 29 <| .nil _) ?_
              exact K9 _ ⟨false, sub_of (mk 80 16) [], h⟩
          · replace h := of_bif_false hb14 h
            refine SP.draw (by kernel_rfl) (by kernel_rfl) (by kernel_rfl) (.a 1 <| .p (ok_lenT eI x3 und24 rfl) <| .a 2 <| .call (digest_Behind_ok p0_a p1_b x10 hx10) ent16 <| .a 2 <| .call (digest_Behind_ok p1_b p0_a x11 hx11) ent16 <| .a 2 <| .c (congrArg some hb12) <| .a 2 <| .call (digest_Same_ok p0_a p1_b x13 hx13) ent18 <| .a 1 <| .p (ok_lenT eI x3 und24 rfl) <| .a 3 <| .c (congrArg some hb14) <| .a 34 <| .nil _) ?_
            exact K9 _ ⟨false, sub_of (mk 80 16) [], h⟩
        · replace h := of_bif_false hb12 h
          refine SP.draw (by kernel_rfl) (by kernel_rfl) (by kernel_rfl) (.a 1 <| .p (ok_lenT eI x3 und24 rfl) <| .a 2 <| .call (digest_Behind_ok p0_a p1_b x10 hx10) ent16 <| .a 2 <| .call (digest_Behind_ok p1_b p0_a x11 hx11) ent16 <| .a 2 <| .c (congrArg some hb12) <| .a 43 <| .nil _) ?_
          exact K9 _ ⟨false, sub_of (mk 80 16) [], h⟩
  · intro K26
    obtain ⟨x27, hx27, h⟩ := of_bind h
    refine SP.rgn <| .a 1 <| .call (R27_Great_ok p0_a 14 x27 hx27) ent7 <| .a 1 <| ?_
    cases x27 with
    | true =>
      replace h := of_bif_true rfl h
      refine .a 3 <| .nil ?_
      exact K26 _ ⟨true, sub_of (mk 80 8204) [(0, true), (1, true)], h⟩
    | false =>
      replace h := of_bif_false rfl h
      obtain ⟨x29, hx29, h⟩ := of_bind h
      refine .a 1 <| .call (R27_Great_ok p1_b 14 x29 hx29) ent7 <| .a 1 <| .nil ?_
      exact K26 _ ⟨x29, sub_of (mk 80 8204) [(0, true), (1, true)], h⟩

-- fedchat/fedchatlaw54.DigestSofts
def L54_DigestSofts_S1 (v4 : (List ApiRow)) (v5 : Int) (v6 : ApiRoom) (v7 : ApiRoom) : St := ⟨shp 77 [(1, .ptr 0 0), (3, .ptr 1 0), (4, .d (eI v5))], [.box (dc (eApiRoom v6)), .box (setAt (dc (eApiRoom v7)) 2 [.osl 2]), .arr 43 4 (List.map eApiRow v4)], 0⟩
def L54_DigestSofts_S2 (v5 : Int) (v10 : (List ApiRow)) (v11 : ApiRoom) (v12 : ApiRoom) : St := ⟨shp 77 [(1, .ptr 0 0), (3, .ptr 1 0), (4, .d (eI v5))], [.box (dc (eApiRoom v11)), .box (setAt (dc (eApiRoom v12)) 2 [.osl 2]), .arr 43 4 (List.map eApiRow v10)], 0⟩
def L54_DigestSofts_S3 (v23 : Bool) : St := ⟨shp 77 [(2, .d (eB v23))], [], 0⟩
def L54_DigestSofts_j2 (v5 : Int) (k8 : ((List ApiRow) → Int → ApiRoom → ApiRoom → Option Bool)) (v10 : (List ApiRow)) (v11 : ApiRoom) (v12 : ApiRoom) : Option Bool := (gIdx v10 v5).bind fun x13 => (gIdx v10 v5).bind fun x14 => (gIdx (v10.set (v5).toNat ({ x14 with Pos := IntKind.i64.wrap ((v10.length : Int) - v5) })) v5).bind fun x15 => k8 ((v10.set (v5).toNat ({ x14 with Pos := IntKind.i64.wrap ((v10.length : Int) - v5) })).set (v5).toNat ({ x15 with Gone := (!x13.Gone) })) (IntKind.i64.wrap (v5 + 1)) v11 v12
def L54_DigestSofts_j3 (v23 : Bool) : Option Bool := some v23
def L54_DigestSofts_B1  (k8 : ((List ApiRow) → Int → ApiRoom → ApiRoom → Option Bool)) : (List ApiRow) → Int → ApiRoom → ApiRoom → Option Bool := fun v4 v5 v6 v7 => (bif decide (v5 < (v4.length : Int)) then (gIdx v4 v5).bind fun x17 => (bif (x17.Status == 3) then (gIdx v4 v5).bind fun x19 => L54_DigestSofts_j2 v5 k8 (v4.set (v5).toNat ({ x19 with Status := 4 })) v6 v7 else (gIdx v4 v5).bind fun x20 => (bif (x20.Status == 4) then (gIdx v4 v5).bind fun x22 => L54_DigestSofts_j2 v5 k8 (v4.set (v5).toNat ({ x22 with Status := 3 })) v6 v7 else L54_DigestSofts_j2 v5 k8 v4 v6 v7)) else (digest_Room ({ { { { v7 with Next := 0 } with Waiting := [] } with Heads := [] } with Rows := v4 })).bind fun x25 => (digest_Room v6).bind fun x26 => (bif (x25 == x26) then (L54_live).bind fun x28 => L54_DigestSofts_j3 x28 else L54_DigestSofts_j3 false))
def L54_DigestSofts_L1  : (List ApiRow) → Int → ApiRoom → ApiRoom → Option Bool := loop4 (L54_DigestSofts_B1) fuel
def L54_DigestSofts (p0_r : ApiRoom) : Option Bool := (R27_Great p0_r 14).bind fun x1 => (bif x1 then some true else (gApp 32 [] p0_r.Rows).bind fun x3 => L54_DigestSofts_L1 x3 0 p0_r p0_r)
theorem L54_DigestSofts_ok (p0_r : ApiRoom) (r : Bool) (h : L54_DigestSofts p0_r = some r) : Runs Try.prog 6 [.d (eApiRoom p0_r)] [] (.d (eB r)) [] := by
  refine Runs.of_fin Try.func6 rfl ?_
  unfold L54_DigestSofts at h
  refine SP.rg <| .a 2 <| .nil ?_
  refine SP.seqc ?_
  obtain ⟨x1, hx1, h⟩ := of_bind h
  refine SP.rg <| .a 1 <| .call (R27_Great_ok p0_r 14 x1 hx1) ent7 <| .nil ?_
  refine SP.cond x1 (by kernel_rfl) (fun hb2 => ?_) (fun hb2 => ?_)
  · replace h := of_bif_true hb2 h
    refine SP.rg <| .a 1 <| .nil ?_
    refine SP.ret ?_
    rw [← Option.some.inj h]
    exact ⟨[.d (eB true)], [], ⟨resV_tmp (by kernel_rfl), trivial⟩, by kernel_rfl, by kernel_rfl, by kernel_rfl⟩
  · replace h := of_bif_false hb2 h
    refine SP.skip ?_
    refine SP.rg <| .a 3 <| .nil ?_
    obtain ⟨x3, hx3, h⟩ := of_bind h
    refine SP.rg <| .e [.box (dc (eApiRoom p0_r)), .box (dc (eApiRoom p0_r)), .arr 43 4 (List.map eApiRow [])] (ok_lits_own el23 zero43 (by kernel_rfl) (by kernel_rfl) (Nat.le_of_ble_eq_true (by kernel_rfl)) [] [] (by kernel_rfl) (by kernel_rfl) (by kernel_rfl) (by kernel_rfl) rfl) <| .a 2 <| .e [.box (dc (eApiRoom p0_r)), .box (dc (eApiRoom p0_r)), .dead, .arr 43 4 (List.map eApiRow x3)] (ok_appT (k := 2) eApiRow hx3 el23 (by kernel_rfl) (fun _ => rfl) (by decide) rfl) <| .a 2 <| .nil ?_
    refine SP.seqc ?_
    refine SP.rg <| .a 1 <| .nil ?_
    refine SP.block ?_
    refine SP.loop4 (L54_DigestSofts_S1) (L54_DigestSofts_B1) r x3 0 p0_r p0_r (sub_of (mk 77 26) [(0, true), (1, true), (3, true)]) h ?_
    clear h
    intro J29 k8 hk8 v4 v5 v6 v7 h
    unfold L54_DigestSofts_B1 at h
    refine SP.seqc ?_
    refine SP.rg <| .a 3 <| .p (ok_lenO (k := 2) (e' := 43) (s := 4) eApiRow v4 (by kernel_rfl) und23 rfl) <| .a 1 <| .nil ?_
    refine SP.cond (decide (v5 < (v4.length : Int))) (by kernel_rfl) (fun hb9 => ?_) (fun hb9 => ?_)
    · replace h := of_bif_true hb9 h
      refine SP.skip ?_
      refine SP.seqc ?_
      refine SP.block ?_
      refine SP.join (fun s => ∃ (v10 : (List ApiRow)) (v11 : ApiRoom) (v12 : ApiRoom), Sub s (L54_DigestSofts_S2 v5 v10 v11 v12) ∧ L54_DigestSofts_j2 v5 k8 v10 v11 v12 = some r) ?_ ?_
      · clear h
        rintro s ⟨v10, v11, v12, hs, h⟩
        refine SP.sub hs ?_
        clear hs
        unfold L54_DigestSofts_j2 at h
        obtain ⟨x13, hx13, h⟩ := of_bind h
        obtain ⟨x14, hx14, h⟩ := of_bind h
        obtain ⟨x15, hx15, h⟩ := of_bind h
        refine SP.drawS [3, 4, 5, 17] (.a 8 <| .p (ok_lenO (k := 2) (e' := 43) (s := 4) eApiRow v10 (by kernel_rfl) und23 rfl) <| .a 5 <| .p (ok_idxO (e' := 43) (kd := .i64) eApiRow hx13 (k := 2) (by kernel_rfl) und23 ty43 rfl) <| .a 1 <| .p (x := .d (eB x13.Gone)) (ok_load_elem (e := 43) (size := 4) (k := 2) (i := (v5).toNat) (off := 3) eApiRow (by kernel_rfl) (by kernel_rfl) (gIdx_some hx13).2 ty4 (Nat.le_of_ble_eq_true (by kernel_rfl)) (fun _ => rfl) rfl) <| .a 1 <| .p (ok_idxO (e' := 43) (kd := .i64) eApiRow hx14 (k := 2) (by kernel_rfl) und23 ty43 rfl) <| .a 1 <| .e [.box (dc (eApiRoom v11)), .box (setAt (dc (eApiRoom v12)) 2 [.osl 2]), .arr 43 4 (List.map eApiRow (v10.set (v5).toNat ({ x14 with Pos := IntKind.i64.wrap ((v10.length : Int) - v5) })))] (ok_store_elem (e := 43) (size := 4) (v := .d (eI (IntKind.i64.wrap ((v10.length : Int) - v5)))) (k := 2) (i := (v5).toNat) (off := 0) (a' := ({ x14 with Pos := IntKind.i64.wrap ((v10.length : Int) - v5) })) eApiRow (by kernel_rfl) (gIdx_some hx14).2 (by kernel_rfl) (ty3).size (by kernel_rfl) (Nat.le_of_ble_eq_true (by kernel_rfl)) (by kernel_rfl) (fun _ => rfl) rfl) <| .p (ok_idxO (e' := 43) (kd := .i64) eApiRow hx15 (k := 2) (by kernel_rfl) und23 ty43 rfl) <| .a 1 <| .e [.box (dc (eApiRoom v11)), .box (setAt (dc (eApiRoom v12)) 2 [.osl 2]), .arr 43 4 (List.map eApiRow ((v10.set (v5).toNat ({ x14 with Pos := IntKind.i64.wrap ((v10.length : Int) - v5) })).set (v5).toNat ({ x15 with Gone := (!x13.Gone) })))] (ok_store_elem (e := 43) (size := 4) (v := .d (eB (!x13.Gone))) (k := 2) (i := (v5).toNat) (off := 3) (a' := ({ x15 with Gone := (!x13.Gone) })) eApiRow (by kernel_rfl) (gIdx_some hx15).2 (by kernel_rfl) (ty4).size (by kernel_rfl) (Nat.le_of_ble_eq_true (by kernel_rfl)) (by kernel_rfl) (fun _ => rfl) rfl) <| .nil _) ?_
        refine SP.rgn <| .a 3 <| .nil ?_
        exact hk8 _ ((v10.set (v5).toNat ({ x14 with Pos := IntKind.i64.wrap ((v10.length : Int) - v5) })).set (v5).toNat ({ x15 with Gone := (!x13.Gone) })) (IntKind.i64.wrap (v5 + 1)) v11 v12 (sub_of (mk 77 26) [(0, true), (1, true), (2, true)]) h
      · intro K16
        obtain ⟨x17, hx17, h⟩ := of_bind h
        refine SP.rg <| .a 3 <| .p (ok_idxO (e' := 43) (kd := .i64) eApiRow hx17 (k := 2) (by kernel_rfl) und23 ty43 rfl) <| .a 1 <| .p (x := .d (eI x17.Status)) (ok_load_elem (e := 43) (size := 4) (k := 2) (i := (v5).toNat) (off := 2) eApiRow (by kernel_rfl) (by kernel_rfl) (gIdx_some hx17).2 ty41 (Nat.le_of_ble_eq_true (by kernel_rfl)) (fun _ => rfl) rfl) <| .a 1 <| .nil ?_
        refine SP.cond (x17.Status == 3) (by kernel_rfl) (fun hb18 => ?_) (fun hb18 => ?_)
        · replace h := of_bif_true hb18 h
          obtain ⟨x19, hx19, h⟩ := of_bind h
          refine SP.rgn <| .a 3 <| .p (ok_idxO (e' := 43) (kd := .i64) eApiRow hx19 (k := 2) (by kernel_rfl) und23 ty43 rfl) <| .a 1 <| .e [.box (dc (eApiRoom v6)), .box (setAt (dc (eApiRoom v7)) 2 [.osl 2]), .arr 43 4 (List.map eApiRow (v4.set (v5).toNat ({ x19 with Status := 4 })))] (ok_store_elem (e := 43) (size := 4) (v := .d (eI 4)) (k := 2) (i := (v5).toNat) (off := 2) (a' := ({ x19 with Status := 4 })) eApiRow (by kernel_rfl) (gIdx_some hx19).2 (by kernel_rfl) (ty41).size (by kernel_rfl) (Nat.le_of_ble_eq_true (by kernel_rfl)) (by kernel_rfl) (fun _ => rfl) rfl) <| .nil ?_
          exact K16 _ ⟨(v4.set (v5).toNat ({ x19 with Status := 4 })), v6, v7, sub_of (mk 77 26) [(0, true), (1, true), (2, true)], h⟩
        · replace h := of_bif_false hb18 h
          obtain ⟨x20, hx20, h⟩ := of_bind h
          refine SP.rg <| .a 3 <| .p (ok_idxO (e' := 43) (kd := .i64) eApiRow hx20 (k := 2) (by kernel_rfl) und23 ty43 rfl) <| .a 1 <| .p (x := .d (eI x20.Status)) (ok_load_elem (e := 43) (size := 4) (k := 2) (i := (v5).toNat) (off := 2) eApiRow (by kernel_rfl) (by kernel_rfl) (gIdx_some hx20).2 ty41 (Nat.le_of_ble_eq_true (by kernel_rfl)) (fun _ => rfl) rfl) <| .a 1 <| .nil ?_
          refine SP.cond (x20.Status == 4) (by kernel_rfl) (fun hb21 => ?_) (fun hb21 => ?_)
          · replace h := of_bif_true hb21 h
            obtain ⟨x22, hx22, h⟩ := of_bind h
            refine SP.rgn <| .a 3 <| .p (ok_idxO (e' := 43) (kd := .i64) eApiRow hx22 (k := 2) (by kernel_rfl) und23 ty43 rfl) <| .a 1 <| .e [.box (dc (eApiRoom v6)), .box (setAt (dc (eApiRoom v7)) 2 [.osl 2]), .arr 43 4 (List.map eApiRow (v4.set (v5).toNat ({ x22 with Status := 3 })))] (ok_store_elem (e := 43) (size := 4) (v := .d (eI 3)) (k := 2) (i := (v5).toNat) (off := 2) (a' := ({ x22 with Status := 3 })) eApiRow (by kernel_rfl) (gIdx_some hx22).2 (by kernel_rfl) (ty41).size (by kernel_rfl) (Nat.le_of_ble_eq_true (by kernel_rfl)) (by kernel_rfl) (fun _ => rfl) rfl) <| .nil ?_
            exact K16 _ ⟨(v4.set (v5).toNat ({ x22 with Status := 3 })), v6, v7, sub_of (mk 77 26) [(0, true), (1, true), (2, true)], h⟩
          · replace h := of_bif_false hb21 h
            refine SP.skip ?_
            exact K16 _ ⟨v4, v6, v7, sub_of (mk 77 26) [(0, true), (1, true), (2, true)], h⟩
    · replace h := of_bif_false hb9 h
      refine SP.exit ?_
      refine SP.rg <| .a 6 <| .nil ?_
      refine SP.conv (thawC_holds (e := 43) (s := 4) 2 1 (xs := List.map eApiRow v4) (cs := setAt (dc (eApiRoom ({ { { v7 with Next := 0 } with Waiting := [] } with Heads := [] }))) 2 [.osl 2]) (by kernel_rfl) (by kernel_rfl) (by kernel_rfl)) ?_
      refine SP.join (fun s => ∃ (v23 : Bool), Sub s (L54_DigestSofts_S3 v23) ∧ L54_DigestSofts_j3 v23 = some r) ?_ ?_
      · clear h
        rintro s ⟨v23, hs, h⟩
        refine SP.sub hs ?_
        clear hs
        unfold L54_DigestSofts_j3 at h
        refine SP.ret ?_
        rw [← Option.some.inj h]
        exact ⟨[.d (eB v23)], [], ⟨resV_tmp (by kernel_rfl), trivial⟩, by kernel_rfl, by kernel_rfl, by kernel_rfl⟩
      · intro K24
        obtain ⟨x25, hx25, h⟩ := of_bind h
        obtain ⟨x26, hx26, h⟩ := of_bind h
        rcases Bool.eq_false_or_eq_true (x25 == x26) with hb27 | hb27
        · replace h := of_bif_true hb27 h
          obtain ⟨x28, hx28, h⟩ := of_bind h
          refine SP.draw (by kernel_rfl) (by kernel_rfl) (by kernel_rfl) (.a 1 <| .call (digest_Room_ok _ x25 hx25) ent8 <| .a 1 <| .call (digest_Room_ok v6 x26 hx26) ent8 <| .a 1 <| .c (congrArg some hb27) <| .call (L54_live_ok  x28 hx28) ent10 <| .a 2 <| .nil _) ?_
          exact K24 _ ⟨x28, sub_of (mk 77 4) [], h⟩
        · replace h := of_bif_false hb27 h
          refine SP.draw (by kernel_rfl) (by kernel_rfl) (by kernel_rfl) (.a 1 <| .call (digest_Room_ok _ x25 hx25) ent8 <| .a 1 <| .call (digest_Room_ok v6 x26 hx26) ent8 <| .a 1 <| .c (congrArg some hb27) <| .a 3 <| .nil _) ?_
          exact K24 _ ⟨false, sub_of (mk 77 4) [], h⟩
end Go.Proofs.Ytdhhcmdofnjhiaa
