/- Functions of the program, typed, each proved to be what the program computes (printed by gogen.py). No condition. -/
import Derived.Test.YtmegkokogomfnaaGreatGf2
namespace Go.Proofs.YtmegkokogomfnaaGreat
open Go.RowKit
set_option maxRecDepth 20000
set_option maxHeartbeats 4000000

-- fedchat/content.Check
def content_Check_c1 : (List ContentField) := [(⟨1, 127⟩ : ContentField), (⟨2, 128⟩ : ContentField), (⟨4, 129⟩ : ContentField), (⟨8, 130⟩ : ContentField), (⟨16, 131⟩ : ContentField), (⟨32, 132⟩ : ContentField)]
def content_Check_S1 (p0_k : Int) (x1 : Int) (v12 : Int) (v13 : ApiContent) : St := ⟨shp 69 [(0, .d (eI p0_k)), (3, .ptr 0 0), (5, .d (eI x1)), (37, .d ((eL eContentField) content_Check_c1)), (38, .d (eI (content_Check_c1.length : Int))), (39, .d (eI v12))], [.box (dc (eApiContent v13))], 0⟩
def content_Check_S2 (p0_k : Int) (x1 : Int) (v12 : Int) (v16 : ApiContent) : St := ⟨shp 69 [(0, .d (eI p0_k)), (3, .ptr 0 0), (5, .d (eI x1)), (37, .d ((eL eContentField) content_Check_c1)), (38, .d (eI (content_Check_c1.length : Int))), (39, .d (eI v12))], [.box (dc (eApiContent v16))], 0⟩
def content_Check_j2 (k14 : (Int → ApiContent → Option Int)) (v12 : Int) (v16 : ApiContent) : Option Int := k14 (IntKind.i64.wrap (v12 + 1)) v16
def content_Check_B1 (x1 : Int) (p0_k : Int) (k14 : (Int → ApiContent → Option Int)) : Int → ApiContent → Option Int := fun v12 v13 => (bif decide (v12 < (content_Check_c1.length : Int)) then (gIdx content_Check_c1 v12).bind fun x18 => (bif ((gBits .and .i64 x1 x18.bit_) == 0) then content_Check_j2 k14 v12 v13 else (tab_content_checkText x18.check_ p0_k v13).bind fun x20 => (bif (x20 != 0) then some x20 else content_Check_j2 k14 v12 v13)) else (bif ((gBits .and .i64 x1 64) != 0) then (content_patterns v13.Deny).bind fun x23 => some x23 else (bif ((gBits .and .i64 x1 128) != 0) then (content_Levels v13.Levels).bind fun x25 => some x25 else some 0)))
def content_Check_L1 (x1 : Int) (p0_k : Int) : Int → ApiContent → Option Int := loop2 (content_Check_B1 x1 p0_k) fuel
def content_Check (p0_k : Int) (p1_c : ApiContent) : Option Int := (content_uses p0_k).bind fun x1 => (content_known p0_k).bind fun x2 => (bif (!x2) then some true else (content_set p1_c).bind fun x5 => some ((gBits .andNot .i64 x5 x1) != 0)).bind fun x3 => (bif x3 then some 1 else (content_set p1_c).bind fun x7 => (bif (x7 == 0) then (content_keeps p0_k).bind fun x10 => some (x10 == 0) else some false).bind fun x8 => (bif x8 then some 0 else content_Check_L1 x1 p0_k 0 p1_c))
theorem content_Check_ok (p0_k : Int) (p1_c : ApiContent) (r : Int) (h : content_Check p0_k p1_c = some r) : Runs Tryz.prog 95 [.d (eI p0_k), .d (eApiContent p1_c)] [] (.d (eI r)) [] := by
  refine Runs.of_fin Tryz.func95 rfl ?_
  unfold content_Check at h
  refine SP.rg <| .a 2 <| .nil ?_
  obtain ⟨x1, hx1, h⟩ := of_bind h
  refine SP.rg <| .a 1 <| .call (content_uses_ok p0_k x1 hx1) ent124 <| .a 1 <| .nil ?_
  refine SP.seqc ?_
  obtain ⟨x2, hx2, h⟩ := of_bind h
  refine SP.rg <| .a 1 <| .call (content_known_ok p0_k x2 hx2) ent125 <| .a 1 <| ?_
  obtain ⟨x3, hx3, h⟩ := of_bind h
  refine .merge 7 [15, 16, 17, 18, 19, 20] 21 (.d (eB x3)) ?_ ?_
  · replace h := hx3
    rcases Bool.eq_false_or_eq_true (!x2) with hb4 | hb4
    · replace h := of_bif_true hb4 h
      refine .c (congrArg some hb4) <| .a 6 <| .nil ?_
      obtain rfl := Option.some.inj h
      kernel_rfl
    · replace h := of_bif_false hb4 h
      obtain ⟨x5, hx5, h⟩ := of_bind h
      refine .c (congrArg some hb4) <| .a 1 <| .call (content_set_ok p1_c x5 hx5) ent126 <| .a 1 <| .p (ok_andNot (k := .i64) (u := x5) (v := x1) rfl) <| .a 2 <| .nil ?_
      obtain rfl := Option.some.inj h
      kernel_rfl
  refine .nil ?_
  refine SP.cond x3 (by kernel_rfl) (fun hb6 => ?_) (fun hb6 => ?_)
  · replace h := of_bif_true hb6 h
    refine SP.rg <| .a 1 <| .nil ?_
    refine SP.ret ?_
    rw [← Option.some.inj h]
    exact ⟨[.d (eI 1)], [], ⟨resV_tmp (by kernel_rfl), trivial⟩, by kernel_rfl, by kernel_rfl, by kernel_rfl⟩
  · replace h := of_bif_false hb6 h
    refine SP.skip ?_
    refine SP.seqc ?_
    obtain ⟨x7, hx7, h⟩ := of_bind h
    refine SP.rg <| .a 1 <| .call (content_set_ok p1_c x7 hx7) ent126 <| .a 1 <| ?_
    obtain ⟨x8, hx8, h⟩ := of_bind h
    refine .merge 5 [25, 26, 27, 28] 29 (.d (eB x8)) ?_ ?_
    · replace h := hx8
      rcases Bool.eq_false_or_eq_true (x7 == 0) with hb9 | hb9
      · replace h := of_bif_true hb9 h
        obtain ⟨x10, hx10, h⟩ := of_bind h
        refine .c (congrArg some hb9) <| .a 1 <| .call (content_keeps_ok p0_k x10 hx10) ent101 <| .a 2 <| .nil ?_
        obtain rfl := Option.some.inj h
        kernel_rfl
      · replace h := of_bif_false hb9 h
        refine .c (congrArg some hb9) <| .a 4 <| .nil ?_
        obtain rfl := Option.some.inj h
        kernel_rfl
    refine .nil ?_
    refine SP.cond x8 (by kernel_rfl) (fun hb11 => ?_) (fun hb11 => ?_)
    · replace h := of_bif_true hb11 h
      refine SP.rg <| .a 1 <| .nil ?_
      refine SP.ret ?_
      rw [← Option.some.inj h]
      exact ⟨[.d (eI 0)], [], ⟨resV_tmp (by kernel_rfl), trivial⟩, by kernel_rfl, by kernel_rfl, by kernel_rfl⟩
    · replace h := of_bif_false hb11 h
      refine SP.skip ?_
      refine SP.rg <| .a 6 <| .p (ok_lits el133 zero132 (by kernel_rfl) (by kernel_rfl) (Nat.le_of_ble_eq_true (by kernel_rfl)) [.d (eContentField (⟨1, 127⟩ : ContentField)), .d (eContentField (⟨2, 128⟩ : ContentField)), .d (eContentField (⟨4, 129⟩ : ContentField)), .d (eContentField (⟨8, 130⟩ : ContentField)), .d (eContentField (⟨16, 131⟩ : ContentField)), .d (eContentField (⟨32, 132⟩ : ContentField))] [eContentField (⟨1, 127⟩ : ContentField), eContentField (⟨2, 128⟩ : ContentField), eContentField (⟨4, 129⟩ : ContentField), eContentField (⟨8, 130⟩ : ContentField), eContentField (⟨16, 131⟩ : ContentField), eContentField (⟨32, 132⟩ : ContentField)] (by kernel_rfl) (by kernel_rfl) (by kernel_rfl) (by kernel_rfl) rfl) <| .a 1 <| .nil ?_
      refine SP.seqc ?_
      refine SP.rg <| .a 1 <| .p (ok_lenT eContentField content_Check_c1 und133 rfl) <| .a 1 <| .nil ?_
      refine SP.block ?_
      refine SP.loop2 (content_Check_S1 p0_k x1) (content_Check_B1 x1 p0_k) r 0 p1_c (sub_of (mk 69 962072674345) [(0, true)]) h ?_
      clear h
      intro J26 k14 hk14 v12 v13 h
      unfold content_Check_B1 at h
      refine SP.rg <| .a 1 <| .nil ?_
      refine SP.seqc ?_
      refine SP.cond (decide (v12 < (content_Check_c1.length : Int))) (by kernel_rfl) (fun hb15 => ?_) (fun hb15 => ?_)
      · replace h := of_bif_true hb15 h
        refine SP.skip ?_
        refine SP.join (fun s => ∃ (v16 : ApiContent), Sub s (content_Check_S2 p0_k x1 v12 v16) ∧ content_Check_j2 k14 v12 v16 = some r) ?_ ?_
        · clear h
          rintro s ⟨v16, hs, h⟩
          refine SP.sub hs ?_
          clear hs
          unfold content_Check_j2 at h
          refine SP.rgn <| .a 2 <| .nil ?_
          exact hk14 _ (IntKind.i64.wrap (v12 + 1)) v16 (sub_of (mk 69 962072674345) [(0, true)]) h
        · intro K17
          refine SP.block ?_
          obtain ⟨x18, hx18, h⟩ := of_bind h
          refine SP.rg <| .p (ok_idxT (k := .i64) eContentField hx18 und133 ty132 (by kernel_rfl) rfl) <| .a 3 <| .nil ?_
          refine SP.seqc ?_
          refine SP.rg <| .a 3 <| .p (ok_and (k := .i64) (u := x1) (v := x18.bit_) rfl) <| .a 1 <| .nil ?_
          refine SP.cond ((gBits .and .i64 x1 x18.bit_) == 0) (by kernel_rfl) (fun hb19 => ?_) (fun hb19 => ?_)
          · replace h := of_bif_true hb19 h
            refine SP.exit ?_
            exact K17 _ ⟨v13, sub_of (mk 69 962072674345) [(0, true)], h⟩
          · replace h := of_bif_false hb19 h
            refine SP.skip ?_
            obtain ⟨x20, hx20, h⟩ := of_bind h
            refine SP.rg <| .a 4 <| .p (ok_fn2 (tab_content_checkText_ok x18.check_ p0_k v13 x20 hx20) hx20 rfl) <| .a 1 <| .nil ?_
            refine SP.rg <| .a 2 <| .nil ?_
            refine SP.cond (x20 != 0) (by kernel_rfl) (fun hb21 => ?_) (fun hb21 => ?_)
            · replace h := of_bif_true hb21 h
              refine SP.rg <| .a 2 <| .nil ?_
              refine SP.ret ?_
              rw [← Option.some.inj h]
              exact ⟨[.d (eI x20)], [], ⟨resV_tmp (by kernel_rfl), trivial⟩, by kernel_rfl, by kernel_rfl, by kernel_rfl⟩
            · replace h := of_bif_false hb21 h
              refine SP.skip ?_
              exact K17 _ ⟨v13, sub_of (mk 69 962072674345) [(0, true)], h⟩
      · replace h := of_bif_false hb15 h
        refine SP.exit ?_
        refine SP.seqc ?_
        refine SP.rg <| .a 1 <| .p (ok_and (k := .i64) (u := x1) (v := 64) rfl) <| .a 1 <| .nil ?_
        refine SP.cond ((gBits .and .i64 x1 64) != 0) (by kernel_rfl) (fun hb22 => ?_) (fun hb22 => ?_)
        · replace h := of_bif_true hb22 h
          obtain ⟨x23, hx23, h⟩ := of_bind h
          refine SP.rg <| .a 2 <| .call (content_patterns_ok v13.Deny x23 hx23) ent133 <| .a 1 <| .nil ?_
          refine SP.ret ?_
          rw [← Option.some.inj h]
          exact ⟨[.d (eI x23)], [], ⟨resV_tmp (by kernel_rfl), trivial⟩, by kernel_rfl, by kernel_rfl, by kernel_rfl⟩
        · replace h := of_bif_false hb22 h
          refine SP.skip ?_
          refine SP.seqc ?_
          refine SP.rg <| .a 1 <| .p (ok_and (k := .i64) (u := x1) (v := 128) rfl) <| .a 1 <| .nil ?_
          refine SP.cond ((gBits .and .i64 x1 128) != 0) (by kernel_rfl) (fun hb24 => ?_) (fun hb24 => ?_)
          · replace h := of_bif_true hb24 h
            obtain ⟨x25, hx25, h⟩ := of_bind h
            refine SP.rg <| .a 2 <| .call (content_Levels_ok v13.Levels x25 hx25) ent134 <| .a 1 <| .nil ?_
            refine SP.ret ?_
            rw [← Option.some.inj h]
            exact ⟨[.d (eI x25)], [], ⟨resV_tmp (by kernel_rfl), trivial⟩, by kernel_rfl, by kernel_rfl, by kernel_rfl⟩
          · replace h := of_bif_false hb24 h
            refine SP.skip ?_
            refine SP.rg <| .a 1 <| .nil ?_
            refine SP.ret ?_
            rw [← Option.some.inj h]
            exact ⟨[.d (eI 0)], [], ⟨resV_tmp (by kernel_rfl), trivial⟩, by kernel_rfl, by kernel_rfl, by kernel_rfl⟩

-- fedchat/event.Check
def event_Check_S1 (p0_e : ApiEvent) (v3 : Bool) : St := ⟨shp 112 [(1, .ptr 0 0), (12, .d (eB v3))], [.box (dc (eApiEvent p0_e))], 0⟩
def event_Check_j1 (p0_e : ApiEvent) (v3 : Bool) : Option Int := (bif v3 then some 1 else (event_named p0_e).bind fun x5 => (bif (!x5) then some 3 else (bif decide (p0_e.Time < 0) then some true else some (decide (p0_e.Time > 1000000000))).bind fun x7 => (bif x7 then some true else some (decide (p0_e.Depth < 1))).bind fun x9 => (bif x9 then some true else some (decide (p0_e.Depth > 100000))).bind fun x11 => (bif x11 then some 2 else (bif decide ((p0_e.Prev.length : Int) > 10) then some true else some (decide ((p0_e.Auth.length : Int) > 8))).bind fun x14 => (bif x14 then some 7 else (event_ordered p0_e.Prev).bind fun x17 => (bif (!x17) then some true else (event_ordered p0_e.Auth).bind fun x20 => some (!x20)).bind fun x18 => (bif x18 then some 8 else (bif ((p0_e.Prev.length : Int) == 0) then some (p0_e.Kind != 1) else some false).bind fun x22 => (bif x22 then some 9 else (bif (p0_e.Kind == 1) then some (decide ((IntKind.i64.wrap ((p0_e.Prev.length : Int) + (p0_e.Auth.length : Int))) > 0)) else some false).bind fun x25 => (bif x25 then some 6 else (content_Check p0_e.Kind p0_e.Content).bind fun x28 => some x28)))))))
def event_Check (p0_e : ApiEvent) : Option Int := (bif (p0_e.Kind == 2) then some true else some (p0_e.Kind == 9)).bind fun x1 => (bif decide (p0_e.Kind < 1) then event_Check_j1 p0_e true else (bif decide (p0_e.Kind > 14) then event_Check_j1 p0_e true else (content_State p0_e.Kind).bind fun x32 => (bif (!(p0_e.State == x32)) then event_Check_j1 p0_e true else (bif (!(p0_e.Key.toList == s0.toList)) then event_Check_j1 p0_e (!x1) else event_Check_j1 p0_e false))))
theorem event_Check_ok (p0_e : ApiEvent) (r : Int) (h : event_Check p0_e = some r) : Runs Tryz.prog 55 [.d (eApiEvent p0_e)] [] (.d (eI r)) [] := by
  refine Runs.of_fin Tryz.func55 rfl ?_
  unfold event_Check at h
  refine SP.rg <| .a 2 <| .nil ?_
  refine SP.rg <| .a 3 <| ?_
  obtain ⟨x1, hx1, h⟩ := of_bind h
  refine .merge 5 [7, 8, 9, 10] 11 (.d (eB x1)) ?_ ?_
  · replace h := hx1
    rcases Bool.eq_false_or_eq_true (p0_e.Kind == 2) with hb2 | hb2
    · replace h := of_bif_true hb2 h
      refine .c (congrArg some hb2) <| .a 4 <| .nil ?_
      obtain rfl := Option.some.inj h
      kernel_rfl
    · replace h := of_bif_false hb2 h
      refine .c (congrArg some hb2) <| .a 4 <| .nil ?_
      obtain rfl := Option.some.inj h
      kernel_rfl
  refine .a 1 <| .nil ?_
  refine SP.seqc ?_
  refine SP.block ?_
  refine SP.join (fun s => ∃ (v3 : Bool), Sub s (event_Check_S1 p0_e v3) ∧ event_Check_j1 p0_e v3 = some r) ?_ ?_
  · clear h
    rintro s ⟨v3, hs, h⟩
    refine SP.sub hs ?_
    clear hs
    unfold event_Check_j1 at h
    refine SP.cond v3 (by kernel_rfl) (fun hb4 => ?_) (fun hb4 => ?_)
    · replace h := of_bif_true hb4 h
      refine SP.rg <| .a 1 <| .nil ?_
      refine SP.ret ?_
      rw [← Option.some.inj h]
      exact ⟨[.d (eI 1)], [], ⟨resV_tmp (by kernel_rfl), trivial⟩, by kernel_rfl, by kernel_rfl, by kernel_rfl⟩
    · replace h := of_bif_false hb4 h
      obtain ⟨x5, hx5, h⟩ := of_bind h
      refine SP.rg <| .a 1 <| .call (event_named_ok p0_e x5 hx5) ent93 <| .a 2 <| .nil ?_
      refine SP.cond (!x5) (by kernel_rfl) (fun hb6 => ?_) (fun hb6 => ?_)
      · replace h := of_bif_true hb6 h
        refine SP.rg <| .a 1 <| .nil ?_
        refine SP.ret ?_
        rw [← Option.some.inj h]
        exact ⟨[.d (eI 3)], [], ⟨resV_tmp (by kernel_rfl), trivial⟩, by kernel_rfl, by kernel_rfl, by kernel_rfl⟩
      · replace h := of_bif_false hb6 h
        refine SP.rg <| .a 3 <| ?_
        obtain ⟨x7, hx7, h⟩ := of_bind h
        refine .merge 5 [46, 47, 48, 49] 50 (.d (eB x7)) ?_ ?_
        · replace h := hx7
          rcases Bool.eq_false_or_eq_true (decide (p0_e.Time < 0)) with hb8 | hb8
          · replace h := of_bif_true hb8 h
            refine .c (congrArg some hb8) <| .a 4 <| .nil ?_
            obtain rfl := Option.some.inj h
            kernel_rfl
          · replace h := of_bif_false hb8 h
            refine .c (congrArg some hb8) <| .a 4 <| .nil ?_
            obtain rfl := Option.some.inj h
            kernel_rfl
        refine .a 1 <| ?_
        obtain ⟨x9, hx9, h⟩ := of_bind h
        refine .merge 4 [52, 53, 54] 55 (.d (eB x9)) ?_ ?_
        · replace h := hx9
          cases x7 with
          | true =>
            replace h := of_bif_true rfl h
            refine .a 4 <| .nil ?_
            obtain rfl := Option.some.inj h
            kernel_rfl
          | false =>
            replace h := of_bif_false rfl h
            refine .a 4 <| .nil ?_
            obtain rfl := Option.some.inj h
            kernel_rfl
        refine .a 1 <| ?_
        obtain ⟨x11, hx11, h⟩ := of_bind h
        refine .merge 4 [57, 58, 59] 60 (.d (eB x11)) ?_ ?_
        · replace h := hx11
          cases x9 with
          | true =>
            replace h := of_bif_true rfl h
            refine .a 4 <| .nil ?_
            obtain rfl := Option.some.inj h
            kernel_rfl
          | false =>
            replace h := of_bif_false rfl h
            refine .a 4 <| .nil ?_
            obtain rfl := Option.some.inj h
            kernel_rfl
        refine .a 1 <| .nil ?_
        refine SP.cond x11 (by kernel_rfl) (fun hb13 => ?_) (fun hb13 => ?_)
        · replace h := of_bif_true hb13 h
          refine SP.rg <| .a 1 <| .nil ?_
          refine SP.ret ?_
          rw [← Option.some.inj h]
          exact ⟨[.d (eI 2)], [], ⟨resV_tmp (by kernel_rfl), trivial⟩, by kernel_rfl, by kernel_rfl, by kernel_rfl⟩
        · replace h := of_bif_false hb13 h
          refine SP.rg <| .a 2 <| .p (ok_lenT eI p0_e.Prev und33 rfl) <| .a 1 <| ?_
          obtain ⟨x14, hx14, h⟩ := of_bind h
          refine .merge 6 [66, 67, 68, 69, 70] 71 (.d (eB x14)) ?_ ?_
          · replace h := hx14
            rcases Bool.eq_false_or_eq_true (decide ((p0_e.Prev.length : Int) > 10)) with hb15 | hb15
            · replace h := of_bif_true hb15 h
              refine .c (congrArg some hb15) <| .a 5 <| .nil ?_
              obtain rfl := Option.some.inj h
              kernel_rfl
            · replace h := of_bif_false hb15 h
              refine .c (congrArg some hb15) <| .a 2 <| .p (ok_lenT eI p0_e.Auth und33 rfl) <| .a 2 <| .nil ?_
              obtain rfl := Option.some.inj h
              kernel_rfl
          refine .a 1 <| .nil ?_
          refine SP.cond x14 (by kernel_rfl) (fun hb16 => ?_) (fun hb16 => ?_)
          · replace h := of_bif_true hb16 h
            refine SP.rg <| .a 1 <| .nil ?_
            refine SP.ret ?_
            rw [← Option.some.inj h]
            exact ⟨[.d (eI 7)], [], ⟨resV_tmp (by kernel_rfl), trivial⟩, by kernel_rfl, by kernel_rfl, by kernel_rfl⟩
          · replace h := of_bif_false hb16 h
            obtain ⟨x17, hx17, h⟩ := of_bind h
            refine SP.rg <| .a 2 <| .call (event_ordered_ok p0_e.Prev x17 hx17) ent94 <| .a 1 <| ?_
            obtain ⟨x18, hx18, h⟩ := of_bind h
            refine .merge 6 [77, 78, 79, 80, 81] 82 (.d (eB x18)) ?_ ?_
            · replace h := hx18
              rcases Bool.eq_false_or_eq_true (!x17) with hb19 | hb19
              · replace h := of_bif_true hb19 h
                refine .c (congrArg some hb19) <| .a 5 <| .nil ?_
                obtain rfl := Option.some.inj h
                kernel_rfl
              · replace h := of_bif_false hb19 h
                obtain ⟨x20, hx20, h⟩ := of_bind h
                refine .c (congrArg some hb19) <| .a 2 <| .call (event_ordered_ok p0_e.Auth x20 hx20) ent94 <| .a 2 <| .nil ?_
                obtain rfl := Option.some.inj h
                kernel_rfl
            refine .a 1 <| .nil ?_
            refine SP.cond x18 (by kernel_rfl) (fun hb21 => ?_) (fun hb21 => ?_)
            · replace h := of_bif_true hb21 h
              refine SP.rg <| .a 1 <| .nil ?_
              refine SP.ret ?_
              rw [← Option.some.inj h]
              exact ⟨[.d (eI 8)], [], ⟨resV_tmp (by kernel_rfl), trivial⟩, by kernel_rfl, by kernel_rfl, by kernel_rfl⟩
            · replace h := of_bif_false hb21 h
              refine SP.rg <| .a 2 <| .p (ok_lenT eI p0_e.Prev und33 rfl) <| .a 1 <| ?_
              obtain ⟨x22, hx22, h⟩ := of_bind h
              refine .merge 5 [88, 89, 90, 91] 92 (.d (eB x22)) ?_ ?_
              · replace h := hx22
                rcases Bool.eq_false_or_eq_true ((p0_e.Prev.length : Int) == 0) with hb23 | hb23
                · replace h := of_bif_true hb23 h
                  refine .c (congrArg some hb23) <| .a 4 <| .nil ?_
                  obtain rfl := Option.some.inj h
                  kernel_rfl
                · replace h := of_bif_false hb23 h
                  refine .c (congrArg some hb23) <| .a 4 <| .nil ?_
                  obtain rfl := Option.some.inj h
                  kernel_rfl
              refine .a 1 <| .nil ?_
              refine SP.cond x22 (by kernel_rfl) (fun hb24 => ?_) (fun hb24 => ?_)
              · replace h := of_bif_true hb24 h
                refine SP.rg <| .a 1 <| .nil ?_
                refine SP.ret ?_
                rw [← Option.some.inj h]
                exact ⟨[.d (eI 9)], [], ⟨resV_tmp (by kernel_rfl), trivial⟩, by kernel_rfl, by kernel_rfl, by kernel_rfl⟩
              · replace h := of_bif_false hb24 h
                refine SP.rg <| .a 3 <| ?_
                obtain ⟨x25, hx25, h⟩ := of_bind h
                refine .merge 10 [97, 98, 99, 100, 101, 102, 103, 104, 105] 106 (.d (eB x25)) ?_ ?_
                · replace h := hx25
                  rcases Bool.eq_false_or_eq_true (p0_e.Kind == 1) with hb26 | hb26
                  · replace h := of_bif_true hb26 h
                    refine .c (congrArg some hb26) <| .a 2 <| .p (ok_lenT eI p0_e.Prev und33 rfl) <| .a 2 <| .p (ok_lenT eI p0_e.Auth und33 rfl) <| .a 3 <| .nil ?_
                    obtain rfl := Option.some.inj h
                    kernel_rfl
                  · replace h := of_bif_false hb26 h
                    refine .c (congrArg some hb26) <| .a 9 <| .nil ?_
                    obtain rfl := Option.some.inj h
                    kernel_rfl
                refine .a 1 <| .nil ?_
                refine SP.cond x25 (by kernel_rfl) (fun hb27 => ?_) (fun hb27 => ?_)
                · replace h := of_bif_true hb27 h
                  refine SP.rg <| .a 1 <| .nil ?_
                  refine SP.ret ?_
                  rw [← Option.some.inj h]
                  exact ⟨[.d (eI 6)], [], ⟨resV_tmp (by kernel_rfl), trivial⟩, by kernel_rfl, by kernel_rfl, by kernel_rfl⟩
                · replace h := of_bif_false hb27 h
                  refine SP.skip ?_
                  obtain ⟨x28, hx28, h⟩ := of_bind h
                  refine SP.rg <| .a 4 <| .call (content_Check_ok p0_e.Kind p0_e.Content x28 hx28) ent95 <| .a 1 <| .nil ?_
                  refine SP.ret ?_
                  rw [← Option.some.inj h]
                  exact ⟨[.d (eI x28)], [], ⟨resV_tmp (by kernel_rfl), trivial⟩, by kernel_rfl, by kernel_rfl, by kernel_rfl⟩
  · intro K29
    rcases Bool.eq_false_or_eq_true (decide (p0_e.Kind < 1)) with hb30 | hb30
    · replace h := of_bif_true hb30 h
      refine SP.draw (by kernel_rfl) (by kernel_rfl) (by kernel_rfl) (.a 3 <| .c (congrArg some hb30) <| .a 22 <| .nil _) ?_
      exact K29 _ ⟨true, sub_of (mk 112 4098) [(0, true)], h⟩
    · replace h := of_bif_false hb30 h
      rcases Bool.eq_false_or_eq_true (decide (p0_e.Kind > 14)) with hb31 | hb31
      · replace h := of_bif_true hb31 h
        refine SP.draw (by kernel_rfl) (by kernel_rfl) (by kernel_rfl) (.a 3 <| .c (congrArg some hb30) <| .a 4 <| .c (congrArg some hb31) <| .a 17 <| .nil _) ?_
        exact K29 _ ⟨true, sub_of (mk 112 4098) [(0, true)], h⟩
      · replace h := of_bif_false hb31 h
        obtain ⟨x32, hx32, h⟩ := of_bind h
        rcases Bool.eq_false_or_eq_true (!(p0_e.State == x32)) with hb33 | hb33
        · replace h := of_bif_true hb33 h
          refine SP.draw (by kernel_rfl) (by kernel_rfl) (by kernel_rfl) (.a 3 <| .c (congrArg some hb30) <| .a 4 <| .c (congrArg some hb31) <| .a 4 <| .call (content_State_ok p0_e.Kind x32 hx32) ent92 <| .a 2 <| .c (congrArg some hb33) <| .a 9 <| .nil _) ?_
          exact K29 _ ⟨true, sub_of (mk 112 4098) [(0, true)], h⟩
        · replace h := of_bif_false hb33 h
          rcases Bool.eq_false_or_eq_true (!(p0_e.Key.toList == s0.toList)) with hb34 | hb34
          · replace h := of_bif_true hb34 h
            refine SP.draw (by kernel_rfl) (by kernel_rfl) (by kernel_rfl) (.a 3 <| .c (congrArg some hb30) <| .a 4 <| .c (congrArg some hb31) <| .a 4 <| .call (content_State_ok p0_e.Kind x32 hx32) ent92 <| .a 2 <| .c (congrArg some hb33) <| .a 3 <| .c (congrArg some hb34) <| .a 5 <| .nil _) ?_
            exact K29 _ ⟨(!x1), sub_of (mk 112 4098) [(0, true)], h⟩
          · replace h := of_bif_false hb34 h
            refine SP.draw (by kernel_rfl) (by kernel_rfl) (by kernel_rfl) (.a 3 <| .c (congrArg some hb30) <| .a 4 <| .c (congrArg some hb31) <| .a 4 <| .call (content_State_ok p0_e.Kind x32 hx32) ent92 <| .a 2 <| .c (congrArg some hb33) <| .a 3 <| .c (congrArg some hb34) <| .a 5 <| .nil _) ?_
            exact K29 _ ⟨false, sub_of (mk 112 4098) [(0, true)], h⟩

-- fedchat/event.Whole
def event_Whole (p0_e : ApiEvent) : Option Bool := (event_Hash p0_e).bind fun x1 => some (x1 == p0_e.Hash)
theorem event_Whole_ok (p0_e : ApiEvent) (r : Bool) (h : event_Whole p0_e = some r) : Runs Tryz.prog 56 [.d (eApiEvent p0_e)] [] (.d (eB r)) [] := by
  refine Runs.of_fin Tryz.func56 rfl ?_
  unfold event_Whole at h
  refine SP.rg <| .a 2 <| .nil ?_
  obtain ⟨x1, hx1, h⟩ := of_bind h
  refine SP.dseq (by kernel_rfl) (by kernel_rfl) (by kernel_rfl) (.a 1 <| .call (event_Hash_ok p0_e x1 hx1) ent22 <| .a 4 <| .nil _) ?_
  refine SP.ret ?_
  rw [← Option.some.inj h]
  exact ⟨[.d (eB (x1 == p0_e.Hash))], [], ⟨resV_tmp (by kernel_rfl), trivial⟩, by kernel_rfl, by kernel_rfl, by kernel_rfl⟩

-- fedchat/content.alike[string]
def content_alike_string_S1 (p0_a : (List ByteArray)) (p1_b : (List ByteArray)) (v2 : Int) : St := ⟨shp 26 [(0, .d ((eL eS) p0_a)), (1, .d ((eL eS) p1_b)), (12, .d (eI (p0_a.length : Int))), (13, .d (eI v2))], [], 0⟩
def content_alike_string_B1 (p0_a : (List ByteArray)) (p1_b : (List ByteArray)) (k3 : (Int → Option Bool)) : Int → Option Bool := fun v2 => (bif decide (v2 < (p0_a.length : Int)) then (gIdx p0_a v2).bind fun x5 => (gIdx p1_b v2).bind fun x6 => (bif (!(x5.toList == x6.toList)) then some false else k3 (IntKind.i64.wrap (v2 + 1))) else some true)
def content_alike_string_L1 (p0_a : (List ByteArray)) (p1_b : (List ByteArray)) : Int → Option Bool := loop1 (content_alike_string_B1 p0_a p1_b) fuel
def content_alike_string (p0_a : (List ByteArray)) (p1_b : (List ByteArray)) : Option Bool := (bif ((p0_a.length : Int) != (p1_b.length : Int)) then some false else content_alike_string_L1 p0_a p1_b 0)
theorem content_alike_string_ok (p0_a : (List ByteArray)) (p1_b : (List ByteArray)) (r : Bool) (h : content_alike_string p0_a p1_b = some r) : Runs Tryz.prog 96 [.d ((eL eS) p0_a), .d ((eL eS) p1_b)] [] (.d (eB r)) [] := by
  refine Runs.of_fin Tryz.func96 rfl ?_
  unfold content_alike_string at h
  refine SP.rg <| .a 1 <| .nil ?_
  refine SP.seqc ?_
  refine SP.rg <| .a 1 <| .p (ok_lenT eS p0_a und24 rfl) <| .a 1 <| .p (ok_lenT eS p1_b und24 rfl) <| .a 1 <| .nil ?_
  refine SP.cond ((p0_a.length : Int) != (p1_b.length : Int)) (by kernel_rfl) (fun hb1 => ?_) (fun hb1 => ?_)
  · replace h := of_bif_true hb1 h
    refine SP.rg <| .a 1 <| .nil ?_
    refine SP.ret ?_
    rw [← Option.some.inj h]
    exact ⟨[.d (eB false)], [], ⟨resV_tmp (by kernel_rfl), trivial⟩, by kernel_rfl, by kernel_rfl, by kernel_rfl⟩
  · replace h := of_bif_false hb1 h
    refine SP.skip ?_
    refine SP.seqc ?_
    refine SP.rg <| .a 1 <| .p (ok_lenT eS p0_a und24 rfl) <| .a 1 <| .nil ?_
    refine SP.block ?_
    refine SP.loop1 (content_alike_string_S1 p0_a p1_b) (content_alike_string_B1 p0_a p1_b) r 0 (sub_of (mk 26 12291) []) h ?_
    clear h
    intro J8 k3 hk3 v2 h
    unfold content_alike_string_B1 at h
    refine SP.rg <| .a 1 <| .nil ?_
    refine SP.seqc ?_
    refine SP.cond (decide (v2 < (p0_a.length : Int))) (by kernel_rfl) (fun hb4 => ?_) (fun hb4 => ?_)
    · replace h := of_bif_true hb4 h
      refine SP.skip ?_
      refine SP.seqc ?_
      refine SP.block ?_
      refine SP.rg <| .a 2 <| .nil ?_
      obtain ⟨x5, hx5, h⟩ := of_bind h
      obtain ⟨x6, hx6, h⟩ := of_bind h
      refine SP.dseq (by kernel_rfl) (by kernel_rfl) (by kernel_rfl) (.a 2 <| .p (ok_idxT (k := .i64) eS hx5 und24 ty9 (by kernel_rfl) rfl) <| .a 3 <| .p (ok_idxT (k := .i64) eS hx6 und24 ty9 (by kernel_rfl) rfl) <| .a 2 <| .nil _) ?_
      refine SP.cond (!(x5.toList == x6.toList)) (by kernel_rfl) (fun hb7 => ?_) (fun hb7 => ?_)
      · replace h := of_bif_true hb7 h
        refine SP.rg <| .a 1 <| .nil ?_
        refine SP.ret ?_
        rw [← Option.some.inj h]
        exact ⟨[.d (eB false)], [], ⟨resV_tmp (by kernel_rfl), trivial⟩, by kernel_rfl, by kernel_rfl, by kernel_rfl⟩
      · replace h := of_bif_false hb7 h
        refine SP.skip ?_
        refine SP.rgn <| .a 2 <| .nil ?_
        exact hk3 _ (IntKind.i64.wrap (v2 + 1)) (sub_of (mk 26 12291) []) h
    · replace h := of_bif_false hb4 h
      refine SP.exit ?_
      refine SP.rg <| .a 1 <| .nil ?_
      refine SP.ret ?_
      rw [← Option.some.inj h]
      exact ⟨[.d (eB true)], [], ⟨resV_tmp (by kernel_rfl), trivial⟩, by kernel_rfl, by kernel_rfl, by kernel_rfl⟩

-- fedchat/content.alike[fedchat/api.Level]
def content_alike_apiLevel_S1 (p0_a : (List ApiLevel)) (p1_b : (List ApiLevel)) (v2 : Int) : St := ⟨shp 26 [(0, .d ((eL eApiLevel) p0_a)), (1, .d ((eL eApiLevel) p1_b)), (12, .d (eI (p0_a.length : Int))), (13, .d (eI v2))], [], 0⟩
def content_alike_apiLevel_B1 (p0_a : (List ApiLevel)) (p1_b : (List ApiLevel)) (k3 : (Int → Option Bool)) : Int → Option Bool := fun v2 => (bif decide (v2 < (p0_a.length : Int)) then (gIdx p0_a v2).bind fun x5 => (gIdx p1_b v2).bind fun x6 => (bif (!qApiLevel x5 x6) then some false else k3 (IntKind.i64.wrap (v2 + 1))) else some true)
def content_alike_apiLevel_L1 (p0_a : (List ApiLevel)) (p1_b : (List ApiLevel)) : Int → Option Bool := loop1 (content_alike_apiLevel_B1 p0_a p1_b) fuel
def content_alike_apiLevel (p0_a : (List ApiLevel)) (p1_b : (List ApiLevel)) : Option Bool := (bif ((p0_a.length : Int) != (p1_b.length : Int)) then some false else content_alike_apiLevel_L1 p0_a p1_b 0)
theorem content_alike_apiLevel_ok (p0_a : (List ApiLevel)) (p1_b : (List ApiLevel)) (r : Bool) (h : content_alike_apiLevel p0_a p1_b = some r) : Runs Tryz.prog 97 [.d ((eL eApiLevel) p0_a), .d ((eL eApiLevel) p1_b)] [] (.d (eB r)) [] := by
  refine Runs.of_fin Tryz.func97 rfl ?_
  unfold content_alike_apiLevel at h
  refine SP.rg <| .a 1 <| .nil ?_
  refine SP.seqc ?_
  refine SP.rg <| .a 1 <| .p (ok_lenT eApiLevel p0_a und34 rfl) <| .a 1 <| .p (ok_lenT eApiLevel p1_b und34 rfl) <| .a 1 <| .nil ?_
  refine SP.cond ((p0_a.length : Int) != (p1_b.length : Int)) (by kernel_rfl) (fun hb1 => ?_) (fun hb1 => ?_)
  · replace h := of_bif_true hb1 h
    refine SP.rg <| .a 1 <| .nil ?_
    refine SP.ret ?_
    rw [← Option.some.inj h]
    exact ⟨[.d (eB false)], [], ⟨resV_tmp (by kernel_rfl), trivial⟩, by kernel_rfl, by kernel_rfl, by kernel_rfl⟩
  · replace h := of_bif_false hb1 h
    refine SP.skip ?_
    refine SP.seqc ?_
    refine SP.rg <| .a 1 <| .p (ok_lenT eApiLevel p0_a und34 rfl) <| .a 1 <| .nil ?_
    refine SP.block ?_
    refine SP.loop1 (content_alike_apiLevel_S1 p0_a p1_b) (content_alike_apiLevel_B1 p0_a p1_b) r 0 (sub_of (mk 26 12291) []) h ?_
    clear h
    intro J8 k3 hk3 v2 h
    unfold content_alike_apiLevel_B1 at h
    refine SP.rg <| .a 1 <| .nil ?_
    refine SP.seqc ?_
    refine SP.cond (decide (v2 < (p0_a.length : Int))) (by kernel_rfl) (fun hb4 => ?_) (fun hb4 => ?_)
    · replace h := of_bif_true hb4 h
      refine SP.skip ?_
      refine SP.seqc ?_
      refine SP.block ?_
      refine SP.rg <| .a 2 <| .nil ?_
      obtain ⟨x5, hx5, h⟩ := of_bind h
      obtain ⟨x6, hx6, h⟩ := of_bind h
      refine SP.dseq (by kernel_rfl) (by kernel_rfl) (by kernel_rfl) (.a 2 <| .p (ok_idxT (k := .i64) eApiLevel hx5 und34 ty71 (by kernel_rfl) rfl) <| .a 3 <| .p (ok_idxT (k := .i64) eApiLevel hx6 und34 ty71 (by kernel_rfl) rfl) <| .a 1 <| .p (x := .d (eB (!qApiLevel x5 x6))) (ok_neS [.string x5.User, .int .i64 x5.N] [.string x6.User, .int .i64 x6.N] (qApiLevel_ok71 x5 x6) (by decide) eqg71 rfl) <| .nil _) ?_
      refine SP.cond (!qApiLevel x5 x6) (by kernel_rfl) (fun hb7 => ?_) (fun hb7 => ?_)
      · replace h := of_bif_true hb7 h
        refine SP.rg <| .a 1 <| .nil ?_
        refine SP.ret ?_
        rw [← Option.some.inj h]
        exact ⟨[.d (eB false)], [], ⟨resV_tmp (by kernel_rfl), trivial⟩, by kernel_rfl, by kernel_rfl, by kernel_rfl⟩
      · replace h := of_bif_false hb7 h
        refine SP.skip ?_
        refine SP.rgn <| .a 2 <| .nil ?_
        exact hk3 _ (IntKind.i64.wrap (v2 + 1)) (sub_of (mk 26 12291) []) h
    · replace h := of_bif_false hb4 h
      refine SP.exit ?_
      refine SP.rg <| .a 1 <| .nil ?_
      refine SP.ret ?_
      rw [← Option.some.inj h]
      exact ⟨[.d (eB true)], [], ⟨resV_tmp (by kernel_rfl), trivial⟩, by kernel_rfl, by kernel_rfl, by kernel_rfl⟩

-- fedchat/content.alike[fedchat/api.KindLevel]
def content_alike_apiKindLevel_S1 (p0_a : (List ApiKindLevel)) (p1_b : (List ApiKindLevel)) (v2 : Int) : St := ⟨shp 26 [(0, .d ((eL eApiKindLevel) p0_a)), (1, .d ((eL eApiKindLevel) p1_b)), (12, .d (eI (p0_a.length : Int))), (13, .d (eI v2))], [], 0⟩
def content_alike_apiKindLevel_B1 (p0_a : (List ApiKindLevel)) (p1_b : (List ApiKindLevel)) (k3 : (Int → Option Bool)) : Int → Option Bool := fun v2 => (bif decide (v2 < (p0_a.length : Int)) then (gIdx p0_a v2).bind fun x5 => (gIdx p1_b v2).bind fun x6 => (bif (!qApiKindLevel x5 x6) then some false else k3 (IntKind.i64.wrap (v2 + 1))) else some true)
def content_alike_apiKindLevel_L1 (p0_a : (List ApiKindLevel)) (p1_b : (List ApiKindLevel)) : Int → Option Bool := loop1 (content_alike_apiKindLevel_B1 p0_a p1_b) fuel
def content_alike_apiKindLevel (p0_a : (List ApiKindLevel)) (p1_b : (List ApiKindLevel)) : Option Bool := (bif ((p0_a.length : Int) != (p1_b.length : Int)) then some false else content_alike_apiKindLevel_L1 p0_a p1_b 0)
theorem content_alike_apiKindLevel_ok (p0_a : (List ApiKindLevel)) (p1_b : (List ApiKindLevel)) (r : Bool) (h : content_alike_apiKindLevel p0_a p1_b = some r) : Runs Tryz.prog 98 [.d ((eL eApiKindLevel) p0_a), .d ((eL eApiKindLevel) p1_b)] [] (.d (eB r)) [] := by
  refine Runs.of_fin Tryz.func98 rfl ?_
  unfold content_alike_apiKindLevel at h
  refine SP.rg <| .a 1 <| .nil ?_
  refine SP.seqc ?_
  refine SP.rg <| .a 1 <| .p (ok_lenT eApiKindLevel p0_a und35 rfl) <| .a 1 <| .p (ok_lenT eApiKindLevel p1_b und35 rfl) <| .a 1 <| .nil ?_
  refine SP.cond ((p0_a.length : Int) != (p1_b.length : Int)) (by kernel_rfl) (fun hb1 => ?_) (fun hb1 => ?_)
  · replace h := of_bif_true hb1 h
    refine SP.rg <| .a 1 <| .nil ?_
    refine SP.ret ?_
    rw [← Option.some.inj h]
    exact ⟨[.d (eB false)], [], ⟨resV_tmp (by kernel_rfl), trivial⟩, by kernel_rfl, by kernel_rfl, by kernel_rfl⟩
  · replace h := of_bif_false hb1 h
    refine SP.skip ?_
    refine SP.seqc ?_
    refine SP.rg <| .a 1 <| .p (ok_lenT eApiKindLevel p0_a und35 rfl) <| .a 1 <| .nil ?_
    refine SP.block ?_
    refine SP.loop1 (content_alike_apiKindLevel_S1 p0_a p1_b) (content_alike_apiKindLevel_B1 p0_a p1_b) r 0 (sub_of (mk 26 12291) []) h ?_
    clear h
    intro J8 k3 hk3 v2 h
    unfold content_alike_apiKindLevel_B1 at h
    refine SP.rg <| .a 1 <| .nil ?_
    refine SP.seqc ?_
    refine SP.cond (decide (v2 < (p0_a.length : Int))) (by kernel_rfl) (fun hb4 => ?_) (fun hb4 => ?_)
    · replace h := of_bif_true hb4 h
      refine SP.skip ?_
      refine SP.seqc ?_
      refine SP.block ?_
      refine SP.rg <| .a 2 <| .nil ?_
      obtain ⟨x5, hx5, h⟩ := of_bind h
      obtain ⟨x6, hx6, h⟩ := of_bind h
      refine SP.dseq (by kernel_rfl) (by kernel_rfl) (by kernel_rfl) (.a 2 <| .p (ok_idxT (k := .i64) eApiKindLevel hx5 und35 ty108 (by kernel_rfl) rfl) <| .a 3 <| .p (ok_idxT (k := .i64) eApiKindLevel hx6 und35 ty108 (by kernel_rfl) rfl) <| .a 1 <| .p (x := .d (eB (!qApiKindLevel x5 x6))) (ok_neS [.int .i64 x5.Kind, .int .i64 x5.N] [.int .i64 x6.Kind, .int .i64 x6.N] (qApiKindLevel_ok108 x5 x6) (by decide) eqg108 rfl) <| .nil _) ?_
      refine SP.cond (!qApiKindLevel x5 x6) (by kernel_rfl) (fun hb7 => ?_) (fun hb7 => ?_)
      · replace h := of_bif_true hb7 h
        refine SP.rg <| .a 1 <| .nil ?_
        refine SP.ret ?_
        rw [← Option.some.inj h]
        exact ⟨[.d (eB false)], [], ⟨resV_tmp (by kernel_rfl), trivial⟩, by kernel_rfl, by kernel_rfl, by kernel_rfl⟩
      · replace h := of_bif_false hb7 h
        refine SP.skip ?_
        refine SP.rgn <| .a 2 <| .nil ?_
        exact hk3 _ (IntKind.i64.wrap (v2 + 1)) (sub_of (mk 26 12291) []) h
    · replace h := of_bif_false hb4 h
      refine SP.exit ?_
      refine SP.rg <| .a 1 <| .nil ?_
      refine SP.ret ?_
      rw [← Option.some.inj h]
      exact ⟨[.d (eB true)], [], ⟨resV_tmp (by kernel_rfl), trivial⟩, by kernel_rfl, by kernel_rfl, by kernel_rfl⟩

-- fedchat/content.Same
def content_Same_S1 (p0_a : ApiContent) (p1_b : ApiContent) : St := ⟨shp 121 [(2, .ptr 0 0), (3, .ptr 1 0), (5, .ptr 2 0), (6, .ptr 3 0)], [.box (dc (eApiContent p0_a)), .box (dc (eApiContent p1_b)), .box (dc (eApiLevels p0_a.Levels)), .box (dc (eApiLevels p1_b.Levels))], 0⟩
def content_Same (p0_a : ApiContent) (p1_b : ApiContent) : Option Bool := (bif (!(p0_a.Text.toList == p1_b.Text.toList)) then some true else some (p0_a.N != p1_b.N)).bind fun x1 => (bif x1 then some true else some (p0_a.Target != p1_b.Target)).bind fun x3 => (bif x3 then some true else some (!(p0_a.Thread == p1_b.Thread))).bind fun x5 => (bif x5 then some true else some (!(p0_a.Via.toList == p1_b.Via.toList))).bind fun x7 => (bif x7 then some true else (content_alike_string p0_a.Allow p1_b.Allow).bind fun x11 => some (!x11)).bind fun x9 => (bif x9 then some true else (content_alike_string p0_a.Deny p1_b.Deny).bind fun x14 => some (!x14)).bind fun x12 => (bif x12 then some false else (content_alike_apiLevel p0_a.Levels.Users p1_b.Levels.Users).bind fun x16 => (bif x16 then (content_alike_apiKindLevel p0_a.Levels.Kinds p1_b.Levels.Kinds).bind fun x19 => some x19 else some false).bind fun x17 => (bif x17 then some (p0_a.Levels.User == p1_b.Levels.User) else some false).bind fun x20 => (bif x20 then some (p0_a.Levels.Message == p1_b.Levels.Message) else some false).bind fun x22 => (bif x22 then some (p0_a.Levels.State == p1_b.Levels.State) else some false).bind fun x24 => (bif x24 then some (p0_a.Levels.Invite == p1_b.Levels.Invite) else some false).bind fun x26 => (bif x26 then some (p0_a.Levels.Kick == p1_b.Levels.Kick) else some false).bind fun x28 => (bif x28 then some (p0_a.Levels.Ban == p1_b.Levels.Ban) else some false).bind fun x30 => (bif x30 then some (p0_a.Levels.Redact == p1_b.Levels.Redact) else some false).bind fun x32 => some x32)
theorem content_Same_ok (p0_a : ApiContent) (p1_b : ApiContent) (r : Bool) (h : content_Same p0_a p1_b = some r) : Runs Tryz.prog 57 [.d (eApiContent p0_a), .d (eApiContent p1_b)] [] (.d (eB r)) [] := by
  refine Runs.of_fin Tryz.func57 rfl ?_
  unfold content_Same at h
  refine SP.rg <| .a 3 <| .nil ?_
  refine SP.nseqF [] [[], [0], [2], [4], [5], [0, 1], [0, 2], [0, 4], [0, 5], [2, 3], [2, 4], [2, 5], [4, 5], [5, 4], [0, 1, 2], [0, 1, 4], [0, 1, 5], [0, 2, 3], [0, 2, 4], [0, 2, 5], [0, 4, 5], [0, 5, 4], [2, 3, 4], [2, 3, 5], [2, 4, 5], [2, 5, 4], [0, 1, 2, 3], [0, 1, 2, 4], [0, 1, 2, 5], [0, 1, 4, 5], [0, 1, 5, 4], [0, 2, 3, 4], [0, 2, 3, 5], [0, 2, 4, 5], [0, 2, 5, 4], [2, 3, 4, 5], [2, 3, 5, 4], [0, 1, 2, 3, 4], [0, 1, 2, 3, 5], [0, 1, 2, 4, 5], [0, 1, 2, 5, 4], [0, 1, 4, 5, 6], [0, 1, 5, 4, 6], [0, 2, 3, 4, 5], [0, 2, 3, 5, 4], [0, 1, 2, 3, 4, 5], [0, 1, 2, 3, 5, 4], [0, 1, 2, 4, 5, 6], [0, 1, 2, 5, 4, 6], [0, 1, 2, 3, 4, 5, 6], [0, 1, 2, 3, 5, 4, 6], [0, 1, 2, 3, 4, 5, 6, 7], [0, 1, 2, 3, 5, 4, 6, 7]] [(0, 0, 1), (0, 2, 2), (0, 4, 3), (0, 5, 4), (1, 1, 5), (1, 2, 6), (1, 4, 7), (1, 5, 8), (2, 0, 6), (2, 3, 9), (2, 4, 10), (2, 5, 11), (3, 0, 7), (3, 2, 10), (3, 5, 12), (4, 0, 8), (4, 2, 11), (4, 4, 13), (5, 2, 14), (5, 4, 15), (5, 5, 16), (6, 1, 14), (6, 3, 17), (6, 4, 18), (6, 5, 19), (7, 1, 15), (7, 2, 18), (7, 5, 20), (8, 1, 16), (8, 2, 19), (8, 4, 21), (9, 0, 17), (9, 4, 22), (9, 5, 23), (10, 0, 18), (10, 3, 22), (10, 5, 24), (11, 0, 19), (11, 3, 23), (11, 4, 25), (12, 0, 20), (12, 2, 24), (13, 0, 21), (13, 2, 25), (14, 3, 26), (14, 4, 27), (14, 5, 28), (15, 2, 27), (15, 5, 29), (16, 2, 28), (16, 4, 30), (17, 1, 26), (17, 4, 31), (17, 5, 32), (18, 1, 27), (18, 3, 31), (18, 5, 33), (19, 1, 28), (19, 3, 32), (19, 4, 34), (20, 1, 29), (20, 2, 33), (21, 1, 30), (21, 2, 34), (22, 0, 31), (22, 5, 35), (23, 0, 32), (23, 4, 36), (24, 0, 33), (24, 3, 35), (25, 0, 34), (25, 3, 36), (26, 4, 37), (26, 5, 38), (27, 3, 37), (27, 5, 39), (28, 3, 38), (28, 4, 40), (29, 2, 39), (29, 6, 41), (30, 2, 40), (30, 6, 42), (31, 1, 37), (31, 5, 43), (32, 1, 38), (32, 4, 44), (33, 1, 39), (33, 3, 43), (34, 1, 40), (34, 3, 44), (35, 0, 43), (36, 0, 44), (37, 5, 45), (38, 4, 46), (39, 3, 45), (39, 6, 47), (40, 3, 46), (40, 6, 48), (41, 2, 47), (42, 2, 48), (43, 1, 45), (44, 1, 46), (45, 6, 49), (46, 6, 50), (47, 3, 49), (48, 3, 50), (49, 7, 51), (50, 7, 52)] [51, 52] (content_Same_S1 p0_a p1_b) ⟨fin_sub (sub_of (mk 121 108) [(0, true), (1, true), (2, true), (3, true)]), fin_sub (sub_of (mk 121 108) [(0, true), (1, true), (3, true), (2, true)]), trivial⟩ ?_
  refine SP.seqc ?_
  refine SP.rg <| .a 5 <| ?_
  obtain ⟨x1, hx1, h⟩ := of_bind h
  refine .merge 7 [16, 17, 18, 19, 20, 21] 22 (.d (eB x1)) ?_ ?_
  · replace h := hx1
    rcases Bool.eq_false_or_eq_true (!(p0_a.Text.toList == p1_b.Text.toList)) with hb2 | hb2
    · replace h := of_bif_true hb2 h
      refine .c (congrArg some hb2) <| .a 6 <| .nil ?_
      obtain rfl := Option.some.inj h
      kernel_rfl
    · replace h := of_bif_false hb2 h
      refine .c (congrArg some hb2) <| .a 6 <| .nil ?_
      obtain rfl := Option.some.inj h
      kernel_rfl
  refine .a 1 <| ?_
  obtain ⟨x3, hx3, h⟩ := of_bind h
  refine .merge 6 [24, 25, 26, 27, 28] 29 (.d (eB x3)) ?_ ?_
  · replace h := hx3
    cases x1 with
    | true =>
      replace h := of_bif_true rfl h
      refine .a 6 <| .nil ?_
      obtain rfl := Option.some.inj h
      kernel_rfl
    | false =>
      replace h := of_bif_false rfl h
      refine .a 6 <| .nil ?_
      obtain rfl := Option.some.inj h
      kernel_rfl
  refine .a 1 <| ?_
  obtain ⟨x5, hx5, h⟩ := of_bind h
  refine .merge 6 [31, 32, 33, 34, 35] 36 (.d (eB x5)) ?_ ?_
  · replace h := hx5
    cases x3 with
    | true =>
      replace h := of_bif_true rfl h
      refine .a 6 <| .nil ?_
      obtain rfl := Option.some.inj h
      kernel_rfl
    | false =>
      replace h := of_bif_false rfl h
      refine .a 6 <| .nil ?_
      obtain rfl := Option.some.inj h
      kernel_rfl
  refine .a 1 <| ?_
  obtain ⟨x7, hx7, h⟩ := of_bind h
  refine .merge 6 [38, 39, 40, 41, 42] 43 (.d (eB x7)) ?_ ?_
  · replace h := hx7
    cases x5 with
    | true =>
      replace h := of_bif_true rfl h
      refine .a 6 <| .nil ?_
      obtain rfl := Option.some.inj h
      kernel_rfl
    | false =>
      replace h := of_bif_false rfl h
      refine .a 6 <| .nil ?_
      obtain rfl := Option.some.inj h
      kernel_rfl
  refine .a 1 <| ?_
  obtain ⟨x9, hx9, h⟩ := of_bind h
  refine .merge 7 [45, 46, 47, 48, 49, 50] 51 (.d (eB x9)) ?_ ?_
  · replace h := hx9
    cases x7 with
    | true =>
      replace h := of_bif_true rfl h
      refine .a 7 <| .nil ?_
      obtain rfl := Option.some.inj h
      kernel_rfl
    | false =>
      replace h := of_bif_false rfl h
      obtain ⟨x11, hx11, h⟩ := of_bind h
      refine .a 4 <| .call (content_alike_string_ok p0_a.Allow p1_b.Allow x11 hx11) ent96 <| .a 2 <| .nil ?_
      obtain rfl := Option.some.inj h
      kernel_rfl
  refine .a 1 <| ?_
  obtain ⟨x12, hx12, h⟩ := of_bind h
  refine .merge 7 [53, 54, 55, 56, 57, 58] 59 (.d (eB x12)) ?_ ?_
  · replace h := hx12
    cases x9 with
    | true =>
      replace h := of_bif_true rfl h
      refine .a 7 <| .nil ?_
      obtain rfl := Option.some.inj h
      kernel_rfl
    | false =>
      replace h := of_bif_false rfl h
      obtain ⟨x14, hx14, h⟩ := of_bind h
      refine .a 4 <| .call (content_alike_string_ok p0_a.Deny p1_b.Deny x14 hx14) ent96 <| .a 2 <| .nil ?_
      obtain rfl := Option.some.inj h
      kernel_rfl
  refine .nil ?_
  refine SP.cond x12 (by kernel_rfl) (fun hb15 => ?_) (fun hb15 => ?_)
  · replace h := of_bif_true hb15 h
    refine SP.rg <| .a 1 <| .nil ?_
    refine SP.ret ?_
    rw [← Option.some.inj h]
    exact ⟨[.d (eB false)], [], ⟨resV_tmp (by kernel_rfl), trivial⟩, by kernel_rfl, by kernel_rfl, by kernel_rfl⟩
  · replace h := of_bif_false hb15 h
    refine SP.skip ?_
    obtain ⟨x16, hx16, h⟩ := of_bind h
    refine SP.rg <| .a 4 <| .call (content_alike_apiLevel_ok p0_a.Levels.Users p1_b.Levels.Users x16 hx16) ent97 <| .a 1 <| ?_
    obtain ⟨x17, hx17, h⟩ := of_bind h
    refine .merge 6 [66, 67, 68, 69, 70] 71 (.d (eB x17)) ?_ ?_
    · replace h := hx17
      cases x16 with
      | true =>
        replace h := of_bif_true rfl h
        obtain ⟨x19, hx19, h⟩ := of_bind h
        refine .a 4 <| .call (content_alike_apiKindLevel_ok p0_a.Levels.Kinds p1_b.Levels.Kinds x19 hx19) ent98 <| .a 1 <| .nil ?_
        obtain rfl := Option.some.inj h
        kernel_rfl
      | false =>
        replace h := of_bif_false rfl h
        refine .a 6 <| .nil ?_
        obtain rfl := Option.some.inj h
        kernel_rfl
    refine .a 1 <| ?_
    obtain ⟨x20, hx20, h⟩ := of_bind h
    refine .merge 6 [73, 74, 75, 76, 77] 78 (.d (eB x20)) ?_ ?_
    · replace h := hx20
      cases x17 with
      | true =>
        replace h := of_bif_true rfl h
        refine .a 6 <| .nil ?_
        obtain rfl := Option.some.inj h
        kernel_rfl
      | false =>
        replace h := of_bif_false rfl h
        refine .a 6 <| .nil ?_
        obtain rfl := Option.some.inj h
        kernel_rfl
    refine .a 1 <| ?_
    obtain ⟨x22, hx22, h⟩ := of_bind h
    refine .merge 6 [80, 81, 82, 83, 84] 85 (.d (eB x22)) ?_ ?_
    · replace h := hx22
      cases x20 with
      | true =>
        replace h := of_bif_true rfl h
        refine .a 6 <| .nil ?_
        obtain rfl := Option.some.inj h
        kernel_rfl
      | false =>
        replace h := of_bif_false rfl h
        refine .a 6 <| .nil ?_
        obtain rfl := Option.some.inj h
        kernel_rfl
    refine .a 1 <| ?_
    obtain ⟨x24, hx24, h⟩ := of_bind h
    refine .merge 6 [87, 88, 89, 90, 91] 92 (.d (eB x24)) ?_ ?_
    · replace h := hx24
      cases x22 with
      | true =>
        replace h := of_bif_true rfl h
        refine .a 6 <| .nil ?_
        obtain rfl := Option.some.inj h
        kernel_rfl
      | false =>
        replace h := of_bif_false rfl h
        refine .a 6 <| .nil ?_
        obtain rfl := Option.some.inj h
        kernel_rfl
    refine .a 1 <| ?_
    obtain ⟨x26, hx26, h⟩ := of_bind h
    refine .merge 6 [94, 95, 96, 97, 98] 99 (.d (eB x26)) ?_ ?_
    · replace h := hx26
      cases x24 with
      | true =>
        replace h := of_bif_true rfl h
        refine .a 6 <| .nil ?_
        obtain rfl := Option.some.inj h
        kernel_rfl
      | false =>
        replace h := of_bif_false rfl h
        refine .a 6 <| .nil ?_
        obtain rfl := Option.some.inj h
        kernel_rfl
    refine .a 1 <| ?_
    obtain ⟨x28, hx28, h⟩ := of_bind h
    refine .merge 6 [101, 102, 103, 104, 105] 106 (.d (eB x28)) ?_ ?_
    · replace h := hx28
      cases x26 with
      | true =>
        replace h := of_bif_true rfl h
        refine .a 6 <| .nil ?_
        obtain rfl := Option.some.inj h
        kernel_rfl
      | false =>
        replace h := of_bif_false rfl h
        refine .a 6 <| .nil ?_
        obtain rfl := Option.some.inj h
        kernel_rfl
    refine .a 1 <| ?_
    obtain ⟨x30, hx30, h⟩ := of_bind h
    refine .merge 6 [108, 109, 110, 111, 112] 113 (.d (eB x30)) ?_ ?_
    · replace h := hx30
      cases x28 with
      | true =>
        replace h := of_bif_true rfl h
        refine .a 6 <| .nil ?_
        obtain rfl := Option.some.inj h
        kernel_rfl
      | false =>
        replace h := of_bif_false rfl h
        refine .a 6 <| .nil ?_
        obtain rfl := Option.some.inj h
        kernel_rfl
    refine .a 1 <| ?_
    obtain ⟨x32, hx32, h⟩ := of_bind h
    refine .merge 6 [115, 116, 117, 118, 119] 120 (.d (eB x32)) ?_ ?_
    · replace h := hx32
      cases x30 with
      | true =>
        replace h := of_bif_true rfl h
        refine .a 6 <| .nil ?_
        obtain rfl := Option.some.inj h
        kernel_rfl
      | false =>
        replace h := of_bif_false rfl h
        refine .a 6 <| .nil ?_
        obtain rfl := Option.some.inj h
        kernel_rfl
    refine .a 1 <| .nil ?_
    refine SP.ret ?_
    rw [← Option.some.inj h]
    exact ⟨[.d (eB x32)], [], ⟨resV_tmp (by kernel_rfl), trivial⟩, by kernel_rfl, by kernel_rfl, by kernel_rfl⟩

-- fedchat/event.Verify
def event_Verify_S1 (p0_e : ApiEvent) (v3 : Bool) : St := ⟨shp 40 [(1, .ptr 0 0), (9, .d (eB v3))], [.box (dc (eApiEvent p0_e))], 0⟩
def event_Verify_j1 (p0_e : ApiEvent) (v3 : Bool) : Option Int := (bif v3 then some 6 else (event_IdOf p0_e).bind fun x5 => (bif (x5 != p0_e.Id) then some 11 else (ids_ServerOf p0_e.Sender).bind fun x7 => (bif (!qApiSig p0_e.Sig (⟨x7, p0_e.Id⟩ : ApiSig)) then some 12 else some 0)))
def event_Verify (p0_e : ApiEvent) : Option Int := (event_Check p0_e).bind fun x1 => (bif (x1 != 0) then some x1 else (event_Whole p0_e).bind fun x10 => (bif (!x10) then (content_Strip p0_e.Kind p0_e.Content).bind fun x12 => (content_Same p0_e.Content x12).bind fun x13 => event_Verify_j1 p0_e (!x13) else event_Verify_j1 p0_e false))
theorem event_Verify_ok (p0_e : ApiEvent) (r : Int) (h : event_Verify p0_e = some r) : Runs Tryz.prog 33 [.d (eApiEvent p0_e)] [] (.d (eI r)) [] := by
  refine Runs.of_fin Tryz.func33 rfl ?_
  unfold event_Verify at h
  refine SP.rg <| .a 2 <| .nil ?_
  refine SP.seqc ?_
  obtain ⟨x1, hx1, h⟩ := of_bind h
  refine SP.rg <| .a 1 <| .call (event_Check_ok p0_e x1 hx1) ent55 <| .a 1 <| .nil ?_
  refine SP.rg <| .a 2 <| .nil ?_
  refine SP.cond (x1 != 0) (by kernel_rfl) (fun hb2 => ?_) (fun hb2 => ?_)
  · replace h := of_bif_true hb2 h
    refine SP.rg <| .a 2 <| .nil ?_
    refine SP.ret ?_
    rw [← Option.some.inj h]
    exact ⟨[.d (eI x1)], [], ⟨resV_tmp (by kernel_rfl), trivial⟩, by kernel_rfl, by kernel_rfl, by kernel_rfl⟩
  · replace h := of_bif_false hb2 h
    refine SP.skip ?_
    refine SP.seqc ?_
    refine SP.block ?_
    refine SP.join (fun s => ∃ (v3 : Bool), Sub s (event_Verify_S1 p0_e v3) ∧ event_Verify_j1 p0_e v3 = some r) ?_ ?_
    · clear h
      rintro s ⟨v3, hs, h⟩
      refine SP.sub hs ?_
      clear hs
      unfold event_Verify_j1 at h
      refine SP.cond v3 (by kernel_rfl) (fun hb4 => ?_) (fun hb4 => ?_)
      · replace h := of_bif_true hb4 h
        refine SP.rg <| .a 1 <| .nil ?_
        refine SP.ret ?_
        rw [← Option.some.inj h]
        exact ⟨[.d (eI 6)], [], ⟨resV_tmp (by kernel_rfl), trivial⟩, by kernel_rfl, by kernel_rfl, by kernel_rfl⟩
      · replace h := of_bif_false hb4 h
        obtain ⟨x5, hx5, h⟩ := of_bind h
        refine SP.dseq (by kernel_rfl) (by kernel_rfl) (by kernel_rfl) (.a 1 <| .call (event_IdOf_ok p0_e x5 hx5) ent20 <| .a 4 <| .nil _) ?_
        refine SP.cond (x5 != p0_e.Id) (by kernel_rfl) (fun hb6 => ?_) (fun hb6 => ?_)
        · replace h := of_bif_true hb6 h
          refine SP.rg <| .a 1 <| .nil ?_
          refine SP.ret ?_
          rw [← Option.some.inj h]
          exact ⟨[.d (eI 11)], [], ⟨resV_tmp (by kernel_rfl), trivial⟩, by kernel_rfl, by kernel_rfl, by kernel_rfl⟩
        · replace h := of_bif_false hb6 h
          obtain ⟨x7, hx7, h⟩ := of_bind h
          refine SP.dseq (by kernel_rfl) (by kernel_rfl) (by kernel_rfl) (.a 4 <| .call (ids_ServerOf_ok p0_e.Sender x7 hx7) ent19 <| .a 3 <| .p (x := .d (eB (!qApiSig p0_e.Sig (⟨x7, p0_e.Id⟩ : ApiSig)))) (ok_neS [.string p0_e.Sig.Server, .int .i64 p0_e.Sig.Sum] [.string ((⟨x7, p0_e.Id⟩ : ApiSig).Server), .int .i64 ((⟨x7, p0_e.Id⟩ : ApiSig).Sum)] (qApiSig_ok41 p0_e.Sig (⟨x7, p0_e.Id⟩ : ApiSig)) (by decide) eqg41 rfl) <| .a 1 <| .nil _) ?_
          refine SP.cond (!qApiSig p0_e.Sig (⟨x7, p0_e.Id⟩ : ApiSig)) (by kernel_rfl) (fun hb8 => ?_) (fun hb8 => ?_)
          · replace h := of_bif_true hb8 h
            refine SP.rg <| .a 1 <| .nil ?_
            refine SP.ret ?_
            rw [← Option.some.inj h]
            exact ⟨[.d (eI 12)], [], ⟨resV_tmp (by kernel_rfl), trivial⟩, by kernel_rfl, by kernel_rfl, by kernel_rfl⟩
          · replace h := of_bif_false hb8 h
            refine SP.skip ?_
            refine SP.rg <| .a 1 <| .nil ?_
            refine SP.ret ?_
            rw [← Option.some.inj h]
            exact ⟨[.d (eI 0)], [], ⟨resV_tmp (by kernel_rfl), trivial⟩, by kernel_rfl, by kernel_rfl, by kernel_rfl⟩
    · intro K9
      obtain ⟨x10, hx10, h⟩ := of_bind h
      rcases Bool.eq_false_or_eq_true (!x10) with hb11 | hb11
      · replace h := of_bif_true hb11 h
        obtain ⟨x12, hx12, h⟩ := of_bind h
        obtain ⟨x13, hx13, h⟩ := of_bind h
        refine SP.draw (by kernel_rfl) (by kernel_rfl) (by kernel_rfl) (.a 1 <| .call (event_Whole_ok p0_e x10 hx10) ent56 <| .a 1 <| .c (congrArg some hb11) <| .a 6 <| .call (content_Strip_ok p0_e.Kind p0_e.Content x12 hx12) ent58 <| .call (content_Same_ok p0_e.Content x12 x13 hx13) ent57 <| .a 3 <| .nil _) ?_
        exact K9 _ ⟨(!x13), sub_of (mk 40 514) [(0, true)], h⟩
      · replace h := of_bif_false hb11 h
        refine SP.draw (by kernel_rfl) (by kernel_rfl) (by kernel_rfl) (.a 1 <| .call (event_Whole_ok p0_e x10 hx10) ent56 <| .a 1 <| .c (congrArg some hb11) <| .a 11 <| .nil _) ?_
        exact K9 _ ⟨false, sub_of (mk 40 514) [(0, true)], h⟩

-- fedchat/evil.Signed
def evil_Signed_S1 (p0_server : ByteArray) (p1_l : (List ApiEvent)) (v1 : Int) : St := ⟨shp 24 [(0, .d (eS p0_server)), (7, .d ((eL eApiEvent) p1_l)), (8, .d (eI (p1_l.length : Int))), (9, .d (eI v1))], [], 0⟩
def evil_Signed_B1 (p1_l : (List ApiEvent)) (p0_server : ByteArray) (k2 : (Int → Option Bool)) : Int → Option Bool := fun v1 => (bif decide (v1 < (p1_l.length : Int)) then (gIdx p1_l v1).bind fun x4 => (event_Verify x4).bind fun x5 => (bif (x5 == 0) then (ids_ServerOf x4.Sender).bind fun x8 => some (!(x8.toList == p0_server.toList)) else some false).bind fun x6 => (bif x6 then some false else k2 (IntKind.i64.wrap (v1 + 1))) else some true)
def evil_Signed_L1 (p1_l : (List ApiEvent)) (p0_server : ByteArray) : Int → Option Bool := loop1 (evil_Signed_B1 p1_l p0_server) fuel
def evil_Signed (p0_server : ByteArray) (p1_l : (List ApiEvent)) : Option Bool := evil_Signed_L1 p1_l p0_server 0
theorem evil_Signed_ok (p0_server : ByteArray) (p1_l : (List ApiEvent)) (r : Bool) (h : evil_Signed p0_server p1_l = some r) : Runs Tryz.prog 12 [.d (eS p0_server), .d ((eL eApiEvent) p1_l)] [] (.d (eB r)) [] := by
  refine Runs.of_fin Tryz.func12 rfl ?_
  unfold evil_Signed at h
  refine SP.rg <| .a 1 <| .nil ?_
  refine SP.seqc ?_
  refine SP.rg <| .a 1 <| .p (ok_lenT eApiEvent p1_l und52 rfl) <| .a 1 <| .nil ?_
  refine SP.block ?_
  refine SP.loop1 (evil_Signed_S1 p0_server p1_l) (evil_Signed_B1 p1_l p0_server) r 0 (sub_of (mk 24 897) []) h ?_
  clear h
  intro J10 k2 hk2 v1 h
  unfold evil_Signed_B1 at h
  refine SP.rg <| .a 1 <| .nil ?_
  refine SP.seqc ?_
  refine SP.cond (decide (v1 < (p1_l.length : Int))) (by kernel_rfl) (fun hb3 => ?_) (fun hb3 => ?_)
  · replace h := of_bif_true hb3 h
    refine SP.skip ?_
    refine SP.seqc ?_
    refine SP.block ?_
    obtain ⟨x4, hx4, h⟩ := of_bind h
    refine SP.rg <| .p (ok_idxT (k := .i64) eApiEvent hx4 und52 ty43 (by kernel_rfl) rfl) <| .a 3 <| .nil ?_
    obtain ⟨x5, hx5, h⟩ := of_bind h
    refine SP.rg <| .a 1 <| .call (event_Verify_ok x4 x5 hx5) ent33 <| .a 1 <| ?_
    obtain ⟨x6, hx6, h⟩ := of_bind h
    refine .merge 7 [16, 17, 18, 19, 20, 21] 22 (.d (eB x6)) ?_ ?_
    · replace h := hx6
      rcases Bool.eq_false_or_eq_true (x5 == 0) with hb7 | hb7
      · replace h := of_bif_true hb7 h
        obtain ⟨x8, hx8, h⟩ := of_bind h
        refine .c (congrArg some hb7) <| .a 2 <| .call (ids_ServerOf_ok x4.Sender x8 hx8) ent19 <| .a 3 <| .nil ?_
        obtain rfl := Option.some.inj h
        kernel_rfl
      · replace h := of_bif_false hb7 h
        refine .c (congrArg some hb7) <| .a 6 <| .nil ?_
        obtain rfl := Option.some.inj h
        kernel_rfl
    refine .nil ?_
    refine SP.cond x6 (by kernel_rfl) (fun hb9 => ?_) (fun hb9 => ?_)
    · replace h := of_bif_true hb9 h
      refine SP.rg <| .a 1 <| .nil ?_
      refine SP.ret ?_
      rw [← Option.some.inj h]
      exact ⟨[.d (eB false)], [], ⟨resV_tmp (by kernel_rfl), trivial⟩, by kernel_rfl, by kernel_rfl, by kernel_rfl⟩
    · replace h := of_bif_false hb9 h
      refine SP.skip ?_
      refine SP.rgn <| .a 2 <| .nil ?_
      exact hk2 _ (IntKind.i64.wrap (v1 + 1)) (sub_of (mk 24 897) []) h
  · replace h := of_bif_false hb3 h
    refine SP.exit ?_
    refine SP.rg <| .a 1 <| .nil ?_
    refine SP.ret ?_
    rw [← Option.some.inj h]
    exact ⟨[.d (eB true)], [], ⟨resV_tmp (by kernel_rfl), trivial⟩, by kernel_rfl, by kernel_rfl, by kernel_rfl⟩

-- fedchat/fedchatlaw33.live
def L33_live_S1 (x2 : ((List ApiPacket) × Int)) (x4 : ((List ApiPacket) × Int)) (x6 : ((List ApiPacket) × Int)) (v7 : Bool) : St := ⟨shp 158 [(1, .ptr 0 0), (2, .d ((eL eApiPacket) x2.1)), (4, .d ((eL eApiPacket) x4.1)), (6, .d ((eL eApiPacket) x6.1)), (78, .d (eB v7))], [.box (dc (eApiServer ({ zApiServer with Name := s_x })))], 0⟩
def L33_live_S2 (v9 : Bool) : St := ⟨shp 158 [(0, .d (eB v9))], [], 0⟩
def L33_live_j2 (v9 : Bool) : Option Bool := some v9
def L33_live_j1 (x2 : ((List ApiPacket) × Int)) (x4 : ((List ApiPacket) × Int)) (x6 : ((List ApiPacket) × Int)) (v7 : Bool) : Option Bool := (bif v7 then some false else (gIdx x2.1 0).bind fun x11 => (gIdx x11.Events 0).bind fun x12 => (bif (x12.Sender.toList == s__40bob_3ax.toList) then (gIdx x2.1 0).bind fun x14 => (bif (x14.From.toList == s_x.toList) then (gIdx x2.1 0).bind fun x16 => (bif (x16.To.toList == s_b.toList) then (gIdx x2.1 0).bind fun x18 => (gIdx x18.Events 0).bind fun x19 => (event_Verify x19).bind fun x20 => (bif (x20 == 0) then (gIdx x4.1 0).bind fun x22 => (gIdx x22.Events 0).bind fun x23 => (event_Verify x23).bind fun x24 => (bif (x24 == 12) then (gIdx x6.1 0).bind fun x26 => (gIdx x26.Events 0).bind fun x27 => (event_Verify x27).bind fun x28 => (bif (x28 == 12) then (evil_Right ({ zApiServer with Name := s_x }) ({ zApiDeed with Kind := 7, To := s_b })).bind fun x30 => (bif (x30 == 2) then (evil_Right ({ zApiServer with Name := s_x }) ({ zApiDeed with Kind := 1, To := s_x })).bind fun x32 => (bif (x32 == 1) then (gIdx x2.1 0).bind fun x34 => (evil_Signed s_x x34.Events).bind fun x35 => (bif x35 then (gIdx x2.1 0).bind fun x37 => (evil_Signed s_b x37.Events).bind fun x38 => L33_live_j2 (!x38) else L33_live_j2 false) else L33_live_j2 false) else L33_live_j2 false) else L33_live_j2 false) else L33_live_j2 false) else L33_live_j2 false) else L33_live_j2 false) else L33_live_j2 false) else L33_live_j2 false))
def L33_live  : Option Bool := (L33_message).bind fun x1 => (evil_Forge ({ zApiServer with Name := s_x }) (⟨1, s_b, x1⟩ : ApiDeed)).bind fun x2 => (L33_message).bind fun x3 => (evil_Forge ({ zApiServer with Name := s_x }) (⟨2, s_b, x3⟩ : ApiDeed)).bind fun x4 => (L33_message).bind fun x5 => (evil_Forge ({ zApiServer with Name := s_x }) (⟨4, s_b, x5⟩ : ApiDeed)).bind fun x6 => (bif (x2.2 != 0) then L33_live_j1 x2 x4 x6 true else (bif (x4.2 != 0) then L33_live_j1 x2 x4 x6 true else (bif (x6.2 != 0) then L33_live_j1 x2 x4 x6 true else (bif ((x2.1.length : Int) != 1) then L33_live_j1 x2 x4 x6 true else (bif ((x4.1.length : Int) != 1) then L33_live_j1 x2 x4 x6 true else (bif ((x6.1.length : Int) != 1) then L33_live_j1 x2 x4 x6 true else (gIdx x2.1 0).bind fun x46 => (bif ((x46.Events.length : Int) != 1) then L33_live_j1 x2 x4 x6 true else (gIdx x4.1 0).bind fun x48 => (bif ((x48.Events.length : Int) != 1) then L33_live_j1 x2 x4 x6 true else (gIdx x6.1 0).bind fun x50 => L33_live_j1 x2 x4 x6 ((x50.Events.length : Int) != 1)))))))))
theorem L33_live_is (h : L33_live = some true) : Runs Tryz.prog 10 [] [] (.d (eB true)) [] := by
  refine Runs.of_fin Tryz.func10 rfl ?_
  unfold L33_live at h
  refine SP.rg <| .a 1 <| .nil ?_
  refine SP.rg <| .a 3 <| .nil ?_
  obtain ⟨x1, hx1, h⟩ := of_bind h
  obtain ⟨x2, hx2, h⟩ := of_bind h
  refine SP.dseq (by kernel_rfl) (by kernel_rfl) (by kernel_rfl) (.a 1 <| .call (L33_message_ok  x1 hx1) ent32 <| .a 1 <| .call (evil_Forge_ok ({ zApiServer with Name := s_x }) (⟨1, s_b, x1⟩ : ApiDeed) x2 hx2) ent7 <| .a 5 <| .nil _) ?_
  obtain ⟨x3, hx3, h⟩ := of_bind h
  obtain ⟨x4, hx4, h⟩ := of_bind h
  refine SP.dseq (by kernel_rfl) (by kernel_rfl) (by kernel_rfl) (.a 1 <| .call (L33_message_ok  x3 hx3) ent32 <| .a 1 <| .call (evil_Forge_ok ({ zApiServer with Name := s_x }) (⟨2, s_b, x3⟩ : ApiDeed) x4 hx4) ent7 <| .a 5 <| .nil _) ?_
  obtain ⟨x5, hx5, h⟩ := of_bind h
  obtain ⟨x6, hx6, h⟩ := of_bind h
  refine SP.dseq (by kernel_rfl) (by kernel_rfl) (by kernel_rfl) (.a 1 <| .call (L33_message_ok  x5 hx5) ent32 <| .a 1 <| .call (evil_Forge_ok ({ zApiServer with Name := s_x }) (⟨4, s_b, x5⟩ : ApiDeed) x6 hx6) ent7 <| .a 5 <| .nil _) ?_
  refine SP.seqc ?_
  refine SP.join (fun s => ∃ (v7 : Bool), Sub s (L33_live_S1 x2 x4 x6 v7) ∧ L33_live_j1 x2 x4 x6 v7 = some true) ?_ ?_
  · clear h
    rintro s ⟨v7, hs, h⟩
    refine SP.sub hs ?_
    clear hs
    unfold L33_live_j1 at h
    refine SP.cond v7 (by kernel_rfl) (fun hb8 => ?_) (fun hb8 => ?_)
    · replace h := of_bif_true hb8 h
      exact absurd (Option.some.inj h) (by decide)
    · replace h := of_bif_false hb8 h
      refine SP.skip ?_
      refine SP.join (fun s => ∃ (v9 : Bool), Sub s (L33_live_S2 v9) ∧ L33_live_j2 v9 = some true) ?_ ?_
      · clear h
        rintro s ⟨v9, hs, h⟩
        refine SP.sub hs ?_
        clear hs
        unfold L33_live_j2 at h
        refine SP.ret ?_
        rw [← Option.some.inj h]
        exact ⟨[.d (eB v9)], [], ⟨resV_tmp (by kernel_rfl), trivial⟩, by kernel_rfl, by kernel_rfl, by kernel_rfl⟩
      · intro K10
        obtain ⟨x11, hx11, h⟩ := of_bind h
        obtain ⟨x12, hx12, h⟩ := of_bind h
        refine SP.rgn <| .a 1 <| .p (ok_idxT (k := .i64) eApiPacket hx11 und25 ty57 (by kernel_rfl) rfl) <| .a 2 <| .p (ok_idxT (k := .i64) eApiEvent hx12 und52 ty43 (by kernel_rfl) rfl) <| .a 3 <| ?_
        rcases Bool.eq_false_or_eq_true (x12.Sender.toList == s__40bob_3ax.toList) with hb13 | hb13
        · replace h := of_bif_true hb13 h
          obtain ⟨x14, hx14, h⟩ := of_bind h
          refine .c (congrArg some hb13) <| .a 1 <| .p (ok_idxT (k := .i64) eApiPacket hx14 und25 ty57 (by kernel_rfl) rfl) <| .a 4 <| ?_
          rcases Bool.eq_false_or_eq_true (x14.From.toList == s_x.toList) with hb15 | hb15
          · replace h := of_bif_true hb15 h
            obtain ⟨x16, hx16, h⟩ := of_bind h
            refine .c (congrArg some hb15) <| .a 1 <| .p (ok_idxT (k := .i64) eApiPacket hx16 und25 ty57 (by kernel_rfl) rfl) <| .a 4 <| ?_
            rcases Bool.eq_false_or_eq_true (x16.To.toList == s_b.toList) with hb17 | hb17
            · replace h := of_bif_true hb17 h
              obtain ⟨x18, hx18, h⟩ := of_bind h
              obtain ⟨x19, hx19, h⟩ := of_bind h
              obtain ⟨x20, hx20, h⟩ := of_bind h
              refine .c (congrArg some hb17) <| .a 1 <| .p (ok_idxT (k := .i64) eApiPacket hx18 und25 ty57 (by kernel_rfl) rfl) <| .a 2 <| .p (ok_idxT (k := .i64) eApiEvent hx19 und52 ty43 (by kernel_rfl) rfl) <| .a 1 <| .call (event_Verify_ok x19 x20 hx20) ent33 <| .a 2 <| ?_
              rcases Bool.eq_false_or_eq_true (x20 == 0) with hb21 | hb21
              · replace h := of_bif_true hb21 h
                obtain ⟨x22, hx22, h⟩ := of_bind h
                obtain ⟨x23, hx23, h⟩ := of_bind h
                obtain ⟨x24, hx24, h⟩ := of_bind h
                refine .c (congrArg some hb21) <| .a 1 <| .p (ok_idxT (k := .i64) eApiPacket hx22 und25 ty57 (by kernel_rfl) rfl) <| .a 2 <| .p (ok_idxT (k := .i64) eApiEvent hx23 und52 ty43 (by kernel_rfl) rfl) <| .a 1 <| .call (event_Verify_ok x23 x24 hx24) ent33 <| .a 2 <| ?_
                rcases Bool.eq_false_or_eq_true (x24 == 12) with hb25 | hb25
                · replace h := of_bif_true hb25 h
                  obtain ⟨x26, hx26, h⟩ := of_bind h
                  obtain ⟨x27, hx27, h⟩ := of_bind h
                  obtain ⟨x28, hx28, h⟩ := of_bind h
                  refine .c (congrArg some hb25) <| .a 1 <| .p (ok_idxT (k := .i64) eApiPacket hx26 und25 ty57 (by kernel_rfl) rfl) <| .a 2 <| .p (ok_idxT (k := .i64) eApiEvent hx27 und52 ty43 (by kernel_rfl) rfl) <| .a 1 <| .call (event_Verify_ok x27 x28 hx28) ent33 <| .a 2 <| ?_
                  rcases Bool.eq_false_or_eq_true (x28 == 12) with hb29 | hb29
                  · replace h := of_bif_true hb29 h
                    obtain ⟨x30, hx30, h⟩ := of_bind h
                    refine .c (congrArg some hb29) <| .a 2 <| .call (evil_Right_ok ({ zApiServer with Name := s_x }) ({ zApiDeed with Kind := 7, To := s_b }) x30 hx30) ent15 <| .a 2 <| ?_
                    rcases Bool.eq_false_or_eq_true (x30 == 2) with hb31 | hb31
                    · replace h := of_bif_true hb31 h
                      obtain ⟨x32, hx32, h⟩ := of_bind h
                      refine .c (congrArg some hb31) <| .a 2 <| .call (evil_Right_ok ({ zApiServer with Name := s_x }) ({ zApiDeed with Kind := 1, To := s_x }) x32 hx32) ent15 <| .a 2 <| ?_
                      rcases Bool.eq_false_or_eq_true (x32 == 1) with hb33 | hb33
                      · replace h := of_bif_true hb33 h
                        obtain ⟨x34, hx34, h⟩ := of_bind h
                        obtain ⟨x35, hx35, h⟩ := of_bind h
                        refine .c (congrArg some hb33) <| .a 1 <| .p (ok_idxT (k := .i64) eApiPacket hx34 und25 ty57 (by kernel_rfl) rfl) <| .a 2 <| .call (evil_Signed_ok s_x x34.Events x35 hx35) ent12 <| .a 2 <| ?_
                        cases x35 with
                        | true =>
                          replace h := of_bif_true rfl h
                          obtain ⟨x37, hx37, h⟩ := of_bind h
                          obtain ⟨x38, hx38, h⟩ := of_bind h
                          refine .a 1 <| .p (ok_idxT (k := .i64) eApiPacket hx37 und25 ty57 (by kernel_rfl) rfl) <| .a 2 <| .call (evil_Signed_ok s_b x37.Events x38 hx38) ent12 <| .a 3 <| .nil ?_
                          exact K10 _ ⟨(!x38), sub_of (mk 158 1) [], h⟩
                        | false =>
                          replace h := of_bif_false rfl h
                          exact absurd (Option.some.inj (show some false = some true from h)) (by decide)
                      · replace h := of_bif_false hb33 h
                        exact absurd (Option.some.inj (show some false = some true from h)) (by decide)
                    · replace h := of_bif_false hb31 h
                      exact absurd (Option.some.inj (show some false = some true from h)) (by decide)
                  · replace h := of_bif_false hb29 h
                    exact absurd (Option.some.inj (show some false = some true from h)) (by decide)
                · replace h := of_bif_false hb25 h
                  exact absurd (Option.some.inj (show some false = some true from h)) (by decide)
              · replace h := of_bif_false hb21 h
                exact absurd (Option.some.inj (show some false = some true from h)) (by decide)
            · replace h := of_bif_false hb17 h
              exact absurd (Option.some.inj (show some false = some true from h)) (by decide)
          · replace h := of_bif_false hb15 h
            exact absurd (Option.some.inj (show some false = some true from h)) (by decide)
        · replace h := of_bif_false hb13 h
          exact absurd (Option.some.inj (show some false = some true from h)) (by decide)
  · intro K39
    refine SP.rgn <| .a 2 <| ?_
    rcases Bool.eq_false_or_eq_true (x2.2 != 0) with hb40 | hb40
    · replace h := of_bif_true hb40 h
      refine .c (congrArg some hb40) <| .a 46 <| .nil ?_
      exact K39 _ ⟨true, sub_of (mk 158 302231454903657293676630) [(0, true)], h⟩
    · replace h := of_bif_false hb40 h
      refine .c (congrArg some hb40) <| .a 3 <| ?_
      rcases Bool.eq_false_or_eq_true (x4.2 != 0) with hb41 | hb41
      · replace h := of_bif_true hb41 h
        refine .c (congrArg some hb41) <| .a 42 <| .nil ?_
        exact K39 _ ⟨true, sub_of (mk 158 302231454903657293676630) [(0, true)], h⟩
      · replace h := of_bif_false hb41 h
        refine .c (congrArg some hb41) <| .a 3 <| ?_
        rcases Bool.eq_false_or_eq_true (x6.2 != 0) with hb42 | hb42
        · replace h := of_bif_true hb42 h
          refine .c (congrArg some hb42) <| .a 38 <| .nil ?_
          exact K39 _ ⟨true, sub_of (mk 158 302231454903657293676630) [(0, true)], h⟩
        · replace h := of_bif_false hb42 h
          refine .c (congrArg some hb42) <| .a 1 <| .p (ok_lenT eApiPacket x2.1 und25 rfl) <| .a 2 <| ?_
          rcases Bool.eq_false_or_eq_true ((x2.1.length : Int) != 1) with hb43 | hb43
          · replace h := of_bif_true hb43 h
            refine .c (congrArg some hb43) <| .a 33 <| .nil ?_
            exact K39 _ ⟨true, sub_of (mk 158 302231454903657293676630) [(0, true)], h⟩
          · replace h := of_bif_false hb43 h
            refine .c (congrArg some hb43) <| .a 1 <| .p (ok_lenT eApiPacket x4.1 und25 rfl) <| .a 2 <| ?_
            rcases Bool.eq_false_or_eq_true ((x4.1.length : Int) != 1) with hb44 | hb44
            · replace h := of_bif_true hb44 h
              refine .c (congrArg some hb44) <| .a 28 <| .nil ?_
              exact K39 _ ⟨true, sub_of (mk 158 302231454903657293676630) [(0, true)], h⟩
            · replace h := of_bif_false hb44 h
              refine .c (congrArg some hb44) <| .a 1 <| .p (ok_lenT eApiPacket x6.1 und25 rfl) <| .a 2 <| ?_
              rcases Bool.eq_false_or_eq_true ((x6.1.length : Int) != 1) with hb45 | hb45
              · replace h := of_bif_true hb45 h
                refine .c (congrArg some hb45) <| .a 23 <| .nil ?_
                exact K39 _ ⟨true, sub_of (mk 158 302231454903657293676630) [(0, true)], h⟩
              · replace h := of_bif_false hb45 h
                obtain ⟨x46, hx46, h⟩ := of_bind h
                refine .c (congrArg some hb45) <| .a 1 <| .p (ok_idxT (k := .i64) eApiPacket hx46 und25 ty57 (by kernel_rfl) rfl) <| .a 2 <| .p (ok_lenT eApiEvent x46.Events und52 rfl) <| .a 2 <| ?_
                rcases Bool.eq_false_or_eq_true ((x46.Events.length : Int) != 1) with hb47 | hb47
                · replace h := of_bif_true hb47 h
                  refine .c (congrArg some hb47) <| .a 15 <| .nil ?_
                  exact K39 _ ⟨true, sub_of (mk 158 302231454903657293676630) [(0, true)], h⟩
                · replace h := of_bif_false hb47 h
                  obtain ⟨x48, hx48, h⟩ := of_bind h
                  refine .c (congrArg some hb47) <| .a 1 <| .p (ok_idxT (k := .i64) eApiPacket hx48 und25 ty57 (by kernel_rfl) rfl) <| .a 2 <| .p (ok_lenT eApiEvent x48.Events und52 rfl) <| .a 2 <| ?_
                  rcases Bool.eq_false_or_eq_true ((x48.Events.length : Int) != 1) with hb49 | hb49
                  · replace h := of_bif_true hb49 h
                    refine .c (congrArg some hb49) <| .a 7 <| .nil ?_
                    exact K39 _ ⟨true, sub_of (mk 158 302231454903657293676630) [(0, true)], h⟩
                  · replace h := of_bif_false hb49 h
                    obtain ⟨x50, hx50, h⟩ := of_bind h
                    refine .c (congrArg some hb49) <| .a 1 <| .p (ok_idxT (k := .i64) eApiPacket hx50 und25 ty57 (by kernel_rfl) rfl) <| .a 2 <| .p (ok_lenT eApiEvent x50.Events und52 rfl) <| .a 2 <| .nil ?_
                    exact K39 _ ⟨((x50.Events.length : Int) != 1), sub_of (mk 158 302231454903657293676630) [(0, true)], h⟩
theorem L33_live_val : L33_live = some true := by kernel_rfl
theorem L33_live_ok (r : Bool) (h : L33_live = some r) : Runs Tryz.prog 10 [] [] (.d (eB r)) [] := by
  obtain rfl := Option.some.inj (h.symm.trans L33_live_val)
  exact L33_live_is L33_live_val

-- fedchat/fedchatlaw33.EvilForges
def L33_EvilForges (p0_s : ApiServer) (p1_d : ApiDeed) : Option Bool := (L33_great p0_s p1_d).bind fun x1 => (bif x1 then some true else (evil_Forge p0_s p1_d).bind fun x3 => (R33_Forge p0_s p1_d).bind fun x4 => (bif (x3.2 == x4.2) then (R33_Same x3.1 x4.1).bind fun x7 => some x7 else some false).bind fun x5 => (bif x5 then (L33_live).bind fun x10 => some x10 else some false).bind fun x8 => some x8)
theorem L33_EvilForges_ok (p0_s : ApiServer) (p1_d : ApiDeed) (r : Bool) (h : L33_EvilForges p0_s p1_d = some r) : Runs Tryz.prog 3 [.d (eApiServer p0_s), .d (eApiDeed p1_d)] [] (.d (eB r)) [] := by
  refine Runs.of_fin Tryz.func3 rfl ?_
  unfold L33_EvilForges at h
  refine SP.rg <| .a 3 <| .nil ?_
  refine SP.seqc ?_
  obtain ⟨x1, hx1, h⟩ := of_bind h
  refine SP.rg <| .a 2 <| .call (L33_great_ok p0_s p1_d x1 hx1) ent6 <| .nil ?_
  refine SP.cond x1 (by kernel_rfl) (fun hb2 => ?_) (fun hb2 => ?_)
  · replace h := of_bif_true hb2 h
    refine SP.rg <| .a 1 <| .nil ?_
    refine SP.ret ?_
    rw [← Option.some.inj h]
    exact ⟨[.d (eB true)], [], ⟨resV_tmp (by kernel_rfl), trivial⟩, by kernel_rfl, by kernel_rfl, by kernel_rfl⟩
  · replace h := of_bif_false hb2 h
    refine SP.skip ?_
    obtain ⟨x3, hx3, h⟩ := of_bind h
    refine SP.rg <| .a 2 <| .call (evil_Forge_ok p0_s p1_d x3 hx3) ent7 <| .a 5 <| .nil ?_
    obtain ⟨x4, hx4, h⟩ := of_bind h
    refine SP.rg <| .a 2 <| .call (R33_Forge_ok p0_s p1_d x4 hx4) ent8 <| .a 5 <| .nil ?_
    refine SP.rg <| .a 3 <| ?_
    obtain ⟨x5, hx5, h⟩ := of_bind h
    refine .merge 5 [27, 28, 29, 30] 31 (.d (eB x5)) ?_ ?_
    · replace h := hx5
      rcases Bool.eq_false_or_eq_true (x3.2 == x4.2) with hb6 | hb6
      · replace h := of_bif_true hb6 h
        obtain ⟨x7, hx7, h⟩ := of_bind h
        refine .c (congrArg some hb6) <| .a 2 <| .call (R33_Same_ok x3.1 x4.1 x7 hx7) ent9 <| .a 1 <| .nil ?_
        obtain rfl := Option.some.inj h
        kernel_rfl
      · replace h := of_bif_false hb6 h
        refine .c (congrArg some hb6) <| .a 4 <| .nil ?_
        obtain rfl := Option.some.inj h
        kernel_rfl
    refine .a 1 <| ?_
    obtain ⟨x8, hx8, h⟩ := of_bind h
    refine .merge 2 [33] 34 (.d (eB x8)) ?_ ?_
    · replace h := hx8
      cases x5 with
      | true =>
        replace h := of_bif_true rfl h
        obtain ⟨x10, hx10, h⟩ := of_bind h
        refine .call (L33_live_ok  x10 hx10) ent10 <| .a 1 <| .nil ?_
        obtain rfl := Option.some.inj h
        kernel_rfl
      | false =>
        replace h := of_bif_false rfl h
        refine .a 2 <| .nil ?_
        obtain rfl := Option.some.inj h
        kernel_rfl
    refine .a 1 <| .nil ?_
    refine SP.ret ?_
    rw [← Option.some.inj h]
    exact ⟨[.d (eB x8)], [], ⟨resV_tmp (by kernel_rfl), trivial⟩, by kernel_rfl, by kernel_rfl, by kernel_rfl⟩

-- fedchat/fedchatref08.Great
def R08_Great_S1 (p0_l : (List ApiEvent)) (v2 : Int) : St := ⟨shp 21 [(0, .d ((eL eApiEvent) p0_l)), (5, .d (eI v2))], [], 0⟩
def R08_Great_B1 (p0_l : (List ApiEvent)) (k3 : (Int → Option Bool)) : Int → Option Bool := fun v2 => (bif decide (v2 < (p0_l.length : Int)) then (gIdx p0_l v2).bind fun x5 => (R08_Long x5).bind fun x6 => (bif x6 then some true else k3 (IntKind.i64.wrap (v2 + 1))) else some false)
def R08_Great_L1 (p0_l : (List ApiEvent)) : Int → Option Bool := loop1 (R08_Great_B1 p0_l) fuel
def R08_Great (p0_l : (List ApiEvent)) (p1_n : Int) : Option Bool := (bif decide ((p0_l.length : Int) > p1_n) then some true else R08_Great_L1 p0_l 0)
theorem R08_Great_ok (p0_l : (List ApiEvent)) (p1_n : Int) (r : Bool) (h : R08_Great p0_l p1_n = some r) : Runs Tryz.prog 11 [.d ((eL eApiEvent) p0_l), .d (eI p1_n)] [] (.d (eB r)) [] := by
  refine Runs.of_fin Tryz.func11 rfl ?_
  unfold R08_Great at h
  refine SP.rg <| .a 1 <| .nil ?_
  refine SP.seqc ?_
  refine SP.rg <| .a 1 <| .p (ok_lenT eApiEvent p0_l und52 rfl) <| .a 2 <| .nil ?_
  refine SP.cond (decide ((p0_l.length : Int) > p1_n)) (by kernel_rfl) (fun hb1 => ?_) (fun hb1 => ?_)
  · replace h := of_bif_true hb1 h
    refine SP.rg <| .a 1 <| .nil ?_
    refine SP.ret ?_
    rw [← Option.some.inj h]
    exact ⟨[.d (eB true)], [], ⟨resV_tmp (by kernel_rfl), trivial⟩, by kernel_rfl, by kernel_rfl, by kernel_rfl⟩
  · replace h := of_bif_false hb1 h
    refine SP.skip ?_
    refine SP.seqc ?_
    refine SP.rg <| .a 1 <| .nil ?_
    refine SP.block ?_
    refine SP.loop1 (R08_Great_S1 p0_l) (R08_Great_B1 p0_l) r 0 (sub_of (mk 21 33) []) h ?_
    clear h
    intro J8 k3 hk3 v2 h
    unfold R08_Great_B1 at h
    refine SP.seqc ?_
    refine SP.rg <| .a 2 <| .p (ok_lenT eApiEvent p0_l und52 rfl) <| .a 1 <| .nil ?_
    refine SP.cond (decide (v2 < (p0_l.length : Int))) (by kernel_rfl) (fun hb4 => ?_) (fun hb4 => ?_)
    · replace h := of_bif_true hb4 h
      refine SP.skip ?_
      refine SP.seqc ?_
      refine SP.block ?_
      obtain ⟨x5, hx5, h⟩ := of_bind h
      obtain ⟨x6, hx6, h⟩ := of_bind h
      refine SP.rg <| .a 2 <| .p (ok_idxT (k := .i64) eApiEvent hx5 und52 ty43 (by kernel_rfl) rfl) <| .a 1 <| .call (R08_Long_ok x5 x6 hx6) ent14 <| .nil ?_
      refine SP.cond x6 (by kernel_rfl) (fun hb7 => ?_) (fun hb7 => ?_)
      · replace h := of_bif_true hb7 h
        refine SP.rg <| .a 1 <| .nil ?_
        refine SP.ret ?_
        rw [← Option.some.inj h]
        exact ⟨[.d (eB true)], [], ⟨resV_tmp (by kernel_rfl), trivial⟩, by kernel_rfl, by kernel_rfl, by kernel_rfl⟩
      · replace h := of_bif_false hb7 h
        refine SP.skip ?_
        refine SP.rgn <| .a 3 <| .nil ?_
        exact hk3 _ (IntKind.i64.wrap (v2 + 1)) (sub_of (mk 21 33) []) h
    · replace h := of_bif_false hb4 h
      refine SP.exit ?_
      refine SP.rg <| .a 1 <| .nil ?_
      refine SP.ret ?_
      rw [← Option.some.inj h]
      exact ⟨[.d (eB false)], [], ⟨resV_tmp (by kernel_rfl), trivial⟩, by kernel_rfl, by kernel_rfl, by kernel_rfl⟩

-- fedchat/fedchatref06.State
def R06_State (p0_k : Int) : Option Bool := (bif decide (p0_k ≥ 1) then some (decide (p0_k ≤ 10)) else some false).bind fun x1 => some x1
theorem R06_State_ok (p0_k : Int) (r : Bool) (h : R06_State p0_k = some r) : Runs Tryz.prog 135 [.d (eI p0_k)] [] (.d (eB r)) [] := by
  refine Runs.of_fin Tryz.func135 rfl ?_
  unfold R06_State at h
  refine SP.rg <| .a 1 <| .nil ?_
  refine SP.rg <| .a 2 <| ?_
  obtain ⟨x1, hx1, h⟩ := of_bind h
  refine .merge 4 [5, 6, 7] 8 (.d (eB x1)) ?_ ?_
  · replace h := hx1
    rcases Bool.eq_false_or_eq_true (decide (p0_k ≥ 1)) with hb2 | hb2
    · replace h := of_bif_true hb2 h
      refine .c (congrArg some hb2) <| .a 3 <| .nil ?_
      obtain rfl := Option.some.inj h
      kernel_rfl
    · replace h := of_bif_false hb2 h
      refine .c (congrArg some hb2) <| .a 3 <| .nil ?_
      obtain rfl := Option.some.inj h
      kernel_rfl
  refine .a 1 <| .nil ?_
  refine SP.ret ?_
  rw [← Option.some.inj h]
  exact ⟨[.d (eB x1)], [], ⟨resV_tmp (by kernel_rfl), trivial⟩, by kernel_rfl, by kernel_rfl, by kernel_rfl⟩

-- fedchat/fedchatref02.Room
def R02_Room (p0_s : ByteArray) : Option Int := (R02_marked p0_s 33).bind fun x1 => (bif (!x1) then some 3 else some 0)
theorem R02_Room_ok (p0_s : ByteArray) (r : Int) (h : R02_Room p0_s = some r) : Runs Tryz.prog 136 [.d (eS p0_s)] [] (.d (eI r)) [] := by
  refine Runs.of_fin Tryz.func136 rfl ?_
  unfold R02_Room at h
  refine SP.rg <| .a 1 <| .nil ?_
  refine SP.seqc ?_
  obtain ⟨x1, hx1, h⟩ := of_bind h
  refine SP.rg <| .a 1 <| .call (R02_marked_ok p0_s 33 x1 hx1) ent48 <| .a 1 <| .nil ?_
  refine SP.cond (!x1) (by kernel_rfl) (fun hb2 => ?_) (fun hb2 => ?_)
  · replace h := of_bif_true hb2 h
    refine SP.rg <| .a 1 <| .nil ?_
    refine SP.ret ?_
    rw [← Option.some.inj h]
    exact ⟨[.d (eI 3)], [], ⟨resV_tmp (by kernel_rfl), trivial⟩, by kernel_rfl, by kernel_rfl, by kernel_rfl⟩
  · replace h := of_bif_false hb2 h
    refine SP.skip ?_
    refine SP.rg <| .a 1 <| .nil ?_
    refine SP.ret ?_
    rw [← Option.some.inj h]
    exact ⟨[.d (eI 0)], [], ⟨resV_tmp (by kernel_rfl), trivial⟩, by kernel_rfl, by kernel_rfl, by kernel_rfl⟩

-- fedchat/fedchatref02.User
def R02_User (p0_s : ByteArray) : Option Int := (R02_marked p0_s 64).bind fun x1 => (bif (!x1) then some 3 else some 0)
theorem R02_User_ok (p0_s : ByteArray) (r : Int) (h : R02_User p0_s = some r) : Runs Tryz.prog 137 [.d (eS p0_s)] [] (.d (eI r)) [] := by
  refine Runs.of_fin Tryz.func137 rfl ?_
  unfold R02_User at h
  refine SP.rg <| .a 1 <| .nil ?_
  refine SP.seqc ?_
  obtain ⟨x1, hx1, h⟩ := of_bind h
  refine SP.rg <| .a 1 <| .call (R02_marked_ok p0_s 64 x1 hx1) ent48 <| .a 1 <| .nil ?_
  refine SP.cond (!x1) (by kernel_rfl) (fun hb2 => ?_) (fun hb2 => ?_)
  · replace h := of_bif_true hb2 h
    refine SP.rg <| .a 1 <| .nil ?_
    refine SP.ret ?_
    rw [← Option.some.inj h]
    exact ⟨[.d (eI 3)], [], ⟨resV_tmp (by kernel_rfl), trivial⟩, by kernel_rfl, by kernel_rfl, by kernel_rfl⟩
  · replace h := of_bif_false hb2 h
    refine SP.skip ?_
    refine SP.rg <| .a 1 <| .nil ?_
    refine SP.ret ?_
    rw [← Option.some.inj h]
    exact ⟨[.d (eI 0)], [], ⟨resV_tmp (by kernel_rfl), trivial⟩, by kernel_rfl, by kernel_rfl, by kernel_rfl⟩

-- fedchat/fedchatref07.Key
def R07_Key_S1 (p1_key : ByteArray) (v7 : Int) : St := ⟨shp 37 [(1, .d (eS p1_key)), (5, .d (eI v7))], [], 0⟩
def R07_Key_B1 (p1_key : ByteArray) (k8 : (Int → Option Bool)) : Int → Option Bool := fun v7 => (bif decide (v7 < (p1_key.size : Int)) then (gByte p1_key v7).bind fun x10 => (bif decide (x10 < 33) then some true else (gByte p1_key v7).bind fun x13 => some (decide (x13 > 126))).bind fun x11 => (bif x11 then some false else k8 (IntKind.i64.wrap (v7 + 1))) else some true)
def R07_Key_L1 (p1_key : ByteArray) : Int → Option Bool := loop1 (R07_Key_B1 p1_key) fuel
def R07_Key (p0_k : Int) (p1_key : ByteArray) : Option Bool := (bif (p0_k == 2) then (R02_User p1_key).bind fun x2 => some (x2 == 0) else (bif (p0_k != 9) then some true else (bif decide ((p1_key.size : Int) < 1) then some true else some (decide ((p1_key.size : Int) > 32))).bind fun x4 => (bif x4 then some false else R07_Key_L1 p1_key 0)))
theorem R07_Key_ok (p0_k : Int) (p1_key : ByteArray) (r : Bool) (h : R07_Key p0_k p1_key = some r) : Runs Tryz.prog 138 [.d (eI p0_k), .d (eS p1_key)] [] (.d (eB r)) [] := by
  refine Runs.of_fin Tryz.func138 rfl ?_
  unfold R07_Key at h
  refine SP.rg <| .a 1 <| .nil ?_
  refine SP.seqc ?_
  refine SP.rg <| .a 2 <| .nil ?_
  refine SP.cond (p0_k == 2) (by kernel_rfl) (fun hb1 => ?_) (fun hb1 => ?_)
  · replace h := of_bif_true hb1 h
    obtain ⟨x2, hx2, h⟩ := of_bind h
    refine SP.rg <| .a 1 <| .call (R02_User_ok p1_key x2 hx2) ent137 <| .a 2 <| .nil ?_
    refine SP.ret ?_
    rw [← Option.some.inj h]
    exact ⟨[.d (eB (x2 == 0))], [], ⟨resV_tmp (by kernel_rfl), trivial⟩, by kernel_rfl, by kernel_rfl, by kernel_rfl⟩
  · replace h := of_bif_false hb1 h
    refine SP.skip ?_
    refine SP.seqc ?_
    refine SP.rg <| .a 2 <| .nil ?_
    refine SP.cond (p0_k != 9) (by kernel_rfl) (fun hb3 => ?_) (fun hb3 => ?_)
    · replace h := of_bif_true hb3 h
      refine SP.rg <| .a 1 <| .nil ?_
      refine SP.ret ?_
      rw [← Option.some.inj h]
      exact ⟨[.d (eB true)], [], ⟨resV_tmp (by kernel_rfl), trivial⟩, by kernel_rfl, by kernel_rfl, by kernel_rfl⟩
    · replace h := of_bif_false hb3 h
      refine SP.skip ?_
      refine SP.seqc ?_
      refine SP.rg <| .a 3 <| ?_
      obtain ⟨x4, hx4, h⟩ := of_bind h
      refine .merge 5 [16, 17, 18, 19] 20 (.d (eB x4)) ?_ ?_
      · replace h := hx4
        rcases Bool.eq_false_or_eq_true (decide ((p1_key.size : Int) < 1)) with hb5 | hb5
        · replace h := of_bif_true hb5 h
          refine .c (congrArg some hb5) <| .a 4 <| .nil ?_
          obtain rfl := Option.some.inj h
          kernel_rfl
        · replace h := of_bif_false hb5 h
          refine .c (congrArg some hb5) <| .a 4 <| .nil ?_
          obtain rfl := Option.some.inj h
          kernel_rfl
      refine .nil ?_
      refine SP.cond x4 (by kernel_rfl) (fun hb6 => ?_) (fun hb6 => ?_)
      · replace h := of_bif_true hb6 h
        refine SP.rg <| .a 1 <| .nil ?_
        refine SP.ret ?_
        rw [← Option.some.inj h]
        exact ⟨[.d (eB false)], [], ⟨resV_tmp (by kernel_rfl), trivial⟩, by kernel_rfl, by kernel_rfl, by kernel_rfl⟩
      · replace h := of_bif_false hb6 h
        refine SP.skip ?_
        refine SP.seqc ?_
        refine SP.rg <| .a 1 <| .nil ?_
        refine SP.block ?_
        refine SP.loop1 (R07_Key_S1 p1_key) (R07_Key_B1 p1_key) r 0 (sub_of (mk 37 34) []) h ?_
        clear h
        intro J15 k8 hk8 v7 h
        unfold R07_Key_B1 at h
        refine SP.seqc ?_
        refine SP.rg <| .a 4 <| .nil ?_
        refine SP.cond (decide (v7 < (p1_key.size : Int))) (by kernel_rfl) (fun hb9 => ?_) (fun hb9 => ?_)
        · replace h := of_bif_true hb9 h
          refine SP.skip ?_
          refine SP.seqc ?_
          refine SP.block ?_
          obtain ⟨x10, hx10, h⟩ := of_bind h
          refine SP.rg <| .a 2 <| .p (ok_byteT (k := .i64) hx10 und9 rfl) <| .a 1 <| ?_
          obtain ⟨x11, hx11, h⟩ := of_bind h
          refine .merge 6 [31, 32, 33, 34, 35] 36 (.d (eB x11)) ?_ ?_
          · replace h := hx11
            rcases Bool.eq_false_or_eq_true (decide (x10 < 33)) with hb12 | hb12
            · replace h := of_bif_true hb12 h
              refine .c (congrArg some hb12) <| .a 5 <| .nil ?_
              obtain rfl := Option.some.inj h
              kernel_rfl
            · replace h := of_bif_false hb12 h
              obtain ⟨x13, hx13, h⟩ := of_bind h
              refine .c (congrArg some hb12) <| .a 2 <| .p (ok_byteT (k := .i64) hx13 und9 rfl) <| .a 2 <| .nil ?_
              obtain rfl := Option.some.inj h
              kernel_rfl
          refine .nil ?_
          refine SP.cond x11 (by kernel_rfl) (fun hb14 => ?_) (fun hb14 => ?_)
          · replace h := of_bif_true hb14 h
            refine SP.rg <| .a 1 <| .nil ?_
            refine SP.ret ?_
            rw [← Option.some.inj h]
            exact ⟨[.d (eB false)], [], ⟨resV_tmp (by kernel_rfl), trivial⟩, by kernel_rfl, by kernel_rfl, by kernel_rfl⟩
          · replace h := of_bif_false hb14 h
            refine SP.skip ?_
            refine SP.rgn <| .a 3 <| .nil ?_
            exact hk8 _ (IntKind.i64.wrap (v7 + 1)) (sub_of (mk 37 34) []) h
        · replace h := of_bif_false hb9 h
          refine SP.exit ?_
          refine SP.rg <| .a 1 <| .nil ?_
          refine SP.ret ?_
          rw [← Option.some.inj h]
          exact ⟨[.d (eB true)], [], ⟨resV_tmp (by kernel_rfl), trivial⟩, by kernel_rfl, by kernel_rfl, by kernel_rfl⟩

-- fedchat/fedchatref07.Rising
def R07_Rising_S1 (p0_l : (List Int)) (v1 : Int) : St := ⟨shp 31 [(0, .d ((eL eI) p0_l)), (3, .d (eI v1))], [], 0⟩
def R07_Rising_S2 (p0_l : (List Int)) (v1 : Int) (v4 : Bool) : St := ⟨shp 31 [(0, .d ((eL eI) p0_l)), (3, .d (eI v1)), (30, .d (eB v4))], [], 0⟩
def R07_Rising_j2 (k2 : (Int → Option Bool)) (v1 : Int) (v4 : Bool) : Option Bool := (bif v4 then some false else k2 (IntKind.i64.wrap (v1 + 1)))
def R07_Rising_B1 (p0_l : (List Int)) (k2 : (Int → Option Bool)) : Int → Option Bool := fun v1 => (bif decide (v1 < (p0_l.length : Int)) then (gIdx p0_l v1).bind fun x7 => (bif decide (x7 < 0) then R07_Rising_j2 k2 v1 true else (bif decide (v1 > 0) then (gIdx p0_l v1).bind fun x10 => (gIdx p0_l (IntKind.i64.wrap (v1 - 1))).bind fun x11 => R07_Rising_j2 k2 v1 (decide (x10 ≤ x11)) else R07_Rising_j2 k2 v1 false)) else some true)
def R07_Rising_L1 (p0_l : (List Int)) : Int → Option Bool := loop1 (R07_Rising_B1 p0_l) fuel
def R07_Rising (p0_l : (List Int)) : Option Bool := R07_Rising_L1 p0_l 0
theorem R07_Rising_ok (p0_l : (List Int)) (r : Bool) (h : R07_Rising p0_l = some r) : Runs Tryz.prog 139 [.d ((eL eI) p0_l)] [] (.d (eB r)) [] := by
  refine Runs.of_fin Tryz.func139 rfl ?_
  unfold R07_Rising at h
  refine SP.rg <| .a 1 <| .nil ?_
  refine SP.seqc ?_
  refine SP.rg <| .a 1 <| .nil ?_
  refine SP.block ?_
  refine SP.loop1 (R07_Rising_S1 p0_l) (R07_Rising_B1 p0_l) r 0 (sub_of (mk 31 9) []) h ?_
  clear h
  intro J12 k2 hk2 v1 h
  unfold R07_Rising_B1 at h
  refine SP.seqc ?_
  refine SP.rg <| .a 2 <| .p (ok_lenT eI p0_l und33 rfl) <| .a 1 <| .nil ?_
  refine SP.cond (decide (v1 < (p0_l.length : Int))) (by kernel_rfl) (fun hb3 => ?_) (fun hb3 => ?_)
  · replace h := of_bif_true hb3 h
    refine SP.skip ?_
    refine SP.seqc ?_
    refine SP.block ?_
    refine SP.join (fun s => ∃ (v4 : Bool), Sub s (R07_Rising_S2 p0_l v1 v4) ∧ R07_Rising_j2 k2 v1 v4 = some r) ?_ ?_
    · clear h
      rintro s ⟨v4, hs, h⟩
      refine SP.sub hs ?_
      clear hs
      unfold R07_Rising_j2 at h
      refine SP.cond v4 (by kernel_rfl) (fun hb5 => ?_) (fun hb5 => ?_)
      · replace h := of_bif_true hb5 h
        refine SP.rg <| .a 1 <| .nil ?_
        refine SP.ret ?_
        rw [← Option.some.inj h]
        exact ⟨[.d (eB false)], [], ⟨resV_tmp (by kernel_rfl), trivial⟩, by kernel_rfl, by kernel_rfl, by kernel_rfl⟩
      · replace h := of_bif_false hb5 h
        refine SP.skip ?_
        refine SP.rgn <| .a 3 <| .nil ?_
        exact hk2 _ (IntKind.i64.wrap (v1 + 1)) (sub_of (mk 31 9) []) h
    · intro K6
      obtain ⟨x7, hx7, h⟩ := of_bind h
      rcases Bool.eq_false_or_eq_true (decide (x7 < 0)) with hb8 | hb8
      · replace h := of_bif_true hb8 h
        refine SP.draw (by kernel_rfl) (by kernel_rfl) (by kernel_rfl) (.a 2 <| .p (ok_idxT (k := .i64) eI hx7 und33 ty3 (by kernel_rfl) rfl) <| .a 2 <| .c (congrArg some hb8) <| .a 15 <| .nil _) ?_
        exact K6 _ ⟨true, sub_of (mk 31 1073741833) [], h⟩
      · replace h := of_bif_false hb8 h
        rcases Bool.eq_false_or_eq_true (decide (v1 > 0)) with hb9 | hb9
        · replace h := of_bif_true hb9 h
          obtain ⟨x10, hx10, h⟩ := of_bind h
          obtain ⟨x11, hx11, h⟩ := of_bind h
          refine SP.draw (by kernel_rfl) (by kernel_rfl) (by kernel_rfl) (.a 2 <| .p (ok_idxT (k := .i64) eI hx7 und33 ty3 (by kernel_rfl) rfl) <| .a 2 <| .c (congrArg some hb8) <| .a 2 <| .c (congrArg some hb9) <| .a 2 <| .p (ok_idxT (k := .i64) eI hx10 und33 ty3 (by kernel_rfl) rfl) <| .a 4 <| .p (ok_idxT (k := .i64) eI hx11 und33 ty3 (by kernel_rfl) rfl) <| .a 4 <| .nil _) ?_
          exact K6 _ ⟨(decide (x10 ≤ x11)), sub_of (mk 31 1073741833) [], h⟩
        · replace h := of_bif_false hb9 h
          refine SP.draw (by kernel_rfl) (by kernel_rfl) (by kernel_rfl) (.a 2 <| .p (ok_idxT (k := .i64) eI hx7 und33 ty3 (by kernel_rfl) rfl) <| .a 2 <| .c (congrArg some hb8) <| .a 2 <| .c (congrArg some hb9) <| .a 12 <| .nil _) ?_
          exact K6 _ ⟨false, sub_of (mk 31 1073741833) [], h⟩
  · replace h := of_bif_false hb3 h
    refine SP.exit ?_
    refine SP.rg <| .a 1 <| .nil ?_
    refine SP.ret ?_
    rw [← Option.some.inj h]
    exact ⟨[.d (eB true)], [], ⟨resV_tmp (by kernel_rfl), trivial⟩, by kernel_rfl, by kernel_rfl, by kernel_rfl⟩

-- fedchat/fedchatref07.Frame
def R07_Frame_S1 (p0_e : ApiEvent) (v1 : Bool) : St := ⟨shp 114 [(1, .ptr 0 0), (33, .d (eB v1))], [.box (dc (eApiEvent p0_e))], 0⟩
def R07_Frame_j1 (p0_e : ApiEvent) (v1 : Bool) : Option Int := (bif v1 then some 1 else (R02_Room p0_e.Room).bind fun x3 => (bif (x3 != 0) then some true else (R02_User p0_e.Sender).bind fun x6 => some (x6 != 0)).bind fun x4 => (bif x4 then some true else (R07_Key p0_e.Kind p0_e.Key).bind fun x9 => some (!x9)).bind fun x7 => (bif x7 then some 3 else (bif decide (p0_e.Time < 0) then some true else some (decide (p0_e.Time > 1000000000))).bind fun x11 => (bif x11 then some true else some (decide (p0_e.Depth < 1))).bind fun x13 => (bif x13 then some true else some (decide (p0_e.Depth > 100000))).bind fun x15 => (bif x15 then some 2 else (bif decide ((p0_e.Prev.length : Int) > 10) then some true else some (decide ((p0_e.Auth.length : Int) > 8))).bind fun x18 => (bif x18 then some 7 else (R07_Rising p0_e.Prev).bind fun x21 => (bif (!x21) then some true else (R07_Rising p0_e.Auth).bind fun x24 => some (!x24)).bind fun x22 => (bif x22 then some 8 else (bif ((p0_e.Prev.length : Int) == 0) then some (p0_e.Kind != 1) else some false).bind fun x26 => (bif x26 then some 9 else (bif (p0_e.Kind == 1) then (bif decide ((p0_e.Prev.length : Int) > 0) then some true else some (decide ((p0_e.Auth.length : Int) > 0))).bind fun x31 => some x31 else some false).bind fun x29 => (bif x29 then some 6 else some 0)))))))
def R07_Frame (p0_e : ApiEvent) : Option Int := (bif decide (p0_e.Kind < 1) then R07_Frame_j1 p0_e true else (bif decide (p0_e.Kind > 14) then R07_Frame_j1 p0_e true else (R06_State p0_e.Kind).bind fun x37 => (bif (!(p0_e.State == x37)) then R07_Frame_j1 p0_e true else (bif (!(p0_e.Key.toList == s0.toList)) then (bif (p0_e.Kind != 2) then R07_Frame_j1 p0_e (p0_e.Kind != 9) else R07_Frame_j1 p0_e false) else R07_Frame_j1 p0_e false))))
theorem R07_Frame_ok (p0_e : ApiEvent) (r : Int) (h : R07_Frame p0_e = some r) : Runs Tryz.prog 102 [.d (eApiEvent p0_e)] [] (.d (eI r)) [] := by
  refine Runs.of_fin Tryz.func102 rfl ?_
  unfold R07_Frame at h
  refine SP.rg <| .a 2 <| .nil ?_
  refine SP.seqc ?_
  refine SP.join (fun s => ∃ (v1 : Bool), Sub s (R07_Frame_S1 p0_e v1) ∧ R07_Frame_j1 p0_e v1 = some r) ?_ ?_
  · clear h
    rintro s ⟨v1, hs, h⟩
    refine SP.sub hs ?_
    clear hs
    unfold R07_Frame_j1 at h
    refine SP.cond v1 (by kernel_rfl) (fun hb2 => ?_) (fun hb2 => ?_)
    · replace h := of_bif_true hb2 h
      refine SP.rg <| .a 1 <| .nil ?_
      refine SP.ret ?_
      rw [← Option.some.inj h]
      exact ⟨[.d (eI 1)], [], ⟨resV_tmp (by kernel_rfl), trivial⟩, by kernel_rfl, by kernel_rfl, by kernel_rfl⟩
    · replace h := of_bif_false hb2 h
      refine SP.skip ?_
      refine SP.seqc ?_
      obtain ⟨x3, hx3, h⟩ := of_bind h
      refine SP.rg <| .a 2 <| .call (R02_Room_ok p0_e.Room x3 hx3) ent136 <| .a 1 <| ?_
      obtain ⟨x4, hx4, h⟩ := of_bind h
      refine .merge 6 [38, 39, 40, 41, 42] 43 (.d (eB x4)) ?_ ?_
      · replace h := hx4
        rcases Bool.eq_false_or_eq_true (x3 != 0) with hb5 | hb5
        · replace h := of_bif_true hb5 h
          refine .c (congrArg some hb5) <| .a 5 <| .nil ?_
          obtain rfl := Option.some.inj h
          kernel_rfl
        · replace h := of_bif_false hb5 h
          obtain ⟨x6, hx6, h⟩ := of_bind h
          refine .c (congrArg some hb5) <| .a 2 <| .call (R02_User_ok p0_e.Sender x6 hx6) ent137 <| .a 2 <| .nil ?_
          obtain rfl := Option.some.inj h
          kernel_rfl
      refine .a 1 <| ?_
      obtain ⟨x7, hx7, h⟩ := of_bind h
      refine .merge 7 [45, 46, 47, 48, 49, 50] 51 (.d (eB x7)) ?_ ?_
      · replace h := hx7
        cases x4 with
        | true =>
          replace h := of_bif_true rfl h
          refine .a 7 <| .nil ?_
          obtain rfl := Option.some.inj h
          kernel_rfl
        | false =>
          replace h := of_bif_false rfl h
          obtain ⟨x9, hx9, h⟩ := of_bind h
          refine .a 4 <| .call (R07_Key_ok p0_e.Kind p0_e.Key x9 hx9) ent138 <| .a 2 <| .nil ?_
          obtain rfl := Option.some.inj h
          kernel_rfl
      refine .nil ?_
      refine SP.cond x7 (by kernel_rfl) (fun hb10 => ?_) (fun hb10 => ?_)
      · replace h := of_bif_true hb10 h
        refine SP.rg <| .a 1 <| .nil ?_
        refine SP.ret ?_
        rw [← Option.some.inj h]
        exact ⟨[.d (eI 3)], [], ⟨resV_tmp (by kernel_rfl), trivial⟩, by kernel_rfl, by kernel_rfl, by kernel_rfl⟩
      · replace h := of_bif_false hb10 h
        refine SP.skip ?_
        refine SP.seqc ?_
        refine SP.rg <| .a 3 <| ?_
        obtain ⟨x11, hx11, h⟩ := of_bind h
        refine .merge 5 [55, 56, 57, 58] 59 (.d (eB x11)) ?_ ?_
        · replace h := hx11
          rcases Bool.eq_false_or_eq_true (decide (p0_e.Time < 0)) with hb12 | hb12
          · replace h := of_bif_true hb12 h
            refine .c (congrArg some hb12) <| .a 4 <| .nil ?_
            obtain rfl := Option.some.inj h
            kernel_rfl
          · replace h := of_bif_false hb12 h
            refine .c (congrArg some hb12) <| .a 4 <| .nil ?_
            obtain rfl := Option.some.inj h
            kernel_rfl
        refine .a 1 <| ?_
        obtain ⟨x13, hx13, h⟩ := of_bind h
        refine .merge 4 [61, 62, 63] 64 (.d (eB x13)) ?_ ?_
        · replace h := hx13
          cases x11 with
          | true =>
            replace h := of_bif_true rfl h
            refine .a 4 <| .nil ?_
            obtain rfl := Option.some.inj h
            kernel_rfl
          | false =>
            replace h := of_bif_false rfl h
            refine .a 4 <| .nil ?_
            obtain rfl := Option.some.inj h
            kernel_rfl
        refine .a 1 <| ?_
        obtain ⟨x15, hx15, h⟩ := of_bind h
        refine .merge 4 [66, 67, 68] 69 (.d (eB x15)) ?_ ?_
        · replace h := hx15
          cases x13 with
          | true =>
            replace h := of_bif_true rfl h
            refine .a 4 <| .nil ?_
            obtain rfl := Option.some.inj h
            kernel_rfl
          | false =>
            replace h := of_bif_false rfl h
            refine .a 4 <| .nil ?_
            obtain rfl := Option.some.inj h
            kernel_rfl
        refine .nil ?_
        refine SP.cond x15 (by kernel_rfl) (fun hb17 => ?_) (fun hb17 => ?_)
        · replace h := of_bif_true hb17 h
          refine SP.rg <| .a 1 <| .nil ?_
          refine SP.ret ?_
          rw [← Option.some.inj h]
          exact ⟨[.d (eI 2)], [], ⟨resV_tmp (by kernel_rfl), trivial⟩, by kernel_rfl, by kernel_rfl, by kernel_rfl⟩
        · replace h := of_bif_false hb17 h
          refine SP.skip ?_
          refine SP.seqc ?_
          refine SP.rg <| .a 2 <| .p (ok_lenT eI p0_e.Prev und33 rfl) <| .a 1 <| ?_
          obtain ⟨x18, hx18, h⟩ := of_bind h
          refine .merge 6 [74, 75, 76, 77, 78] 79 (.d (eB x18)) ?_ ?_
          · replace h := hx18
            rcases Bool.eq_false_or_eq_true (decide ((p0_e.Prev.length : Int) > 10)) with hb19 | hb19
            · replace h := of_bif_true hb19 h
              refine .c (congrArg some hb19) <| .a 5 <| .nil ?_
              obtain rfl := Option.some.inj h
              kernel_rfl
            · replace h := of_bif_false hb19 h
              refine .c (congrArg some hb19) <| .a 2 <| .p (ok_lenT eI p0_e.Auth und33 rfl) <| .a 2 <| .nil ?_
              obtain rfl := Option.some.inj h
              kernel_rfl
          refine .nil ?_
          refine SP.cond x18 (by kernel_rfl) (fun hb20 => ?_) (fun hb20 => ?_)
          · replace h := of_bif_true hb20 h
            refine SP.rg <| .a 1 <| .nil ?_
            refine SP.ret ?_
            rw [← Option.some.inj h]
            exact ⟨[.d (eI 7)], [], ⟨resV_tmp (by kernel_rfl), trivial⟩, by kernel_rfl, by kernel_rfl, by kernel_rfl⟩
          · replace h := of_bif_false hb20 h
            refine SP.skip ?_
            refine SP.seqc ?_
            obtain ⟨x21, hx21, h⟩ := of_bind h
            refine SP.rg <| .a 2 <| .call (R07_Rising_ok p0_e.Prev x21 hx21) ent139 <| .a 1 <| ?_
            obtain ⟨x22, hx22, h⟩ := of_bind h
            refine .merge 6 [84, 85, 86, 87, 88] 89 (.d (eB x22)) ?_ ?_
            · replace h := hx22
              rcases Bool.eq_false_or_eq_true (!x21) with hb23 | hb23
              · replace h := of_bif_true hb23 h
                refine .c (congrArg some hb23) <| .a 5 <| .nil ?_
                obtain rfl := Option.some.inj h
                kernel_rfl
              · replace h := of_bif_false hb23 h
                obtain ⟨x24, hx24, h⟩ := of_bind h
                refine .c (congrArg some hb23) <| .a 2 <| .call (R07_Rising_ok p0_e.Auth x24 hx24) ent139 <| .a 2 <| .nil ?_
                obtain rfl := Option.some.inj h
                kernel_rfl
            refine .nil ?_
            refine SP.cond x22 (by kernel_rfl) (fun hb25 => ?_) (fun hb25 => ?_)
            · replace h := of_bif_true hb25 h
              refine SP.rg <| .a 1 <| .nil ?_
              refine SP.ret ?_
              rw [← Option.some.inj h]
              exact ⟨[.d (eI 8)], [], ⟨resV_tmp (by kernel_rfl), trivial⟩, by kernel_rfl, by kernel_rfl, by kernel_rfl⟩
            · replace h := of_bif_false hb25 h
              refine SP.skip ?_
              refine SP.seqc ?_
              refine SP.rg <| .a 2 <| .p (ok_lenT eI p0_e.Prev und33 rfl) <| .a 1 <| ?_
              obtain ⟨x26, hx26, h⟩ := of_bind h
              refine .merge 5 [94, 95, 96, 97] 98 (.d (eB x26)) ?_ ?_
              · replace h := hx26
                rcases Bool.eq_false_or_eq_true ((p0_e.Prev.length : Int) == 0) with hb27 | hb27
                · replace h := of_bif_true hb27 h
                  refine .c (congrArg some hb27) <| .a 4 <| .nil ?_
                  obtain rfl := Option.some.inj h
                  kernel_rfl
                · replace h := of_bif_false hb27 h
                  refine .c (congrArg some hb27) <| .a 4 <| .nil ?_
                  obtain rfl := Option.some.inj h
                  kernel_rfl
              refine .nil ?_
              refine SP.cond x26 (by kernel_rfl) (fun hb28 => ?_) (fun hb28 => ?_)
              · replace h := of_bif_true hb28 h
                refine SP.rg <| .a 1 <| .nil ?_
                refine SP.ret ?_
                rw [← Option.some.inj h]
                exact ⟨[.d (eI 9)], [], ⟨resV_tmp (by kernel_rfl), trivial⟩, by kernel_rfl, by kernel_rfl, by kernel_rfl⟩
              · replace h := of_bif_false hb28 h
                refine SP.skip ?_
                refine SP.seqc ?_
                refine SP.rg <| .a 3 <| ?_
                obtain ⟨x29, hx29, h⟩ := of_bind h
                refine .merge 12 [102, 103, 104, 105, 106, 107, 108, 109, 110, 111, 112] 113 (.d (eB x29)) ?_ ?_
                · replace h := hx29
                  rcases Bool.eq_false_or_eq_true (p0_e.Kind == 1) with hb30 | hb30
                  · replace h := of_bif_true hb30 h
                    refine .c (congrArg some hb30) <| .a 2 <| .p (ok_lenT eI p0_e.Prev und33 rfl) <| .a 1 <| ?_
                    obtain ⟨x31, hx31, h⟩ := of_bind h
                    refine .merge 6 [107, 108, 109, 110, 111] 112 (.d (eB x31)) ?_ ?_
                    · replace h := hx31
                      rcases Bool.eq_false_or_eq_true (decide ((p0_e.Prev.length : Int) > 0)) with hb32 | hb32
                      · replace h := of_bif_true hb32 h
                        refine .c (congrArg some hb32) <| .a 5 <| .nil ?_
                        obtain rfl := Option.some.inj h
                        kernel_rfl
                      · replace h := of_bif_false hb32 h
                        refine .c (congrArg some hb32) <| .a 2 <| .p (ok_lenT eI p0_e.Auth und33 rfl) <| .a 2 <| .nil ?_
                        obtain rfl := Option.some.inj h
                        kernel_rfl
                    refine .a 1 <| .nil ?_
                    obtain rfl := Option.some.inj h
                    kernel_rfl
                  · replace h := of_bif_false hb30 h
                    refine .c (congrArg some hb30) <| .a 11 <| .nil ?_
                    obtain rfl := Option.some.inj h
                    kernel_rfl
                refine .nil ?_
                refine SP.cond x29 (by kernel_rfl) (fun hb33 => ?_) (fun hb33 => ?_)
                · replace h := of_bif_true hb33 h
                  refine SP.rg <| .a 1 <| .nil ?_
                  refine SP.ret ?_
                  rw [← Option.some.inj h]
                  exact ⟨[.d (eI 6)], [], ⟨resV_tmp (by kernel_rfl), trivial⟩, by kernel_rfl, by kernel_rfl, by kernel_rfl⟩
                · replace h := of_bif_false hb33 h
                  refine SP.skip ?_
                  refine SP.rg <| .a 1 <| .nil ?_
                  refine SP.ret ?_
                  rw [← Option.some.inj h]
                  exact ⟨[.d (eI 0)], [], ⟨resV_tmp (by kernel_rfl), trivial⟩, by kernel_rfl, by kernel_rfl, by kernel_rfl⟩
  · intro K34
    rcases Bool.eq_false_or_eq_true (decide (p0_e.Kind < 1)) with hb35 | hb35
    · replace h := of_bif_true hb35 h
      refine SP.draw (by kernel_rfl) (by kernel_rfl) (by kernel_rfl) (.a 3 <| .c (congrArg some hb35) <| .a 27 <| .nil _) ?_
      exact K34 _ ⟨true, sub_of (mk 114 8589934594) [(0, true)], h⟩
    · replace h := of_bif_false hb35 h
      rcases Bool.eq_false_or_eq_true (decide (p0_e.Kind > 14)) with hb36 | hb36
      · replace h := of_bif_true hb36 h
        refine SP.draw (by kernel_rfl) (by kernel_rfl) (by kernel_rfl) (.a 3 <| .c (congrArg some hb35) <| .a 4 <| .c (congrArg some hb36) <| .a 22 <| .nil _) ?_
        exact K34 _ ⟨true, sub_of (mk 114 8589934594) [(0, true)], h⟩
      · replace h := of_bif_false hb36 h
        obtain ⟨x37, hx37, h⟩ := of_bind h
        rcases Bool.eq_false_or_eq_true (!(p0_e.State == x37)) with hb38 | hb38
        · replace h := of_bif_true hb38 h
          refine SP.draw (by kernel_rfl) (by kernel_rfl) (by kernel_rfl) (.a 3 <| .c (congrArg some hb35) <| .a 4 <| .c (congrArg some hb36) <| .a 4 <| .call (R06_State_ok p0_e.Kind x37 hx37) ent135 <| .a 2 <| .c (congrArg some hb38) <| .a 14 <| .nil _) ?_
          exact K34 _ ⟨true, sub_of (mk 114 8589934594) [(0, true)], h⟩
        · replace h := of_bif_false hb38 h
          rcases Bool.eq_false_or_eq_true (!(p0_e.Key.toList == s0.toList)) with hb39 | hb39
          · replace h := of_bif_true hb39 h
            rcases Bool.eq_false_or_eq_true (p0_e.Kind != 2) with hb40 | hb40
            · replace h := of_bif_true hb40 h
              refine SP.draw (by kernel_rfl) (by kernel_rfl) (by kernel_rfl) (.a 3 <| .c (congrArg some hb35) <| .a 4 <| .c (congrArg some hb36) <| .a 4 <| .call (R06_State_ok p0_e.Kind x37 hx37) ent135 <| .a 2 <| .c (congrArg some hb38) <| .a 3 <| .c (congrArg some hb39) <| .a 4 <| .c (congrArg some hb40) <| .a 5 <| .nil _) ?_
              exact K34 _ ⟨(p0_e.Kind != 9), sub_of (mk 114 8589934594) [(0, true)], h⟩
            · replace h := of_bif_false hb40 h
              refine SP.draw (by kernel_rfl) (by kernel_rfl) (by kernel_rfl) (.a 3 <| .c (congrArg some hb35) <| .a 4 <| .c (congrArg some hb36) <| .a 4 <| .call (R06_State_ok p0_e.Kind x37 hx37) ent135 <| .a 2 <| .c (congrArg some hb38) <| .a 3 <| .c (congrArg some hb39) <| .a 4 <| .c (congrArg some hb40) <| .a 5 <| .nil _) ?_
              exact K34 _ ⟨false, sub_of (mk 114 8589934594) [(0, true)], h⟩
          · replace h := of_bif_false hb39 h
            refine SP.draw (by kernel_rfl) (by kernel_rfl) (by kernel_rfl) (.a 3 <| .c (congrArg some hb35) <| .a 4 <| .c (congrArg some hb36) <| .a 4 <| .call (R06_State_ok p0_e.Kind x37 hx37) ent135 <| .a 2 <| .c (congrArg some hb38) <| .a 3 <| .c (congrArg some hb39) <| .a 10 <| .nil _) ?_
            exact K34 _ ⟨false, sub_of (mk 114 8589934594) [(0, true)], h⟩

-- fedchat/fedchatref06.known
def R06_known (p0_k : Int) : Option Bool := (bif decide (p0_k ≥ 1) then some (decide (p0_k ≤ 14)) else some false).bind fun x1 => some x1
theorem R06_known_ok (p0_k : Int) (r : Bool) (h : R06_known p0_k = some r) : Runs Tryz.prog 140 [.d (eI p0_k)] [] (.d (eB r)) [] := by
  refine Runs.of_fin Tryz.func140 rfl ?_
  unfold R06_known at h
  refine SP.rg <| .a 1 <| .nil ?_
  refine SP.rg <| .a 2 <| ?_
  obtain ⟨x1, hx1, h⟩ := of_bind h
  refine .merge 4 [5, 6, 7] 8 (.d (eB x1)) ?_ ?_
  · replace h := hx1
    rcases Bool.eq_false_or_eq_true (decide (p0_k ≥ 1)) with hb2 | hb2
    · replace h := of_bif_true hb2 h
      refine .c (congrArg some hb2) <| .a 3 <| .nil ?_
      obtain rfl := Option.some.inj h
      kernel_rfl
    · replace h := of_bif_false hb2 h
      refine .c (congrArg some hb2) <| .a 3 <| .nil ?_
      obtain rfl := Option.some.inj h
      kernel_rfl
  refine .a 1 <| .nil ?_
  refine SP.ret ?_
  rw [← Option.some.inj h]
  exact ⟨[.d (eB x1)], [], ⟨resV_tmp (by kernel_rfl), trivial⟩, by kernel_rfl, by kernel_rfl, by kernel_rfl⟩

-- fedchat/fedchatref06.Uses
def R06_Uses_S1 (p0_k : Int) (v4 : Bool) : St := ⟨shp 35 [(3, .d (eI p0_k)), (13, .d (eB v4))], [], 0⟩
def R06_Uses_S2 (v10 : Bool) : St := ⟨shp 35 [(30, .d (eB v10))], [], 0⟩
def R06_Uses_j2 (v10 : Bool) : Option (List ByteArray) := (bif v10 then some [s_Text, s_Target] else some [])
def R06_Uses_j1 (p0_k : Int) (v4 : Bool) : Option (List ByteArray) := (bif v4 then some [s_N] else (bif (p0_k == 6) then some [s_Allow, s_Deny] else (bif (p0_k == 7) then some [s_Text] else (bif (p0_k == 9) then some [s_Text, s_N] else (bif (p0_k == 11) then some [s_Text, s_Target, s_Thread] else (bif (p0_k == 12) then R06_Uses_j2 (p0_k == 12) else (bif (p0_k == 13) then R06_Uses_j2 (p0_k == 13) else R06_Uses_j2 (p0_k == 14))))))))
def R06_Uses (p0_k : Int) : Option (List ByteArray) := (bif (p0_k == 2) then some [s_Text, s_N, s_Via] else (bif (p0_k == 3) then some [s_Levels] else (bif (p0_k == 4) then some [s_N, s_Allow] else (bif (p0_k == 5) then R06_Uses_j1 p0_k (p0_k == 5) else (bif (p0_k == 8) then R06_Uses_j1 p0_k (p0_k == 8) else R06_Uses_j1 p0_k (p0_k == 10))))))
theorem R06_Uses_ok (p0_k : Int) (r : (List ByteArray)) (h : R06_Uses p0_k = some r) : Runs Tryz.prog 168 [.d (eI p0_k)] [] (.osl 0) [.arr 9 1 (List.map eS r)] := by
  refine Runs.of_fin Tryz.func168 rfl ?_
  unfold R06_Uses at h
  refine SP.rg <| .e [.arr 9 1 (List.map eS [])] (ok_assign_own 9 1 rfl) <| .nil ?_
  refine SP.seqc ?_
  refine SP.rg <| .a 1 <| .nil ?_
  refine SP.block ?_
  refine SP.rg <| .a 2 <| .nil ?_
  refine SP.cond (p0_k == 2) (by kernel_rfl) (fun hb1 => ?_) (fun hb1 => ?_)
  · replace h := of_bif_true hb1 h
    refine SP.rg <| .e [.arr 9 1 (List.map eS []), .arr 9 1 (List.map eS [s_Text, s_N, s_Via])] (ok_lits_own el24 zero9 (by kernel_rfl) (by kernel_rfl) (Nat.le_of_ble_eq_true (by kernel_rfl)) [.d (eS s_Text), .d (eS s_N), .d (eS s_Via)] [eS s_Text, eS s_N, eS s_Via] (by kernel_rfl) (by kernel_rfl) (by kernel_rfl) (by kernel_rfl) rfl) <| .a 1 <| .nil ?_
    refine SP.ret ?_
    rw [← Option.some.inj h]
    exact ⟨[.osl 1], [(1, true)], ⟨resV_tmp (by kernel_rfl), trivial⟩, by kernel_rfl, by kernel_rfl, by kernel_rfl⟩
  · replace h := of_bif_false hb1 h
    refine SP.rg <| .a 2 <| .nil ?_
    refine SP.cond (p0_k == 3) (by kernel_rfl) (fun hb2 => ?_) (fun hb2 => ?_)
    · replace h := of_bif_true hb2 h
      refine SP.rg <| .e [.arr 9 1 (List.map eS []), .arr 9 1 (List.map eS [s_Levels])] (ok_lits_own el24 zero9 (by kernel_rfl) (by kernel_rfl) (Nat.le_of_ble_eq_true (by kernel_rfl)) [.d (eS s_Levels)] [eS s_Levels] (by kernel_rfl) (by kernel_rfl) (by kernel_rfl) (by kernel_rfl) rfl) <| .a 1 <| .nil ?_
      refine SP.ret ?_
      rw [← Option.some.inj h]
      exact ⟨[.osl 1], [(1, true)], ⟨resV_tmp (by kernel_rfl), trivial⟩, by kernel_rfl, by kernel_rfl, by kernel_rfl⟩
    · replace h := of_bif_false hb2 h
      refine SP.rg <| .a 2 <| .nil ?_
      refine SP.cond (p0_k == 4) (by kernel_rfl) (fun hb3 => ?_) (fun hb3 => ?_)
      · replace h := of_bif_true hb3 h
        refine SP.rg <| .e [.arr 9 1 (List.map eS []), .arr 9 1 (List.map eS [s_N, s_Allow])] (ok_lits_own el24 zero9 (by kernel_rfl) (by kernel_rfl) (Nat.le_of_ble_eq_true (by kernel_rfl)) [.d (eS s_N), .d (eS s_Allow)] [eS s_N, eS s_Allow] (by kernel_rfl) (by kernel_rfl) (by kernel_rfl) (by kernel_rfl) rfl) <| .a 1 <| .nil ?_
        refine SP.ret ?_
        rw [← Option.some.inj h]
        exact ⟨[.osl 1], [(1, true)], ⟨resV_tmp (by kernel_rfl), trivial⟩, by kernel_rfl, by kernel_rfl, by kernel_rfl⟩
      · replace h := of_bif_false hb3 h
        refine SP.join (fun s => ∃ (v4 : Bool), Sub s (R06_Uses_S1 p0_k v4) ∧ R06_Uses_j1 p0_k v4 = some r) ?_ ?_
        · clear h
          rintro s ⟨v4, hs, h⟩
          refine SP.sub hs ?_
          clear hs
          unfold R06_Uses_j1 at h
          refine SP.cond v4 (by kernel_rfl) (fun hb5 => ?_) (fun hb5 => ?_)
          · replace h := of_bif_true hb5 h
            refine SP.rg <| .e [.arr 9 1 (List.map eS [s_N])] (ok_lits_own el24 zero9 (by kernel_rfl) (by kernel_rfl) (Nat.le_of_ble_eq_true (by kernel_rfl)) [.d (eS s_N)] [eS s_N] (by kernel_rfl) (by kernel_rfl) (by kernel_rfl) (by kernel_rfl) rfl) <| .a 1 <| .nil ?_
            refine SP.ret ?_
            rw [← Option.some.inj h]
            exact ⟨[.osl 0], [(0, true)], ⟨resV_tmp (by kernel_rfl), trivial⟩, by kernel_rfl, by kernel_rfl, by kernel_rfl⟩
          · replace h := of_bif_false hb5 h
            refine SP.rg <| .a 2 <| .nil ?_
            refine SP.cond (p0_k == 6) (by kernel_rfl) (fun hb6 => ?_) (fun hb6 => ?_)
            · replace h := of_bif_true hb6 h
              refine SP.rg <| .e [.arr 9 1 (List.map eS [s_Allow, s_Deny])] (ok_lits_own el24 zero9 (by kernel_rfl) (by kernel_rfl) (Nat.le_of_ble_eq_true (by kernel_rfl)) [.d (eS s_Allow), .d (eS s_Deny)] [eS s_Allow, eS s_Deny] (by kernel_rfl) (by kernel_rfl) (by kernel_rfl) (by kernel_rfl) rfl) <| .a 1 <| .nil ?_
              refine SP.ret ?_
              rw [← Option.some.inj h]
              exact ⟨[.osl 0], [(0, true)], ⟨resV_tmp (by kernel_rfl), trivial⟩, by kernel_rfl, by kernel_rfl, by kernel_rfl⟩
            · replace h := of_bif_false hb6 h
              refine SP.rg <| .a 2 <| .nil ?_
              refine SP.cond (p0_k == 7) (by kernel_rfl) (fun hb7 => ?_) (fun hb7 => ?_)
              · replace h := of_bif_true hb7 h
                refine SP.rg <| .e [.arr 9 1 (List.map eS [s_Text])] (ok_lits_own el24 zero9 (by kernel_rfl) (by kernel_rfl) (Nat.le_of_ble_eq_true (by kernel_rfl)) [.d (eS s_Text)] [eS s_Text] (by kernel_rfl) (by kernel_rfl) (by kernel_rfl) (by kernel_rfl) rfl) <| .a 1 <| .nil ?_
                refine SP.ret ?_
                rw [← Option.some.inj h]
                exact ⟨[.osl 0], [(0, true)], ⟨resV_tmp (by kernel_rfl), trivial⟩, by kernel_rfl, by kernel_rfl, by kernel_rfl⟩
              · replace h := of_bif_false hb7 h
                refine SP.rg <| .a 2 <| .nil ?_
                refine SP.cond (p0_k == 9) (by kernel_rfl) (fun hb8 => ?_) (fun hb8 => ?_)
                · replace h := of_bif_true hb8 h
                  refine SP.rg <| .e [.arr 9 1 (List.map eS [s_Text, s_N])] (ok_lits_own el24 zero9 (by kernel_rfl) (by kernel_rfl) (Nat.le_of_ble_eq_true (by kernel_rfl)) [.d (eS s_Text), .d (eS s_N)] [eS s_Text, eS s_N] (by kernel_rfl) (by kernel_rfl) (by kernel_rfl) (by kernel_rfl) rfl) <| .a 1 <| .nil ?_
                  refine SP.ret ?_
                  rw [← Option.some.inj h]
                  exact ⟨[.osl 0], [(0, true)], ⟨resV_tmp (by kernel_rfl), trivial⟩, by kernel_rfl, by kernel_rfl, by kernel_rfl⟩
                · replace h := of_bif_false hb8 h
                  refine SP.rg <| .a 2 <| .nil ?_
                  refine SP.cond (p0_k == 11) (by kernel_rfl) (fun hb9 => ?_) (fun hb9 => ?_)
                  · replace h := of_bif_true hb9 h
                    refine SP.rg <| .e [.arr 9 1 (List.map eS [s_Text, s_Target, s_Thread])] (ok_lits_own el24 zero9 (by kernel_rfl) (by kernel_rfl) (Nat.le_of_ble_eq_true (by kernel_rfl)) [.d (eS s_Text), .d (eS s_Target), .d (eS s_Thread)] [eS s_Text, eS s_Target, eS s_Thread] (by kernel_rfl) (by kernel_rfl) (by kernel_rfl) (by kernel_rfl) rfl) <| .a 1 <| .nil ?_
                    refine SP.ret ?_
                    rw [← Option.some.inj h]
                    exact ⟨[.osl 0], [(0, true)], ⟨resV_tmp (by kernel_rfl), trivial⟩, by kernel_rfl, by kernel_rfl, by kernel_rfl⟩
                  · replace h := of_bif_false hb9 h
                    refine SP.join (fun s => ∃ (v10 : Bool), Sub s (R06_Uses_S2 v10) ∧ R06_Uses_j2 v10 = some r) ?_ ?_
                    · clear h
                      rintro s ⟨v10, hs, h⟩
                      refine SP.sub hs ?_
                      clear hs
                      unfold R06_Uses_j2 at h
                      refine SP.cond v10 (by kernel_rfl) (fun hb11 => ?_) (fun hb11 => ?_)
                      · replace h := of_bif_true hb11 h
                        refine SP.rg <| .e [.arr 9 1 (List.map eS [s_Text, s_Target])] (ok_lits_own el24 zero9 (by kernel_rfl) (by kernel_rfl) (Nat.le_of_ble_eq_true (by kernel_rfl)) [.d (eS s_Text), .d (eS s_Target)] [eS s_Text, eS s_Target] (by kernel_rfl) (by kernel_rfl) (by kernel_rfl) (by kernel_rfl) rfl) <| .a 1 <| .nil ?_
                        refine SP.ret ?_
                        rw [← Option.some.inj h]
                        exact ⟨[.osl 0], [(0, true)], ⟨resV_tmp (by kernel_rfl), trivial⟩, by kernel_rfl, by kernel_rfl, by kernel_rfl⟩
                      · replace h := of_bif_false hb11 h
                        refine SP.skip ?_
                        refine SP.rg <| .e [.arr 9 1 (List.map eS [])] (ok_assign_own 9 1 rfl) <| .nil ?_
                        refine SP.ret ?_
                        rw [← Option.some.inj h]
                        exact ⟨[.osl 0], [(0, true)], ⟨resV_tmp (by kernel_rfl), trivial⟩, by kernel_rfl, by kernel_rfl, by kernel_rfl⟩
                    · intro K12
                      refine SP.rg <| .a 2 <| .nil ?_
                      refine SP.cond (p0_k == 12) (by kernel_rfl) (fun hb13 => ?_) (fun hb13 => ?_)
                      · replace h := of_bif_true hb13 h
                        refine SP.skip ?_
                        exact K12 _ ⟨(p0_k == 12), sub_of (mk 35 1073741824) [], h⟩
                      · replace h := of_bif_false hb13 h
                        refine SP.rg <| .a 2 <| .nil ?_
                        refine SP.cond (p0_k == 13) (by kernel_rfl) (fun hb14 => ?_) (fun hb14 => ?_)
                        · replace h := of_bif_true hb14 h
                          refine SP.skip ?_
                          exact K12 _ ⟨(p0_k == 13), sub_of (mk 35 1073741824) [], h⟩
                        · replace h := of_bif_false hb14 h
                          refine SP.rgn <| .a 2 <| .nil ?_
                          exact K12 _ ⟨(p0_k == 14), sub_of (mk 35 1073741824) [], h⟩
        · intro K15
          refine SP.rg <| .a 2 <| .nil ?_
          refine SP.cond (p0_k == 5) (by kernel_rfl) (fun hb16 => ?_) (fun hb16 => ?_)
          · replace h := of_bif_true hb16 h
            refine SP.skip ?_
            exact K15 _ ⟨(p0_k == 5), sub_of (mk 35 8200) [], h⟩
          · replace h := of_bif_false hb16 h
            refine SP.rg <| .a 2 <| .nil ?_
            refine SP.cond (p0_k == 8) (by kernel_rfl) (fun hb17 => ?_) (fun hb17 => ?_)
            · replace h := of_bif_true hb17 h
              refine SP.skip ?_
              exact K15 _ ⟨(p0_k == 8), sub_of (mk 35 8200) [], h⟩
            · replace h := of_bif_false hb17 h
              refine SP.rgn <| .a 2 <| .nil ?_
              exact K15 _ ⟨(p0_k == 10), sub_of (mk 35 8200) [], h⟩

-- fedchat/fedchatref06.uses
def R06_uses_S1 (p1_field : ByteArray) (x1 : (List ByteArray)) (v2 : Int) : St := ⟨shp 21 [(1, .d (eS p1_field)), (5, .d ((eL eS) x1)), (6, .d (eI v2))], [], 0⟩
def R06_uses_B1 (x1 : (List ByteArray)) (p1_field : ByteArray) (k3 : (Int → Option Bool)) : Int → Option Bool := fun v2 => (bif decide (v2 < (x1.length : Int)) then (gIdx x1 v2).bind fun x5 => (bif (x5.toList == p1_field.toList) then some true else k3 (IntKind.i64.wrap (v2 + 1))) else some false)
def R06_uses_L1 (x1 : (List ByteArray)) (p1_field : ByteArray) : Int → Option Bool := loop1 (R06_uses_B1 x1 p1_field) fuel
def R06_uses (p0_k : Int) (p1_field : ByteArray) : Option Bool := (R06_Uses p0_k).bind fun x1 => R06_uses_L1 x1 p1_field 0
theorem R06_uses_ok (p0_k : Int) (p1_field : ByteArray) (r : Bool) (h : R06_uses p0_k p1_field = some r) : Runs Tryz.prog 159 [.d (eI p0_k), .d (eS p1_field)] [] (.d (eB r)) [] := by
  refine Runs.of_fin Tryz.func159 rfl ?_
  unfold R06_uses at h
  refine SP.rg <| .a 1 <| .nil ?_
  obtain ⟨x1, hx1, h⟩ := of_bind h
  refine SP.rg <| .a 1 <| .call (R06_Uses_ok p0_k x1 hx1).view ent168 <| .a 1 <| .nil ?_
  refine SP.seqc ?_
  refine SP.rg <| .a 1 <| .nil ?_
  refine SP.block ?_
  refine SP.loop1 (R06_uses_S1 p1_field x1) (R06_uses_B1 x1 p1_field) r 0 (sub_of (mk 21 98) []) h ?_
  clear h
  intro J7 k3 hk3 v2 h
  unfold R06_uses_B1 at h
  refine SP.seqc ?_
  refine SP.rg <| .a 2 <| .p (ok_lenT eS x1 und24 rfl) <| .a 1 <| .nil ?_
  refine SP.cond (decide (v2 < (x1.length : Int))) (by kernel_rfl) (fun hb4 => ?_) (fun hb4 => ?_)
  · replace h := of_bif_true hb4 h
    refine SP.skip ?_
    refine SP.seqc ?_
    refine SP.block ?_
    obtain ⟨x5, hx5, h⟩ := of_bind h
    refine SP.rg <| .a 2 <| .p (ok_idxT (k := .i64) eS hx5 und24 ty9 (by kernel_rfl) rfl) <| .a 3 <| .nil ?_
    refine SP.cond (x5.toList == p1_field.toList) (by kernel_rfl) (fun hb6 => ?_) (fun hb6 => ?_)
    · replace h := of_bif_true hb6 h
      refine SP.rg <| .a 1 <| .nil ?_
      refine SP.ret ?_
      rw [← Option.some.inj h]
      exact ⟨[.d (eB true)], [], ⟨resV_tmp (by kernel_rfl), trivial⟩, by kernel_rfl, by kernel_rfl, by kernel_rfl⟩
    · replace h := of_bif_false hb6 h
      refine SP.skip ?_
      refine SP.rgn <| .a 3 <| .nil ?_
      exact hk3 _ (IntKind.i64.wrap (v2 + 1)) (sub_of (mk 21 98) []) h
  · replace h := of_bif_false hb4 h
    refine SP.exit ?_
    refine SP.rg <| .a 1 <| .nil ?_
    refine SP.ret ?_
    rw [← Option.some.inj h]
    exact ⟨[.d (eB false)], [], ⟨resV_tmp (by kernel_rfl), trivial⟩, by kernel_rfl, by kernel_rfl, by kernel_rfl⟩

-- fedchat/fedchatref06.plain
def R06_plain (p0_l : ApiLevels) : Option Bool := (R06_SameLevels p0_l zApiLevels).bind fun x1 => some x1
theorem R06_plain_ok (p0_l : ApiLevels) (r : Bool) (h : R06_plain p0_l = some r) : Runs Tryz.prog 160 [.d (eApiLevels p0_l)] [] (.d (eB r)) [] := by
  refine Runs.of_fin Tryz.func160 rfl ?_
  unfold R06_plain at h
  refine SP.rg <| .a 2 <| .nil ?_
  obtain ⟨x1, hx1, h⟩ := of_bind h
  refine SP.rg <| .a 2 <| .call (R06_SameLevels_ok p0_l zApiLevels x1 hx1) ent105 <| .a 1 <| .nil ?_
  refine SP.ret ?_
  rw [← Option.some.inj h]
  exact ⟨[.d (eB x1)], [], ⟨resV_tmp (by kernel_rfl), trivial⟩, by kernel_rfl, by kernel_rfl, by kernel_rfl⟩

-- fedchat/fedchatref06.only
def R06_only (p0_k : Int) (p1_c : ApiContent) : Option Bool := (bif (p1_c.Text.toList == s0.toList) then some true else (R06_uses p0_k s_Text).bind fun x3 => some x3).bind fun x1 => (bif x1 then (bif (p1_c.N == 0) then some true else (R06_uses p0_k s_N).bind fun x8 => some x8).bind fun x6 => some x6 else some false).bind fun x4 => (bif x4 then (bif (p1_c.Target == 0) then some true else (R06_uses p0_k s_Target).bind fun x13 => some x13).bind fun x11 => some x11 else some false).bind fun x9 => (bif x9 then (bif (!p1_c.Thread) then some true else (R06_uses p0_k s_Thread).bind fun x18 => some x18).bind fun x16 => some x16 else some false).bind fun x14 => (bif x14 then (bif (p1_c.Via.toList == s0.toList) then some true else (R06_uses p0_k s_Via).bind fun x23 => some x23).bind fun x21 => some x21 else some false).bind fun x19 => (bif x19 then (bif ((p1_c.Allow.length : Int) == 0) then some true else (R06_uses p0_k s_Allow).bind fun x28 => some x28).bind fun x26 => some x26 else some false).bind fun x24 => (bif x24 then (bif ((p1_c.Deny.length : Int) == 0) then some true else (R06_uses p0_k s_Deny).bind fun x33 => some x33).bind fun x31 => some x31 else some false).bind fun x29 => (bif x29 then (R06_plain p1_c.Levels).bind fun x36 => (bif x36 then some true else (R06_uses p0_k s_Levels).bind fun x39 => some x39).bind fun x37 => some x37 else some false).bind fun x34 => some x34
theorem R06_only_ok (p0_k : Int) (p1_c : ApiContent) (r : Bool) (h : R06_only p0_k p1_c = some r) : Runs Tryz.prog 141 [.d (eI p0_k), .d (eApiContent p1_c)] [] (.d (eB r)) [] := by
  refine Runs.of_fin Tryz.func141 rfl ?_
  unfold R06_only at h
  refine SP.rg <| .a 2 <| .nil ?_
  refine SP.rg <| .a 3 <| ?_
  obtain ⟨x1, hx1, h⟩ := of_bind h
  refine .merge 4 [8, 9, 10] 11 (.d (eB x1)) ?_ ?_
  · replace h := hx1
    rcases Bool.eq_false_or_eq_true (p1_c.Text.toList == s0.toList) with hb2 | hb2
    · replace h := of_bif_true hb2 h
      refine .c (congrArg some hb2) <| .a 3 <| .nil ?_
      obtain rfl := Option.some.inj h
      kernel_rfl
    · replace h := of_bif_false hb2 h
      obtain ⟨x3, hx3, h⟩ := of_bind h
      refine .c (congrArg some hb2) <| .a 1 <| .call (R06_uses_ok p0_k s_Text x3 hx3) ent159 <| .a 1 <| .nil ?_
      obtain rfl := Option.some.inj h
      kernel_rfl
  refine .a 1 <| ?_
  obtain ⟨x4, hx4, h⟩ := of_bind h
  refine .merge 8 [13, 14, 15, 16, 17, 18, 19] 20 (.d (eB x4)) ?_ ?_
  · replace h := hx4
    cases x1 with
    | true =>
      replace h := of_bif_true rfl h
      refine .a 3 <| ?_
      obtain ⟨x6, hx6, h⟩ := of_bind h
      refine .merge 4 [16, 17, 18] 19 (.d (eB x6)) ?_ ?_
      · replace h := hx6
        rcases Bool.eq_false_or_eq_true (p1_c.N == 0) with hb7 | hb7
        · replace h := of_bif_true hb7 h
          refine .c (congrArg some hb7) <| .a 3 <| .nil ?_
          obtain rfl := Option.some.inj h
          kernel_rfl
        · replace h := of_bif_false hb7 h
          obtain ⟨x8, hx8, h⟩ := of_bind h
          refine .c (congrArg some hb7) <| .a 1 <| .call (R06_uses_ok p0_k s_N x8 hx8) ent159 <| .a 1 <| .nil ?_
          obtain rfl := Option.some.inj h
          kernel_rfl
      refine .a 1 <| .nil ?_
      obtain rfl := Option.some.inj h
      kernel_rfl
    | false =>
      replace h := of_bif_false rfl h
      refine .a 8 <| .nil ?_
      obtain rfl := Option.some.inj h
      kernel_rfl
  refine .a 1 <| ?_
  obtain ⟨x9, hx9, h⟩ := of_bind h
  refine .merge 8 [22, 23, 24, 25, 26, 27, 28] 29 (.d (eB x9)) ?_ ?_
  · replace h := hx9
    cases x4 with
    | true =>
      replace h := of_bif_true rfl h
      refine .a 3 <| ?_
      obtain ⟨x11, hx11, h⟩ := of_bind h
      refine .merge 4 [25, 26, 27] 28 (.d (eB x11)) ?_ ?_
      · replace h := hx11
        rcases Bool.eq_false_or_eq_true (p1_c.Target == 0) with hb12 | hb12
        · replace h := of_bif_true hb12 h
          refine .c (congrArg some hb12) <| .a 3 <| .nil ?_
          obtain rfl := Option.some.inj h
          kernel_rfl
        · replace h := of_bif_false hb12 h
          obtain ⟨x13, hx13, h⟩ := of_bind h
          refine .c (congrArg some hb12) <| .a 1 <| .call (R06_uses_ok p0_k s_Target x13 hx13) ent159 <| .a 1 <| .nil ?_
          obtain rfl := Option.some.inj h
          kernel_rfl
      refine .a 1 <| .nil ?_
      obtain rfl := Option.some.inj h
      kernel_rfl
    | false =>
      replace h := of_bif_false rfl h
      refine .a 8 <| .nil ?_
      obtain rfl := Option.some.inj h
      kernel_rfl
  refine .a 1 <| ?_
  obtain ⟨x14, hx14, h⟩ := of_bind h
  refine .merge 8 [31, 32, 33, 34, 35, 36, 37] 38 (.d (eB x14)) ?_ ?_
  · replace h := hx14
    cases x9 with
    | true =>
      replace h := of_bif_true rfl h
      refine .a 3 <| ?_
      obtain ⟨x16, hx16, h⟩ := of_bind h
      refine .merge 4 [34, 35, 36] 37 (.d (eB x16)) ?_ ?_
      · replace h := hx16
        rcases Bool.eq_false_or_eq_true (!p1_c.Thread) with hb17 | hb17
        · replace h := of_bif_true hb17 h
          refine .c (congrArg some hb17) <| .a 3 <| .nil ?_
          obtain rfl := Option.some.inj h
          kernel_rfl
        · replace h := of_bif_false hb17 h
          obtain ⟨x18, hx18, h⟩ := of_bind h
          refine .c (congrArg some hb17) <| .a 1 <| .call (R06_uses_ok p0_k s_Thread x18 hx18) ent159 <| .a 1 <| .nil ?_
          obtain rfl := Option.some.inj h
          kernel_rfl
      refine .a 1 <| .nil ?_
      obtain rfl := Option.some.inj h
      kernel_rfl
    | false =>
      replace h := of_bif_false rfl h
      refine .a 8 <| .nil ?_
      obtain rfl := Option.some.inj h
      kernel_rfl
  refine .a 1 <| ?_
  obtain ⟨x19, hx19, h⟩ := of_bind h
  refine .merge 8 [40, 41, 42, 43, 44, 45, 46] 47 (.d (eB x19)) ?_ ?_
  · replace h := hx19
    cases x14 with
    | true =>
      replace h := of_bif_true rfl h
      refine .a 3 <| ?_
      obtain ⟨x21, hx21, h⟩ := of_bind h
      refine .merge 4 [43, 44, 45] 46 (.d (eB x21)) ?_ ?_
      · replace h := hx21
        rcases Bool.eq_false_or_eq_true (p1_c.Via.toList == s0.toList) with hb22 | hb22
        · replace h := of_bif_true hb22 h
          refine .c (congrArg some hb22) <| .a 3 <| .nil ?_
          obtain rfl := Option.some.inj h
          kernel_rfl
        · replace h := of_bif_false hb22 h
          obtain ⟨x23, hx23, h⟩ := of_bind h
          refine .c (congrArg some hb22) <| .a 1 <| .call (R06_uses_ok p0_k s_Via x23 hx23) ent159 <| .a 1 <| .nil ?_
          obtain rfl := Option.some.inj h
          kernel_rfl
      refine .a 1 <| .nil ?_
      obtain rfl := Option.some.inj h
      kernel_rfl
    | false =>
      replace h := of_bif_false rfl h
      refine .a 8 <| .nil ?_
      obtain rfl := Option.some.inj h
      kernel_rfl
  refine .a 1 <| ?_
  obtain ⟨x24, hx24, h⟩ := of_bind h
  refine .merge 9 [49, 50, 51, 52, 53, 54, 55, 56] 57 (.d (eB x24)) ?_ ?_
  · replace h := hx24
    cases x19 with
    | true =>
      replace h := of_bif_true rfl h
      refine .a 2 <| .p (ok_lenT eS p1_c.Allow und24 rfl) <| .a 1 <| ?_
      obtain ⟨x26, hx26, h⟩ := of_bind h
      refine .merge 4 [53, 54, 55] 56 (.d (eB x26)) ?_ ?_
      · replace h := hx26
        rcases Bool.eq_false_or_eq_true ((p1_c.Allow.length : Int) == 0) with hb27 | hb27
        · replace h := of_bif_true hb27 h
          refine .c (congrArg some hb27) <| .a 3 <| .nil ?_
          obtain rfl := Option.some.inj h
          kernel_rfl
        · replace h := of_bif_false hb27 h
          obtain ⟨x28, hx28, h⟩ := of_bind h
          refine .c (congrArg some hb27) <| .a 1 <| .call (R06_uses_ok p0_k s_Allow x28 hx28) ent159 <| .a 1 <| .nil ?_
          obtain rfl := Option.some.inj h
          kernel_rfl
      refine .a 1 <| .nil ?_
      obtain rfl := Option.some.inj h
      kernel_rfl
    | false =>
      replace h := of_bif_false rfl h
      refine .a 9 <| .nil ?_
      obtain rfl := Option.some.inj h
      kernel_rfl
  refine .a 1 <| ?_
  obtain ⟨x29, hx29, h⟩ := of_bind h
  refine .merge 9 [59, 60, 61, 62, 63, 64, 65, 66] 67 (.d (eB x29)) ?_ ?_
  · replace h := hx29
    cases x24 with
    | true =>
      replace h := of_bif_true rfl h
      refine .a 2 <| .p (ok_lenT eS p1_c.Deny und24 rfl) <| .a 1 <| ?_
      obtain ⟨x31, hx31, h⟩ := of_bind h
      refine .merge 4 [63, 64, 65] 66 (.d (eB x31)) ?_ ?_
      · replace h := hx31
        rcases Bool.eq_false_or_eq_true ((p1_c.Deny.length : Int) == 0) with hb32 | hb32
        · replace h := of_bif_true hb32 h
          refine .c (congrArg some hb32) <| .a 3 <| .nil ?_
          obtain rfl := Option.some.inj h
          kernel_rfl
        · replace h := of_bif_false hb32 h
          obtain ⟨x33, hx33, h⟩ := of_bind h
          refine .c (congrArg some hb32) <| .a 1 <| .call (R06_uses_ok p0_k s_Deny x33 hx33) ent159 <| .a 1 <| .nil ?_
          obtain rfl := Option.some.inj h
          kernel_rfl
      refine .a 1 <| .nil ?_
      obtain rfl := Option.some.inj h
      kernel_rfl
    | false =>
      replace h := of_bif_false rfl h
      refine .a 9 <| .nil ?_
      obtain rfl := Option.some.inj h
      kernel_rfl
  refine .a 1 <| ?_
  obtain ⟨x34, hx34, h⟩ := of_bind h
  refine .merge 8 [69, 70, 71, 72, 73, 74, 75] 76 (.d (eB x34)) ?_ ?_
  · replace h := hx34
    cases x29 with
    | true =>
      replace h := of_bif_true rfl h
      obtain ⟨x36, hx36, h⟩ := of_bind h
      refine .a 2 <| .call (R06_plain_ok p1_c.Levels x36 hx36) ent160 <| .a 1 <| ?_
      obtain ⟨x37, hx37, h⟩ := of_bind h
      refine .merge 3 [73, 74] 75 (.d (eB x37)) ?_ ?_
      · replace h := hx37
        cases x36 with
        | true =>
          replace h := of_bif_true rfl h
          refine .a 3 <| .nil ?_
          obtain rfl := Option.some.inj h
          kernel_rfl
        | false =>
          replace h := of_bif_false rfl h
          obtain ⟨x39, hx39, h⟩ := of_bind h
          refine .a 1 <| .call (R06_uses_ok p0_k s_Levels x39 hx39) ent159 <| .a 1 <| .nil ?_
          obtain rfl := Option.some.inj h
          kernel_rfl
      refine .a 1 <| .nil ?_
      obtain rfl := Option.some.inj h
      kernel_rfl
    | false =>
      replace h := of_bif_false rfl h
      refine .a 8 <| .nil ?_
      obtain rfl := Option.some.inj h
      kernel_rfl
  refine .a 1 <| .nil ?_
  refine SP.ret ?_
  rw [← Option.some.inj h]
  exact ⟨[.d (eB x34)], [], ⟨resV_tmp (by kernel_rfl), trivial⟩, by kernel_rfl, by kernel_rfl, by kernel_rfl⟩

-- fedchat/fedchatref06.bare
def R06_bare (p0_k : Int) : Option Bool := (bif (p0_k == 7) then some true else some (p0_k == 8)).bind fun x1 => (bif x1 then some true else some (p0_k == 9)).bind fun x3 => (bif x3 then some true else some (p0_k == 10)).bind fun x5 => (bif x5 then some true else some (p0_k == 11)).bind fun x7 => (bif x7 then some true else some (p0_k == 12)).bind fun x9 => (bif x9 then some true else some (p0_k == 13)).bind fun x11 => some x11
theorem R06_bare_ok (p0_k : Int) (r : Bool) (h : R06_bare p0_k = some r) : Runs Tryz.prog 142 [.d (eI p0_k)] [] (.d (eB r)) [] := by
  refine Runs.of_fin Tryz.func142 rfl ?_
  unfold R06_bare at h
  refine SP.rg <| .a 1 <| .nil ?_
  refine SP.rg <| .a 2 <| ?_
  obtain ⟨x1, hx1, h⟩ := of_bind h
  refine .merge 4 [5, 6, 7] 8 (.d (eB x1)) ?_ ?_
  · replace h := hx1
    rcases Bool.eq_false_or_eq_true (p0_k == 7) with hb2 | hb2
    · replace h := of_bif_true hb2 h
      refine .c (congrArg some hb2) <| .a 3 <| .nil ?_
      obtain rfl := Option.some.inj h
      kernel_rfl
    · replace h := of_bif_false hb2 h
      refine .c (congrArg some hb2) <| .a 3 <| .nil ?_
      obtain rfl := Option.some.inj h
      kernel_rfl
  refine .a 1 <| ?_
  obtain ⟨x3, hx3, h⟩ := of_bind h
  refine .merge 3 [10, 11] 12 (.d (eB x3)) ?_ ?_
  · replace h := hx3
    cases x1 with
    | true =>
      replace h := of_bif_true rfl h
      refine .a 3 <| .nil ?_
      obtain rfl := Option.some.inj h
      kernel_rfl
    | false =>
      replace h := of_bif_false rfl h
      refine .a 3 <| .nil ?_
      obtain rfl := Option.some.inj h
      kernel_rfl
  refine .a 1 <| ?_
  obtain ⟨x5, hx5, h⟩ := of_bind h
  refine .merge 3 [14, 15] 16 (.d (eB x5)) ?_ ?_
  · replace h := hx5
    cases x3 with
    | true =>
      replace h := of_bif_true rfl h
      refine .a 3 <| .nil ?_
      obtain rfl := Option.some.inj h
      kernel_rfl
    | false =>
      replace h := of_bif_false rfl h
      refine .a 3 <| .nil ?_
      obtain rfl := Option.some.inj h
      kernel_rfl
  refine .a 1 <| ?_
  obtain ⟨x7, hx7, h⟩ := of_bind h
  refine .merge 3 [18, 19] 20 (.d (eB x7)) ?_ ?_
  · replace h := hx7
    cases x5 with
    | true =>
      replace h := of_bif_true rfl h
      refine .a 3 <| .nil ?_
      obtain rfl := Option.some.inj h
      kernel_rfl
    | false =>
      replace h := of_bif_false rfl h
      refine .a 3 <| .nil ?_
      obtain rfl := Option.some.inj h
      kernel_rfl
  refine .a 1 <| ?_
  obtain ⟨x9, hx9, h⟩ := of_bind h
  refine .merge 3 [22, 23] 24 (.d (eB x9)) ?_ ?_
  · replace h := hx9
    cases x7 with
    | true =>
      replace h := of_bif_true rfl h
      refine .a 3 <| .nil ?_
      obtain rfl := Option.some.inj h
      kernel_rfl
    | false =>
      replace h := of_bif_false rfl h
      refine .a 3 <| .nil ?_
      obtain rfl := Option.some.inj h
      kernel_rfl
  refine .a 1 <| ?_
  obtain ⟨x11, hx11, h⟩ := of_bind h
  refine .merge 3 [26, 27] 28 (.d (eB x11)) ?_ ?_
  · replace h := hx11
    cases x9 with
    | true =>
      replace h := of_bif_true rfl h
      refine .a 3 <| .nil ?_
      obtain rfl := Option.some.inj h
      kernel_rfl
    | false =>
      replace h := of_bif_false rfl h
      refine .a 3 <| .nil ?_
      obtain rfl := Option.some.inj h
      kernel_rfl
  refine .a 1 <| .nil ?_
  refine SP.ret ?_
  rw [← Option.some.inj h]
  exact ⟨[.d (eB x11)], [], ⟨resV_tmp (by kernel_rfl), trivial⟩, by kernel_rfl, by kernel_rfl, by kernel_rfl⟩

-- fedchat/fedchatref03.Check
def R03_Check_S1 (p0_p : ByteArray) (v3 : Int) : St := ⟨shp 26 [(0, .d (eS p0_p)), (3, .d (eI v3))], [], 0⟩
def R03_Check_B1 (p0_p : ByteArray) (k4 : (Int → Option Int)) : Int → Option Int := fun v3 => (bif decide (v3 < (p0_p.size : Int)) then (gByte p0_p v3).bind fun x6 => (bif decide (x6 < 33) then some true else (gByte p0_p v3).bind fun x9 => some (decide (x9 > 126))).bind fun x7 => (bif x7 then some 3 else k4 (IntKind.i64.wrap (v3 + 1))) else some 0)
def R03_Check_L1 (p0_p : ByteArray) : Int → Option Int := loop1 (R03_Check_B1 p0_p) fuel
def R03_Check (p0_p : ByteArray) : Option Int := (bif ((p0_p.size : Int) == 0) then some 9 else (bif decide ((p0_p.size : Int) > 64) then some 7 else R03_Check_L1 p0_p 0))
theorem R03_Check_ok (p0_p : ByteArray) (r : Int) (h : R03_Check p0_p = some r) : Runs Tryz.prog 161 [.d (eS p0_p)] [] (.d (eI r)) [] := by
  refine Runs.of_fin Tryz.func161 rfl ?_
  unfold R03_Check at h
  refine SP.rg <| .a 1 <| .nil ?_
  refine SP.seqc ?_
  refine SP.rg <| .a 3 <| .nil ?_
  refine SP.cond ((p0_p.size : Int) == 0) (by kernel_rfl) (fun hb1 => ?_) (fun hb1 => ?_)
  · replace h := of_bif_true hb1 h
    refine SP.rg <| .a 1 <| .nil ?_
    refine SP.ret ?_
    rw [← Option.some.inj h]
    exact ⟨[.d (eI 9)], [], ⟨resV_tmp (by kernel_rfl), trivial⟩, by kernel_rfl, by kernel_rfl, by kernel_rfl⟩
  · replace h := of_bif_false hb1 h
    refine SP.skip ?_
    refine SP.seqc ?_
    refine SP.rg <| .a 3 <| .nil ?_
    refine SP.cond (decide ((p0_p.size : Int) > 64)) (by kernel_rfl) (fun hb2 => ?_) (fun hb2 => ?_)
    · replace h := of_bif_true hb2 h
      refine SP.rg <| .a 1 <| .nil ?_
      refine SP.ret ?_
      rw [← Option.some.inj h]
      exact ⟨[.d (eI 7)], [], ⟨resV_tmp (by kernel_rfl), trivial⟩, by kernel_rfl, by kernel_rfl, by kernel_rfl⟩
    · replace h := of_bif_false hb2 h
      refine SP.skip ?_
      refine SP.seqc ?_
      refine SP.rg <| .a 1 <| .nil ?_
      refine SP.block ?_
      refine SP.loop1 (R03_Check_S1 p0_p) (R03_Check_B1 p0_p) r 0 (sub_of (mk 26 9) []) h ?_
      clear h
      intro J11 k4 hk4 v3 h
      unfold R03_Check_B1 at h
      refine SP.seqc ?_
      refine SP.rg <| .a 4 <| .nil ?_
      refine SP.cond (decide (v3 < (p0_p.size : Int))) (by kernel_rfl) (fun hb5 => ?_) (fun hb5 => ?_)
      · replace h := of_bif_true hb5 h
        refine SP.skip ?_
        refine SP.seqc ?_
        refine SP.block ?_
        obtain ⟨x6, hx6, h⟩ := of_bind h
        refine SP.rg <| .a 2 <| .p (ok_byteT (k := .i64) hx6 und9 rfl) <| .a 1 <| ?_
        obtain ⟨x7, hx7, h⟩ := of_bind h
        refine .merge 6 [20, 21, 22, 23, 24] 25 (.d (eB x7)) ?_ ?_
        · replace h := hx7
          rcases Bool.eq_false_or_eq_true (decide (x6 < 33)) with hb8 | hb8
          · replace h := of_bif_true hb8 h
            refine .c (congrArg some hb8) <| .a 5 <| .nil ?_
            obtain rfl := Option.some.inj h
            kernel_rfl
          · replace h := of_bif_false hb8 h
            obtain ⟨x9, hx9, h⟩ := of_bind h
            refine .c (congrArg some hb8) <| .a 2 <| .p (ok_byteT (k := .i64) hx9 und9 rfl) <| .a 2 <| .nil ?_
            obtain rfl := Option.some.inj h
            kernel_rfl
        refine .nil ?_
        refine SP.cond x7 (by kernel_rfl) (fun hb10 => ?_) (fun hb10 => ?_)
        · replace h := of_bif_true hb10 h
          refine SP.rg <| .a 1 <| .nil ?_
          refine SP.ret ?_
          rw [← Option.some.inj h]
          exact ⟨[.d (eI 3)], [], ⟨resV_tmp (by kernel_rfl), trivial⟩, by kernel_rfl, by kernel_rfl, by kernel_rfl⟩
        · replace h := of_bif_false hb10 h
          refine SP.skip ?_
          refine SP.rgn <| .a 3 <| .nil ?_
          exact hk4 _ (IntKind.i64.wrap (v3 + 1)) (sub_of (mk 26 9) []) h
      · replace h := of_bif_false hb5 h
        refine SP.exit ?_
        refine SP.rg <| .a 1 <| .nil ?_
        refine SP.ret ?_
        rw [← Option.some.inj h]
        exact ⟨[.d (eI 0)], [], ⟨resV_tmp (by kernel_rfl), trivial⟩, by kernel_rfl, by kernel_rfl, by kernel_rfl⟩

-- fedchat/fedchatref06.text
def R06_text (p0_k : Int) (p1_c : ApiContent) : Option Int := (bif (p0_k == 9) then (bif (p1_c.Text.toList == s0.toList) then some 0 else (R03_Check p1_c.Text).bind fun x3 => some x3) else (bif (p0_k == 12) then some (p1_c.Text.toList == s0.toList) else some false).bind fun x4 => (bif x4 then some 9 else (bif decide ((p1_c.Text.size : Int) > 400) then some true else (bif (p0_k == 12) then some (decide ((p1_c.Text.size : Int) > 32)) else some false).bind fun x9 => some x9).bind fun x7 => (bif x7 then some 7 else some 0)))
theorem R06_text_ok (p0_k : Int) (p1_c : ApiContent) (r : Int) (h : R06_text p0_k p1_c = some r) : Runs Tryz.prog 143 [.d (eI p0_k), .d (eApiContent p1_c)] [] (.d (eI r)) [] := by
  refine Runs.of_fin Tryz.func143 rfl ?_
  unfold R06_text at h
  refine SP.rg <| .a 2 <| .nil ?_
  refine SP.seqc ?_
  refine SP.rg <| .a 2 <| .nil ?_
  refine SP.cond (p0_k == 9) (by kernel_rfl) (fun hb1 => ?_) (fun hb1 => ?_)
  · replace h := of_bif_true hb1 h
    refine SP.seqc ?_
    refine SP.rg <| .a 3 <| .nil ?_
    refine SP.cond (p1_c.Text.toList == s0.toList) (by kernel_rfl) (fun hb2 => ?_) (fun hb2 => ?_)
    · replace h := of_bif_true hb2 h
      refine SP.rg <| .a 1 <| .nil ?_
      refine SP.ret ?_
      rw [← Option.some.inj h]
      exact ⟨[.d (eI 0)], [], ⟨resV_tmp (by kernel_rfl), trivial⟩, by kernel_rfl, by kernel_rfl, by kernel_rfl⟩
    · replace h := of_bif_false hb2 h
      refine SP.skip ?_
      obtain ⟨x3, hx3, h⟩ := of_bind h
      refine SP.rg <| .a 2 <| .call (R03_Check_ok p1_c.Text x3 hx3) ent161 <| .a 1 <| .nil ?_
      refine SP.ret ?_
      rw [← Option.some.inj h]
      exact ⟨[.d (eI x3)], [], ⟨resV_tmp (by kernel_rfl), trivial⟩, by kernel_rfl, by kernel_rfl, by kernel_rfl⟩
  · replace h := of_bif_false hb1 h
    refine SP.skip ?_
    refine SP.seqc ?_
    refine SP.rg <| .a 2 <| ?_
    obtain ⟨x4, hx4, h⟩ := of_bind h
    refine .merge 5 [15, 16, 17, 18] 19 (.d (eB x4)) ?_ ?_
    · replace h := hx4
      rcases Bool.eq_false_or_eq_true (p0_k == 12) with hb5 | hb5
      · replace h := of_bif_true hb5 h
        refine .c (congrArg some hb5) <| .a 4 <| .nil ?_
        obtain rfl := Option.some.inj h
        kernel_rfl
      · replace h := of_bif_false hb5 h
        refine .c (congrArg some hb5) <| .a 4 <| .nil ?_
        obtain rfl := Option.some.inj h
        kernel_rfl
    refine .nil ?_
    refine SP.cond x4 (by kernel_rfl) (fun hb6 => ?_) (fun hb6 => ?_)
    · replace h := of_bif_true hb6 h
      refine SP.rg <| .a 1 <| .nil ?_
      refine SP.ret ?_
      rw [← Option.some.inj h]
      exact ⟨[.d (eI 9)], [], ⟨resV_tmp (by kernel_rfl), trivial⟩, by kernel_rfl, by kernel_rfl, by kernel_rfl⟩
    · replace h := of_bif_false hb6 h
      refine SP.skip ?_
      refine SP.seqc ?_
      refine SP.rg <| .a 4 <| ?_
      obtain ⟨x7, hx7, h⟩ := of_bind h
      refine .merge 10 [24, 25, 26, 27, 28, 29, 30, 31, 32] 33 (.d (eB x7)) ?_ ?_
      · replace h := hx7
        rcases Bool.eq_false_or_eq_true (decide ((p1_c.Text.size : Int) > 400)) with hb8 | hb8
        · replace h := of_bif_true hb8 h
          refine .c (congrArg some hb8) <| .a 9 <| .nil ?_
          obtain rfl := Option.some.inj h
          kernel_rfl
        · replace h := of_bif_false hb8 h
          refine .c (congrArg some hb8) <| .a 2 <| ?_
          obtain ⟨x9, hx9, h⟩ := of_bind h
          refine .merge 6 [27, 28, 29, 30, 31] 32 (.d (eB x9)) ?_ ?_
          · replace h := hx9
            rcases Bool.eq_false_or_eq_true (p0_k == 12) with hb10 | hb10
            · replace h := of_bif_true hb10 h
              refine .c (congrArg some hb10) <| .a 5 <| .nil ?_
              obtain rfl := Option.some.inj h
              kernel_rfl
            · replace h := of_bif_false hb10 h
              refine .c (congrArg some hb10) <| .a 5 <| .nil ?_
              obtain rfl := Option.some.inj h
              kernel_rfl
          refine .a 1 <| .nil ?_
          obtain rfl := Option.some.inj h
          kernel_rfl
      refine .nil ?_
      refine SP.cond x7 (by kernel_rfl) (fun hb11 => ?_) (fun hb11 => ?_)
      · replace h := of_bif_true hb11 h
        refine SP.rg <| .a 1 <| .nil ?_
        refine SP.ret ?_
        rw [← Option.some.inj h]
        exact ⟨[.d (eI 7)], [], ⟨resV_tmp (by kernel_rfl), trivial⟩, by kernel_rfl, by kernel_rfl, by kernel_rfl⟩
      · replace h := of_bif_false hb11 h
        refine SP.skip ?_
        refine SP.rg <| .a 1 <| .nil ?_
        refine SP.ret ?_
        rw [← Option.some.inj h]
        exact ⟨[.d (eI 0)], [], ⟨resV_tmp (by kernel_rfl), trivial⟩, by kernel_rfl, by kernel_rfl, by kernel_rfl⟩

-- fedchat/fedchatref06.number
def R06_number_S1 (v1 : Bool) : St := ⟨shp 54 [(5, .d (eB v1))], [], 0⟩
def R06_number_S2 (p1_n : Int) (p0_k : Int) (v7 : Bool) : St := ⟨shp 54 [(1, .d (eI p1_n)), (5, .d (eB true)), (6, .d (eI p0_k)), (15, .d (eB v7))], [], 0⟩
def R06_number_j1 (v1 : Bool) : Option Int := (bif (!v1) then some 2 else some 0)
def R06_number_j2 (p1_n : Int) (p0_k : Int) (v7 : Bool) : Option Int := (bif v7 then (bif decide (p1_n ≥ 0) then some (decide (p1_n ≤ 3)) else some false).bind fun x9 => R06_number_j1 x9 else (bif (p0_k == 8) then (bif decide (p1_n ≥ 0) then some (decide (p1_n ≤ 1000000000)) else some false).bind fun x12 => R06_number_j1 x12 else (bif (p0_k == 10) then (bif decide (p1_n ≥ 1) then some (decide (p1_n ≤ 10000)) else some false).bind fun x15 => R06_number_j1 x15 else (bif (p0_k == 9) then (bif (p1_n == 1) then some true else some (p1_n == 2)).bind fun x18 => (bif x18 then some true else some (p1_n == 6)).bind fun x20 => R06_number_j1 x20 else R06_number_j1 true))))
def R06_number (p0_k : Int) (p1_n : Int) : Option Int := (bif (p0_k == 2) then (bif decide (p1_n ≥ 0) then some (decide (p1_n ≤ 4)) else some false).bind fun x5 => R06_number_j1 x5 else (bif (p0_k == 4) then R06_number_j2 p1_n p0_k (p0_k == 4) else R06_number_j2 p1_n p0_k (p0_k == 5)))
theorem R06_number_ok (p0_k : Int) (p1_n : Int) (r : Int) (h : R06_number p0_k p1_n = some r) : Runs Tryz.prog 144 [.d (eI p0_k), .d (eI p1_n)] [] (.d (eI r)) [] := by
  refine Runs.of_fin Tryz.func144 rfl ?_
  unfold R06_number at h
  refine SP.rg <| .a 1 <| .nil ?_
  refine SP.rg <| .a 1 <| .nil ?_
  refine SP.join (fun s => ∃ (v1 : Bool), Sub s (R06_number_S1 v1) ∧ R06_number_j1 v1 = some r) ?_ ?_
  · clear h
    rintro s ⟨v1, hs, h⟩
    refine SP.sub hs ?_
    clear hs
    unfold R06_number_j1 at h
    refine SP.seqc ?_
    refine SP.rg <| .a 2 <| .nil ?_
    refine SP.cond (!v1) (by kernel_rfl) (fun hb2 => ?_) (fun hb2 => ?_)
    · replace h := of_bif_true hb2 h
      refine SP.rg <| .a 1 <| .nil ?_
      refine SP.ret ?_
      rw [← Option.some.inj h]
      exact ⟨[.d (eI 2)], [], ⟨resV_tmp (by kernel_rfl), trivial⟩, by kernel_rfl, by kernel_rfl, by kernel_rfl⟩
    · replace h := of_bif_false hb2 h
      refine SP.skip ?_
      refine SP.rg <| .a 1 <| .nil ?_
      refine SP.ret ?_
      rw [← Option.some.inj h]
      exact ⟨[.d (eI 0)], [], ⟨resV_tmp (by kernel_rfl), trivial⟩, by kernel_rfl, by kernel_rfl, by kernel_rfl⟩
  · intro K3
    refine SP.rg <| .a 1 <| .nil ?_
    refine SP.block ?_
    refine SP.rg <| .a 2 <| .nil ?_
    refine SP.cond (p0_k == 2) (by kernel_rfl) (fun hb4 => ?_) (fun hb4 => ?_)
    · replace h := of_bif_true hb4 h
      refine SP.rgn <| .a 2 <| ?_
      obtain ⟨x5, hx5, h⟩ := of_bind h
      refine .merge 4 [11, 12, 13] 14 (.d (eB x5)) ?_ ?_
      · replace h := hx5
        rcases Bool.eq_false_or_eq_true (decide (p1_n ≥ 0)) with hb6 | hb6
        · replace h := of_bif_true hb6 h
          refine .c (congrArg some hb6) <| .a 3 <| .nil ?_
          obtain rfl := Option.some.inj h
          kernel_rfl
        · replace h := of_bif_false hb6 h
          refine .c (congrArg some hb6) <| .a 3 <| .nil ?_
          obtain rfl := Option.some.inj h
          kernel_rfl
      refine .a 1 <| .nil ?_
      exact K3 _ ⟨x5, sub_of (mk 54 32) [], h⟩
    · replace h := of_bif_false hb4 h
      refine SP.join (fun s => ∃ (v7 : Bool), Sub s (R06_number_S2 p1_n p0_k v7) ∧ R06_number_j2 p1_n p0_k v7 = some r) ?_ ?_
      · clear h
        rintro s ⟨v7, hs, h⟩
        refine SP.sub hs ?_
        clear hs
        unfold R06_number_j2 at h
        refine SP.cond v7 (by kernel_rfl) (fun hb8 => ?_) (fun hb8 => ?_)
        · replace h := of_bif_true hb8 h
          refine SP.rgn <| .a 2 <| ?_
          obtain ⟨x9, hx9, h⟩ := of_bind h
          refine .merge 4 [20, 21, 22] 23 (.d (eB x9)) ?_ ?_
          · replace h := hx9
            rcases Bool.eq_false_or_eq_true (decide (p1_n ≥ 0)) with hb10 | hb10
            · replace h := of_bif_true hb10 h
              refine .c (congrArg some hb10) <| .a 3 <| .nil ?_
              obtain rfl := Option.some.inj h
              kernel_rfl
            · replace h := of_bif_false hb10 h
              refine .c (congrArg some hb10) <| .a 3 <| .nil ?_
              obtain rfl := Option.some.inj h
              kernel_rfl
          refine .a 1 <| .nil ?_
          exact K3 _ ⟨x9, sub_of (mk 54 32) [], h⟩
        · replace h := of_bif_false hb8 h
          refine SP.rg <| .a 2 <| .nil ?_
          refine SP.cond (p0_k == 8) (by kernel_rfl) (fun hb11 => ?_) (fun hb11 => ?_)
          · replace h := of_bif_true hb11 h
            refine SP.rgn <| .a 2 <| ?_
            obtain ⟨x12, hx12, h⟩ := of_bind h
            refine .merge 4 [28, 29, 30] 31 (.d (eB x12)) ?_ ?_
            · replace h := hx12
              rcases Bool.eq_false_or_eq_true (decide (p1_n ≥ 0)) with hb13 | hb13
              · replace h := of_bif_true hb13 h
                refine .c (congrArg some hb13) <| .a 3 <| .nil ?_
                obtain rfl := Option.some.inj h
                kernel_rfl
              · replace h := of_bif_false hb13 h
                refine .c (congrArg some hb13) <| .a 3 <| .nil ?_
                obtain rfl := Option.some.inj h
                kernel_rfl
            refine .a 1 <| .nil ?_
            exact K3 _ ⟨x12, sub_of (mk 54 32) [], h⟩
          · replace h := of_bif_false hb11 h
            refine SP.rg <| .a 2 <| .nil ?_
            refine SP.cond (p0_k == 10) (by kernel_rfl) (fun hb14 => ?_) (fun hb14 => ?_)
            · replace h := of_bif_true hb14 h
              refine SP.rgn <| .a 2 <| ?_
              obtain ⟨x15, hx15, h⟩ := of_bind h
              refine .merge 4 [36, 37, 38] 39 (.d (eB x15)) ?_ ?_
              · replace h := hx15
                rcases Bool.eq_false_or_eq_true (decide (p1_n ≥ 1)) with hb16 | hb16
                · replace h := of_bif_true hb16 h
                  refine .c (congrArg some hb16) <| .a 3 <| .nil ?_
                  obtain rfl := Option.some.inj h
                  kernel_rfl
                · replace h := of_bif_false hb16 h
                  refine .c (congrArg some hb16) <| .a 3 <| .nil ?_
                  obtain rfl := Option.some.inj h
                  kernel_rfl
              refine .a 1 <| .nil ?_
              exact K3 _ ⟨x15, sub_of (mk 54 32) [], h⟩
            · replace h := of_bif_false hb14 h
              refine SP.rg <| .a 2 <| .nil ?_
              refine SP.cond (p0_k == 9) (by kernel_rfl) (fun hb17 => ?_) (fun hb17 => ?_)
              · replace h := of_bif_true hb17 h
                refine SP.rgn <| .a 2 <| ?_
                obtain ⟨x18, hx18, h⟩ := of_bind h
                refine .merge 4 [44, 45, 46] 47 (.d (eB x18)) ?_ ?_
                · replace h := hx18
                  rcases Bool.eq_false_or_eq_true (p1_n == 1) with hb19 | hb19
                  · replace h := of_bif_true hb19 h
                    refine .c (congrArg some hb19) <| .a 3 <| .nil ?_
                    obtain rfl := Option.some.inj h
                    kernel_rfl
                  · replace h := of_bif_false hb19 h
                    refine .c (congrArg some hb19) <| .a 3 <| .nil ?_
                    obtain rfl := Option.some.inj h
                    kernel_rfl
                refine .a 1 <| ?_
                obtain ⟨x20, hx20, h⟩ := of_bind h
                refine .merge 3 [49, 50] 51 (.d (eB x20)) ?_ ?_
                · replace h := hx20
                  cases x18 with
                  | true =>
                    replace h := of_bif_true rfl h
                    refine .a 3 <| .nil ?_
                    obtain rfl := Option.some.inj h
                    kernel_rfl
                  | false =>
                    replace h := of_bif_false rfl h
                    refine .a 3 <| .nil ?_
                    obtain rfl := Option.some.inj h
                    kernel_rfl
                refine .a 1 <| .nil ?_
                exact K3 _ ⟨x20, sub_of (mk 54 32) [], h⟩
              · replace h := of_bif_false hb17 h
                refine SP.skip ?_
                exact K3 _ ⟨true, sub_of (mk 54 32) [], h⟩
      · intro K22
        refine SP.rg <| .a 2 <| .nil ?_
        refine SP.cond (p0_k == 4) (by kernel_rfl) (fun hb23 => ?_) (fun hb23 => ?_)
        · replace h := of_bif_true hb23 h
          refine SP.skip ?_
          exact K22 _ ⟨(p0_k == 4), sub_of (mk 54 32866) [], h⟩
        · replace h := of_bif_false hb23 h
          refine SP.rgn <| .a 2 <| .nil ?_
          exact K22 _ ⟨(p0_k == 5), sub_of (mk 54 32866) [], h⟩

-- fedchat/fedchatref06.target
def R06_target (p0_k : Int) (p1_c : ApiContent) : Option Int := (R06_uses p0_k s_Target).bind fun x1 => (bif x1 then (bif decide (p1_c.Target < 0) then some true else (bif (p1_c.Target == 0) then some (p0_k != 11) else some false).bind fun x6 => some x6).bind fun x4 => some x4 else some false).bind fun x2 => (bif x2 then some 2 else (bif p1_c.Thread then some (p1_c.Target == 0) else some false).bind fun x9 => (bif x9 then some 1 else some 0))
theorem R06_target_ok (p0_k : Int) (p1_c : ApiContent) (r : Int) (h : R06_target p0_k p1_c = some r) : Runs Tryz.prog 145 [.d (eI p0_k), .d (eApiContent p1_c)] [] (.d (eI r)) [] := by
  refine Runs.of_fin Tryz.func145 rfl ?_
  unfold R06_target at h
  refine SP.rg <| .a 2 <| .nil ?_
  refine SP.seqc ?_
  obtain ⟨x1, hx1, h⟩ := of_bind h
  refine SP.rg <| .a 1 <| .call (R06_uses_ok p0_k s_Target x1 hx1) ent159 <| .a 1 <| ?_
  obtain ⟨x2, hx2, h⟩ := of_bind h
  refine .merge 13 [8, 9, 10, 11, 12, 13, 14, 15, 16, 17, 18, 19] 20 (.d (eB x2)) ?_ ?_
  · replace h := hx2
    cases x1 with
    | true =>
      replace h := of_bif_true rfl h
      refine .a 3 <| ?_
      obtain ⟨x4, hx4, h⟩ := of_bind h
      refine .merge 9 [11, 12, 13, 14, 15, 16, 17, 18] 19 (.d (eB x4)) ?_ ?_
      · replace h := hx4
        rcases Bool.eq_false_or_eq_true (decide (p1_c.Target < 0)) with hb5 | hb5
        · replace h := of_bif_true hb5 h
          refine .c (congrArg some hb5) <| .a 8 <| .nil ?_
          obtain rfl := Option.some.inj h
          kernel_rfl
        · replace h := of_bif_false hb5 h
          refine .c (congrArg some hb5) <| .a 3 <| ?_
          obtain ⟨x6, hx6, h⟩ := of_bind h
          refine .merge 4 [15, 16, 17] 18 (.d (eB x6)) ?_ ?_
          · replace h := hx6
            rcases Bool.eq_false_or_eq_true (p1_c.Target == 0) with hb7 | hb7
            · replace h := of_bif_true hb7 h
              refine .c (congrArg some hb7) <| .a 3 <| .nil ?_
              obtain rfl := Option.some.inj h
              kernel_rfl
            · replace h := of_bif_false hb7 h
              refine .c (congrArg some hb7) <| .a 3 <| .nil ?_
              obtain rfl := Option.some.inj h
              kernel_rfl
          refine .a 1 <| .nil ?_
          obtain rfl := Option.some.inj h
          kernel_rfl
      refine .a 1 <| .nil ?_
      obtain rfl := Option.some.inj h
      kernel_rfl
    | false =>
      replace h := of_bif_false rfl h
      refine .a 13 <| .nil ?_
      obtain rfl := Option.some.inj h
      kernel_rfl
  refine .nil ?_
  refine SP.cond x2 (by kernel_rfl) (fun hb8 => ?_) (fun hb8 => ?_)
  · replace h := of_bif_true hb8 h
    refine SP.rg <| .a 1 <| .nil ?_
    refine SP.ret ?_
    rw [← Option.some.inj h]
    exact ⟨[.d (eI 2)], [], ⟨resV_tmp (by kernel_rfl), trivial⟩, by kernel_rfl, by kernel_rfl, by kernel_rfl⟩
  · replace h := of_bif_false hb8 h
    refine SP.skip ?_
    refine SP.seqc ?_
    refine SP.rg <| .a 2 <| ?_
    obtain ⟨x9, hx9, h⟩ := of_bind h
    refine .merge 5 [23, 24, 25, 26] 27 (.d (eB x9)) ?_ ?_
    · replace h := hx9
      rcases Bool.eq_false_or_eq_true p1_c.Thread with hb10 | hb10
      · replace h := of_bif_true hb10 h
        refine .c (congrArg some hb10) <| .a 4 <| .nil ?_
        obtain rfl := Option.some.inj h
        kernel_rfl
      · replace h := of_bif_false hb10 h
        refine .c (congrArg some hb10) <| .a 4 <| .nil ?_
        obtain rfl := Option.some.inj h
        kernel_rfl
    refine .nil ?_
    refine SP.cond x9 (by kernel_rfl) (fun hb11 => ?_) (fun hb11 => ?_)
    · replace h := of_bif_true hb11 h
      refine SP.rg <| .a 1 <| .nil ?_
      refine SP.ret ?_
      rw [← Option.some.inj h]
      exact ⟨[.d (eI 1)], [], ⟨resV_tmp (by kernel_rfl), trivial⟩, by kernel_rfl, by kernel_rfl, by kernel_rfl⟩
    · replace h := of_bif_false hb11 h
      refine SP.skip ?_
      refine SP.rg <| .a 1 <| .nil ?_
      refine SP.ret ?_
      rw [← Option.some.inj h]
      exact ⟨[.d (eI 0)], [], ⟨resV_tmp (by kernel_rfl), trivial⟩, by kernel_rfl, by kernel_rfl, by kernel_rfl⟩

-- fedchat/fedchatref06.via
def R06_via (p0_c : ApiContent) : Option Int := (bif (p0_c.Via.toList == s0.toList) then some 0 else (bif (p0_c.N != 3) then some 1 else (R02_User p0_c.Via).bind fun x3 => some x3))
theorem R06_via_ok (p0_c : ApiContent) (r : Int) (h : R06_via p0_c = some r) : Runs Tryz.prog 146 [.d (eApiContent p0_c)] [] (.d (eI r)) [] := by
  refine Runs.of_fin Tryz.func146 rfl ?_
  unfold R06_via at h
  refine SP.rg <| .a 2 <| .nil ?_
  refine SP.seqc ?_
  refine SP.rg <| .a 3 <| .nil ?_
  refine SP.cond (p0_c.Via.toList == s0.toList) (by kernel_rfl) (fun hb1 => ?_) (fun hb1 => ?_)
  · replace h := of_bif_true hb1 h
    refine SP.rg <| .a 1 <| .nil ?_
    refine SP.ret ?_
    rw [← Option.some.inj h]
    exact ⟨[.d (eI 0)], [], ⟨resV_tmp (by kernel_rfl), trivial⟩, by kernel_rfl, by kernel_rfl, by kernel_rfl⟩
  · replace h := of_bif_false hb1 h
    refine SP.skip ?_
    refine SP.seqc ?_
    refine SP.rg <| .a 3 <| .nil ?_
    refine SP.cond (p0_c.N != 3) (by kernel_rfl) (fun hb2 => ?_) (fun hb2 => ?_)
    · replace h := of_bif_true hb2 h
      refine SP.rg <| .a 1 <| .nil ?_
      refine SP.ret ?_
      rw [← Option.some.inj h]
      exact ⟨[.d (eI 1)], [], ⟨resV_tmp (by kernel_rfl), trivial⟩, by kernel_rfl, by kernel_rfl, by kernel_rfl⟩
    · replace h := of_bif_false hb2 h
      refine SP.skip ?_
      obtain ⟨x3, hx3, h⟩ := of_bind h
      refine SP.rg <| .a 2 <| .call (R02_User_ok p0_c.Via x3 hx3) ent137 <| .a 1 <| .nil ?_
      refine SP.ret ?_
      rw [← Option.some.inj h]
      exact ⟨[.d (eI x3)], [], ⟨resV_tmp (by kernel_rfl), trivial⟩, by kernel_rfl, by kernel_rfl, by kernel_rfl⟩

-- fedchat/fedchatref06.rooms
def R06_rooms_S1 (p0_c : ApiContent) (v5 : Int) : St := ⟨shp 47 [(1, .ptr 0 0), (3, .d (eI v5))], [.box (dc (eApiContent p0_c))], 0⟩
def R06_rooms_S2 (v5 : Int) (p0_c : ApiContent) (v11 : Bool) : St := ⟨shp 47 [(1, .ptr 0 0), (3, .d (eI v5)), (46, .d (eB v11))], [.box (dc (eApiContent p0_c))], 0⟩
def R06_rooms_j2 (k6 : (Int → Option Int)) (v5 : Int) (v11 : Bool) : Option Int := (bif v11 then some 8 else k6 (IntKind.i64.wrap (v5 + 1)))
def R06_rooms_B1 (p0_c : ApiContent) (k6 : (Int → Option Int)) : Int → Option Int := fun v5 => (bif decide (v5 < (p0_c.Allow.length : Int)) then (gIdx p0_c.Allow v5).bind fun x8 => (R02_Room x8).bind fun x9 => (bif (x9 != 0) then some 3 else (bif decide (v5 > 0) then (gIdx p0_c.Allow v5).bind fun x15 => (gIdx p0_c.Allow (IntKind.i64.wrap (v5 - 1))).bind fun x16 => R06_rooms_j2 k6 v5 (Op.bytesLess (x15.toList) (x16.toList) || x15.toList == x16.toList) else R06_rooms_j2 k6 v5 false)) else some 0)
def R06_rooms_L1 (p0_c : ApiContent) : Int → Option Int := loop1 (R06_rooms_B1 p0_c) fuel
def R06_rooms (p0_c : ApiContent) : Option Int := (bif decide ((p0_c.Allow.length : Int) > 0) then some (p0_c.N != 3) else some false).bind fun x1 => (bif x1 then some 1 else (bif decide ((p0_c.Allow.length : Int) > 100) then some 7 else R06_rooms_L1 p0_c 0))
theorem R06_rooms_ok (p0_c : ApiContent) (r : Int) (h : R06_rooms p0_c = some r) : Runs Tryz.prog 147 [.d (eApiContent p0_c)] [] (.d (eI r)) [] := by
  refine Runs.of_fin Tryz.func147 rfl ?_
  unfold R06_rooms at h
  refine SP.rg <| .a 2 <| .nil ?_
  refine SP.seqc ?_
  refine SP.rg <| .a 2 <| .p (ok_lenT eS p0_c.Allow und24 rfl) <| .a 1 <| ?_
  obtain ⟨x1, hx1, h⟩ := of_bind h
  refine .merge 5 [8, 9, 10, 11] 12 (.d (eB x1)) ?_ ?_
  · replace h := hx1
    rcases Bool.eq_false_or_eq_true (decide ((p0_c.Allow.length : Int) > 0)) with hb2 | hb2
    · replace h := of_bif_true hb2 h
      refine .c (congrArg some hb2) <| .a 4 <| .nil ?_
      obtain rfl := Option.some.inj h
      kernel_rfl
    · replace h := of_bif_false hb2 h
      refine .c (congrArg some hb2) <| .a 4 <| .nil ?_
      obtain rfl := Option.some.inj h
      kernel_rfl
  refine .nil ?_
  refine SP.cond x1 (by kernel_rfl) (fun hb3 => ?_) (fun hb3 => ?_)
  · replace h := of_bif_true hb3 h
    refine SP.rg <| .a 1 <| .nil ?_
    refine SP.ret ?_
    rw [← Option.some.inj h]
    exact ⟨[.d (eI 1)], [], ⟨resV_tmp (by kernel_rfl), trivial⟩, by kernel_rfl, by kernel_rfl, by kernel_rfl⟩
  · replace h := of_bif_false hb3 h
    refine SP.skip ?_
    refine SP.seqc ?_
    refine SP.rg <| .a 2 <| .p (ok_lenT eS p0_c.Allow und24 rfl) <| .a 1 <| .nil ?_
    refine SP.cond (decide ((p0_c.Allow.length : Int) > 100)) (by kernel_rfl) (fun hb4 => ?_) (fun hb4 => ?_)
    · replace h := of_bif_true hb4 h
      refine SP.rg <| .a 1 <| .nil ?_
      refine SP.ret ?_
      rw [← Option.some.inj h]
      exact ⟨[.d (eI 7)], [], ⟨resV_tmp (by kernel_rfl), trivial⟩, by kernel_rfl, by kernel_rfl, by kernel_rfl⟩
    · replace h := of_bif_false hb4 h
      refine SP.skip ?_
      refine SP.seqc ?_
      refine SP.rg <| .a 1 <| .nil ?_
      refine SP.block ?_
      refine SP.loop1 (R06_rooms_S1 p0_c) (R06_rooms_B1 p0_c) r 0 (sub_of (mk 47 10) [(0, true)]) h ?_
      clear h
      intro J17 k6 hk6 v5 h
      unfold R06_rooms_B1 at h
      refine SP.seqc ?_
      refine SP.rg <| .a 3 <| .p (ok_lenT eS p0_c.Allow und24 rfl) <| .a 1 <| .nil ?_
      refine SP.cond (decide (v5 < (p0_c.Allow.length : Int))) (by kernel_rfl) (fun hb7 => ?_) (fun hb7 => ?_)
      · replace h := of_bif_true hb7 h
        refine SP.skip ?_
        refine SP.seqc ?_
        refine SP.block ?_
        refine SP.seqc ?_
        obtain ⟨x8, hx8, h⟩ := of_bind h
        obtain ⟨x9, hx9, h⟩ := of_bind h
        refine SP.rg <| .a 3 <| .p (ok_idxT (k := .i64) eS hx8 und24 ty9 (by kernel_rfl) rfl) <| .a 1 <| .call (R02_Room_ok x8 x9 hx9) ent136 <| .a 1 <| .nil ?_
        refine SP.cond (x9 != 0) (by kernel_rfl) (fun hb10 => ?_) (fun hb10 => ?_)
        · replace h := of_bif_true hb10 h
          refine SP.rg <| .a 1 <| .nil ?_
          refine SP.ret ?_
          rw [← Option.some.inj h]
          exact ⟨[.d (eI 3)], [], ⟨resV_tmp (by kernel_rfl), trivial⟩, by kernel_rfl, by kernel_rfl, by kernel_rfl⟩
        · replace h := of_bif_false hb10 h
          refine SP.skip ?_
          refine SP.join (fun s => ∃ (v11 : Bool), Sub s (R06_rooms_S2 v5 p0_c v11) ∧ R06_rooms_j2 k6 v5 v11 = some r) ?_ ?_
          · clear h
            rintro s ⟨v11, hs, h⟩
            refine SP.sub hs ?_
            clear hs
            unfold R06_rooms_j2 at h
            refine SP.cond v11 (by kernel_rfl) (fun hb12 => ?_) (fun hb12 => ?_)
            · replace h := of_bif_true hb12 h
              refine SP.rg <| .a 1 <| .nil ?_
              refine SP.ret ?_
              rw [← Option.some.inj h]
              exact ⟨[.d (eI 8)], [], ⟨resV_tmp (by kernel_rfl), trivial⟩, by kernel_rfl, by kernel_rfl, by kernel_rfl⟩
            · replace h := of_bif_false hb12 h
              refine SP.skip ?_
              refine SP.rgn <| .a 3 <| .nil ?_
              exact hk6 _ (IntKind.i64.wrap (v5 + 1)) (sub_of (mk 47 10) [(0, true)]) h
          · intro K13
            rcases Bool.eq_false_or_eq_true (decide (v5 > 0)) with hb14 | hb14
            · replace h := of_bif_true hb14 h
              obtain ⟨x15, hx15, h⟩ := of_bind h
              obtain ⟨x16, hx16, h⟩ := of_bind h
              refine SP.draw (by kernel_rfl) (by kernel_rfl) (by kernel_rfl) (.a 2 <| .c (congrArg some hb14) <| .a 3 <| .p (ok_idxT (k := .i64) eS hx15 und24 ty9 (by kernel_rfl) rfl) <| .a 5 <| .p (ok_idxT (k := .i64) eS hx16 und24 ty9 (by kernel_rfl) rfl) <| .a 3 <| .nil _) ?_
              exact K13 _ ⟨(Op.bytesLess (x15.toList) (x16.toList) || x15.toList == x16.toList), sub_of (mk 47 70368744177674) [(0, true)], h⟩
            · replace h := of_bif_false hb14 h
              refine SP.draw (by kernel_rfl) (by kernel_rfl) (by kernel_rfl) (.a 2 <| .c (congrArg some hb14) <| .a 13 <| .nil _) ?_
              exact K13 _ ⟨false, sub_of (mk 47 70368744177674) [(0, true)], h⟩
      · replace h := of_bif_false hb7 h
        refine SP.exit ?_
        refine SP.rg <| .a 1 <| .nil ?_
        refine SP.ret ?_
        rw [← Option.some.inj h]
        exact ⟨[.d (eI 0)], [], ⟨resV_tmp (by kernel_rfl), trivial⟩, by kernel_rfl, by kernel_rfl, by kernel_rfl⟩

-- fedchat/fedchatref06.patterns
def R06_patterns_S1 (p0_l : (List ByteArray)) (v2 : Int) : St := ⟨shp 22 [(0, .d ((eL eS) p0_l)), (3, .d (eI v2))], [], 0⟩
def R06_patterns_B1 (p0_l : (List ByteArray)) (k3 : (Int → Option Int)) : Int → Option Int := fun v2 => (bif decide (v2 < (p0_l.length : Int)) then (gIdx p0_l v2).bind fun x5 => (R03_Check x5).bind fun x6 => (bif (x6 != 0) then some x6 else k3 (IntKind.i64.wrap (v2 + 1))) else some 0)
def R06_patterns_L1 (p0_l : (List ByteArray)) : Int → Option Int := loop1 (R06_patterns_B1 p0_l) fuel
def R06_patterns (p0_l : (List ByteArray)) : Option Int := (bif decide ((p0_l.length : Int) > 100) then some 7 else R06_patterns_L1 p0_l 0)
theorem R06_patterns_ok (p0_l : (List ByteArray)) (r : Int) (h : R06_patterns p0_l = some r) : Runs Tryz.prog 148 [.d ((eL eS) p0_l)] [] (.d (eI r)) [] := by
  refine Runs.of_fin Tryz.func148 rfl ?_
  unfold R06_patterns at h
  refine SP.rg <| .a 1 <| .nil ?_
  refine SP.seqc ?_
  refine SP.rg <| .a 1 <| .p (ok_lenT eS p0_l und24 rfl) <| .a 1 <| .nil ?_
  refine SP.cond (decide ((p0_l.length : Int) > 100)) (by kernel_rfl) (fun hb1 => ?_) (fun hb1 => ?_)
  · replace h := of_bif_true hb1 h
    refine SP.rg <| .a 1 <| .nil ?_
    refine SP.ret ?_
    rw [← Option.some.inj h]
    exact ⟨[.d (eI 7)], [], ⟨resV_tmp (by kernel_rfl), trivial⟩, by kernel_rfl, by kernel_rfl, by kernel_rfl⟩
  · replace h := of_bif_false hb1 h
    refine SP.skip ?_
    refine SP.seqc ?_
    refine SP.rg <| .a 1 <| .nil ?_
    refine SP.block ?_
    refine SP.loop1 (R06_patterns_S1 p0_l) (R06_patterns_B1 p0_l) r 0 (sub_of (mk 22 9) []) h ?_
    clear h
    intro J8 k3 hk3 v2 h
    unfold R06_patterns_B1 at h
    refine SP.seqc ?_
    refine SP.rg <| .a 2 <| .p (ok_lenT eS p0_l und24 rfl) <| .a 1 <| .nil ?_
    refine SP.cond (decide (v2 < (p0_l.length : Int))) (by kernel_rfl) (fun hb4 => ?_) (fun hb4 => ?_)
    · replace h := of_bif_true hb4 h
      refine SP.skip ?_
      refine SP.seqc ?_
      refine SP.block ?_
      obtain ⟨x5, hx5, h⟩ := of_bind h
      obtain ⟨x6, hx6, h⟩ := of_bind h
      refine SP.rg <| .a 2 <| .p (ok_idxT (k := .i64) eS hx5 und24 ty9 (by kernel_rfl) rfl) <| .a 1 <| .call (R03_Check_ok x5 x6 hx6) ent161 <| .a 1 <| .nil ?_
      refine SP.rg <| .a 2 <| .nil ?_
      refine SP.cond (x6 != 0) (by kernel_rfl) (fun hb7 => ?_) (fun hb7 => ?_)
      · replace h := of_bif_true hb7 h
        refine SP.rg <| .a 2 <| .nil ?_
        refine SP.ret ?_
        rw [← Option.some.inj h]
        exact ⟨[.d (eI x6)], [], ⟨resV_tmp (by kernel_rfl), trivial⟩, by kernel_rfl, by kernel_rfl, by kernel_rfl⟩
      · replace h := of_bif_false hb7 h
        refine SP.skip ?_
        refine SP.rgn <| .a 3 <| .nil ?_
        exact hk3 _ (IntKind.i64.wrap (v2 + 1)) (sub_of (mk 22 9) []) h
    · replace h := of_bif_false hb4 h
      refine SP.exit ?_
      refine SP.rg <| .a 1 <| .nil ?_
      refine SP.ret ?_
      rw [← Option.some.inj h]
      exact ⟨[.d (eI 0)], [], ⟨resV_tmp (by kernel_rfl), trivial⟩, by kernel_rfl, by kernel_rfl, by kernel_rfl⟩

-- fedchat/fedchatref06.wide
def R06_wide (p0_n : Int) : Option Bool := (bif decide (p0_n < (-1000)) then some true else some (decide (p0_n > 1000))).bind fun x1 => some x1
theorem R06_wide_ok (p0_n : Int) (r : Bool) (h : R06_wide p0_n = some r) : Runs Tryz.prog 164 [.d (eI p0_n)] [] (.d (eB r)) [] := by
  refine Runs.of_fin Tryz.func164 rfl ?_
  unfold R06_wide at h
  refine SP.rg <| .a 1 <| .nil ?_
  refine SP.rg <| .a 2 <| ?_
  obtain ⟨x1, hx1, h⟩ := of_bind h
  refine .merge 4 [5, 6, 7] 8 (.d (eB x1)) ?_ ?_
  · replace h := hx1
    rcases Bool.eq_false_or_eq_true (decide (p0_n < (-1000))) with hb2 | hb2
    · replace h := of_bif_true hb2 h
      refine .c (congrArg some hb2) <| .a 3 <| .nil ?_
      obtain rfl := Option.some.inj h
      kernel_rfl
    · replace h := of_bif_false hb2 h
      refine .c (congrArg some hb2) <| .a 3 <| .nil ?_
      obtain rfl := Option.some.inj h
      kernel_rfl
  refine .a 1 <| .nil ?_
  refine SP.ret ?_
  rw [← Option.some.inj h]
  exact ⟨[.d (eB x1)], [], ⟨resV_tmp (by kernel_rfl), trivial⟩, by kernel_rfl, by kernel_rfl, by kernel_rfl⟩

-- fedchat/fedchatref06.users
def R06_users_S1 (p0_l : (List ApiLevel)) (v2 : Int) : St := ⟨shp 42 [(0, .d ((eL eApiLevel) p0_l)), (3, .d (eI v2))], [], 0⟩
def R06_users_S2 (p0_l : (List ApiLevel)) (v2 : Int) (v8 : Bool) : St := ⟨shp 42 [(0, .d ((eL eApiLevel) p0_l)), (3, .d (eI v2)), (35, .d (eB v8))], [], 0⟩
def R06_users_j2 (p0_l : (List ApiLevel)) (v2 : Int) (k3 : (Int → Option Int)) (v8 : Bool) : Option Int := (bif v8 then some 8 else (gIdx p0_l v2).bind fun x10 => (R06_wide x10.N).bind fun x11 => (bif x11 then some 2 else k3 (IntKind.i64.wrap (v2 + 1))))
def R06_users_B1 (p0_l : (List ApiLevel)) (k3 : (Int → Option Int)) : Int → Option Int := fun v2 => (bif decide (v2 < (p0_l.length : Int)) then (gIdx p0_l v2).bind fun x5 => (R02_User x5.User).bind fun x6 => (bif (x6 != 0) then some 3 else (bif decide (v2 > 0) then (gIdx p0_l v2).bind fun x15 => (gIdx p0_l (IntKind.i64.wrap (v2 - 1))).bind fun x16 => R06_users_j2 p0_l v2 k3 (Op.bytesLess (x15.User.toList) (x16.User.toList) || x15.User.toList == x16.User.toList) else R06_users_j2 p0_l v2 k3 false)) else some 0)
def R06_users_L1 (p0_l : (List ApiLevel)) : Int → Option Int := loop1 (R06_users_B1 p0_l) fuel
def R06_users (p0_l : (List ApiLevel)) : Option Int := (bif decide ((p0_l.length : Int) > 100) then some 7 else R06_users_L1 p0_l 0)
theorem R06_users_ok (p0_l : (List ApiLevel)) (r : Int) (h : R06_users p0_l = some r) : Runs Tryz.prog 162 [.d ((eL eApiLevel) p0_l)] [] (.d (eI r)) [] := by
  refine Runs.of_fin Tryz.func162 rfl ?_
  unfold R06_users at h
  refine SP.rg <| .a 1 <| .nil ?_
  refine SP.seqc ?_
  refine SP.rg <| .a 1 <| .p (ok_lenT eApiLevel p0_l und34 rfl) <| .a 1 <| .nil ?_
  refine SP.cond (decide ((p0_l.length : Int) > 100)) (by kernel_rfl) (fun hb1 => ?_) (fun hb1 => ?_)
  · replace h := of_bif_true hb1 h
    refine SP.rg <| .a 1 <| .nil ?_
    refine SP.ret ?_
    rw [← Option.some.inj h]
    exact ⟨[.d (eI 7)], [], ⟨resV_tmp (by kernel_rfl), trivial⟩, by kernel_rfl, by kernel_rfl, by kernel_rfl⟩
  · replace h := of_bif_false hb1 h
    refine SP.skip ?_
    refine SP.seqc ?_
    refine SP.rg <| .a 1 <| .nil ?_
    refine SP.block ?_
    refine SP.loop1 (R06_users_S1 p0_l) (R06_users_B1 p0_l) r 0 (sub_of (mk 42 9) []) h ?_
    clear h
    intro J17 k3 hk3 v2 h
    unfold R06_users_B1 at h
    refine SP.seqc ?_
    refine SP.rg <| .a 2 <| .p (ok_lenT eApiLevel p0_l und34 rfl) <| .a 1 <| .nil ?_
    refine SP.cond (decide (v2 < (p0_l.length : Int))) (by kernel_rfl) (fun hb4 => ?_) (fun hb4 => ?_)
    · replace h := of_bif_true hb4 h
      refine SP.skip ?_
      refine SP.seqc ?_
      refine SP.block ?_
      refine SP.seqc ?_
      obtain ⟨x5, hx5, h⟩ := of_bind h
      obtain ⟨x6, hx6, h⟩ := of_bind h
      refine SP.rg <| .a 2 <| .p (ok_idxT (k := .i64) eApiLevel hx5 und34 ty71 (by kernel_rfl) rfl) <| .a 2 <| .call (R02_User_ok x5.User x6 hx6) ent137 <| .a 1 <| .nil ?_
      refine SP.cond (x6 != 0) (by kernel_rfl) (fun hb7 => ?_) (fun hb7 => ?_)
      · replace h := of_bif_true hb7 h
        refine SP.rg <| .a 1 <| .nil ?_
        refine SP.ret ?_
        rw [← Option.some.inj h]
        exact ⟨[.d (eI 3)], [], ⟨resV_tmp (by kernel_rfl), trivial⟩, by kernel_rfl, by kernel_rfl, by kernel_rfl⟩
      · replace h := of_bif_false hb7 h
        refine SP.skip ?_
        refine SP.seqc ?_
        refine SP.join (fun s => ∃ (v8 : Bool), Sub s (R06_users_S2 p0_l v2 v8) ∧ R06_users_j2 p0_l v2 k3 v8 = some r) ?_ ?_
        · clear h
          rintro s ⟨v8, hs, h⟩
          refine SP.sub hs ?_
          clear hs
          unfold R06_users_j2 at h
          refine SP.cond v8 (by kernel_rfl) (fun hb9 => ?_) (fun hb9 => ?_)
          · replace h := of_bif_true hb9 h
            refine SP.rg <| .a 1 <| .nil ?_
            refine SP.ret ?_
            rw [← Option.some.inj h]
            exact ⟨[.d (eI 8)], [], ⟨resV_tmp (by kernel_rfl), trivial⟩, by kernel_rfl, by kernel_rfl, by kernel_rfl⟩
          · replace h := of_bif_false hb9 h
            refine SP.skip ?_
            obtain ⟨x10, hx10, h⟩ := of_bind h
            obtain ⟨x11, hx11, h⟩ := of_bind h
            refine SP.rg <| .a 2 <| .p (ok_idxT (k := .i64) eApiLevel hx10 und34 ty71 (by kernel_rfl) rfl) <| .a 2 <| .call (R06_wide_ok x10.N x11 hx11) ent164 <| .nil ?_
            refine SP.cond x11 (by kernel_rfl) (fun hb12 => ?_) (fun hb12 => ?_)
            · replace h := of_bif_true hb12 h
              refine SP.rg <| .a 1 <| .nil ?_
              refine SP.ret ?_
              rw [← Option.some.inj h]
              exact ⟨[.d (eI 2)], [], ⟨resV_tmp (by kernel_rfl), trivial⟩, by kernel_rfl, by kernel_rfl, by kernel_rfl⟩
            · replace h := of_bif_false hb12 h
              refine SP.skip ?_
              refine SP.rgn <| .a 3 <| .nil ?_
              exact hk3 _ (IntKind.i64.wrap (v2 + 1)) (sub_of (mk 42 9) []) h
        · intro K13
          rcases Bool.eq_false_or_eq_true (decide (v2 > 0)) with hb14 | hb14
          · replace h := of_bif_true hb14 h
            obtain ⟨x15, hx15, h⟩ := of_bind h
            obtain ⟨x16, hx16, h⟩ := of_bind h
            refine SP.draw (by kernel_rfl) (by kernel_rfl) (by kernel_rfl) (.a 2 <| .c (congrArg some hb14) <| .a 2 <| .p (ok_idxT (k := .i64) eApiLevel hx15 und34 ty71 (by kernel_rfl) rfl) <| .a 5 <| .p (ok_idxT (k := .i64) eApiLevel hx16 und34 ty71 (by kernel_rfl) rfl) <| .a 4 <| .nil _) ?_
            exact K13 _ ⟨(Op.bytesLess (x15.User.toList) (x16.User.toList) || x15.User.toList == x16.User.toList), sub_of (mk 42 34359738377) [], h⟩
          · replace h := of_bif_false hb14 h
            refine SP.draw (by kernel_rfl) (by kernel_rfl) (by kernel_rfl) (.a 2 <| .c (congrArg some hb14) <| .a 13 <| .nil _) ?_
            exact K13 _ ⟨false, sub_of (mk 42 34359738377) [], h⟩
    · replace h := of_bif_false hb4 h
      refine SP.exit ?_
      refine SP.rg <| .a 1 <| .nil ?_
      refine SP.ret ?_
      rw [← Option.some.inj h]
      exact ⟨[.d (eI 0)], [], ⟨resV_tmp (by kernel_rfl), trivial⟩, by kernel_rfl, by kernel_rfl, by kernel_rfl⟩

-- fedchat/fedchatref06.kinds
def R06_kinds_S1 (p0_l : (List ApiKindLevel)) (v2 : Int) : St := ⟨shp 42 [(0, .d ((eL eApiKindLevel) p0_l)), (3, .d (eI v2))], [], 0⟩
def R06_kinds_S2 (p0_l : (List ApiKindLevel)) (v2 : Int) (v8 : Bool) : St := ⟨shp 42 [(0, .d ((eL eApiKindLevel) p0_l)), (3, .d (eI v2)), (35, .d (eB v8))], [], 0⟩
def R06_kinds_j2 (p0_l : (List ApiKindLevel)) (v2 : Int) (k3 : (Int → Option Int)) (v8 : Bool) : Option Int := (bif v8 then some 8 else (gIdx p0_l v2).bind fun x10 => (R06_wide x10.N).bind fun x11 => (bif x11 then some 2 else k3 (IntKind.i64.wrap (v2 + 1))))
def R06_kinds_B1 (p0_l : (List ApiKindLevel)) (k3 : (Int → Option Int)) : Int → Option Int := fun v2 => (bif decide (v2 < (p0_l.length : Int)) then (gIdx p0_l v2).bind fun x5 => (R06_known x5.Kind).bind fun x6 => (bif (!x6) then some 1 else (bif decide (v2 > 0) then (gIdx p0_l v2).bind fun x15 => (gIdx p0_l (IntKind.i64.wrap (v2 - 1))).bind fun x16 => R06_kinds_j2 p0_l v2 k3 (decide (x15.Kind ≤ x16.Kind)) else R06_kinds_j2 p0_l v2 k3 false)) else some 0)
def R06_kinds_L1 (p0_l : (List ApiKindLevel)) : Int → Option Int := loop1 (R06_kinds_B1 p0_l) fuel
def R06_kinds (p0_l : (List ApiKindLevel)) : Option Int := (bif decide ((p0_l.length : Int) > 100) then some 7 else R06_kinds_L1 p0_l 0)
theorem R06_kinds_ok (p0_l : (List ApiKindLevel)) (r : Int) (h : R06_kinds p0_l = some r) : Runs Tryz.prog 163 [.d ((eL eApiKindLevel) p0_l)] [] (.d (eI r)) [] := by
  refine Runs.of_fin Tryz.func163 rfl ?_
  unfold R06_kinds at h
  refine SP.rg <| .a 1 <| .nil ?_
  refine SP.seqc ?_
  refine SP.rg <| .a 1 <| .p (ok_lenT eApiKindLevel p0_l und35 rfl) <| .a 1 <| .nil ?_
  refine SP.cond (decide ((p0_l.length : Int) > 100)) (by kernel_rfl) (fun hb1 => ?_) (fun hb1 => ?_)
  · replace h := of_bif_true hb1 h
    refine SP.rg <| .a 1 <| .nil ?_
    refine SP.ret ?_
    rw [← Option.some.inj h]
    exact ⟨[.d (eI 7)], [], ⟨resV_tmp (by kernel_rfl), trivial⟩, by kernel_rfl, by kernel_rfl, by kernel_rfl⟩
  · replace h := of_bif_false hb1 h
    refine SP.skip ?_
    refine SP.seqc ?_
    refine SP.rg <| .a 1 <| .nil ?_
    refine SP.block ?_
    refine SP.loop1 (R06_kinds_S1 p0_l) (R06_kinds_B1 p0_l) r 0 (sub_of (mk 42 9) []) h ?_
    clear h
    intro J17 k3 hk3 v2 h
    unfold R06_kinds_B1 at h
    refine SP.seqc ?_
    refine SP.rg <| .a 2 <| .p (ok_lenT eApiKindLevel p0_l und35 rfl) <| .a 1 <| .nil ?_
    refine SP.cond (decide (v2 < (p0_l.length : Int))) (by kernel_rfl) (fun hb4 => ?_) (fun hb4 => ?_)
    · replace h := of_bif_true hb4 h
      refine SP.skip ?_
      refine SP.seqc ?_
      refine SP.block ?_
      refine SP.seqc ?_
      obtain ⟨x5, hx5, h⟩ := of_bind h
      obtain ⟨x6, hx6, h⟩ := of_bind h
      refine SP.rg <| .a 2 <| .p (ok_idxT (k := .i64) eApiKindLevel hx5 und35 ty108 (by kernel_rfl) rfl) <| .a 2 <| .call (R06_known_ok x5.Kind x6 hx6) ent140 <| .a 1 <| .nil ?_
      refine SP.cond (!x6) (by kernel_rfl) (fun hb7 => ?_) (fun hb7 => ?_)
      · replace h := of_bif_true hb7 h
        refine SP.rg <| .a 1 <| .nil ?_
        refine SP.ret ?_
        rw [← Option.some.inj h]
        exact ⟨[.d (eI 1)], [], ⟨resV_tmp (by kernel_rfl), trivial⟩, by kernel_rfl, by kernel_rfl, by kernel_rfl⟩
      · replace h := of_bif_false hb7 h
        refine SP.skip ?_
        refine SP.seqc ?_
        refine SP.join (fun s => ∃ (v8 : Bool), Sub s (R06_kinds_S2 p0_l v2 v8) ∧ R06_kinds_j2 p0_l v2 k3 v8 = some r) ?_ ?_
        · clear h
          rintro s ⟨v8, hs, h⟩
          refine SP.sub hs ?_
          clear hs
          unfold R06_kinds_j2 at h
          refine SP.cond v8 (by kernel_rfl) (fun hb9 => ?_) (fun hb9 => ?_)
          · replace h := of_bif_true hb9 h
            refine SP.rg <| .a 1 <| .nil ?_
            refine SP.ret ?_
            rw [← Option.some.inj h]
            exact ⟨[.d (eI 8)], [], ⟨resV_tmp (by kernel_rfl), trivial⟩, by kernel_rfl, by kernel_rfl, by kernel_rfl⟩
          · replace h := of_bif_false hb9 h
            refine SP.skip ?_
            obtain ⟨x10, hx10, h⟩ := of_bind h
            obtain ⟨x11, hx11, h⟩ := of_bind h
            refine SP.rg <| .a 2 <| .p (ok_idxT (k := .i64) eApiKindLevel hx10 und35 ty108 (by kernel_rfl) rfl) <| .a 2 <| .call (R06_wide_ok x10.N x11 hx11) ent164 <| .nil ?_
            refine SP.cond x11 (by kernel_rfl) (fun hb12 => ?_) (fun hb12 => ?_)
            · replace h := of_bif_true hb12 h
              refine SP.rg <| .a 1 <| .nil ?_
              refine SP.ret ?_
              rw [← Option.some.inj h]
              exact ⟨[.d (eI 2)], [], ⟨resV_tmp (by kernel_rfl), trivial⟩, by kernel_rfl, by kernel_rfl, by kernel_rfl⟩
            · replace h := of_bif_false hb12 h
              refine SP.skip ?_
              refine SP.rgn <| .a 3 <| .nil ?_
              exact hk3 _ (IntKind.i64.wrap (v2 + 1)) (sub_of (mk 42 9) []) h
        · intro K13
          rcases Bool.eq_false_or_eq_true (decide (v2 > 0)) with hb14 | hb14
          · replace h := of_bif_true hb14 h
            obtain ⟨x15, hx15, h⟩ := of_bind h
            obtain ⟨x16, hx16, h⟩ := of_bind h
            refine SP.draw (by kernel_rfl) (by kernel_rfl) (by kernel_rfl) (.a 2 <| .c (congrArg some hb14) <| .a 2 <| .p (ok_idxT (k := .i64) eApiKindLevel hx15 und35 ty108 (by kernel_rfl) rfl) <| .a 5 <| .p (ok_idxT (k := .i64) eApiKindLevel hx16 und35 ty108 (by kernel_rfl) rfl) <| .a 4 <| .nil _) ?_
            exact K13 _ ⟨(decide (x15.Kind ≤ x16.Kind)), sub_of (mk 42 34359738377) [], h⟩
          · replace h := of_bif_false hb14 h
            refine SP.draw (by kernel_rfl) (by kernel_rfl) (by kernel_rfl) (.a 2 <| .c (congrArg some hb14) <| .a 13 <| .nil _) ?_
            exact K13 _ ⟨false, sub_of (mk 42 34359738377) [], h⟩
    · replace h := of_bif_false hb4 h
      refine SP.exit ?_
      refine SP.rg <| .a 1 <| .nil ?_
      refine SP.ret ?_
      rw [← Option.some.inj h]
      exact ⟨[.d (eI 0)], [], ⟨resV_tmp (by kernel_rfl), trivial⟩, by kernel_rfl, by kernel_rfl, by kernel_rfl⟩

-- fedchat/fedchatref06.Levels
def R06_Levels (p0_l : ApiLevels) : Option Int := (R06_users p0_l.Users).bind fun x1 => (bif (x1 != 0) then some x1 else (R06_kinds p0_l.Kinds).bind fun x3 => (bif (x3 != 0) then some x3 else (R06_wide p0_l.User).bind fun x5 => (bif x5 then some true else (R06_wide p0_l.Message).bind fun x8 => some x8).bind fun x6 => (bif x6 then some true else (R06_wide p0_l.State).bind fun x11 => some x11).bind fun x9 => (bif x9 then some true else (R06_wide p0_l.Invite).bind fun x14 => some x14).bind fun x12 => (bif x12 then some true else (R06_wide p0_l.Kick).bind fun x17 => some x17).bind fun x15 => (bif x15 then some true else (R06_wide p0_l.Ban).bind fun x20 => some x20).bind fun x18 => (bif x18 then some true else (R06_wide p0_l.Redact).bind fun x23 => some x23).bind fun x21 => (bif x21 then some 2 else some 0)))
theorem R06_Levels_ok (p0_l : ApiLevels) (r : Int) (h : R06_Levels p0_l = some r) : Runs Tryz.prog 149 [.d (eApiLevels p0_l)] [] (.d (eI r)) [] := by
  refine Runs.of_fin Tryz.func149 rfl ?_
  unfold R06_Levels at h
  refine SP.rg <| .a 2 <| .nil ?_
  refine SP.seqc ?_
  obtain ⟨x1, hx1, h⟩ := of_bind h
  refine SP.rg <| .a 2 <| .call (R06_users_ok p0_l.Users x1 hx1) ent162 <| .a 1 <| .nil ?_
  refine SP.rg <| .a 2 <| .nil ?_
  refine SP.cond (x1 != 0) (by kernel_rfl) (fun hb2 => ?_) (fun hb2 => ?_)
  · replace h := of_bif_true hb2 h
    refine SP.rg <| .a 2 <| .nil ?_
    refine SP.ret ?_
    rw [← Option.some.inj h]
    exact ⟨[.d (eI x1)], [], ⟨resV_tmp (by kernel_rfl), trivial⟩, by kernel_rfl, by kernel_rfl, by kernel_rfl⟩
  · replace h := of_bif_false hb2 h
    refine SP.skip ?_
    refine SP.seqc ?_
    obtain ⟨x3, hx3, h⟩ := of_bind h
    refine SP.rg <| .a 2 <| .call (R06_kinds_ok p0_l.Kinds x3 hx3) ent163 <| .a 1 <| .nil ?_
    refine SP.rg <| .a 2 <| .nil ?_
    refine SP.cond (x3 != 0) (by kernel_rfl) (fun hb4 => ?_) (fun hb4 => ?_)
    · replace h := of_bif_true hb4 h
      refine SP.rg <| .a 2 <| .nil ?_
      refine SP.ret ?_
      rw [← Option.some.inj h]
      exact ⟨[.d (eI x3)], [], ⟨resV_tmp (by kernel_rfl), trivial⟩, by kernel_rfl, by kernel_rfl, by kernel_rfl⟩
    · replace h := of_bif_false hb4 h
      refine SP.skip ?_
      refine SP.seqc ?_
      obtain ⟨x5, hx5, h⟩ := of_bind h
      refine SP.rg <| .a 2 <| .call (R06_wide_ok p0_l.User x5 hx5) ent164 <| .a 1 <| ?_
      obtain ⟨x6, hx6, h⟩ := of_bind h
      refine .merge 4 [21, 22, 23] 24 (.d (eB x6)) ?_ ?_
      · replace h := hx6
        cases x5 with
        | true =>
          replace h := of_bif_true rfl h
          refine .a 4 <| .nil ?_
          obtain rfl := Option.some.inj h
          kernel_rfl
        | false =>
          replace h := of_bif_false rfl h
          obtain ⟨x8, hx8, h⟩ := of_bind h
          refine .a 2 <| .call (R06_wide_ok p0_l.Message x8 hx8) ent164 <| .a 1 <| .nil ?_
          obtain rfl := Option.some.inj h
          kernel_rfl
      refine .a 1 <| ?_
      obtain ⟨x9, hx9, h⟩ := of_bind h
      refine .merge 4 [26, 27, 28] 29 (.d (eB x9)) ?_ ?_
      · replace h := hx9
        cases x6 with
        | true =>
          replace h := of_bif_true rfl h
          refine .a 4 <| .nil ?_
          obtain rfl := Option.some.inj h
          kernel_rfl
        | false =>
          replace h := of_bif_false rfl h
          obtain ⟨x11, hx11, h⟩ := of_bind h
          refine .a 2 <| .call (R06_wide_ok p0_l.State x11 hx11) ent164 <| .a 1 <| .nil ?_
          obtain rfl := Option.some.inj h
          kernel_rfl
      refine .a 1 <| ?_
      obtain ⟨x12, hx12, h⟩ := of_bind h
      refine .merge 4 [31, 32, 33] 34 (.d (eB x12)) ?_ ?_
      · replace h := hx12
        cases x9 with
        | true =>
          replace h := of_bif_true rfl h
          refine .a 4 <| .nil ?_
          obtain rfl := Option.some.inj h
          kernel_rfl
        | false =>
          replace h := of_bif_false rfl h
          obtain ⟨x14, hx14, h⟩ := of_bind h
          refine .a 2 <| .call (R06_wide_ok p0_l.Invite x14 hx14) ent164 <| .a 1 <| .nil ?_
          obtain rfl := Option.some.inj h
          kernel_rfl
      refine .a 1 <| ?_
      obtain ⟨x15, hx15, h⟩ := of_bind h
      refine .merge 4 [36, 37, 38] 39 (.d (eB x15)) ?_ ?_
      · replace h := hx15
        cases x12 with
        | true =>
          replace h := of_bif_true rfl h
          refine .a 4 <| .nil ?_
          obtain rfl := Option.some.inj h
          kernel_rfl
        | false =>
          replace h := of_bif_false rfl h
          obtain ⟨x17, hx17, h⟩ := of_bind h
          refine .a 2 <| .call (R06_wide_ok p0_l.Kick x17 hx17) ent164 <| .a 1 <| .nil ?_
          obtain rfl := Option.some.inj h
          kernel_rfl
      refine .a 1 <| ?_
      obtain ⟨x18, hx18, h⟩ := of_bind h
      refine .merge 4 [41, 42, 43] 44 (.d (eB x18)) ?_ ?_
      · replace h := hx18
        cases x15 with
        | true =>
          replace h := of_bif_true rfl h
          refine .a 4 <| .nil ?_
          obtain rfl := Option.some.inj h
          kernel_rfl
        | false =>
          replace h := of_bif_false rfl h
          obtain ⟨x20, hx20, h⟩ := of_bind h
          refine .a 2 <| .call (R06_wide_ok p0_l.Ban x20 hx20) ent164 <| .a 1 <| .nil ?_
          obtain rfl := Option.some.inj h
          kernel_rfl
      refine .a 1 <| ?_
      obtain ⟨x21, hx21, h⟩ := of_bind h
      refine .merge 4 [46, 47, 48] 49 (.d (eB x21)) ?_ ?_
      · replace h := hx21
        cases x18 with
        | true =>
          replace h := of_bif_true rfl h
          refine .a 4 <| .nil ?_
          obtain rfl := Option.some.inj h
          kernel_rfl
        | false =>
          replace h := of_bif_false rfl h
          obtain ⟨x23, hx23, h⟩ := of_bind h
          refine .a 2 <| .call (R06_wide_ok p0_l.Redact x23 hx23) ent164 <| .a 1 <| .nil ?_
          obtain rfl := Option.some.inj h
          kernel_rfl
      refine .nil ?_
      refine SP.cond x21 (by kernel_rfl) (fun hb24 => ?_) (fun hb24 => ?_)
      · replace h := of_bif_true hb24 h
        refine SP.rg <| .a 1 <| .nil ?_
        refine SP.ret ?_
        rw [← Option.some.inj h]
        exact ⟨[.d (eI 2)], [], ⟨resV_tmp (by kernel_rfl), trivial⟩, by kernel_rfl, by kernel_rfl, by kernel_rfl⟩
      · replace h := of_bif_false hb24 h
        refine SP.skip ?_
        refine SP.rg <| .a 1 <| .nil ?_
        refine SP.ret ?_
        rw [← Option.some.inj h]
        exact ⟨[.d (eI 0)], [], ⟨resV_tmp (by kernel_rfl), trivial⟩, by kernel_rfl, by kernel_rfl, by kernel_rfl⟩

-- fedchat/fedchatref06.Check
def R06_Check (p0_k : Int) (p1_c : ApiContent) : Option Int := (R06_known p0_k).bind fun x1 => (bif (!x1) then some true else (R06_only p0_k p1_c).bind fun x4 => some (!x4)).bind fun x2 => (bif x2 then some 1 else (R06_bare p0_k).bind fun x6 => (bif x6 then (R06_Same p1_c zApiContent).bind fun x9 => some x9 else some false).bind fun x7 => (bif x7 then some 0 else (R06_text p0_k p1_c).bind fun x11 => (bif (x11 != 0) then some x11 else (R06_number p0_k p1_c.N).bind fun x13 => (bif (x13 != 0) then some x13 else (R06_target p0_k p1_c).bind fun x15 => (bif (x15 != 0) then some x15 else (R06_via p1_c).bind fun x17 => (bif (x17 != 0) then some x17 else (bif (p0_k == 4) then (R06_rooms p1_c).bind fun x20 => some x20 else (R06_patterns p1_c.Allow).bind fun x21 => (bif (x21 != 0) then some x21 else (R06_patterns p1_c.Deny).bind fun x23 => (bif (x23 != 0) then some x23 else (R06_Levels p1_c.Levels).bind fun x25 => some x25)))))))))
theorem R06_Check_ok (p0_k : Int) (p1_c : ApiContent) (r : Int) (h : R06_Check p0_k p1_c = some r) : Runs Tryz.prog 103 [.d (eI p0_k), .d (eApiContent p1_c)] [] (.d (eI r)) [] := by
  refine Runs.of_fin Tryz.func103 rfl ?_
  unfold R06_Check at h
  refine SP.rg <| .a 2 <| .nil ?_
  refine SP.seqc ?_
  obtain ⟨x1, hx1, h⟩ := of_bind h
  refine SP.rg <| .a 1 <| .call (R06_known_ok p0_k x1 hx1) ent140 <| .a 1 <| ?_
  obtain ⟨x2, hx2, h⟩ := of_bind h
  refine .merge 6 [14, 15, 16, 17, 18] 19 (.d (eB x2)) ?_ ?_
  · replace h := hx2
    rcases Bool.eq_false_or_eq_true (!x1) with hb3 | hb3
    · replace h := of_bif_true hb3 h
      refine .c (congrArg some hb3) <| .a 5 <| .nil ?_
      obtain rfl := Option.some.inj h
      kernel_rfl
    · replace h := of_bif_false hb3 h
      obtain ⟨x4, hx4, h⟩ := of_bind h
      refine .c (congrArg some hb3) <| .a 2 <| .call (R06_only_ok p0_k p1_c x4 hx4) ent141 <| .a 2 <| .nil ?_
      obtain rfl := Option.some.inj h
      kernel_rfl
  refine .nil ?_
  refine SP.cond x2 (by kernel_rfl) (fun hb5 => ?_) (fun hb5 => ?_)
  · replace h := of_bif_true hb5 h
    refine SP.rg <| .a 1 <| .nil ?_
    refine SP.ret ?_
    rw [← Option.some.inj h]
    exact ⟨[.d (eI 1)], [], ⟨resV_tmp (by kernel_rfl), trivial⟩, by kernel_rfl, by kernel_rfl, by kernel_rfl⟩
  · replace h := of_bif_false hb5 h
    refine SP.skip ?_
    refine SP.seqc ?_
    obtain ⟨x6, hx6, h⟩ := of_bind h
    refine SP.rg <| .a 1 <| .call (R06_bare_ok p0_k x6 hx6) ent142 <| .a 1 <| ?_
    obtain ⟨x7, hx7, h⟩ := of_bind h
    refine .merge 4 [23, 24, 25] 26 (.d (eB x7)) ?_ ?_
    · replace h := hx7
      cases x6 with
      | true =>
        replace h := of_bif_true rfl h
        obtain ⟨x9, hx9, h⟩ := of_bind h
        refine .a 2 <| .call (R06_Same_ok p1_c zApiContent x9 hx9) ent61 <| .a 1 <| .nil ?_
        obtain rfl := Option.some.inj h
        kernel_rfl
      | false =>
        replace h := of_bif_false rfl h
        refine .a 4 <| .nil ?_
        obtain rfl := Option.some.inj h
        kernel_rfl
    refine .nil ?_
    refine SP.cond x7 (by kernel_rfl) (fun hb10 => ?_) (fun hb10 => ?_)
    · replace h := of_bif_true hb10 h
      refine SP.rg <| .a 1 <| .nil ?_
      refine SP.ret ?_
      rw [← Option.some.inj h]
      exact ⟨[.d (eI 0)], [], ⟨resV_tmp (by kernel_rfl), trivial⟩, by kernel_rfl, by kernel_rfl, by kernel_rfl⟩
    · replace h := of_bif_false hb10 h
      refine SP.skip ?_
      refine SP.seqc ?_
      obtain ⟨x11, hx11, h⟩ := of_bind h
      refine SP.rg <| .a 2 <| .call (R06_text_ok p0_k p1_c x11 hx11) ent143 <| .a 1 <| .nil ?_
      refine SP.rg <| .a 2 <| .nil ?_
      refine SP.cond (x11 != 0) (by kernel_rfl) (fun hb12 => ?_) (fun hb12 => ?_)
      · replace h := of_bif_true hb12 h
        refine SP.rg <| .a 2 <| .nil ?_
        refine SP.ret ?_
        rw [← Option.some.inj h]
        exact ⟨[.d (eI x11)], [], ⟨resV_tmp (by kernel_rfl), trivial⟩, by kernel_rfl, by kernel_rfl, by kernel_rfl⟩
      · replace h := of_bif_false hb12 h
        refine SP.skip ?_
        refine SP.seqc ?_
        obtain ⟨x13, hx13, h⟩ := of_bind h
        refine SP.rg <| .a 3 <| .call (R06_number_ok p0_k p1_c.N x13 hx13) ent144 <| .a 1 <| .nil ?_
        refine SP.rg <| .a 2 <| .nil ?_
        refine SP.cond (x13 != 0) (by kernel_rfl) (fun hb14 => ?_) (fun hb14 => ?_)
        · replace h := of_bif_true hb14 h
          refine SP.rg <| .a 2 <| .nil ?_
          refine SP.ret ?_
          rw [← Option.some.inj h]
          exact ⟨[.d (eI x13)], [], ⟨resV_tmp (by kernel_rfl), trivial⟩, by kernel_rfl, by kernel_rfl, by kernel_rfl⟩
        · replace h := of_bif_false hb14 h
          refine SP.skip ?_
          refine SP.seqc ?_
          obtain ⟨x15, hx15, h⟩ := of_bind h
          refine SP.rg <| .a 2 <| .call (R06_target_ok p0_k p1_c x15 hx15) ent145 <| .a 1 <| .nil ?_
          refine SP.rg <| .a 2 <| .nil ?_
          refine SP.cond (x15 != 0) (by kernel_rfl) (fun hb16 => ?_) (fun hb16 => ?_)
          · replace h := of_bif_true hb16 h
            refine SP.rg <| .a 2 <| .nil ?_
            refine SP.ret ?_
            rw [← Option.some.inj h]
            exact ⟨[.d (eI x15)], [], ⟨resV_tmp (by kernel_rfl), trivial⟩, by kernel_rfl, by kernel_rfl, by kernel_rfl⟩
          · replace h := of_bif_false hb16 h
            refine SP.skip ?_
            refine SP.seqc ?_
            obtain ⟨x17, hx17, h⟩ := of_bind h
            refine SP.rg <| .a 1 <| .call (R06_via_ok p1_c x17 hx17) ent146 <| .a 1 <| .nil ?_
            refine SP.rg <| .a 2 <| .nil ?_
            refine SP.cond (x17 != 0) (by kernel_rfl) (fun hb18 => ?_) (fun hb18 => ?_)
            · replace h := of_bif_true hb18 h
              refine SP.rg <| .a 2 <| .nil ?_
              refine SP.ret ?_
              rw [← Option.some.inj h]
              exact ⟨[.d (eI x17)], [], ⟨resV_tmp (by kernel_rfl), trivial⟩, by kernel_rfl, by kernel_rfl, by kernel_rfl⟩
            · replace h := of_bif_false hb18 h
              refine SP.skip ?_
              refine SP.seqc ?_
              refine SP.rg <| .a 2 <| .nil ?_
              refine SP.cond (p0_k == 4) (by kernel_rfl) (fun hb19 => ?_) (fun hb19 => ?_)
              · replace h := of_bif_true hb19 h
                obtain ⟨x20, hx20, h⟩ := of_bind h
                refine SP.rg <| .a 1 <| .call (R06_rooms_ok p1_c x20 hx20) ent147 <| .a 1 <| .nil ?_
                refine SP.ret ?_
                rw [← Option.some.inj h]
                exact ⟨[.d (eI x20)], [], ⟨resV_tmp (by kernel_rfl), trivial⟩, by kernel_rfl, by kernel_rfl, by kernel_rfl⟩
              · replace h := of_bif_false hb19 h
                refine SP.skip ?_
                refine SP.seqc ?_
                obtain ⟨x21, hx21, h⟩ := of_bind h
                refine SP.rg <| .a 2 <| .call (R06_patterns_ok p1_c.Allow x21 hx21) ent148 <| .a 1 <| .nil ?_
                refine SP.rg <| .a 2 <| .nil ?_
                refine SP.cond (x21 != 0) (by kernel_rfl) (fun hb22 => ?_) (fun hb22 => ?_)
                · replace h := of_bif_true hb22 h
                  refine SP.rg <| .a 2 <| .nil ?_
                  refine SP.ret ?_
                  rw [← Option.some.inj h]
                  exact ⟨[.d (eI x21)], [], ⟨resV_tmp (by kernel_rfl), trivial⟩, by kernel_rfl, by kernel_rfl, by kernel_rfl⟩
                · replace h := of_bif_false hb22 h
                  refine SP.skip ?_
                  refine SP.seqc ?_
                  obtain ⟨x23, hx23, h⟩ := of_bind h
                  refine SP.rg <| .a 2 <| .call (R06_patterns_ok p1_c.Deny x23 hx23) ent148 <| .a 1 <| .nil ?_
                  refine SP.rg <| .a 2 <| .nil ?_
                  refine SP.cond (x23 != 0) (by kernel_rfl) (fun hb24 => ?_) (fun hb24 => ?_)
                  · replace h := of_bif_true hb24 h
                    refine SP.rg <| .a 2 <| .nil ?_
                    refine SP.ret ?_
                    rw [← Option.some.inj h]
                    exact ⟨[.d (eI x23)], [], ⟨resV_tmp (by kernel_rfl), trivial⟩, by kernel_rfl, by kernel_rfl, by kernel_rfl⟩
                  · replace h := of_bif_false hb24 h
                    refine SP.skip ?_
                    obtain ⟨x25, hx25, h⟩ := of_bind h
                    refine SP.rg <| .a 2 <| .call (R06_Levels_ok p1_c.Levels x25 hx25) ent149 <| .a 1 <| .nil ?_
                    refine SP.ret ?_
                    rw [← Option.some.inj h]
                    exact ⟨[.d (eI x25)], [], ⟨resV_tmp (by kernel_rfl), trivial⟩, by kernel_rfl, by kernel_rfl, by kernel_rfl⟩

-- fedchat/fedchatref07.Check
def R07_Check (p0_e : ApiEvent) : Option Int := (R07_Frame p0_e).bind fun x1 => (bif (x1 != 0) then some x1 else (R06_Check p0_e.Kind p0_e.Content).bind fun x3 => some x3)
theorem R07_Check_ok (p0_e : ApiEvent) (r : Int) (h : R07_Check p0_e = some r) : Runs Tryz.prog 59 [.d (eApiEvent p0_e)] [] (.d (eI r)) [] := by
  refine Runs.of_fin Tryz.func59 rfl ?_
  unfold R07_Check at h
  refine SP.rg <| .a 2 <| .nil ?_
  refine SP.seqc ?_
  obtain ⟨x1, hx1, h⟩ := of_bind h
  refine SP.rg <| .a 1 <| .call (R07_Frame_ok p0_e x1 hx1) ent102 <| .a 1 <| .nil ?_
  refine SP.rg <| .a 2 <| .nil ?_
  refine SP.cond (x1 != 0) (by kernel_rfl) (fun hb2 => ?_) (fun hb2 => ?_)
  · replace h := of_bif_true hb2 h
    refine SP.rg <| .a 2 <| .nil ?_
    refine SP.ret ?_
    rw [← Option.some.inj h]
    exact ⟨[.d (eI x1)], [], ⟨resV_tmp (by kernel_rfl), trivial⟩, by kernel_rfl, by kernel_rfl, by kernel_rfl⟩
  · replace h := of_bif_false hb2 h
    refine SP.skip ?_
    obtain ⟨x3, hx3, h⟩ := of_bind h
    refine SP.rg <| .a 4 <| .call (R06_Check_ok p0_e.Kind p0_e.Content x3 hx3) ent103 <| .a 1 <| .nil ?_
    refine SP.ret ?_
    rw [← Option.some.inj h]
    exact ⟨[.d (eI x3)], [], ⟨resV_tmp (by kernel_rfl), trivial⟩, by kernel_rfl, by kernel_rfl, by kernel_rfl⟩

-- fedchat/fedchatref07.Whole
def R07_Whole (p0_e : ApiEvent) : Option Bool := (R07_Hash p0_e).bind fun x1 => some (x1 == p0_e.Hash)
theorem R07_Whole_ok (p0_e : ApiEvent) (r : Bool) (h : R07_Whole p0_e = some r) : Runs Tryz.prog 60 [.d (eApiEvent p0_e)] [] (.d (eB r)) [] := by
  refine Runs.of_fin Tryz.func60 rfl ?_
  unfold R07_Whole at h
  refine SP.rg <| .a 2 <| .nil ?_
  obtain ⟨x1, hx1, h⟩ := of_bind h
  refine SP.dseq (by kernel_rfl) (by kernel_rfl) (by kernel_rfl) (.a 1 <| .call (R07_Hash_ok p0_e x1 hx1) ent47 <| .a 4 <| .nil _) ?_
  refine SP.ret ?_
  rw [← Option.some.inj h]
  exact ⟨[.d (eB (x1 == p0_e.Hash))], [], ⟨resV_tmp (by kernel_rfl), trivial⟩, by kernel_rfl, by kernel_rfl, by kernel_rfl⟩
end Go.Proofs.YtmegkokogomfnaaGreat
