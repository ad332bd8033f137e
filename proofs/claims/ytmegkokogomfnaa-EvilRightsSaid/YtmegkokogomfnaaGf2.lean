/- Functions of the program, typed, each proved to be what the program computes (printed by gogen.py). No condition. -/
import Derived.Test.YtmegkokogomfnaaGf1
namespace Go.Proofs.Ytmegkokogomfnaa
open Go.RowKit
set_option maxRecDepth 20000
set_option maxHeartbeats 4000000

-- fedchat/content.set
def content_set_S1 (p0_c : ApiContent) (v1 : Int) : St := ⟨shp 47 [(1, .ptr 0 0), (3, .d (eI v1))], [.box (dc (eApiContent p0_c))], 0⟩
def content_set_S2 (p0_c : ApiContent) (v2 : Int) : St := ⟨shp 47 [(1, .ptr 0 0), (3, .d (eI v2))], [.box (dc (eApiContent p0_c))], 0⟩
def content_set_S3 (p0_c : ApiContent) (v3 : Int) : St := ⟨shp 47 [(1, .ptr 0 0), (3, .d (eI v3))], [.box (dc (eApiContent p0_c))], 0⟩
def content_set_S4 (p0_c : ApiContent) (v4 : Int) : St := ⟨shp 47 [(1, .ptr 0 0), (3, .d (eI v4))], [.box (dc (eApiContent p0_c))], 0⟩
def content_set_S5 (p0_c : ApiContent) (v5 : Int) : St := ⟨shp 47 [(1, .ptr 0 0), (3, .d (eI v5))], [.box (dc (eApiContent p0_c))], 0⟩
def content_set_S6 (p0_c : ApiContent) (v6 : Int) : St := ⟨shp 47 [(1, .ptr 0 0), (3, .d (eI v6))], [.box (dc (eApiContent p0_c))], 0⟩
def content_set_S7 (p0_c : ApiContent) (v7 : Int) : St := ⟨shp 47 [(1, .ptr 0 0), (3, .d (eI v7))], [.box (dc (eApiContent p0_c))], 0⟩
def content_set_S8 (v8 : Int) : St := ⟨shp 47 [(3, .d (eI v8))], [], 0⟩
def content_set_j8 (v8 : Int) : Option Int := some v8
def content_set_j7 (p0_c : ApiContent) (v7 : Int) : Option Int := (content_bare p0_c.Levels).bind fun x10 => (bif (!x10) then content_set_j8 (gBits .or .i64 v7 128) else content_set_j8 v7)
def content_set_j6 (p0_c : ApiContent) (v6 : Int) : Option Int := (bif decide ((p0_c.Deny.length : Int) > 0) then content_set_j7 p0_c (gBits .or .i64 v6 64) else content_set_j7 p0_c v6)
def content_set_j5 (p0_c : ApiContent) (v5 : Int) : Option Int := (bif decide ((p0_c.Allow.length : Int) > 0) then content_set_j6 p0_c (gBits .or .i64 v5 32) else content_set_j6 p0_c v5)
def content_set_j4 (p0_c : ApiContent) (v4 : Int) : Option Int := (bif (!(p0_c.Via.toList == s0.toList)) then content_set_j5 p0_c (gBits .or .i64 v4 16) else content_set_j5 p0_c v4)
def content_set_j3 (p0_c : ApiContent) (v3 : Int) : Option Int := (bif p0_c.Thread then content_set_j4 p0_c (gBits .or .i64 v3 8) else content_set_j4 p0_c v3)
def content_set_j2 (p0_c : ApiContent) (v2 : Int) : Option Int := (bif (p0_c.Target != 0) then content_set_j3 p0_c (gBits .or .i64 v2 4) else content_set_j3 p0_c v2)
def content_set_j1 (p0_c : ApiContent) (v1 : Int) : Option Int := (bif (p0_c.N != 0) then content_set_j2 p0_c (gBits .or .i64 v1 2) else content_set_j2 p0_c v1)
def content_set (p0_c : ApiContent) : Option Int := (bif (!(p0_c.Text.toList == s0.toList)) then content_set_j1 p0_c (gBits .or .i64 0 1) else content_set_j1 p0_c 0)
theorem content_set_ok (p0_c : ApiContent) (r : Int) (h : content_set p0_c = some r) : Runs Try.prog 72 [.d (eApiContent p0_c)] [] (.d (eI r)) [] := by
  refine Runs.of_fin Try.func72 rfl ?_
  unfold content_set at h
  refine SP.rg <| .a 2 <| .nil ?_
  refine SP.rg <| .a 1 <| .nil ?_
  refine SP.join (fun s => ∃ (v1 : Int), Sub s (content_set_S1 p0_c v1) ∧ content_set_j1 p0_c v1 = some r) ?_ ?_
  · clear h
    rintro s ⟨v1, hs, h⟩
    refine SP.sub hs ?_
    clear hs
    unfold content_set_j1 at h
    refine SP.join (fun s => ∃ (v2 : Int), Sub s (content_set_S2 p0_c v2) ∧ content_set_j2 p0_c v2 = some r) ?_ ?_
    · clear h
      rintro s ⟨v2, hs, h⟩
      refine SP.sub hs ?_
      clear hs
      unfold content_set_j2 at h
      refine SP.join (fun s => ∃ (v3 : Int), Sub s (content_set_S3 p0_c v3) ∧ content_set_j3 p0_c v3 = some r) ?_ ?_
      · clear h
        rintro s ⟨v3, hs, h⟩
        refine SP.sub hs ?_
        clear hs
        unfold content_set_j3 at h
        refine SP.join (fun s => ∃ (v4 : Int), Sub s (content_set_S4 p0_c v4) ∧ content_set_j4 p0_c v4 = some r) ?_ ?_
        · clear h
          rintro s ⟨v4, hs, h⟩
          refine SP.sub hs ?_
          clear hs
          unfold content_set_j4 at h
          refine SP.join (fun s => ∃ (v5 : Int), Sub s (content_set_S5 p0_c v5) ∧ content_set_j5 p0_c v5 = some r) ?_ ?_
          · clear h
            rintro s ⟨v5, hs, h⟩
            refine SP.sub hs ?_
            clear hs
            unfold content_set_j5 at h
            refine SP.join (fun s => ∃ (v6 : Int), Sub s (content_set_S6 p0_c v6) ∧ content_set_j6 p0_c v6 = some r) ?_ ?_
            · clear h
              rintro s ⟨v6, hs, h⟩
              refine SP.sub hs ?_
              clear hs
              unfold content_set_j6 at h
              refine SP.join (fun s => ∃ (v7 : Int), Sub s (content_set_S7 p0_c v7) ∧ content_set_j7 p0_c v7 = some r) ?_ ?_
              · clear h
                rintro s ⟨v7, hs, h⟩
                refine SP.sub hs ?_
                clear hs
                unfold content_set_j7 at h
                refine SP.join (fun s => ∃ (v8 : Int), Sub s (content_set_S8 v8) ∧ content_set_j8 v8 = some r) ?_ ?_
                · clear h
                  rintro s ⟨v8, hs, h⟩
                  refine SP.sub hs ?_
                  clear hs
                  unfold content_set_j8 at h
                  refine SP.rg <| .a 2 <| .nil ?_
                  refine SP.ret ?_
                  rw [← Option.some.inj h]
                  exact ⟨[.d (eI v8)], [], ⟨resV_tmp (by kernel_rfl), trivial⟩, by kernel_rfl, by kernel_rfl, by kernel_rfl⟩
                · intro K9
                  obtain ⟨x10, hx10, h⟩ := of_bind h
                  refine SP.rg <| .a 2 <| .call (content_bare_ok p0_c.Levels x10 hx10) ent91 <| .a 1 <| .nil ?_
                  refine SP.cond (!x10) (by kernel_rfl) (fun hb11 => ?_) (fun hb11 => ?_)
                  · replace h := of_bif_true hb11 h
                    refine SP.rgn <| .a 1 <| .p (ok_or (k := .i64) (u := v7) (v := 128) rfl) <| .a 1 <| .nil ?_
                    exact K9 _ ⟨(gBits .or .i64 v7 128), sub_of (mk 47 8) [], h⟩
                  · replace h := of_bif_false hb11 h
                    refine SP.skip ?_
                    exact K9 _ ⟨v7, sub_of (mk 47 8) [], h⟩
              · intro K12
                refine SP.rg <| .a 2 <| .p (ok_lenT eS p0_c.Deny und24 rfl) <| .a 1 <| .nil ?_
                refine SP.cond (decide ((p0_c.Deny.length : Int) > 0)) (by kernel_rfl) (fun hb13 => ?_) (fun hb13 => ?_)
                · replace h := of_bif_true hb13 h
                  refine SP.rgn <| .a 1 <| .p (ok_or (k := .i64) (u := v6) (v := 64) rfl) <| .a 1 <| .nil ?_
                  exact K12 _ ⟨(gBits .or .i64 v6 64), sub_of (mk 47 10) [(0, true)], h⟩
                · replace h := of_bif_false hb13 h
                  refine SP.skip ?_
                  exact K12 _ ⟨v6, sub_of (mk 47 10) [(0, true)], h⟩
            · intro K14
              refine SP.rg <| .a 2 <| .p (ok_lenT eS p0_c.Allow und24 rfl) <| .a 1 <| .nil ?_
              refine SP.cond (decide ((p0_c.Allow.length : Int) > 0)) (by kernel_rfl) (fun hb15 => ?_) (fun hb15 => ?_)
              · replace h := of_bif_true hb15 h
                refine SP.rgn <| .a 1 <| .p (ok_or (k := .i64) (u := v5) (v := 32) rfl) <| .a 1 <| .nil ?_
                exact K14 _ ⟨(gBits .or .i64 v5 32), sub_of (mk 47 10) [(0, true)], h⟩
              · replace h := of_bif_false hb15 h
                refine SP.skip ?_
                exact K14 _ ⟨v5, sub_of (mk 47 10) [(0, true)], h⟩
          · intro K16
            refine SP.rg <| .a 3 <| .nil ?_
            refine SP.cond (!(p0_c.Via.toList == s0.toList)) (by kernel_rfl) (fun hb17 => ?_) (fun hb17 => ?_)
            · replace h := of_bif_true hb17 h
              refine SP.rgn <| .a 1 <| .p (ok_or (k := .i64) (u := v4) (v := 16) rfl) <| .a 1 <| .nil ?_
              exact K16 _ ⟨(gBits .or .i64 v4 16), sub_of (mk 47 10) [(0, true)], h⟩
            · replace h := of_bif_false hb17 h
              refine SP.skip ?_
              exact K16 _ ⟨v4, sub_of (mk 47 10) [(0, true)], h⟩
        · intro K18
          refine SP.rg <| .a 2 <| .nil ?_
          refine SP.cond p0_c.Thread (by kernel_rfl) (fun hb19 => ?_) (fun hb19 => ?_)
          · replace h := of_bif_true hb19 h
            refine SP.rgn <| .a 1 <| .p (ok_or (k := .i64) (u := v3) (v := 8) rfl) <| .a 1 <| .nil ?_
            exact K18 _ ⟨(gBits .or .i64 v3 8), sub_of (mk 47 10) [(0, true)], h⟩
          · replace h := of_bif_false hb19 h
            refine SP.skip ?_
            exact K18 _ ⟨v3, sub_of (mk 47 10) [(0, true)], h⟩
      · intro K20
        refine SP.rg <| .a 3 <| .nil ?_
        refine SP.cond (p0_c.Target != 0) (by kernel_rfl) (fun hb21 => ?_) (fun hb21 => ?_)
        · replace h := of_bif_true hb21 h
          refine SP.rgn <| .a 1 <| .p (ok_or (k := .i64) (u := v2) (v := 4) rfl) <| .a 1 <| .nil ?_
          exact K20 _ ⟨(gBits .or .i64 v2 4), sub_of (mk 47 10) [(0, true)], h⟩
        · replace h := of_bif_false hb21 h
          refine SP.skip ?_
          exact K20 _ ⟨v2, sub_of (mk 47 10) [(0, true)], h⟩
    · intro K22
      refine SP.rg <| .a 3 <| .nil ?_
      refine SP.cond (p0_c.N != 0) (by kernel_rfl) (fun hb23 => ?_) (fun hb23 => ?_)
      · replace h := of_bif_true hb23 h
        refine SP.rgn <| .a 1 <| .p (ok_or (k := .i64) (u := v1) (v := 2) rfl) <| .a 1 <| .nil ?_
        exact K22 _ ⟨(gBits .or .i64 v1 2), sub_of (mk 47 10) [(0, true)], h⟩
      · replace h := of_bif_false hb23 h
        refine SP.skip ?_
        exact K22 _ ⟨v1, sub_of (mk 47 10) [(0, true)], h⟩
  · intro K24
    refine SP.rg <| .a 3 <| .nil ?_
    refine SP.cond (!(p0_c.Text.toList == s0.toList)) (by kernel_rfl) (fun hb25 => ?_) (fun hb25 => ?_)
    · replace h := of_bif_true hb25 h
      refine SP.rgn <| .a 1 <| .p (ok_or (k := .i64) (u := 0) (v := 1) rfl) <| .a 1 <| .nil ?_
      exact K24 _ ⟨(gBits .or .i64 0 1), sub_of (mk 47 10) [(0, true)], h⟩
    · replace h := of_bif_false hb25 h
      refine SP.skip ?_
      exact K24 _ ⟨0, sub_of (mk 47 10) [(0, true)], h⟩

-- fedchat/glob.Check
def glob_Check_S1 (p0_p : ByteArray) (v3 : Int) : St := ⟨shp 27 [(0, .d (eS p0_p)), (12, .d (eI (p0_p.size : Int))), (13, .d (eI v3))], [], 0⟩
def glob_Check_B1 (p0_p : ByteArray) (k4 : (Int → Option Int)) : Int → Option Int := fun v3 => (bif decide (v3 < (p0_p.size : Int)) then (gByte p0_p v3).bind fun x6 => (bif decide (x6 < 33) then some true else (gByte p0_p v3).bind fun x9 => some (decide (x9 > 126))).bind fun x7 => (bif x7 then some 3 else k4 (IntKind.i64.wrap (v3 + 1))) else some 0)
def glob_Check_L1 (p0_p : ByteArray) : Int → Option Int := loop1 (glob_Check_B1 p0_p) fuel
def glob_Check (p0_p : ByteArray) : Option Int := (bif (p0_p.toList == s0.toList) then some 9 else (bif decide ((p0_p.size : Int) > 64) then some 7 else glob_Check_L1 p0_p 0))
theorem glob_Check_ok (p0_p : ByteArray) (r : Int) (h : glob_Check p0_p = some r) : Runs Try.prog 92 [.d (eS p0_p)] [] (.d (eI r)) [] := by
  refine Runs.of_fin Try.func92 rfl ?_
  unfold glob_Check at h
  refine SP.rg <| .a 1 <| .nil ?_
  refine SP.seqc ?_
  refine SP.block ?_
  refine SP.rg <| .a 3 <| .nil ?_
  refine SP.cond (p0_p.toList == s0.toList) (by kernel_rfl) (fun hb1 => ?_) (fun hb1 => ?_)
  · replace h := of_bif_true hb1 h
    refine SP.rg <| .a 1 <| .nil ?_
    refine SP.ret ?_
    rw [← Option.some.inj h]
    exact ⟨[.d (eI 9)], [], ⟨resV_tmp (by kernel_rfl), trivial⟩, by kernel_rfl, by kernel_rfl, by kernel_rfl⟩
  · replace h := of_bif_false hb1 h
    refine SP.rg <| .a 4 <| .nil ?_
    refine SP.cond (decide ((p0_p.size : Int) > 64)) (by kernel_rfl) (fun hb2 => ?_) (fun hb2 => ?_)
    · replace h := of_bif_true hb2 h
      refine SP.rg <| .a 1 <| .nil ?_
      refine SP.ret ?_
      rw [← Option.some.inj h]
      exact ⟨[.d (eI 7)], [], ⟨resV_tmp (by kernel_rfl), trivial⟩, by kernel_rfl, by kernel_rfl, by kernel_rfl⟩
    · replace h := of_bif_false hb2 h
      refine SP.skip ?_
      refine SP.seqc ?_
      refine SP.rg <| .a 3 <| .nil ?_
      refine SP.block ?_
      refine SP.loop1 (glob_Check_S1 p0_p) (glob_Check_B1 p0_p) r 0 (sub_of (mk 27 12289) []) h ?_
      clear h
      intro J11 k4 hk4 v3 h
      unfold glob_Check_B1 at h
      refine SP.rg <| .a 1 <| .nil ?_
      refine SP.seqc ?_
      refine SP.cond (decide (v3 < (p0_p.size : Int))) (by kernel_rfl) (fun hb5 => ?_) (fun hb5 => ?_)
      · replace h := of_bif_true hb5 h
        refine SP.skip ?_
        refine SP.seqc ?_
        refine SP.block ?_
        refine SP.rg <| .a 2 <| .nil ?_
        obtain ⟨x6, hx6, h⟩ := of_bind h
        refine SP.rg <| .a 2 <| .p (ok_byteT (k := .i64) hx6 und9 rfl) <| .a 1 <| ?_
        obtain ⟨x7, hx7, h⟩ := of_bind h
        refine .merge 6 [20, 21, 22, 23, 24] 25 (.d (eB x7)) ?_ ?_
        · replace h := hx7
          rcases Bool.eq_false_or_eq_true (decide (x6 < 33)) with hb8 | hb8
          · replace h := of_bif_true hb8 h
            refine .c (congrArg some hb8) <| .a 5 <| .nil ?_
            obtain rfl := Option.some.inj h
            kernel_rfl
          · replace h := of_bif_false hb8 h
            obtain ⟨x9, hx9, h⟩ := of_bind h
            refine .c (congrArg some hb8) <| .a 2 <| .p (ok_byteT (k := .i64) hx9 und9 rfl) <| .a 2 <| .nil ?_
            obtain rfl := Option.some.inj h
            kernel_rfl
        refine .nil ?_
        refine SP.cond x7 (by kernel_rfl) (fun hb10 => ?_) (fun hb10 => ?_)
        · replace h := of_bif_true hb10 h
          refine SP.rg <| .a 1 <| .nil ?_
          refine SP.ret ?_
          rw [← Option.some.inj h]
          exact ⟨[.d (eI 3)], [], ⟨resV_tmp (by kernel_rfl), trivial⟩, by kernel_rfl, by kernel_rfl, by kernel_rfl⟩
        · replace h := of_bif_false hb10 h
          refine SP.skip ?_
          refine SP.rgn <| .a 2 <| .nil ?_
          exact hk4 _ (IntKind.i64.wrap (v3 + 1)) (sub_of (mk 27 12289) []) h
      · replace h := of_bif_false hb5 h
        refine SP.exit ?_
        refine SP.rg <| .a 1 <| .nil ?_
        refine SP.ret ?_
        rw [← Option.some.inj h]
        exact ⟨[.d (eI 0)], [], ⟨resV_tmp (by kernel_rfl), trivial⟩, by kernel_rfl, by kernel_rfl, by kernel_rfl⟩

-- fedchat/content.patterns
def content_patterns_S1 (p0_l : (List ByteArray)) (v2 : Int) : St := ⟨shp 21 [(9, .d ((eL eS) p0_l)), (10, .d (eI (p0_l.length : Int))), (11, .d (eI v2))], [], 0⟩
def content_patterns_B1 (p0_l : (List ByteArray)) (k3 : (Int → Option Int)) : Int → Option Int := fun v2 => (bif decide (v2 < (p0_l.length : Int)) then (gIdx p0_l v2).bind fun x5 => (glob_Check x5).bind fun x6 => (bif (x6 != 0) then some x6 else k3 (IntKind.i64.wrap (v2 + 1))) else some 0)
def content_patterns_L1 (p0_l : (List ByteArray)) : Int → Option Int := loop1 (content_patterns_B1 p0_l) fuel
def content_patterns (p0_l : (List ByteArray)) : Option Int := (bif decide ((p0_l.length : Int) > 100) then some 7 else content_patterns_L1 p0_l 0)
theorem content_patterns_ok (p0_l : (List ByteArray)) (r : Int) (h : content_patterns p0_l = some r) : Runs Try.prog 79 [.d ((eL eS) p0_l)] [] (.d (eI r)) [] := by
  refine Runs.of_fin Try.func79 rfl ?_
  unfold content_patterns at h
  refine SP.rg <| .a 1 <| .nil ?_
  refine SP.seqc ?_
  refine SP.rg <| .a 1 <| .p (ok_lenT eS p0_l und24 rfl) <| .a 1 <| .nil ?_
  refine SP.cond (decide ((p0_l.length : Int) > 100)) (by kernel_rfl) (fun hb1 => ?_) (fun hb1 => ?_)
  · replace h := of_bif_true hb1 h
    refine SP.rg <| .a 1 <| .nil ?_
    refine SP.ret ?_
    rw [← Option.some.inj h]
    exact ⟨[.d (eI 7)], [], ⟨resV_tmp (by kernel_rfl), trivial⟩, by kernel_rfl, by kernel_rfl, by kernel_rfl⟩
  · replace h := of_bif_false hb1 h
    refine SP.skip ?_
    refine SP.seqc ?_
    refine SP.rg <| .a 1 <| .p (ok_lenT eS p0_l und24 rfl) <| .a 1 <| .nil ?_
    refine SP.block ?_
    refine SP.loop1 (content_patterns_S1 p0_l) (content_patterns_B1 p0_l) r 0 (sub_of (mk 21 3584) []) h ?_
    clear h
    intro J8 k3 hk3 v2 h
    unfold content_patterns_B1 at h
    refine SP.rg <| .a 1 <| .nil ?_
    refine SP.seqc ?_
    refine SP.cond (decide (v2 < (p0_l.length : Int))) (by kernel_rfl) (fun hb4 => ?_) (fun hb4 => ?_)
    · replace h := of_bif_true hb4 h
      refine SP.skip ?_
      refine SP.seqc ?_
      refine SP.block ?_
      obtain ⟨x5, hx5, h⟩ := of_bind h
      refine SP.rg <| .p (ok_idxT (k := .i64) eS hx5 und24 ty9 (by kernel_rfl) rfl) <| .a 2 <| .nil ?_
      obtain ⟨x6, hx6, h⟩ := of_bind h
      refine SP.rg <| .a 1 <| .call (glob_Check_ok x5 x6 hx6) ent92 <| .a 1 <| .nil ?_
      refine SP.rg <| .a 2 <| .nil ?_
      refine SP.cond (x6 != 0) (by kernel_rfl) (fun hb7 => ?_) (fun hb7 => ?_)
      · replace h := of_bif_true hb7 h
        refine SP.rg <| .a 2 <| .nil ?_
        refine SP.ret ?_
        rw [← Option.some.inj h]
        exact ⟨[.d (eI x6)], [], ⟨resV_tmp (by kernel_rfl), trivial⟩, by kernel_rfl, by kernel_rfl, by kernel_rfl⟩
      · replace h := of_bif_false hb7 h
        refine SP.skip ?_
        refine SP.rgn <| .a 2 <| .nil ?_
        exact hk3 _ (IntKind.i64.wrap (v2 + 1)) (sub_of (mk 21 3584) []) h
    · replace h := of_bif_false hb4 h
      refine SP.exit ?_
      refine SP.rg <| .a 1 <| .nil ?_
      refine SP.ret ?_
      rw [← Option.some.inj h]
      exact ⟨[.d (eI 0)], [], ⟨resV_tmp (by kernel_rfl), trivial⟩, by kernel_rfl, by kernel_rfl, by kernel_rfl⟩

-- fedchat/content.high
def content_high (p0_n : Int) : Option Bool := (bif decide (p0_n < (-1000)) then some true else some (decide (p0_n > 1000))).bind fun x1 => some x1
theorem content_high_ok (p0_n : Int) (r : Bool) (h : content_high p0_n = some r) : Runs Try.prog 95 [.d (eI p0_n)] [] (.d (eB r)) [] := by
  refine Runs.of_fin Try.func95 rfl ?_
  unfold content_high at h
  refine SP.rg <| .a 1 <| .nil ?_
  refine SP.rg <| .a 2 <| ?_
  obtain ⟨x1, hx1, h⟩ := of_bind h
  refine .merge 4 [5, 6, 7] 8 (.d (eB x1)) ?_ ?_
  · replace h := hx1
    rcases Bool.eq_false_or_eq_true (decide (p0_n < (-1000))) with hb2 | hb2
    · replace h := of_bif_true hb2 h
      refine .c (congrArg some hb2) <| .a 3 <| .nil ?_
      obtain rfl := Option.some.inj h
      kernel_rfl
    · replace h := of_bif_false hb2 h
      refine .c (congrArg some hb2) <| .a 3 <| .nil ?_
      obtain rfl := Option.some.inj h
      kernel_rfl
  refine .a 1 <| .nil ?_
  refine SP.ret ?_
  rw [← Option.some.inj h]
  exact ⟨[.d (eB x1)], [], ⟨resV_tmp (by kernel_rfl), trivial⟩, by kernel_rfl, by kernel_rfl, by kernel_rfl⟩

-- fedchat/content.users
def content_users_S1 (p0_l : (List ApiLevel)) (v2 : Int) : St := ⟨shp 39 [(0, .d ((eL eApiLevel) p0_l)), (8, .d ((eL eApiLevel) p0_l)), (9, .d (eI (p0_l.length : Int))), (10, .d (eI v2))], [], 0⟩
def content_users_S2 (p0_l : (List ApiLevel)) (v2 : Int) (x5 : ApiLevel) (v8 : Bool) : St := ⟨shp 39 [(0, .d ((eL eApiLevel) p0_l)), (4, .ptr 0 0), (8, .d ((eL eApiLevel) p0_l)), (9, .d (eI (p0_l.length : Int))), (10, .d (eI v2)), (20, .d (eB v8))], [.box (dc (eApiLevel x5))], 0⟩
def content_users_j2 (x5 : ApiLevel) (k3 : (Int → Option Int)) (v2 : Int) (v8 : Bool) : Option Int := (bif v8 then some 8 else (content_high x5.N).bind fun x10 => (bif x10 then some 2 else k3 (IntKind.i64.wrap (v2 + 1))))
def content_users_B1 (p0_l : (List ApiLevel)) (k3 : (Int → Option Int)) : Int → Option Int := fun v2 => (bif decide (v2 < (p0_l.length : Int)) then (gIdx p0_l v2).bind fun x5 => (ids_User x5.User).bind fun x6 => (bif (x6 != 0) then some 3 else (bif decide (v2 > 0) then (gIdx p0_l (IntKind.i64.wrap (v2 - 1))).bind fun x14 => content_users_j2 x5 k3 v2 (Op.bytesLess (x5.User.toList) (x14.User.toList) || x5.User.toList == x14.User.toList) else content_users_j2 x5 k3 v2 false)) else some 0)
def content_users_L1 (p0_l : (List ApiLevel)) : Int → Option Int := loop1 (content_users_B1 p0_l) fuel
def content_users (p0_l : (List ApiLevel)) : Option Int := (bif decide ((p0_l.length : Int) > 100) then some 7 else content_users_L1 p0_l 0)
theorem content_users_ok (p0_l : (List ApiLevel)) (r : Int) (h : content_users p0_l = some r) : Runs Try.prog 93 [.d ((eL eApiLevel) p0_l)] [] (.d (eI r)) [] := by
  refine Runs.of_fin Try.func93 rfl ?_
  unfold content_users at h
  refine SP.rg <| .a 1 <| .nil ?_
  refine SP.seqc ?_
  refine SP.rg <| .a 1 <| .p (ok_lenT eApiLevel p0_l und34 rfl) <| .a 1 <| .nil ?_
  refine SP.cond (decide ((p0_l.length : Int) > 100)) (by kernel_rfl) (fun hb1 => ?_) (fun hb1 => ?_)
  · replace h := of_bif_true hb1 h
    refine SP.rg <| .a 1 <| .nil ?_
    refine SP.ret ?_
    rw [← Option.some.inj h]
    exact ⟨[.d (eI 7)], [], ⟨resV_tmp (by kernel_rfl), trivial⟩, by kernel_rfl, by kernel_rfl, by kernel_rfl⟩
  · replace h := of_bif_false hb1 h
    refine SP.skip ?_
    refine SP.seqc ?_
    refine SP.rg <| .a 1 <| .p (ok_lenT eApiLevel p0_l und34 rfl) <| .a 1 <| .nil ?_
    refine SP.block ?_
    refine SP.loop1 (content_users_S1 p0_l) (content_users_B1 p0_l) r 0 (sub_of (mk 39 1793) []) h ?_
    clear h
    intro J15 k3 hk3 v2 h
    unfold content_users_B1 at h
    refine SP.rg <| .a 1 <| .nil ?_
    refine SP.seqc ?_
    refine SP.cond (decide (v2 < (p0_l.length : Int))) (by kernel_rfl) (fun hb4 => ?_) (fun hb4 => ?_)
    · replace h := of_bif_true hb4 h
      refine SP.skip ?_
      refine SP.seqc ?_
      refine SP.block ?_
      obtain ⟨x5, hx5, h⟩ := of_bind h
      refine SP.rg <| .a 1 <| .p (ok_idxT (k := .i64) eApiLevel hx5 und34 ty62 (by kernel_rfl) rfl) <| .a 4 <| .nil ?_
      refine SP.block ?_
      obtain ⟨x6, hx6, h⟩ := of_bind h
      refine SP.rg <| .a 2 <| .call (ids_User_ok x5.User x6 hx6) ent68 <| .a 2 <| .nil ?_
      refine SP.cond (x6 != 0) (by kernel_rfl) (fun hb7 => ?_) (fun hb7 => ?_)
      · replace h := of_bif_true hb7 h
        refine SP.rg <| .a 1 <| .nil ?_
        refine SP.ret ?_
        rw [← Option.some.inj h]
        exact ⟨[.d (eI 3)], [], ⟨resV_tmp (by kernel_rfl), trivial⟩, by kernel_rfl, by kernel_rfl, by kernel_rfl⟩
      · replace h := of_bif_false hb7 h
        refine SP.join (fun s => ∃ (v8 : Bool), Sub s (content_users_S2 p0_l v2 x5 v8) ∧ content_users_j2 x5 k3 v2 v8 = some r) ?_ ?_
        · clear h
          rintro s ⟨v8, hs, h⟩
          refine SP.sub hs ?_
          clear hs
          unfold content_users_j2 at h
          refine SP.cond v8 (by kernel_rfl) (fun hb9 => ?_) (fun hb9 => ?_)
          · replace h := of_bif_true hb9 h
            refine SP.rg <| .a 1 <| .nil ?_
            refine SP.ret ?_
            rw [← Option.some.inj h]
            exact ⟨[.d (eI 8)], [], ⟨resV_tmp (by kernel_rfl), trivial⟩, by kernel_rfl, by kernel_rfl, by kernel_rfl⟩
          · replace h := of_bif_false hb9 h
            obtain ⟨x10, hx10, h⟩ := of_bind h
            refine SP.rg <| .a 2 <| .call (content_high_ok x5.N x10 hx10) ent95 <| .a 1 <| .nil ?_
            refine SP.cond x10 (by kernel_rfl) (fun hb11 => ?_) (fun hb11 => ?_)
            · replace h := of_bif_true hb11 h
              refine SP.rg <| .a 1 <| .nil ?_
              refine SP.ret ?_
              rw [← Option.some.inj h]
              exact ⟨[.d (eI 2)], [], ⟨resV_tmp (by kernel_rfl), trivial⟩, by kernel_rfl, by kernel_rfl, by kernel_rfl⟩
            · replace h := of_bif_false hb11 h
              refine SP.skip ?_
              refine SP.rgn <| .a 2 <| .nil ?_
              exact hk3 _ (IntKind.i64.wrap (v2 + 1)) (sub_of (mk 39 1793) []) h
        · intro K12
          rcases Bool.eq_false_or_eq_true (decide (v2 > 0)) with hb13 | hb13
          · replace h := of_bif_true hb13 h
            obtain ⟨x14, hx14, h⟩ := of_bind h
            refine SP.draw (by kernel_rfl) (by kernel_rfl) (by kernel_rfl) (.a 2 <| .c (congrArg some hb13) <| .a 5 <| .p (ok_idxT (k := .i64) eApiLevel hx14 und34 ty62 (by kernel_rfl) rfl) <| .a 5 <| .nil _) ?_
            exact K12 _ ⟨(Op.bytesLess (x5.User.toList) (x14.User.toList) || x5.User.toList == x14.User.toList), sub_of (mk 39 1050385) [(0, true)], h⟩
          · replace h := of_bif_false hb13 h
            refine SP.draw (by kernel_rfl) (by kernel_rfl) (by kernel_rfl) (.a 2 <| .c (congrArg some hb13) <| .a 11 <| .nil _) ?_
            exact K12 _ ⟨false, sub_of (mk 39 1050385) [(0, true)], h⟩
    · replace h := of_bif_false hb4 h
      refine SP.exit ?_
      refine SP.rg <| .a 1 <| .nil ?_
      refine SP.ret ?_
      rw [← Option.some.inj h]
      exact ⟨[.d (eI 0)], [], ⟨resV_tmp (by kernel_rfl), trivial⟩, by kernel_rfl, by kernel_rfl, by kernel_rfl⟩

-- fedchat/content.kinds
def content_kinds_S1 (p0_l : (List ApiKindLevel)) (v2 : Int) : St := ⟨shp 39 [(0, .d ((eL eApiKindLevel) p0_l)), (8, .d ((eL eApiKindLevel) p0_l)), (9, .d (eI (p0_l.length : Int))), (10, .d (eI v2))], [], 0⟩
def content_kinds_S2 (p0_l : (List ApiKindLevel)) (v2 : Int) (x5 : ApiKindLevel) (v8 : Bool) : St := ⟨shp 39 [(0, .d ((eL eApiKindLevel) p0_l)), (4, .ptr 0 0), (8, .d ((eL eApiKindLevel) p0_l)), (9, .d (eI (p0_l.length : Int))), (10, .d (eI v2)), (20, .d (eB v8))], [.box (dc (eApiKindLevel x5))], 0⟩
def content_kinds_j2 (x5 : ApiKindLevel) (k3 : (Int → Option Int)) (v2 : Int) (v8 : Bool) : Option Int := (bif v8 then some 8 else (content_high x5.N).bind fun x10 => (bif x10 then some 2 else k3 (IntKind.i64.wrap (v2 + 1))))
def content_kinds_B1 (p0_l : (List ApiKindLevel)) (k3 : (Int → Option Int)) : Int → Option Int := fun v2 => (bif decide (v2 < (p0_l.length : Int)) then (gIdx p0_l v2).bind fun x5 => (content_known x5.Kind).bind fun x6 => (bif (!x6) then some 1 else (bif decide (v2 > 0) then (gIdx p0_l (IntKind.i64.wrap (v2 - 1))).bind fun x14 => content_kinds_j2 x5 k3 v2 (decide (x5.Kind ≤ x14.Kind)) else content_kinds_j2 x5 k3 v2 false)) else some 0)
def content_kinds_L1 (p0_l : (List ApiKindLevel)) : Int → Option Int := loop1 (content_kinds_B1 p0_l) fuel
def content_kinds (p0_l : (List ApiKindLevel)) : Option Int := (bif decide ((p0_l.length : Int) > 100) then some 7 else content_kinds_L1 p0_l 0)
theorem content_kinds_ok (p0_l : (List ApiKindLevel)) (r : Int) (h : content_kinds p0_l = some r) : Runs Try.prog 94 [.d ((eL eApiKindLevel) p0_l)] [] (.d (eI r)) [] := by
  refine Runs.of_fin Try.func94 rfl ?_
  unfold content_kinds at h
  refine SP.rg <| .a 1 <| .nil ?_
  refine SP.seqc ?_
  refine SP.rg <| .a 1 <| .p (ok_lenT eApiKindLevel p0_l und35 rfl) <| .a 1 <| .nil ?_
  refine SP.cond (decide ((p0_l.length : Int) > 100)) (by kernel_rfl) (fun hb1 => ?_) (fun hb1 => ?_)
  · replace h := of_bif_true hb1 h
    refine SP.rg <| .a 1 <| .nil ?_
    refine SP.ret ?_
    rw [← Option.some.inj h]
    exact ⟨[.d (eI 7)], [], ⟨resV_tmp (by kernel_rfl), trivial⟩, by kernel_rfl, by kernel_rfl, by kernel_rfl⟩
  · replace h := of_bif_false hb1 h
    refine SP.skip ?_
    refine SP.seqc ?_
    refine SP.rg <| .a 1 <| .p (ok_lenT eApiKindLevel p0_l und35 rfl) <| .a 1 <| .nil ?_
    refine SP.block ?_
    refine SP.loop1 (content_kinds_S1 p0_l) (content_kinds_B1 p0_l) r 0 (sub_of (mk 39 1793) []) h ?_
    clear h
    intro J15 k3 hk3 v2 h
    unfold content_kinds_B1 at h
    refine SP.rg <| .a 1 <| .nil ?_
    refine SP.seqc ?_
    refine SP.cond (decide (v2 < (p0_l.length : Int))) (by kernel_rfl) (fun hb4 => ?_) (fun hb4 => ?_)
    · replace h := of_bif_true hb4 h
      refine SP.skip ?_
      refine SP.seqc ?_
      refine SP.block ?_
      obtain ⟨x5, hx5, h⟩ := of_bind h
      refine SP.rg <| .a 1 <| .p (ok_idxT (k := .i64) eApiKindLevel hx5 und35 ty90 (by kernel_rfl) rfl) <| .a 4 <| .nil ?_
      refine SP.block ?_
      obtain ⟨x6, hx6, h⟩ := of_bind h
      refine SP.rg <| .a 2 <| .call (content_known_ok x5.Kind x6 hx6) ent71 <| .a 2 <| .nil ?_
      refine SP.cond (!x6) (by kernel_rfl) (fun hb7 => ?_) (fun hb7 => ?_)
      · replace h := of_bif_true hb7 h
        refine SP.rg <| .a 1 <| .nil ?_
        refine SP.ret ?_
        rw [← Option.some.inj h]
        exact ⟨[.d (eI 1)], [], ⟨resV_tmp (by kernel_rfl), trivial⟩, by kernel_rfl, by kernel_rfl, by kernel_rfl⟩
      · replace h := of_bif_false hb7 h
        refine SP.join (fun s => ∃ (v8 : Bool), Sub s (content_kinds_S2 p0_l v2 x5 v8) ∧ content_kinds_j2 x5 k3 v2 v8 = some r) ?_ ?_
        · clear h
          rintro s ⟨v8, hs, h⟩
          refine SP.sub hs ?_
          clear hs
          unfold content_kinds_j2 at h
          refine SP.cond v8 (by kernel_rfl) (fun hb9 => ?_) (fun hb9 => ?_)
          · replace h := of_bif_true hb9 h
            refine SP.rg <| .a 1 <| .nil ?_
            refine SP.ret ?_
            rw [← Option.some.inj h]
            exact ⟨[.d (eI 8)], [], ⟨resV_tmp (by kernel_rfl), trivial⟩, by kernel_rfl, by kernel_rfl, by kernel_rfl⟩
          · replace h := of_bif_false hb9 h
            obtain ⟨x10, hx10, h⟩ := of_bind h
            refine SP.rg <| .a 2 <| .call (content_high_ok x5.N x10 hx10) ent95 <| .a 1 <| .nil ?_
            refine SP.cond x10 (by kernel_rfl) (fun hb11 => ?_) (fun hb11 => ?_)
            · replace h := of_bif_true hb11 h
              refine SP.rg <| .a 1 <| .nil ?_
              refine SP.ret ?_
              rw [← Option.some.inj h]
              exact ⟨[.d (eI 2)], [], ⟨resV_tmp (by kernel_rfl), trivial⟩, by kernel_rfl, by kernel_rfl, by kernel_rfl⟩
            · replace h := of_bif_false hb11 h
              refine SP.skip ?_
              refine SP.rgn <| .a 2 <| .nil ?_
              exact hk3 _ (IntKind.i64.wrap (v2 + 1)) (sub_of (mk 39 1793) []) h
        · intro K12
          rcases Bool.eq_false_or_eq_true (decide (v2 > 0)) with hb13 | hb13
          · replace h := of_bif_true hb13 h
            obtain ⟨x14, hx14, h⟩ := of_bind h
            refine SP.draw (by kernel_rfl) (by kernel_rfl) (by kernel_rfl) (.a 2 <| .c (congrArg some hb13) <| .a 5 <| .p (ok_idxT (k := .i64) eApiKindLevel hx14 und35 ty90 (by kernel_rfl) rfl) <| .a 5 <| .nil _) ?_
            exact K12 _ ⟨(decide (x5.Kind ≤ x14.Kind)), sub_of (mk 39 1050385) [(0, true)], h⟩
          · replace h := of_bif_false hb13 h
            refine SP.draw (by kernel_rfl) (by kernel_rfl) (by kernel_rfl) (.a 2 <| .c (congrArg some hb13) <| .a 11 <| .nil _) ?_
            exact K12 _ ⟨false, sub_of (mk 39 1050385) [(0, true)], h⟩
    · replace h := of_bif_false hb4 h
      refine SP.exit ?_
      refine SP.rg <| .a 1 <| .nil ?_
      refine SP.ret ?_
      rw [← Option.some.inj h]
      exact ⟨[.d (eI 0)], [], ⟨resV_tmp (by kernel_rfl), trivial⟩, by kernel_rfl, by kernel_rfl, by kernel_rfl⟩

-- fedchat/content.Levels
def content_Levels_S1 (p0_l : ApiLevels) (v5 : Int) : St := ⟨shp 40 [(33, .d ((eA eI) ([p0_l.User, p0_l.Message, p0_l.State, p0_l.Invite, p0_l.Kick, p0_l.Ban, p0_l.Redact] : (List Int)))), (34, .d (eI v5))], [], 0⟩
def content_Levels_B1 (p0_l : ApiLevels) (k6 : (Int → Option Int)) : Int → Option Int := fun v5 => (bif decide (v5 < 7) then (gIdx ([p0_l.User, p0_l.Message, p0_l.State, p0_l.Invite, p0_l.Kick, p0_l.Ban, p0_l.Redact] : (List Int)) v5).bind fun x8 => (content_high x8).bind fun x9 => (bif x9 then some 2 else k6 (IntKind.i64.wrap (v5 + 1))) else some 0)
def content_Levels_L1 (p0_l : ApiLevels) : Int → Option Int := loop1 (content_Levels_B1 p0_l) fuel
def content_Levels (p0_l : ApiLevels) : Option Int := (content_users p0_l.Users).bind fun x1 => (bif (x1 != 0) then some x1 else (content_kinds p0_l.Kinds).bind fun x3 => (bif (x3 != 0) then some x3 else content_Levels_L1 p0_l 0))
theorem content_Levels_ok (p0_l : ApiLevels) (r : Int) (h : content_Levels p0_l = some r) : Runs Try.prog 80 [.d (eApiLevels p0_l)] [] (.d (eI r)) [] := by
  refine Runs.of_fin Try.func80 rfl ?_
  unfold content_Levels at h
  refine SP.rg <| .a 2 <| .nil ?_
  refine SP.seqc ?_
  obtain ⟨x1, hx1, h⟩ := of_bind h
  refine SP.rg <| .a 2 <| .call (content_users_ok p0_l.Users x1 hx1) ent93 <| .a 1 <| .nil ?_
  refine SP.rg <| .a 2 <| .nil ?_
  refine SP.cond (x1 != 0) (by kernel_rfl) (fun hb2 => ?_) (fun hb2 => ?_)
  · replace h := of_bif_true hb2 h
    refine SP.rg <| .a 2 <| .nil ?_
    refine SP.ret ?_
    rw [← Option.some.inj h]
    exact ⟨[.d (eI x1)], [], ⟨resV_tmp (by kernel_rfl), trivial⟩, by kernel_rfl, by kernel_rfl, by kernel_rfl⟩
  · replace h := of_bif_false hb2 h
    refine SP.skip ?_
    refine SP.seqc ?_
    obtain ⟨x3, hx3, h⟩ := of_bind h
    refine SP.rg <| .a 2 <| .call (content_kinds_ok p0_l.Kinds x3 hx3) ent94 <| .a 1 <| .nil ?_
    refine SP.rg <| .a 2 <| .nil ?_
    refine SP.cond (x3 != 0) (by kernel_rfl) (fun hb4 => ?_) (fun hb4 => ?_)
    · replace h := of_bif_true hb4 h
      refine SP.rg <| .a 2 <| .nil ?_
      refine SP.ret ?_
      rw [← Option.some.inj h]
      exact ⟨[.d (eI x3)], [], ⟨resV_tmp (by kernel_rfl), trivial⟩, by kernel_rfl, by kernel_rfl, by kernel_rfl⟩
    · replace h := of_bif_false hb4 h
      refine SP.skip ?_
      refine SP.seqc ?_
      refine SP.rg <| .a 16 <| .nil ?_
      refine SP.block ?_
      refine SP.loop1 (content_Levels_S1 p0_l) (content_Levels_B1 p0_l) r 0 (sub_of (mk 40 25769803776) []) h ?_
      clear h
      intro J11 k6 hk6 v5 h
      unfold content_Levels_B1 at h
      refine SP.rg <| .a 1 <| .nil ?_
      refine SP.seqc ?_
      refine SP.cond (decide (v5 < 7)) (by kernel_rfl) (fun hb7 => ?_) (fun hb7 => ?_)
      · replace h := of_bif_true hb7 h
        refine SP.skip ?_
        refine SP.seqc ?_
        refine SP.block ?_
        obtain ⟨x8, hx8, h⟩ := of_bind h
        refine SP.rg <| .p (ok_idxA (k := .i64) eI hx8 und113 ty3 (by kernel_rfl) rfl) <| .a 1 <| .nil ?_
        obtain ⟨x9, hx9, h⟩ := of_bind h
        refine SP.rg <| .a 1 <| .call (content_high_ok x8 x9 hx9) ent95 <| .nil ?_
        refine SP.cond x9 (by kernel_rfl) (fun hb10 => ?_) (fun hb10 => ?_)
        · replace h := of_bif_true hb10 h
          refine SP.rg <| .a 1 <| .nil ?_
          refine SP.ret ?_
          rw [← Option.some.inj h]
          exact ⟨[.d (eI 2)], [], ⟨resV_tmp (by kernel_rfl), trivial⟩, by kernel_rfl, by kernel_rfl, by kernel_rfl⟩
        · replace h := of_bif_false hb10 h
          refine SP.skip ?_
          refine SP.rgn <| .a 2 <| .nil ?_
          exact hk6 _ (IntKind.i64.wrap (v5 + 1)) (sub_of (mk 40 25769803776) []) h
      · replace h := of_bif_false hb7 h
        refine SP.exit ?_
        refine SP.rg <| .a 1 <| .nil ?_
        refine SP.ret ?_
        rw [← Option.some.inj h]
        exact ⟨[.d (eI 0)], [], ⟨resV_tmp (by kernel_rfl), trivial⟩, by kernel_rfl, by kernel_rfl, by kernel_rfl⟩

-- fedchat/content.checkText
def content_checkText_S1 (v8 : Bool) : St := ⟨shp 37 [(24, .d (eB v8))], [], 0⟩
def content_checkText_j1 (v8 : Bool) : Option Int := (bif v8 then some 7 else some 0)
def content_checkText (p0_k : Int) (p1_c : ApiContent) : Option Int := (bif (p0_k == 9) then some (!(p1_c.Text.toList == s0.toList)) else some false).bind fun x1 => (bif x1 then (glob_Check p1_c.Text).bind fun x4 => some x4 else (bif (p0_k == 12) then some (p1_c.Text.toList == s0.toList) else some false).bind fun x5 => (bif x5 then some 9 else (bif (p0_k == 12) then some (decide ((p1_c.Text.size : Int) > 32)) else some false).bind fun x11 => (bif x11 then content_checkText_j1 x11 else content_checkText_j1 (decide ((p1_c.Text.size : Int) > 400)))))
theorem content_checkText_ok (p0_k : Int) (p1_c : ApiContent) (r : Int) (h : content_checkText p0_k p1_c = some r) : Runs Try.prog 73 [.d (eI p0_k), .d (eApiContent p1_c)] [] (.d (eI r)) [] := by
  refine Runs.of_fin Try.func73 rfl ?_
  unfold content_checkText at h
  refine SP.rg <| .a 2 <| .nil ?_
  refine SP.seqc ?_
  refine SP.block ?_
  refine SP.rg <| .a 2 <| ?_
  obtain ⟨x1, hx1, h⟩ := of_bind h
  refine .merge 5 [8, 9, 10, 11] 12 (.d (eB x1)) ?_ ?_
  · replace h := hx1
    rcases Bool.eq_false_or_eq_true (p0_k == 9) with hb2 | hb2
    · replace h := of_bif_true hb2 h
      refine .c (congrArg some hb2) <| .a 4 <| .nil ?_
      obtain rfl := Option.some.inj h
      kernel_rfl
    · replace h := of_bif_false hb2 h
      refine .c (congrArg some hb2) <| .a 4 <| .nil ?_
      obtain rfl := Option.some.inj h
      kernel_rfl
  refine .a 1 <| .nil ?_
  refine SP.cond x1 (by kernel_rfl) (fun hb3 => ?_) (fun hb3 => ?_)
  · replace h := of_bif_true hb3 h
    obtain ⟨x4, hx4, h⟩ := of_bind h
    refine SP.rg <| .a 2 <| .call (glob_Check_ok p1_c.Text x4 hx4) ent92 <| .a 1 <| .nil ?_
    refine SP.ret ?_
    rw [← Option.some.inj h]
    exact ⟨[.d (eI x4)], [], ⟨resV_tmp (by kernel_rfl), trivial⟩, by kernel_rfl, by kernel_rfl, by kernel_rfl⟩
  · replace h := of_bif_false hb3 h
    refine SP.rg <| .a 2 <| ?_
    obtain ⟨x5, hx5, h⟩ := of_bind h
    refine .merge 5 [19, 20, 21, 22] 23 (.d (eB x5)) ?_ ?_
    · replace h := hx5
      rcases Bool.eq_false_or_eq_true (p0_k == 12) with hb6 | hb6
      · replace h := of_bif_true hb6 h
        refine .c (congrArg some hb6) <| .a 4 <| .nil ?_
        obtain rfl := Option.some.inj h
        kernel_rfl
      · replace h := of_bif_false hb6 h
        refine .c (congrArg some hb6) <| .a 4 <| .nil ?_
        obtain rfl := Option.some.inj h
        kernel_rfl
    refine .a 1 <| .nil ?_
    refine SP.cond x5 (by kernel_rfl) (fun hb7 => ?_) (fun hb7 => ?_)
    · replace h := of_bif_true hb7 h
      refine SP.rg <| .a 1 <| .nil ?_
      refine SP.ret ?_
      rw [← Option.some.inj h]
      exact ⟨[.d (eI 9)], [], ⟨resV_tmp (by kernel_rfl), trivial⟩, by kernel_rfl, by kernel_rfl, by kernel_rfl⟩
    · replace h := of_bif_false hb7 h
      refine SP.join (fun s => ∃ (v8 : Bool), Sub s (content_checkText_S1 v8) ∧ content_checkText_j1 v8 = some r) ?_ ?_
      · clear h
        rintro s ⟨v8, hs, h⟩
        refine SP.sub hs ?_
        clear hs
        unfold content_checkText_j1 at h
        refine SP.cond v8 (by kernel_rfl) (fun hb9 => ?_) (fun hb9 => ?_)
        · replace h := of_bif_true hb9 h
          refine SP.rg <| .a 1 <| .nil ?_
          refine SP.ret ?_
          rw [← Option.some.inj h]
          exact ⟨[.d (eI 7)], [], ⟨resV_tmp (by kernel_rfl), trivial⟩, by kernel_rfl, by kernel_rfl, by kernel_rfl⟩
        · replace h := of_bif_false hb9 h
          refine SP.skip ?_
          refine SP.rg <| .a 1 <| .nil ?_
          refine SP.ret ?_
          rw [← Option.some.inj h]
          exact ⟨[.d (eI 0)], [], ⟨resV_tmp (by kernel_rfl), trivial⟩, by kernel_rfl, by kernel_rfl, by kernel_rfl⟩
      · intro K10
        refine SP.rg <| .a 2 <| ?_
        obtain ⟨x11, hx11, h⟩ := of_bind h
        refine .merge 6 [27, 28, 29, 30, 31] 32 (.d (eB x11)) ?_ ?_
        · replace h := hx11
          rcases Bool.eq_false_or_eq_true (p0_k == 12) with hb12 | hb12
          · replace h := of_bif_true hb12 h
            refine .c (congrArg some hb12) <| .a 5 <| .nil ?_
            obtain rfl := Option.some.inj h
            kernel_rfl
          · replace h := of_bif_false hb12 h
            refine .c (congrArg some hb12) <| .a 5 <| .nil ?_
            obtain rfl := Option.some.inj h
            kernel_rfl
        refine .a 1 <| .nil ?_
        refine SP.cond x11 (by kernel_rfl) (fun hb13 => ?_) (fun hb13 => ?_)
        · replace h := of_bif_true hb13 h
          refine SP.skip ?_
          exact K10 _ ⟨x11, sub_of (mk 37 16777216) [], h⟩
        · replace h := of_bif_false hb13 h
          refine SP.rgn <| .a 5 <| .nil ?_
          exact K10 _ ⟨(decide ((p1_c.Text.size : Int) > 400)), sub_of (mk 37 16777216) [], h⟩

-- fedchat/content.checkN
def content_checkN_S1 (p1_c : ApiContent) (v1 : Int) (v2 : Int) : St := ⟨shp 39 [(3, .ptr 0 0), (5, .d (eI v1)), (6, .d (eI v2))], [.box (dc (eApiContent p1_c))], 0⟩
def content_checkN_j1 (p1_c : ApiContent) (v1 : Int) (v2 : Int) : Option Int := (bif decide (p1_c.N < v1) then some true else some (decide (p1_c.N > v2))).bind fun x3 => (bif x3 then some 2 else some 0)
def content_checkN (p0_k : Int) (p1_c : ApiContent) : Option Int := (bif (p0_k == 2) then content_checkN_j1 p1_c 0 4 else (bif (p0_k == 8) then content_checkN_j1 p1_c 0 1000000000 else (bif (p0_k == 10) then content_checkN_j1 p1_c 1 10000 else (bif (p0_k == 9) then (bif (p1_c.N == 1) then some true else some (p1_c.N == 2)).bind fun x11 => (bif x11 then some true else some (p1_c.N == 6)).bind fun x13 => (bif x13 then some 0 else some 2) else content_checkN_j1 p1_c 0 3))))
theorem content_checkN_ok (p0_k : Int) (p1_c : ApiContent) (r : Int) (h : content_checkN p0_k p1_c = some r) : Runs Try.prog 74 [.d (eI p0_k), .d (eApiContent p1_c)] [] (.d (eI r)) [] := by
  refine Runs.of_fin Try.func74 rfl ?_
  unfold content_checkN at h
  refine SP.rg <| .a 2 <| .nil ?_
  refine SP.rg <| .a 2 <| .nil ?_
  refine SP.join (fun s => ∃ (v1 : Int) (v2 : Int), Sub s (content_checkN_S1 p1_c v1 v2) ∧ content_checkN_j1 p1_c v1 v2 = some r) ?_ ?_
  · clear h
    rintro s ⟨v1, v2, hs, h⟩
    refine SP.sub hs ?_
    clear hs
    unfold content_checkN_j1 at h
    refine SP.seqc ?_
    refine SP.rg <| .a 4 <| ?_
    obtain ⟨x3, hx3, h⟩ := of_bind h
    refine .merge 6 [33, 34, 35, 36, 37] 38 (.d (eB x3)) ?_ ?_
    · replace h := hx3
      rcases Bool.eq_false_or_eq_true (decide (p1_c.N < v1)) with hb4 | hb4
      · replace h := of_bif_true hb4 h
        refine .c (congrArg some hb4) <| .a 5 <| .nil ?_
        obtain rfl := Option.some.inj h
        kernel_rfl
      · replace h := of_bif_false hb4 h
        refine .c (congrArg some hb4) <| .a 5 <| .nil ?_
        obtain rfl := Option.some.inj h
        kernel_rfl
    refine .nil ?_
    refine SP.cond x3 (by kernel_rfl) (fun hb5 => ?_) (fun hb5 => ?_)
    · replace h := of_bif_true hb5 h
      refine SP.rg <| .a 1 <| .nil ?_
      refine SP.ret ?_
      rw [← Option.some.inj h]
      exact ⟨[.d (eI 2)], [], ⟨resV_tmp (by kernel_rfl), trivial⟩, by kernel_rfl, by kernel_rfl, by kernel_rfl⟩
    · replace h := of_bif_false hb5 h
      refine SP.skip ?_
      refine SP.rg <| .a 1 <| .nil ?_
      refine SP.ret ?_
      rw [← Option.some.inj h]
      exact ⟨[.d (eI 0)], [], ⟨resV_tmp (by kernel_rfl), trivial⟩, by kernel_rfl, by kernel_rfl, by kernel_rfl⟩
  · intro K6
    refine SP.rg <| .a 1 <| .nil ?_
    refine SP.block ?_
    refine SP.rg <| .a 2 <| .nil ?_
    refine SP.cond (p0_k == 2) (by kernel_rfl) (fun hb7 => ?_) (fun hb7 => ?_)
    · replace h := of_bif_true hb7 h
      refine SP.rgn <| .a 1 <| .nil ?_
      exact K6 _ ⟨0, 4, sub_of (mk 39 104) [(0, true)], h⟩
    · replace h := of_bif_false hb7 h
      refine SP.rg <| .a 2 <| .nil ?_
      refine SP.cond (p0_k == 8) (by kernel_rfl) (fun hb8 => ?_) (fun hb8 => ?_)
      · replace h := of_bif_true hb8 h
        refine SP.rgn <| .a 1 <| .nil ?_
        exact K6 _ ⟨0, 1000000000, sub_of (mk 39 104) [(0, true)], h⟩
      · replace h := of_bif_false hb8 h
        refine SP.rg <| .a 2 <| .nil ?_
        refine SP.cond (p0_k == 10) (by kernel_rfl) (fun hb9 => ?_) (fun hb9 => ?_)
        · replace h := of_bif_true hb9 h
          refine SP.rgn <| .a 2 <| .nil ?_
          exact K6 _ ⟨1, 10000, sub_of (mk 39 104) [(0, true)], h⟩
        · replace h := of_bif_false hb9 h
          refine SP.rg <| .a 2 <| .nil ?_
          refine SP.cond (p0_k == 9) (by kernel_rfl) (fun hb10 => ?_) (fun hb10 => ?_)
          · replace h := of_bif_true hb10 h
            refine SP.seqc ?_
            refine SP.rg <| .a 3 <| .nil ?_
            refine SP.rg <| .a 2 <| ?_
            obtain ⟨x11, hx11, h⟩ := of_bind h
            refine .merge 4 [21, 22, 23] 24 (.d (eB x11)) ?_ ?_
            · replace h := hx11
              rcases Bool.eq_false_or_eq_true (p1_c.N == 1) with hb12 | hb12
              · replace h := of_bif_true hb12 h
                refine .c (congrArg some hb12) <| .a 3 <| .nil ?_
                obtain rfl := Option.some.inj h
                kernel_rfl
              · replace h := of_bif_false hb12 h
                refine .c (congrArg some hb12) <| .a 3 <| .nil ?_
                obtain rfl := Option.some.inj h
                kernel_rfl
            refine .a 1 <| ?_
            obtain ⟨x13, hx13, h⟩ := of_bind h
            refine .merge 3 [26, 27] 28 (.d (eB x13)) ?_ ?_
            · replace h := hx13
              cases x11 with
              | true =>
                replace h := of_bif_true rfl h
                refine .a 3 <| .nil ?_
                obtain rfl := Option.some.inj h
                kernel_rfl
              | false =>
                replace h := of_bif_false rfl h
                refine .a 3 <| .nil ?_
                obtain rfl := Option.some.inj h
                kernel_rfl
            refine .nil ?_
            refine SP.cond x13 (by kernel_rfl) (fun hb15 => ?_) (fun hb15 => ?_)
            · replace h := of_bif_true hb15 h
              refine SP.rg <| .a 1 <| .nil ?_
              refine SP.ret ?_
              rw [← Option.some.inj h]
              exact ⟨[.d (eI 0)], [], ⟨resV_tmp (by kernel_rfl), trivial⟩, by kernel_rfl, by kernel_rfl, by kernel_rfl⟩
            · replace h := of_bif_false hb15 h
              refine SP.skip ?_
              refine SP.rg <| .a 1 <| .nil ?_
              refine SP.ret ?_
              rw [← Option.some.inj h]
              exact ⟨[.d (eI 2)], [], ⟨resV_tmp (by kernel_rfl), trivial⟩, by kernel_rfl, by kernel_rfl, by kernel_rfl⟩
          · replace h := of_bif_false hb10 h
            refine SP.skip ?_
            exact K6 _ ⟨0, 3, sub_of (mk 39 104) [(0, true)], h⟩

-- fedchat/content.checkTarget
def content_checkTarget (p0_k : Int) (p1_c : ApiContent) : Option Int := (bif decide (p1_c.Target < 0) then some true else (bif (p1_c.Target == 0) then some (p0_k != 11) else some false).bind fun x3 => some x3).bind fun x1 => (bif x1 then some 2 else some 0)
theorem content_checkTarget_ok (p0_k : Int) (p1_c : ApiContent) (r : Int) (h : content_checkTarget p0_k p1_c = some r) : Runs Try.prog 75 [.d (eI p0_k), .d (eApiContent p1_c)] [] (.d (eI r)) [] := by
  refine Runs.of_fin Try.func75 rfl ?_
  unfold content_checkTarget at h
  refine SP.rg <| .a 2 <| .nil ?_
  refine SP.seqc ?_
  refine SP.rg <| .a 3 <| ?_
  obtain ⟨x1, hx1, h⟩ := of_bind h
  refine .merge 9 [8, 9, 10, 11, 12, 13, 14, 15] 16 (.d (eB x1)) ?_ ?_
  · replace h := hx1
    rcases Bool.eq_false_or_eq_true (decide (p1_c.Target < 0)) with hb2 | hb2
    · replace h := of_bif_true hb2 h
      refine .c (congrArg some hb2) <| .a 8 <| .nil ?_
      obtain rfl := Option.some.inj h
      kernel_rfl
    · replace h := of_bif_false hb2 h
      refine .c (congrArg some hb2) <| .a 3 <| ?_
      obtain ⟨x3, hx3, h⟩ := of_bind h
      refine .merge 4 [12, 13, 14] 15 (.d (eB x3)) ?_ ?_
      · replace h := hx3
        rcases Bool.eq_false_or_eq_true (p1_c.Target == 0) with hb4 | hb4
        · replace h := of_bif_true hb4 h
          refine .c (congrArg some hb4) <| .a 3 <| .nil ?_
          obtain rfl := Option.some.inj h
          kernel_rfl
        · replace h := of_bif_false hb4 h
          refine .c (congrArg some hb4) <| .a 3 <| .nil ?_
          obtain rfl := Option.some.inj h
          kernel_rfl
      refine .a 1 <| .nil ?_
      obtain rfl := Option.some.inj h
      kernel_rfl
  refine .nil ?_
  refine SP.cond x1 (by kernel_rfl) (fun hb5 => ?_) (fun hb5 => ?_)
  · replace h := of_bif_true hb5 h
    refine SP.rg <| .a 1 <| .nil ?_
    refine SP.ret ?_
    rw [← Option.some.inj h]
    exact ⟨[.d (eI 2)], [], ⟨resV_tmp (by kernel_rfl), trivial⟩, by kernel_rfl, by kernel_rfl, by kernel_rfl⟩
  · replace h := of_bif_false hb5 h
    refine SP.skip ?_
    refine SP.rg <| .a 1 <| .nil ?_
    refine SP.ret ?_
    rw [← Option.some.inj h]
    exact ⟨[.d (eI 0)], [], ⟨resV_tmp (by kernel_rfl), trivial⟩, by kernel_rfl, by kernel_rfl, by kernel_rfl⟩

-- fedchat/content.checkThread
def content_checkThread (p0_k : Int) (p1_c : ApiContent) : Option Int := (bif p1_c.Thread then some (p1_c.Target == 0) else some false).bind fun x1 => (bif x1 then some 1 else some 0)
theorem content_checkThread_ok (p0_k : Int) (p1_c : ApiContent) (r : Int) (h : content_checkThread p0_k p1_c = some r) : Runs Try.prog 76 [.d (eI p0_k), .d (eApiContent p1_c)] [] (.d (eI r)) [] := by
  refine Runs.of_fin Try.func76 rfl ?_
  unfold content_checkThread at h
  refine SP.rg <| .a 2 <| .nil ?_
  refine SP.seqc ?_
  refine SP.rg <| .a 2 <| ?_
  obtain ⟨x1, hx1, h⟩ := of_bind h
  refine .merge 5 [7, 8, 9, 10] 11 (.d (eB x1)) ?_ ?_
  · replace h := hx1
    rcases Bool.eq_false_or_eq_true p1_c.Thread with hb2 | hb2
    · replace h := of_bif_true hb2 h
      refine .c (congrArg some hb2) <| .a 4 <| .nil ?_
      obtain rfl := Option.some.inj h
      kernel_rfl
    · replace h := of_bif_false hb2 h
      refine .c (congrArg some hb2) <| .a 4 <| .nil ?_
      obtain rfl := Option.some.inj h
      kernel_rfl
  refine .nil ?_
  refine SP.cond x1 (by kernel_rfl) (fun hb3 => ?_) (fun hb3 => ?_)
  · replace h := of_bif_true hb3 h
    refine SP.rg <| .a 1 <| .nil ?_
    refine SP.ret ?_
    rw [← Option.some.inj h]
    exact ⟨[.d (eI 1)], [], ⟨resV_tmp (by kernel_rfl), trivial⟩, by kernel_rfl, by kernel_rfl, by kernel_rfl⟩
  · replace h := of_bif_false hb3 h
    refine SP.skip ?_
    refine SP.rg <| .a 1 <| .nil ?_
    refine SP.ret ?_
    rw [← Option.some.inj h]
    exact ⟨[.d (eI 0)], [], ⟨resV_tmp (by kernel_rfl), trivial⟩, by kernel_rfl, by kernel_rfl, by kernel_rfl⟩

-- fedchat/content.checkVia
def content_checkVia (p0_k : Int) (p1_c : ApiContent) : Option Int := (bif (p1_c.Via.toList == s0.toList) then some 0 else (bif (p1_c.N != 3) then some 1 else (ids_User p1_c.Via).bind fun x3 => some x3))
theorem content_checkVia_ok (p0_k : Int) (p1_c : ApiContent) (r : Int) (h : content_checkVia p0_k p1_c = some r) : Runs Try.prog 77 [.d (eI p0_k), .d (eApiContent p1_c)] [] (.d (eI r)) [] := by
  refine Runs.of_fin Try.func77 rfl ?_
  unfold content_checkVia at h
  refine SP.rg <| .a 2 <| .nil ?_
  refine SP.seqc ?_
  refine SP.block ?_
  refine SP.rg <| .a 4 <| .nil ?_
  refine SP.cond (p1_c.Via.toList == s0.toList) (by kernel_rfl) (fun hb1 => ?_) (fun hb1 => ?_)
  · replace h := of_bif_true hb1 h
    refine SP.rg <| .a 1 <| .nil ?_
    refine SP.ret ?_
    rw [← Option.some.inj h]
    exact ⟨[.d (eI 0)], [], ⟨resV_tmp (by kernel_rfl), trivial⟩, by kernel_rfl, by kernel_rfl, by kernel_rfl⟩
  · replace h := of_bif_false hb1 h
    refine SP.rg <| .a 4 <| .nil ?_
    refine SP.cond (p1_c.N != 3) (by kernel_rfl) (fun hb2 => ?_) (fun hb2 => ?_)
    · replace h := of_bif_true hb2 h
      refine SP.rg <| .a 1 <| .nil ?_
      refine SP.ret ?_
      rw [← Option.some.inj h]
      exact ⟨[.d (eI 1)], [], ⟨resV_tmp (by kernel_rfl), trivial⟩, by kernel_rfl, by kernel_rfl, by kernel_rfl⟩
    · replace h := of_bif_false hb2 h
      refine SP.skip ?_
      obtain ⟨x3, hx3, h⟩ := of_bind h
      refine SP.rg <| .a 2 <| .call (ids_User_ok p1_c.Via x3 hx3) ent68 <| .a 1 <| .nil ?_
      refine SP.ret ?_
      rw [← Option.some.inj h]
      exact ⟨[.d (eI x3)], [], ⟨resV_tmp (by kernel_rfl), trivial⟩, by kernel_rfl, by kernel_rfl, by kernel_rfl⟩

-- fedchat/content.checkAllow
def content_checkAllow_S1 (p1_c : ApiContent) (v7 : Int) : St := ⟨shp 52 [(3, .ptr 0 0), (29, .d ((eL eS) p1_c.Allow)), (30, .d (eI (p1_c.Allow.length : Int))), (31, .d (eI v7))], [.box (dc (eApiContent p1_c))], 0⟩
def content_checkAllow_B1 (p1_c : ApiContent) (k8 : (Int → Option Int)) : Int → Option Int := fun v7 => (bif decide (v7 < (p1_c.Allow.length : Int)) then (gIdx p1_c.Allow v7).bind fun x10 => (ids_Room x10).bind fun x11 => (bif (x11 != 0) then some 3 else (bif decide (v7 > 0) then (gIdx p1_c.Allow (IntKind.i64.wrap (v7 - 1))).bind fun x15 => some (Op.bytesLess (x10.toList) (x15.toList) || x10.toList == x15.toList) else some false).bind fun x13 => (bif x13 then some 8 else k8 (IntKind.i64.wrap (v7 + 1)))) else some 0)
def content_checkAllow_L1 (p1_c : ApiContent) : Int → Option Int := loop1 (content_checkAllow_B1 p1_c) fuel
def content_checkAllow (p0_k : Int) (p1_c : ApiContent) : Option Int := (bif (p0_k == 6) then (content_patterns p1_c.Allow).bind fun x2 => some x2 else (bif decide ((p1_c.Allow.length : Int) > 0) then some (p1_c.N != 3) else some false).bind fun x3 => (bif x3 then some 1 else (bif decide ((p1_c.Allow.length : Int) > 100) then some 7 else content_checkAllow_L1 p1_c 0)))
theorem content_checkAllow_ok (p0_k : Int) (p1_c : ApiContent) (r : Int) (h : content_checkAllow p0_k p1_c = some r) : Runs Try.prog 78 [.d (eI p0_k), .d (eApiContent p1_c)] [] (.d (eI r)) [] := by
  refine Runs.of_fin Try.func78 rfl ?_
  unfold content_checkAllow at h
  refine SP.rg <| .a 2 <| .nil ?_
  refine SP.seqc ?_
  refine SP.block ?_
  refine SP.rg <| .a 3 <| .nil ?_
  refine SP.cond (p0_k == 6) (by kernel_rfl) (fun hb1 => ?_) (fun hb1 => ?_)
  · replace h := of_bif_true hb1 h
    obtain ⟨x2, hx2, h⟩ := of_bind h
    refine SP.rg <| .a 2 <| .call (content_patterns_ok p1_c.Allow x2 hx2) ent79 <| .a 1 <| .nil ?_
    refine SP.ret ?_
    rw [← Option.some.inj h]
    exact ⟨[.d (eI x2)], [], ⟨resV_tmp (by kernel_rfl), trivial⟩, by kernel_rfl, by kernel_rfl, by kernel_rfl⟩
  · replace h := of_bif_false hb1 h
    refine SP.rg <| .a 2 <| .p (ok_lenT eS p1_c.Allow und24 rfl) <| .a 1 <| ?_
    obtain ⟨x3, hx3, h⟩ := of_bind h
    refine .merge 5 [18, 19, 20, 21] 22 (.d (eB x3)) ?_ ?_
    · replace h := hx3
      rcases Bool.eq_false_or_eq_true (decide ((p1_c.Allow.length : Int) > 0)) with hb4 | hb4
      · replace h := of_bif_true hb4 h
        refine .c (congrArg some hb4) <| .a 4 <| .nil ?_
        obtain rfl := Option.some.inj h
        kernel_rfl
      · replace h := of_bif_false hb4 h
        refine .c (congrArg some hb4) <| .a 4 <| .nil ?_
        obtain rfl := Option.some.inj h
        kernel_rfl
    refine .a 1 <| .nil ?_
    refine SP.cond x3 (by kernel_rfl) (fun hb5 => ?_) (fun hb5 => ?_)
    · replace h := of_bif_true hb5 h
      refine SP.rg <| .a 1 <| .nil ?_
      refine SP.ret ?_
      rw [← Option.some.inj h]
      exact ⟨[.d (eI 1)], [], ⟨resV_tmp (by kernel_rfl), trivial⟩, by kernel_rfl, by kernel_rfl, by kernel_rfl⟩
    · replace h := of_bif_false hb5 h
      refine SP.rg <| .a 2 <| .p (ok_lenT eS p1_c.Allow und24 rfl) <| .a 2 <| .nil ?_
      refine SP.cond (decide ((p1_c.Allow.length : Int) > 100)) (by kernel_rfl) (fun hb6 => ?_) (fun hb6 => ?_)
      · replace h := of_bif_true hb6 h
        refine SP.rg <| .a 1 <| .nil ?_
        refine SP.ret ?_
        rw [← Option.some.inj h]
        exact ⟨[.d (eI 7)], [], ⟨resV_tmp (by kernel_rfl), trivial⟩, by kernel_rfl, by kernel_rfl, by kernel_rfl⟩
      · replace h := of_bif_false hb6 h
        refine SP.skip ?_
        refine SP.seqc ?_
        refine SP.rg <| .a 2 <| .p (ok_lenT eS p1_c.Allow und24 rfl) <| .a 1 <| .nil ?_
        refine SP.block ?_
        refine SP.loop1 (content_checkAllow_S1 p1_c) (content_checkAllow_B1 p1_c) r 0 (sub_of (mk 52 3758096392) [(0, true)]) h ?_
        clear h
        intro J17 k8 hk8 v7 h
        unfold content_checkAllow_B1 at h
        refine SP.rg <| .a 1 <| .nil ?_
        refine SP.seqc ?_
        refine SP.cond (decide (v7 < (p1_c.Allow.length : Int))) (by kernel_rfl) (fun hb9 => ?_) (fun hb9 => ?_)
        · replace h := of_bif_true hb9 h
          refine SP.skip ?_
          refine SP.seqc ?_
          refine SP.block ?_
          obtain ⟨x10, hx10, h⟩ := of_bind h
          refine SP.rg <| .a 1 <| .p (ok_idxT (k := .i64) eS hx10 und24 ty9 (by kernel_rfl) rfl) <| .a 3 <| .nil ?_
          refine SP.seqc ?_
          obtain ⟨x11, hx11, h⟩ := of_bind h
          refine SP.rg <| .a 1 <| .call (ids_Room_ok x10 x11 hx11) ent67 <| .a 1 <| .nil ?_
          refine SP.cond (x11 != 0) (by kernel_rfl) (fun hb12 => ?_) (fun hb12 => ?_)
          · replace h := of_bif_true hb12 h
            refine SP.rg <| .a 1 <| .nil ?_
            refine SP.ret ?_
            rw [← Option.some.inj h]
            exact ⟨[.d (eI 3)], [], ⟨resV_tmp (by kernel_rfl), trivial⟩, by kernel_rfl, by kernel_rfl, by kernel_rfl⟩
          · replace h := of_bif_false hb12 h
            refine SP.skip ?_
            refine SP.rg <| .a 2 <| ?_
            obtain ⟨x13, hx13, h⟩ := of_bind h
            refine .merge 10 [41, 42, 43, 44, 45, 46, 47, 48, 49] 50 (.d (eB x13)) ?_ ?_
            · replace h := hx13
              rcases Bool.eq_false_or_eq_true (decide (v7 > 0)) with hb14 | hb14
              · replace h := of_bif_true hb14 h
                obtain ⟨x15, hx15, h⟩ := of_bind h
                refine .c (congrArg some hb14) <| .a 5 <| .p (ok_idxT (k := .i64) eS hx15 und24 ty9 (by kernel_rfl) rfl) <| .a 3 <| .nil ?_
                obtain rfl := Option.some.inj h
                kernel_rfl
              · replace h := of_bif_false hb14 h
                refine .c (congrArg some hb14) <| .a 9 <| .nil ?_
                obtain rfl := Option.some.inj h
                kernel_rfl
            refine .nil ?_
            refine SP.cond x13 (by kernel_rfl) (fun hb16 => ?_) (fun hb16 => ?_)
            · replace h := of_bif_true hb16 h
              refine SP.rg <| .a 1 <| .nil ?_
              refine SP.ret ?_
              rw [← Option.some.inj h]
              exact ⟨[.d (eI 8)], [], ⟨resV_tmp (by kernel_rfl), trivial⟩, by kernel_rfl, by kernel_rfl, by kernel_rfl⟩
            · replace h := of_bif_false hb16 h
              refine SP.skip ?_
              refine SP.rgn <| .a 2 <| .nil ?_
              exact hk8 _ (IntKind.i64.wrap (v7 + 1)) (sub_of (mk 52 3758096392) [(0, true)]) h
        · replace h := of_bif_false hb9 h
          refine SP.exit ?_
          refine SP.rg <| .a 1 <| .nil ?_
          refine SP.ret ?_
          rw [← Option.some.inj h]
          exact ⟨[.d (eI 0)], [], ⟨resV_tmp (by kernel_rfl), trivial⟩, by kernel_rfl, by kernel_rfl, by kernel_rfl⟩

-- tab_content_checkText
def tab_content_checkText (n : Nat) (a0 : Int) (a1 : ApiContent) : Option Int := bif n == 73 then content_checkText a0 a1 else bif n == 74 then content_checkN a0 a1 else bif n == 75 then content_checkTarget a0 a1 else bif n == 76 then content_checkThread a0 a1 else bif n == 77 then content_checkVia a0 a1 else bif n == 78 then content_checkAllow a0 a1 else none
theorem tab_content_checkText_ok (n : Nat) (a0 : Int) (a1 : ApiContent) (r : Int) (h : tab_content_checkText n a0 a1 = some r) : Fn2 Try.prog eI eApiContent eI (eFn n) (tab_content_checkText n) := by
  by_cases h0 : n = 73
  · subst h0; exact ⟨73, [], rfl, ent73, fun a0 a1 c hc => content_checkText_ok a0 a1 c hc⟩
  by_cases h1 : n = 74
  · subst h1; exact ⟨74, [], rfl, ent74, fun a0 a1 c hc => content_checkN_ok a0 a1 c hc⟩
  by_cases h2 : n = 75
  · subst h2; exact ⟨75, [], rfl, ent75, fun a0 a1 c hc => content_checkTarget_ok a0 a1 c hc⟩
  by_cases h3 : n = 76
  · subst h3; exact ⟨76, [], rfl, ent76, fun a0 a1 c hc => content_checkThread_ok a0 a1 c hc⟩
  by_cases h4 : n = 77
  · subst h4; exact ⟨77, [], rfl, ent77, fun a0 a1 c hc => content_checkVia_ok a0 a1 c hc⟩
  by_cases h5 : n = 78
  · subst h5; exact ⟨78, [], rfl, ent78, fun a0 a1 c hc => content_checkAllow_ok a0 a1 c hc⟩
  rw [tab_content_checkText, beq_false_of_ne h0, beq_false_of_ne h1, beq_false_of_ne h2, beq_false_of_ne h3, beq_false_of_ne h4, beq_false_of_ne h5] at h
  have h : (none : Option Int) = some r := h
  cases h

-- fedchat/content.Check
def content_Check_c1 : (List ContentField) := [(⟨1, 73⟩ : ContentField), (⟨2, 74⟩ : ContentField), (⟨4, 75⟩ : ContentField), (⟨8, 76⟩ : ContentField), (⟨16, 77⟩ : ContentField), (⟨32, 78⟩ : ContentField)]
def content_Check_S1 (p0_k : Int) (x1 : Int) (v12 : Int) (v13 : ApiContent) : St := ⟨shp 69 [(0, .d (eI p0_k)), (3, .ptr 0 0), (5, .d (eI x1)), (37, .d ((eL eContentField) content_Check_c1)), (38, .d (eI (content_Check_c1.length : Int))), (39, .d (eI v12))], [.box (dc (eApiContent v13))], 0⟩
def content_Check_S2 (p0_k : Int) (x1 : Int) (v12 : Int) (v16 : ApiContent) : St := ⟨shp 69 [(0, .d (eI p0_k)), (3, .ptr 0 0), (5, .d (eI x1)), (37, .d ((eL eContentField) content_Check_c1)), (38, .d (eI (content_Check_c1.length : Int))), (39, .d (eI v12))], [.box (dc (eApiContent v16))], 0⟩
def content_Check_j2 (k14 : (Int → ApiContent → Option Int)) (v12 : Int) (v16 : ApiContent) : Option Int := k14 (IntKind.i64.wrap (v12 + 1)) v16
def content_Check_B1 (x1 : Int) (p0_k : Int) (k14 : (Int → ApiContent → Option Int)) : Int → ApiContent → Option Int := fun v12 v13 => (bif decide (v12 < (content_Check_c1.length : Int)) then (gIdx content_Check_c1 v12).bind fun x18 => (bif ((gBits .and .i64 x1 x18.bit_) == 0) then content_Check_j2 k14 v12 v13 else (tab_content_checkText x18.check_ p0_k v13).bind fun x20 => (bif (x20 != 0) then some x20 else content_Check_j2 k14 v12 v13)) else (bif ((gBits .and .i64 x1 64) != 0) then (content_patterns v13.Deny).bind fun x23 => some x23 else (bif ((gBits .and .i64 x1 128) != 0) then (content_Levels v13.Levels).bind fun x25 => some x25 else some 0)))
def content_Check_L1 (x1 : Int) (p0_k : Int) : Int → ApiContent → Option Int := loop2 (content_Check_B1 x1 p0_k) fuel
def content_Check (p0_k : Int) (p1_c : ApiContent) : Option Int := (content_uses p0_k).bind fun x1 => (content_known p0_k).bind fun x2 => (bif (!x2) then some true else (content_set p1_c).bind fun x5 => some ((gBits .andNot .i64 x5 x1) != 0)).bind fun x3 => (bif x3 then some 1 else (content_set p1_c).bind fun x7 => (bif (x7 == 0) then (content_keeps p0_k).bind fun x10 => some (x10 == 0) else some false).bind fun x8 => (bif x8 then some 0 else content_Check_L1 x1 p0_k 0 p1_c))
theorem content_Check_ok (p0_k : Int) (p1_c : ApiContent) (r : Int) (h : content_Check p0_k p1_c = some r) : Runs Try.prog 42 [.d (eI p0_k), .d (eApiContent p1_c)] [] (.d (eI r)) [] := by
  refine Runs.of_fin Try.func42 rfl ?_
  unfold content_Check at h
  refine SP.rg <| .a 2 <| .nil ?_
  obtain ⟨x1, hx1, h⟩ := of_bind h
  refine SP.rg <| .a 1 <| .call (content_uses_ok p0_k x1 hx1) ent70 <| .a 1 <| .nil ?_
  refine SP.seqc ?_
  obtain ⟨x2, hx2, h⟩ := of_bind h
  refine SP.rg <| .a 1 <| .call (content_known_ok p0_k x2 hx2) ent71 <| .a 1 <| ?_
  obtain ⟨x3, hx3, h⟩ := of_bind h
  refine .merge 7 [15, 16, 17, 18, 19, 20] 21 (.d (eB x3)) ?_ ?_
  · replace h := hx3
    rcases Bool.eq_false_or_eq_true (!x2) with hb4 | hb4
    · replace h := of_bif_true hb4 h
      refine .c (congrArg some hb4) <| .a 6 <| .nil ?_
      obtain rfl := Option.some.inj h
      kernel_rfl
    · replace h := of_bif_false hb4 h
      obtain ⟨x5, hx5, h⟩ := of_bind h
      refine .c (congrArg some hb4) <| .a 1 <| .call (content_set_ok p1_c x5 hx5) ent72 <| .a 1 <| .p (ok_andNot (k := .i64) (u := x5) (v := x1) rfl) <| .a 2 <| .nil ?_
      obtain rfl := Option.some.inj h
      kernel_rfl
  refine .nil ?_
  refine SP.cond x3 (by kernel_rfl) (fun hb6 => ?_) (fun hb6 => ?_)
  · replace h := of_bif_true hb6 h
    refine SP.rg <| .a 1 <| .nil ?_
    refine SP.ret ?_
    rw [← Option.some.inj h]
    exact ⟨[.d (eI 1)], [], ⟨resV_tmp (by kernel_rfl), trivial⟩, by kernel_rfl, by kernel_rfl, by kernel_rfl⟩
  · replace h := of_bif_false hb6 h
    refine SP.skip ?_
    refine SP.seqc ?_
    obtain ⟨x7, hx7, h⟩ := of_bind h
    refine SP.rg <| .a 1 <| .call (content_set_ok p1_c x7 hx7) ent72 <| .a 1 <| ?_
    obtain ⟨x8, hx8, h⟩ := of_bind h
    refine .merge 5 [25, 26, 27, 28] 29 (.d (eB x8)) ?_ ?_
    · replace h := hx8
      rcases Bool.eq_false_or_eq_true (x7 == 0) with hb9 | hb9
      · replace h := of_bif_true hb9 h
        obtain ⟨x10, hx10, h⟩ := of_bind h
        refine .c (congrArg some hb9) <| .a 1 <| .call (content_keeps_ok p0_k x10 hx10) ent48 <| .a 2 <| .nil ?_
        obtain rfl := Option.some.inj h
        kernel_rfl
      · replace h := of_bif_false hb9 h
        refine .c (congrArg some hb9) <| .a 4 <| .nil ?_
        obtain rfl := Option.some.inj h
        kernel_rfl
    refine .nil ?_
    refine SP.cond x8 (by kernel_rfl) (fun hb11 => ?_) (fun hb11 => ?_)
    · replace h := of_bif_true hb11 h
      refine SP.rg <| .a 1 <| .nil ?_
      refine SP.ret ?_
      rw [← Option.some.inj h]
      exact ⟨[.d (eI 0)], [], ⟨resV_tmp (by kernel_rfl), trivial⟩, by kernel_rfl, by kernel_rfl, by kernel_rfl⟩
    · replace h := of_bif_false hb11 h
      refine SP.skip ?_
      refine SP.rg <| .a 6 <| .p (ok_lits el117 zero116 (by kernel_rfl) (by kernel_rfl) (Nat.le_of_ble_eq_true (by kernel_rfl)) [.d (eContentField (⟨1, 73⟩ : ContentField)), .d (eContentField (⟨2, 74⟩ : ContentField)), .d (eContentField (⟨4, 75⟩ : ContentField)), .d (eContentField (⟨8, 76⟩ : ContentField)), .d (eContentField (⟨16, 77⟩ : ContentField)), .d (eContentField (⟨32, 78⟩ : ContentField))] [eContentField (⟨1, 73⟩ : ContentField), eContentField (⟨2, 74⟩ : ContentField), eContentField (⟨4, 75⟩ : ContentField), eContentField (⟨8, 76⟩ : ContentField), eContentField (⟨16, 77⟩ : ContentField), eContentField (⟨32, 78⟩ : ContentField)] (by kernel_rfl) (by kernel_rfl) (by kernel_rfl) (by kernel_rfl) rfl) <| .a 1 <| .nil ?_
      refine SP.seqc ?_
      refine SP.rg <| .a 1 <| .p (ok_lenT eContentField content_Check_c1 und117 rfl) <| .a 1 <| .nil ?_
      refine SP.block ?_
      refine SP.loop2 (content_Check_S1 p0_k x1) (content_Check_B1 x1 p0_k) r 0 p1_c (sub_of (mk 69 962072674345) [(0, true)]) h ?_
      clear h
      intro J26 k14 hk14 v12 v13 h
      unfold content_Check_B1 at h
      refine SP.rg <| .a 1 <| .nil ?_
      refine SP.seqc ?_
      refine SP.cond (decide (v12 < (content_Check_c1.length : Int))) (by kernel_rfl) (fun hb15 => ?_) (fun hb15 => ?_)
      · replace h := of_bif_true hb15 h
        refine SP.skip ?_
        refine SP.join (fun s => ∃ (v16 : ApiContent), Sub s (content_Check_S2 p0_k x1 v12 v16) ∧ content_Check_j2 k14 v12 v16 = some r) ?_ ?_
        · clear h
          rintro s ⟨v16, hs, h⟩
          refine SP.sub hs ?_
          clear hs
          unfold content_Check_j2 at h
          refine SP.rgn <| .a 2 <| .nil ?_
          exact hk14 _ (IntKind.i64.wrap (v12 + 1)) v16 (sub_of (mk 69 962072674345) [(0, true)]) h
        · intro K17
          refine SP.block ?_
          obtain ⟨x18, hx18, h⟩ := of_bind h
          refine SP.rg <| .p (ok_idxT (k := .i64) eContentField hx18 und117 ty116 (by kernel_rfl) rfl) <| .a 3 <| .nil ?_
          refine SP.seqc ?_
          refine SP.rg <| .a 3 <| .p (ok_and (k := .i64) (u := x1) (v := x18.bit_) rfl) <| .a 1 <| .nil ?_
          refine SP.cond ((gBits .and .i64 x1 x18.bit_) == 0) (by kernel_rfl) (fun hb19 => ?_) (fun hb19 => ?_)
          · replace h := of_bif_true hb19 h
            refine SP.exit ?_
            exact K17 _ ⟨v13, sub_of (mk 69 962072674345) [(0, true)], h⟩
          · replace h := of_bif_false hb19 h
            refine SP.skip ?_
            obtain ⟨x20, hx20, h⟩ := of_bind h
            refine SP.rg <| .a 4 <| .p (ok_fn2 (tab_content_checkText_ok x18.check_ p0_k v13 x20 hx20) hx20 rfl) <| .a 1 <| .nil ?_
            refine SP.rg <| .a 2 <| .nil ?_
            refine SP.cond (x20 != 0) (by kernel_rfl) (fun hb21 => ?_) (fun hb21 => ?_)
            · replace h := of_bif_true hb21 h
              refine SP.rg <| .a 2 <| .nil ?_
              refine SP.ret ?_
              rw [← Option.some.inj h]
              exact ⟨[.d (eI x20)], [], ⟨resV_tmp (by kernel_rfl), trivial⟩, by kernel_rfl, by kernel_rfl, by kernel_rfl⟩
            · replace h := of_bif_false hb21 h
              refine SP.skip ?_
              exact K17 _ ⟨v13, sub_of (mk 69 962072674345) [(0, true)], h⟩
      · replace h := of_bif_false hb15 h
        refine SP.exit ?_
        refine SP.seqc ?_
        refine SP.rg <| .a 1 <| .p (ok_and (k := .i64) (u := x1) (v := 64) rfl) <| .a 1 <| .nil ?_
        refine SP.cond ((gBits .and .i64 x1 64) != 0) (by kernel_rfl) (fun hb22 => ?_) (fun hb22 => ?_)
        · replace h := of_bif_true hb22 h
          obtain ⟨x23, hx23, h⟩ := of_bind h
          refine SP.rg <| .a 2 <| .call (content_patterns_ok v13.Deny x23 hx23) ent79 <| .a 1 <| .nil ?_
          refine SP.ret ?_
          rw [← Option.some.inj h]
          exact ⟨[.d (eI x23)], [], ⟨resV_tmp (by kernel_rfl), trivial⟩, by kernel_rfl, by kernel_rfl, by kernel_rfl⟩
        · replace h := of_bif_false hb22 h
          refine SP.skip ?_
          refine SP.seqc ?_
          refine SP.rg <| .a 1 <| .p (ok_and (k := .i64) (u := x1) (v := 128) rfl) <| .a 1 <| .nil ?_
          refine SP.cond ((gBits .and .i64 x1 128) != 0) (by kernel_rfl) (fun hb24 => ?_) (fun hb24 => ?_)
          · replace h := of_bif_true hb24 h
            obtain ⟨x25, hx25, h⟩ := of_bind h
            refine SP.rg <| .a 2 <| .call (content_Levels_ok v13.Levels x25 hx25) ent80 <| .a 1 <| .nil ?_
            refine SP.ret ?_
            rw [← Option.some.inj h]
            exact ⟨[.d (eI x25)], [], ⟨resV_tmp (by kernel_rfl), trivial⟩, by kernel_rfl, by kernel_rfl, by kernel_rfl⟩
          · replace h := of_bif_false hb24 h
            refine SP.skip ?_
            refine SP.rg <| .a 1 <| .nil ?_
            refine SP.ret ?_
            rw [← Option.some.inj h]
            exact ⟨[.d (eI 0)], [], ⟨resV_tmp (by kernel_rfl), trivial⟩, by kernel_rfl, by kernel_rfl, by kernel_rfl⟩

-- fedchat/event.Check
def event_Check_S1 (p0_e : ApiEvent) (v3 : Bool) : St := ⟨shp 112 [(1, .ptr 0 0), (12, .d (eB v3))], [.box (dc (eApiEvent p0_e))], 0⟩
def event_Check_j1 (p0_e : ApiEvent) (v3 : Bool) : Option Int := (bif v3 then some 1 else (event_named p0_e).bind fun x5 => (bif (!x5) then some 3 else (bif decide (p0_e.Time < 0) then some true else some (decide (p0_e.Time > 1000000000))).bind fun x7 => (bif x7 then some true else some (decide (p0_e.Depth < 1))).bind fun x9 => (bif x9 then some true else some (decide (p0_e.Depth > 100000))).bind fun x11 => (bif x11 then some 2 else (bif decide ((p0_e.Prev.length : Int) > 10) then some true else some (decide ((p0_e.Auth.length : Int) > 8))).bind fun x14 => (bif x14 then some 7 else (event_ordered p0_e.Prev).bind fun x17 => (bif (!x17) then some true else (event_ordered p0_e.Auth).bind fun x20 => some (!x20)).bind fun x18 => (bif x18 then some 8 else (bif ((p0_e.Prev.length : Int) == 0) then some (p0_e.Kind != 1) else some false).bind fun x22 => (bif x22 then some 9 else (bif (p0_e.Kind == 1) then some (decide ((IntKind.i64.wrap ((p0_e.Prev.length : Int) + (p0_e.Auth.length : Int))) > 0)) else some false).bind fun x25 => (bif x25 then some 6 else (content_Check p0_e.Kind p0_e.Content).bind fun x28 => some x28)))))))
def event_Check (p0_e : ApiEvent) : Option Int := (bif (p0_e.Kind == 2) then some true else some (p0_e.Kind == 9)).bind fun x1 => (bif decide (p0_e.Kind < 1) then event_Check_j1 p0_e true else (bif decide (p0_e.Kind > 14) then event_Check_j1 p0_e true else (content_State p0_e.Kind).bind fun x32 => (bif (!(p0_e.State == x32)) then event_Check_j1 p0_e true else (bif (!(p0_e.Key.toList == s0.toList)) then event_Check_j1 p0_e (!x1) else event_Check_j1 p0_e false))))
theorem event_Check_ok (p0_e : ApiEvent) (r : Int) (h : event_Check p0_e = some r) : Runs Try.prog 24 [.d (eApiEvent p0_e)] [] (.d (eI r)) [] := by
  refine Runs.of_fin Try.func24 rfl ?_
  unfold event_Check at h
  refine SP.rg <| .a 2 <| .nil ?_
  refine SP.rg <| .a 3 <| ?_
  obtain ⟨x1, hx1, h⟩ := of_bind h
  refine .merge 5 [7, 8, 9, 10] 11 (.d (eB x1)) ?_ ?_
  · replace h := hx1
    rcases Bool.eq_false_or_eq_true (p0_e.Kind == 2) with hb2 | hb2
    · replace h := of_bif_true hb2 h
      refine .c (congrArg some hb2) <| .a 4 <| .nil ?_
      obtain rfl := Option.some.inj h
      kernel_rfl
    · replace h := of_bif_false hb2 h
      refine .c (congrArg some hb2) <| .a 4 <| .nil ?_
      obtain rfl := Option.some.inj h
      kernel_rfl
  refine .a 1 <| .nil ?_
  refine SP.seqc ?_
  refine SP.block ?_
  refine SP.join (fun s => ∃ (v3 : Bool), Sub s (event_Check_S1 p0_e v3) ∧ event_Check_j1 p0_e v3 = some r) ?_ ?_
  · clear h
    rintro s ⟨v3, hs, h⟩
    refine SP.sub hs ?_
    clear hs
    unfold event_Check_j1 at h
    refine SP.cond v3 (by kernel_rfl) (fun hb4 => ?_) (fun hb4 => ?_)
    · replace h := of_bif_true hb4 h
      refine SP.rg <| .a 1 <| .nil ?_
      refine SP.ret ?_
      rw [← Option.some.inj h]
      exact ⟨[.d (eI 1)], [], ⟨resV_tmp (by kernel_rfl), trivial⟩, by kernel_rfl, by kernel_rfl, by kernel_rfl⟩
    · replace h := of_bif_false hb4 h
      obtain ⟨x5, hx5, h⟩ := of_bind h
      refine SP.rg <| .a 1 <| .call (event_named_ok p0_e x5 hx5) ent40 <| .a 2 <| .nil ?_
      refine SP.cond (!x5) (by kernel_rfl) (fun hb6 => ?_) (fun hb6 => ?_)
      · replace h := of_bif_true hb6 h
        refine SP.rg <| .a 1 <| .nil ?_
        refine SP.ret ?_
        rw [← Option.some.inj h]
        exact ⟨[.d (eI 3)], [], ⟨resV_tmp (by kernel_rfl), trivial⟩, by kernel_rfl, by kernel_rfl, by kernel_rfl⟩
      · replace h := of_bif_false hb6 h
        refine SP.rg <| .a 3 <| ?_
        obtain ⟨x7, hx7, h⟩ := of_bind h
        refine .merge 5 [46, 47, 48, 49] 50 (.d (eB x7)) ?_ ?_
        · replace h := hx7
          rcases Bool.eq_false_or_eq_true (decide (p0_e.Time < 0)) with hb8 | hb8
          · replace h := of_bif_true hb8 h
            refine .c (congrArg some hb8) <| .a 4 <| .nil ?_
            obtain rfl := Option.some.inj h
            kernel_rfl
          · replace h := of_bif_false hb8 h
            refine .c (congrArg some hb8) <| .a 4 <| .nil ?_
            obtain rfl := Option.some.inj h
            kernel_rfl
        refine .a 1 <| ?_
        obtain ⟨x9, hx9, h⟩ := of_bind h
        refine .merge 4 [52, 53, 54] 55 (.d (eB x9)) ?_ ?_
        · replace h := hx9
          cases x7 with
          | true =>
            replace h := of_bif_true rfl h
            refine .a 4 <| .nil ?_
            obtain rfl := Option.some.inj h
            kernel_rfl
          | false =>
            replace h := of_bif_false rfl h
            refine .a 4 <| .nil ?_
            obtain rfl := Option.some.inj h
            kernel_rfl
        refine .a 1 <| ?_
        obtain ⟨x11, hx11, h⟩ := of_bind h
        refine .merge 4 [57, 58, 59] 60 (.d (eB x11)) ?_ ?_
        · replace h := hx11
          cases x9 with
          | true =>
            replace h := of_bif_true rfl h
            refine .a 4 <| .nil ?_
            obtain rfl := Option.some.inj h
            kernel_rfl
          | false =>
            replace h := of_bif_false rfl h
            refine .a 4 <| .nil ?_
            obtain rfl := Option.some.inj h
            kernel_rfl
        refine .a 1 <| .nil ?_
        refine SP.cond x11 (by kernel_rfl) (fun hb13 => ?_) (fun hb13 => ?_)
        · replace h := of_bif_true hb13 h
          refine SP.rg <| .a 1 <| .nil ?_
          refine SP.ret ?_
          rw [← Option.some.inj h]
          exact ⟨[.d (eI 2)], [], ⟨resV_tmp (by kernel_rfl), trivial⟩, by kernel_rfl, by kernel_rfl, by kernel_rfl⟩
        · replace h := of_bif_false hb13 h
          refine SP.rg <| .a 2 <| .p (ok_lenT eI p0_e.Prev und33 rfl) <| .a 1 <| ?_
          obtain ⟨x14, hx14, h⟩ := of_bind h
          refine .merge 6 [66, 67, 68, 69, 70] 71 (.d (eB x14)) ?_ ?_
          · replace h := hx14
            rcases Bool.eq_false_or_eq_true (decide ((p0_e.Prev.length : Int) > 10)) with hb15 | hb15
            · replace h := of_bif_true hb15 h
              refine .c (congrArg some hb15) <| .a 5 <| .nil ?_
              obtain rfl := Option.some.inj h
              kernel_rfl
            · replace h := of_bif_false hb15 h
              refine .c (congrArg some hb15) <| .a 2 <| .p (ok_lenT eI p0_e.Auth und33 rfl) <| .a 2 <| .nil ?_
              obtain rfl := Option.some.inj h
              kernel_rfl
          refine .a 1 <| .nil ?_
          refine SP.cond x14 (by kernel_rfl) (fun hb16 => ?_) (fun hb16 => ?_)
          · replace h := of_bif_true hb16 h
            refine SP.rg <| .a 1 <| .nil ?_
            refine SP.ret ?_
            rw [← Option.some.inj h]
            exact ⟨[.d (eI 7)], [], ⟨resV_tmp (by kernel_rfl), trivial⟩, by kernel_rfl, by kernel_rfl, by kernel_rfl⟩
          · replace h := of_bif_false hb16 h
            obtain ⟨x17, hx17, h⟩ := of_bind h
            refine SP.rg <| .a 2 <| .call (event_ordered_ok p0_e.Prev x17 hx17) ent41 <| .a 1 <| ?_
            obtain ⟨x18, hx18, h⟩ := of_bind h
            refine .merge 6 [77, 78, 79, 80, 81] 82 (.d (eB x18)) ?_ ?_
            · replace h := hx18
              rcases Bool.eq_false_or_eq_true (!x17) with hb19 | hb19
              · replace h := of_bif_true hb19 h
                refine .c (congrArg some hb19) <| .a 5 <| .nil ?_
                obtain rfl := Option.some.inj h
                kernel_rfl
              · replace h := of_bif_false hb19 h
                obtain ⟨x20, hx20, h⟩ := of_bind h
                refine .c (congrArg some hb19) <| .a 2 <| .call (event_ordered_ok p0_e.Auth x20 hx20) ent41 <| .a 2 <| .nil ?_
                obtain rfl := Option.some.inj h
                kernel_rfl
            refine .a 1 <| .nil ?_
            refine SP.cond x18 (by kernel_rfl) (fun hb21 => ?_) (fun hb21 => ?_)
            · replace h := of_bif_true hb21 h
              refine SP.rg <| .a 1 <| .nil ?_
              refine SP.ret ?_
              rw [← Option.some.inj h]
              exact ⟨[.d (eI 8)], [], ⟨resV_tmp (by kernel_rfl), trivial⟩, by kernel_rfl, by kernel_rfl, by kernel_rfl⟩
            · replace h := of_bif_false hb21 h
              refine SP.rg <| .a 2 <| .p (ok_lenT eI p0_e.Prev und33 rfl) <| .a 1 <| ?_
              obtain ⟨x22, hx22, h⟩ := of_bind h
              refine .merge 5 [88, 89, 90, 91] 92 (.d (eB x22)) ?_ ?_
              · replace h := hx22
                rcases Bool.eq_false_or_eq_true ((p0_e.Prev.length : Int) == 0) with hb23 | hb23
                · replace h := of_bif_true hb23 h
                  refine .c (congrArg some hb23) <| .a 4 <| .nil ?_
                  obtain rfl := Option.some.inj h
                  kernel_rfl
                · replace h := of_bif_false hb23 h
                  refine .c (congrArg some hb23) <| .a 4 <| .nil ?_
                  obtain rfl := Option.some.inj h
                  kernel_rfl
              refine .a 1 <| .nil ?_
              refine SP.cond x22 (by kernel_rfl) (fun hb24 => ?_) (fun hb24 => ?_)
              · replace h := of_bif_true hb24 h
                refine SP.rg <| .a 1 <| .nil ?_
                refine SP.ret ?_
                rw [← Option.some.inj h]
                exact ⟨[.d (eI 9)], [], ⟨resV_tmp (by kernel_rfl), trivial⟩, by kernel_rfl, by kernel_rfl, by kernel_rfl⟩
              · replace h := of_bif_false hb24 h
                refine SP.rg <| .a 3 <| ?_
                obtain ⟨x25, hx25, h⟩ := of_bind h
                refine .merge 10 [97, 98, 99, 100, 101, 102, 103, 104, 105] 106 (.d (eB x25)) ?_ ?_
                · replace h := hx25
                  rcases Bool.eq_false_or_eq_true (p0_e.Kind == 1) with hb26 | hb26
                  · replace h := of_bif_true hb26 h
                    refine .c (congrArg some hb26) <| .a 2 <| .p (ok_lenT eI p0_e.Prev und33 rfl) <| .a 2 <| .p (ok_lenT eI p0_e.Auth und33 rfl) <| .a 3 <| .nil ?_
                    obtain rfl := Option.some.inj h
                    kernel_rfl
                  · replace h := of_bif_false hb26 h
                    refine .c (congrArg some hb26) <| .a 9 <| .nil ?_
                    obtain rfl := Option.some.inj h
                    kernel_rfl
                refine .a 1 <| .nil ?_
                refine SP.cond x25 (by kernel_rfl) (fun hb27 => ?_) (fun hb27 => ?_)
                · replace h := of_bif_true hb27 h
                  refine SP.rg <| .a 1 <| .nil ?_
                  refine SP.ret ?_
                  rw [← Option.some.inj h]
                  exact ⟨[.d (eI 6)], [], ⟨resV_tmp (by kernel_rfl), trivial⟩, by kernel_rfl, by kernel_rfl, by kernel_rfl⟩
                · replace h := of_bif_false hb27 h
                  refine SP.skip ?_
                  obtain ⟨x28, hx28, h⟩ := of_bind h
                  refine SP.rg <| .a 4 <| .call (content_Check_ok p0_e.Kind p0_e.Content x28 hx28) ent42 <| .a 1 <| .nil ?_
                  refine SP.ret ?_
                  rw [← Option.some.inj h]
                  exact ⟨[.d (eI x28)], [], ⟨resV_tmp (by kernel_rfl), trivial⟩, by kernel_rfl, by kernel_rfl, by kernel_rfl⟩
  · intro K29
    rcases Bool.eq_false_or_eq_true (decide (p0_e.Kind < 1)) with hb30 | hb30
    · replace h := of_bif_true hb30 h
      refine SP.draw (by kernel_rfl) (by kernel_rfl) (by kernel_rfl) (.a 3 <| .c (congrArg some hb30) <| .a 22 <| .nil _) ?_
      exact K29 _ ⟨true, sub_of (mk 112 4098) [(0, true)], h⟩
    · replace h := of_bif_false hb30 h
      rcases Bool.eq_false_or_eq_true (decide (p0_e.Kind > 14)) with hb31 | hb31
      · replace h := of_bif_true hb31 h
        refine SP.draw (by kernel_rfl) (by kernel_rfl) (by kernel_rfl) (.a 3 <| .c (congrArg some hb30) <| .a 4 <| .c (congrArg some hb31) <| .a 17 <| .nil _) ?_
        exact K29 _ ⟨true, sub_of (mk 112 4098) [(0, true)], h⟩
      · replace h := of_bif_false hb31 h
        obtain ⟨x32, hx32, h⟩ := of_bind h
        rcases Bool.eq_false_or_eq_true (!(p0_e.State == x32)) with hb33 | hb33
        · replace h := of_bif_true hb33 h
          refine SP.draw (by kernel_rfl) (by kernel_rfl) (by kernel_rfl) (.a 3 <| .c (congrArg some hb30) <| .a 4 <| .c (congrArg some hb31) <| .a 4 <| .call (content_State_ok p0_e.Kind x32 hx32) ent39 <| .a 2 <| .c (congrArg some hb33) <| .a 9 <| .nil _) ?_
          exact K29 _ ⟨true, sub_of (mk 112 4098) [(0, true)], h⟩
        · replace h := of_bif_false hb33 h
          rcases Bool.eq_false_or_eq_true (!(p0_e.Key.toList == s0.toList)) with hb34 | hb34
          · replace h := of_bif_true hb34 h
            refine SP.draw (by kernel_rfl) (by kernel_rfl) (by kernel_rfl) (.a 3 <| .c (congrArg some hb30) <| .a 4 <| .c (congrArg some hb31) <| .a 4 <| .call (content_State_ok p0_e.Kind x32 hx32) ent39 <| .a 2 <| .c (congrArg some hb33) <| .a 3 <| .c (congrArg some hb34) <| .a 5 <| .nil _) ?_
            exact K29 _ ⟨(!x1), sub_of (mk 112 4098) [(0, true)], h⟩
          · replace h := of_bif_false hb34 h
            refine SP.draw (by kernel_rfl) (by kernel_rfl) (by kernel_rfl) (.a 3 <| .c (congrArg some hb30) <| .a 4 <| .c (congrArg some hb31) <| .a 4 <| .call (content_State_ok p0_e.Kind x32 hx32) ent39 <| .a 2 <| .c (congrArg some hb33) <| .a 3 <| .c (congrArg some hb34) <| .a 5 <| .nil _) ?_
            exact K29 _ ⟨false, sub_of (mk 112 4098) [(0, true)], h⟩

-- fedchat/event.Whole
def event_Whole (p0_e : ApiEvent) : Option Bool := (event_Hash p0_e).bind fun x1 => some (x1 == p0_e.Hash)
theorem event_Whole_ok (p0_e : ApiEvent) (r : Bool) (h : event_Whole p0_e = some r) : Runs Try.prog 25 [.d (eApiEvent p0_e)] [] (.d (eB r)) [] := by
  refine Runs.of_fin Try.func25 rfl ?_
  unfold event_Whole at h
  refine SP.rg <| .a 2 <| .nil ?_
  obtain ⟨x1, hx1, h⟩ := of_bind h
  refine SP.dseq (by kernel_rfl) (by kernel_rfl) (by kernel_rfl) (.a 1 <| .call (event_Hash_ok p0_e x1 hx1) ent23 <| .a 4 <| .nil _) ?_
  refine SP.ret ?_
  rw [← Option.some.inj h]
  exact ⟨[.d (eB (x1 == p0_e.Hash))], [], ⟨resV_tmp (by kernel_rfl), trivial⟩, by kernel_rfl, by kernel_rfl, by kernel_rfl⟩

-- fedchat/content.alike[string]
def content_alike_string_S1 (p0_a : (List ByteArray)) (p1_b : (List ByteArray)) (v2 : Int) : St := ⟨shp 26 [(0, .d ((eL eS) p0_a)), (1, .d ((eL eS) p1_b)), (12, .d (eI (p0_a.length : Int))), (13, .d (eI v2))], [], 0⟩
def content_alike_string_B1 (p0_a : (List ByteArray)) (p1_b : (List ByteArray)) (k3 : (Int → Option Bool)) : Int → Option Bool := fun v2 => (bif decide (v2 < (p0_a.length : Int)) then (gIdx p0_a v2).bind fun x5 => (gIdx p1_b v2).bind fun x6 => (bif (!(x5.toList == x6.toList)) then some false else k3 (IntKind.i64.wrap (v2 + 1))) else some true)
def content_alike_string_L1 (p0_a : (List ByteArray)) (p1_b : (List ByteArray)) : Int → Option Bool := loop1 (content_alike_string_B1 p0_a p1_b) fuel
def content_alike_string (p0_a : (List ByteArray)) (p1_b : (List ByteArray)) : Option Bool := (bif ((p0_a.length : Int) != (p1_b.length : Int)) then some false else content_alike_string_L1 p0_a p1_b 0)
theorem content_alike_string_ok (p0_a : (List ByteArray)) (p1_b : (List ByteArray)) (r : Bool) (h : content_alike_string p0_a p1_b = some r) : Runs Try.prog 43 [.d ((eL eS) p0_a), .d ((eL eS) p1_b)] [] (.d (eB r)) [] := by
  refine Runs.of_fin Try.func43 rfl ?_
  unfold content_alike_string at h
  refine SP.rg <| .a 1 <| .nil ?_
  refine SP.seqc ?_
  refine SP.rg <| .a 1 <| .p (ok_lenT eS p0_a und24 rfl) <| .a 1 <| .p (ok_lenT eS p1_b und24 rfl) <| .a 1 <| .nil ?_
  refine SP.cond ((p0_a.length : Int) != (p1_b.length : Int)) (by kernel_rfl) (fun hb1 => ?_) (fun hb1 => ?_)
  · replace h := of_bif_true hb1 h
    refine SP.rg <| .a 1 <| .nil ?_
    refine SP.ret ?_
    rw [← Option.some.inj h]
    exact ⟨[.d (eB false)], [], ⟨resV_tmp (by kernel_rfl), trivial⟩, by kernel_rfl, by kernel_rfl, by kernel_rfl⟩
  · replace h := of_bif_false hb1 h
    refine SP.skip ?_
    refine SP.seqc ?_
    refine SP.rg <| .a 1 <| .p (ok_lenT eS p0_a und24 rfl) <| .a 1 <| .nil ?_
    refine SP.block ?_
    refine SP.loop1 (content_alike_string_S1 p0_a p1_b) (content_alike_string_B1 p0_a p1_b) r 0 (sub_of (mk 26 12291) []) h ?_
    clear h
    intro J8 k3 hk3 v2 h
    unfold content_alike_string_B1 at h
    refine SP.rg <| .a 1 <| .nil ?_
    refine SP.seqc ?_
    refine SP.cond (decide (v2 < (p0_a.length : Int))) (by kernel_rfl) (fun hb4 => ?_) (fun hb4 => ?_)
    · replace h := of_bif_true hb4 h
      refine SP.skip ?_
      refine SP.seqc ?_
      refine SP.block ?_
      refine SP.rg <| .a 2 <| .nil ?_
      obtain ⟨x5, hx5, h⟩ := of_bind h
      obtain ⟨x6, hx6, h⟩ := of_bind h
      refine SP.dseq (by kernel_rfl) (by kernel_rfl) (by kernel_rfl) (.a 2 <| .p (ok_idxT (k := .i64) eS hx5 und24 ty9 (by kernel_rfl) rfl) <| .a 3 <| .p (ok_idxT (k := .i64) eS hx6 und24 ty9 (by kernel_rfl) rfl) <| .a 2 <| .nil _) ?_
      refine SP.cond (!(x5.toList == x6.toList)) (by kernel_rfl) (fun hb7 => ?_) (fun hb7 => ?_)
      · replace h := of_bif_true hb7 h
        refine SP.rg <| .a 1 <| .nil ?_
        refine SP.ret ?_
        rw [← Option.some.inj h]
        exact ⟨[.d (eB false)], [], ⟨resV_tmp (by kernel_rfl), trivial⟩, by kernel_rfl, by kernel_rfl, by kernel_rfl⟩
      · replace h := of_bif_false hb7 h
        refine SP.skip ?_
        refine SP.rgn <| .a 2 <| .nil ?_
        exact hk3 _ (IntKind.i64.wrap (v2 + 1)) (sub_of (mk 26 12291) []) h
    · replace h := of_bif_false hb4 h
      refine SP.exit ?_
      refine SP.rg <| .a 1 <| .nil ?_
      refine SP.ret ?_
      rw [← Option.some.inj h]
      exact ⟨[.d (eB true)], [], ⟨resV_tmp (by kernel_rfl), trivial⟩, by kernel_rfl, by kernel_rfl, by kernel_rfl⟩

-- fedchat/content.alike[fedchat/api.Level]
def content_alike_apiLevel_S1 (p0_a : (List ApiLevel)) (p1_b : (List ApiLevel)) (v2 : Int) : St := ⟨shp 26 [(0, .d ((eL eApiLevel) p0_a)), (1, .d ((eL eApiLevel) p1_b)), (12, .d (eI (p0_a.length : Int))), (13, .d (eI v2))], [], 0⟩
def content_alike_apiLevel_B1 (p0_a : (List ApiLevel)) (p1_b : (List ApiLevel)) (k3 : (Int → Option Bool)) : Int → Option Bool := fun v2 => (bif decide (v2 < (p0_a.length : Int)) then (gIdx p0_a v2).bind fun x5 => (gIdx p1_b v2).bind fun x6 => (bif (!qApiLevel x5 x6) then some false else k3 (IntKind.i64.wrap (v2 + 1))) else some true)
def content_alike_apiLevel_L1 (p0_a : (List ApiLevel)) (p1_b : (List ApiLevel)) : Int → Option Bool := loop1 (content_alike_apiLevel_B1 p0_a p1_b) fuel
def content_alike_apiLevel (p0_a : (List ApiLevel)) (p1_b : (List ApiLevel)) : Option Bool := (bif ((p0_a.length : Int) != (p1_b.length : Int)) then some false else content_alike_apiLevel_L1 p0_a p1_b 0)
theorem content_alike_apiLevel_ok (p0_a : (List ApiLevel)) (p1_b : (List ApiLevel)) (r : Bool) (h : content_alike_apiLevel p0_a p1_b = some r) : Runs Try.prog 44 [.d ((eL eApiLevel) p0_a), .d ((eL eApiLevel) p1_b)] [] (.d (eB r)) [] := by
  refine Runs.of_fin Try.func44 rfl ?_
  unfold content_alike_apiLevel at h
  refine SP.rg <| .a 1 <| .nil ?_
  refine SP.seqc ?_
  refine SP.rg <| .a 1 <| .p (ok_lenT eApiLevel p0_a und34 rfl) <| .a 1 <| .p (ok_lenT eApiLevel p1_b und34 rfl) <| .a 1 <| .nil ?_
  refine SP.cond ((p0_a.length : Int) != (p1_b.length : Int)) (by kernel_rfl) (fun hb1 => ?_) (fun hb1 => ?_)
  · replace h := of_bif_true hb1 h
    refine SP.rg <| .a 1 <| .nil ?_
    refine SP.ret ?_
    rw [← Option.some.inj h]
    exact ⟨[.d (eB false)], [], ⟨resV_tmp (by kernel_rfl), trivial⟩, by kernel_rfl, by kernel_rfl, by kernel_rfl⟩
  · replace h := of_bif_false hb1 h
    refine SP.skip ?_
    refine SP.seqc ?_
    refine SP.rg <| .a 1 <| .p (ok_lenT eApiLevel p0_a und34 rfl) <| .a 1 <| .nil ?_
    refine SP.block ?_
    refine SP.loop1 (content_alike_apiLevel_S1 p0_a p1_b) (content_alike_apiLevel_B1 p0_a p1_b) r 0 (sub_of (mk 26 12291) []) h ?_
    clear h
    intro J8 k3 hk3 v2 h
    unfold content_alike_apiLevel_B1 at h
    refine SP.rg <| .a 1 <| .nil ?_
    refine SP.seqc ?_
    refine SP.cond (decide (v2 < (p0_a.length : Int))) (by kernel_rfl) (fun hb4 => ?_) (fun hb4 => ?_)
    · replace h := of_bif_true hb4 h
      refine SP.skip ?_
      refine SP.seqc ?_
      refine SP.block ?_
      refine SP.rg <| .a 2 <| .nil ?_
      obtain ⟨x5, hx5, h⟩ := of_bind h
      obtain ⟨x6, hx6, h⟩ := of_bind h
      refine SP.dseq (by kernel_rfl) (by kernel_rfl) (by kernel_rfl) (.a 2 <| .p (ok_idxT (k := .i64) eApiLevel hx5 und34 ty62 (by kernel_rfl) rfl) <| .a 3 <| .p (ok_idxT (k := .i64) eApiLevel hx6 und34 ty62 (by kernel_rfl) rfl) <| .a 1 <| .p (x := .d (eB (!qApiLevel x5 x6))) (ok_neS [.string x5.User, .int .i64 x5.N] [.string x6.User, .int .i64 x6.N] (qApiLevel_ok62 x5 x6) (by decide) eqg62 rfl) <| .nil _) ?_
      refine SP.cond (!qApiLevel x5 x6) (by kernel_rfl) (fun hb7 => ?_) (fun hb7 => ?_)
      · replace h := of_bif_true hb7 h
        refine SP.rg <| .a 1 <| .nil ?_
        refine SP.ret ?_
        rw [← Option.some.inj h]
        exact ⟨[.d (eB false)], [], ⟨resV_tmp (by kernel_rfl), trivial⟩, by kernel_rfl, by kernel_rfl, by kernel_rfl⟩
      · replace h := of_bif_false hb7 h
        refine SP.skip ?_
        refine SP.rgn <| .a 2 <| .nil ?_
        exact hk3 _ (IntKind.i64.wrap (v2 + 1)) (sub_of (mk 26 12291) []) h
    · replace h := of_bif_false hb4 h
      refine SP.exit ?_
      refine SP.rg <| .a 1 <| .nil ?_
      refine SP.ret ?_
      rw [← Option.some.inj h]
      exact ⟨[.d (eB true)], [], ⟨resV_tmp (by kernel_rfl), trivial⟩, by kernel_rfl, by kernel_rfl, by kernel_rfl⟩

-- fedchat/content.alike[fedchat/api.KindLevel]
def content_alike_apiKindLevel_S1 (p0_a : (List ApiKindLevel)) (p1_b : (List ApiKindLevel)) (v2 : Int) : St := ⟨shp 26 [(0, .d ((eL eApiKindLevel) p0_a)), (1, .d ((eL eApiKindLevel) p1_b)), (12, .d (eI (p0_a.length : Int))), (13, .d (eI v2))], [], 0⟩
def content_alike_apiKindLevel_B1 (p0_a : (List ApiKindLevel)) (p1_b : (List ApiKindLevel)) (k3 : (Int → Option Bool)) : Int → Option Bool := fun v2 => (bif decide (v2 < (p0_a.length : Int)) then (gIdx p0_a v2).bind fun x5 => (gIdx p1_b v2).bind fun x6 => (bif (!qApiKindLevel x5 x6) then some false else k3 (IntKind.i64.wrap (v2 + 1))) else some true)
def content_alike_apiKindLevel_L1 (p0_a : (List ApiKindLevel)) (p1_b : (List ApiKindLevel)) : Int → Option Bool := loop1 (content_alike_apiKindLevel_B1 p0_a p1_b) fuel
def content_alike_apiKindLevel (p0_a : (List ApiKindLevel)) (p1_b : (List ApiKindLevel)) : Option Bool := (bif ((p0_a.length : Int) != (p1_b.length : Int)) then some false else content_alike_apiKindLevel_L1 p0_a p1_b 0)
theorem content_alike_apiKindLevel_ok (p0_a : (List ApiKindLevel)) (p1_b : (List ApiKindLevel)) (r : Bool) (h : content_alike_apiKindLevel p0_a p1_b = some r) : Runs Try.prog 45 [.d ((eL eApiKindLevel) p0_a), .d ((eL eApiKindLevel) p1_b)] [] (.d (eB r)) [] := by
  refine Runs.of_fin Try.func45 rfl ?_
  unfold content_alike_apiKindLevel at h
  refine SP.rg <| .a 1 <| .nil ?_
  refine SP.seqc ?_
  refine SP.rg <| .a 1 <| .p (ok_lenT eApiKindLevel p0_a und35 rfl) <| .a 1 <| .p (ok_lenT eApiKindLevel p1_b und35 rfl) <| .a 1 <| .nil ?_
  refine SP.cond ((p0_a.length : Int) != (p1_b.length : Int)) (by kernel_rfl) (fun hb1 => ?_) (fun hb1 => ?_)
  · replace h := of_bif_true hb1 h
    refine SP.rg <| .a 1 <| .nil ?_
    refine SP.ret ?_
    rw [← Option.some.inj h]
    exact ⟨[.d (eB false)], [], ⟨resV_tmp (by kernel_rfl), trivial⟩, by kernel_rfl, by kernel_rfl, by kernel_rfl⟩
  · replace h := of_bif_false hb1 h
    refine SP.skip ?_
    refine SP.seqc ?_
    refine SP.rg <| .a 1 <| .p (ok_lenT eApiKindLevel p0_a und35 rfl) <| .a 1 <| .nil ?_
    refine SP.block ?_
    refine SP.loop1 (content_alike_apiKindLevel_S1 p0_a p1_b) (content_alike_apiKindLevel_B1 p0_a p1_b) r 0 (sub_of (mk 26 12291) []) h ?_
    clear h
    intro J8 k3 hk3 v2 h
    unfold content_alike_apiKindLevel_B1 at h
    refine SP.rg <| .a 1 <| .nil ?_
    refine SP.seqc ?_
    refine SP.cond (decide (v2 < (p0_a.length : Int))) (by kernel_rfl) (fun hb4 => ?_) (fun hb4 => ?_)
    · replace h := of_bif_true hb4 h
      refine SP.skip ?_
      refine SP.seqc ?_
      refine SP.block ?_
      refine SP.rg <| .a 2 <| .nil ?_
      obtain ⟨x5, hx5, h⟩ := of_bind h
      obtain ⟨x6, hx6, h⟩ := of_bind h
      refine SP.dseq (by kernel_rfl) (by kernel_rfl) (by kernel_rfl) (.a 2 <| .p (ok_idxT (k := .i64) eApiKindLevel hx5 und35 ty90 (by kernel_rfl) rfl) <| .a 3 <| .p (ok_idxT (k := .i64) eApiKindLevel hx6 und35 ty90 (by kernel_rfl) rfl) <| .a 1 <| .p (x := .d (eB (!qApiKindLevel x5 x6))) (ok_neS [.int .i64 x5.Kind, .int .i64 x5.N] [.int .i64 x6.Kind, .int .i64 x6.N] (qApiKindLevel_ok90 x5 x6) (by decide) eqg90 rfl) <| .nil _) ?_
      refine SP.cond (!qApiKindLevel x5 x6) (by kernel_rfl) (fun hb7 => ?_) (fun hb7 => ?_)
      · replace h := of_bif_true hb7 h
        refine SP.rg <| .a 1 <| .nil ?_
        refine SP.ret ?_
        rw [← Option.some.inj h]
        exact ⟨[.d (eB false)], [], ⟨resV_tmp (by kernel_rfl), trivial⟩, by kernel_rfl, by kernel_rfl, by kernel_rfl⟩
      · replace h := of_bif_false hb7 h
        refine SP.skip ?_
        refine SP.rgn <| .a 2 <| .nil ?_
        exact hk3 _ (IntKind.i64.wrap (v2 + 1)) (sub_of (mk 26 12291) []) h
    · replace h := of_bif_false hb4 h
      refine SP.exit ?_
      refine SP.rg <| .a 1 <| .nil ?_
      refine SP.ret ?_
      rw [← Option.some.inj h]
      exact ⟨[.d (eB true)], [], ⟨resV_tmp (by kernel_rfl), trivial⟩, by kernel_rfl, by kernel_rfl, by kernel_rfl⟩

-- fedchat/content.Same
def content_Same_S1 (p0_a : ApiContent) (p1_b : ApiContent) : St := ⟨shp 121 [(2, .ptr 0 0), (3, .ptr 1 0), (5, .ptr 2 0), (6, .ptr 3 0)], [.box (dc (eApiContent p0_a)), .box (dc (eApiContent p1_b)), .box (dc (eApiLevels p0_a.Levels)), .box (dc (eApiLevels p1_b.Levels))], 0⟩
def content_Same (p0_a : ApiContent) (p1_b : ApiContent) : Option Bool := (bif (!(p0_a.Text.toList == p1_b.Text.toList)) then some true else some (p0_a.N != p1_b.N)).bind fun x1 => (bif x1 then some true else some (p0_a.Target != p1_b.Target)).bind fun x3 => (bif x3 then some true else some (!(p0_a.Thread == p1_b.Thread))).bind fun x5 => (bif x5 then some true else some (!(p0_a.Via.toList == p1_b.Via.toList))).bind fun x7 => (bif x7 then some true else (content_alike_string p0_a.Allow p1_b.Allow).bind fun x11 => some (!x11)).bind fun x9 => (bif x9 then some true else (content_alike_string p0_a.Deny p1_b.Deny).bind fun x14 => some (!x14)).bind fun x12 => (bif x12 then some false else (content_alike_apiLevel p0_a.Levels.Users p1_b.Levels.Users).bind fun x16 => (bif x16 then (content_alike_apiKindLevel p0_a.Levels.Kinds p1_b.Levels.Kinds).bind fun x19 => some x19 else some false).bind fun x17 => (bif x17 then some (p0_a.Levels.User == p1_b.Levels.User) else some false).bind fun x20 => (bif x20 then some (p0_a.Levels.Message == p1_b.Levels.Message) else some false).bind fun x22 => (bif x22 then some (p0_a.Levels.State == p1_b.Levels.State) else some false).bind fun x24 => (bif x24 then some (p0_a.Levels.Invite == p1_b.Levels.Invite) else some false).bind fun x26 => (bif x26 then some (p0_a.Levels.Kick == p1_b.Levels.Kick) else some false).bind fun x28 => (bif x28 then some (p0_a.Levels.Ban == p1_b.Levels.Ban) else some false).bind fun x30 => (bif x30 then some (p0_a.Levels.Redact == p1_b.Levels.Redact) else some false).bind fun x32 => some x32)
theorem content_Same_ok (p0_a : ApiContent) (p1_b : ApiContent) (r : Bool) (h : content_Same p0_a p1_b = some r) : Runs Try.prog 26 [.d (eApiContent p0_a), .d (eApiContent p1_b)] [] (.d (eB r)) [] := by
  refine Runs.of_fin Try.func26 rfl ?_
  unfold content_Same at h
  refine SP.rg <| .a 3 <| .nil ?_
  refine SP.nseqF [] [[], [0], [2], [4], [5], [0, 1], [0, 2], [0, 4], [0, 5], [2, 3], [2, 4], [2, 5], [4, 5], [5, 4], [0, 1, 2], [0, 1, 4], [0, 1, 5], [0, 2, 3], [0, 2, 4], [0, 2, 5], [0, 4, 5], [0, 5, 4], [2, 3, 4], [2, 3, 5], [2, 4, 5], [2, 5, 4], [0, 1, 2, 3], [0, 1, 2, 4], [0, 1, 2, 5], [0, 1, 4, 5], [0, 1, 5, 4], [0, 2, 3, 4], [0, 2, 3, 5], [0, 2, 4, 5], [0, 2, 5, 4], [2, 3, 4, 5], [2, 3, 5, 4], [0, 1, 2, 3, 4], [0, 1, 2, 3, 5], [0, 1, 2, 4, 5], [0, 1, 2, 5, 4], [0, 1, 4, 5, 6], [0, 1, 5, 4, 6], [0, 2, 3, 4, 5], [0, 2, 3, 5, 4], [0, 1, 2, 3, 4, 5], [0, 1, 2, 3, 5, 4], [0, 1, 2, 4, 5, 6], [0, 1, 2, 5, 4, 6], [0, 1, 2, 3, 4, 5, 6], [0, 1, 2, 3, 5, 4, 6], [0, 1, 2, 3, 4, 5, 6, 7], [0, 1, 2, 3, 5, 4, 6, 7]] [(0, 0, 1), (0, 2, 2), (0, 4, 3), (0, 5, 4), (1, 1, 5), (1, 2, 6), (1, 4, 7), (1, 5, 8), (2, 0, 6), (2, 3, 9), (2, 4, 10), (2, 5, 11), (3, 0, 7), (3, 2, 10), (3, 5, 12), (4, 0, 8), (4, 2, 11), (4, 4, 13), (5, 2, 14), (5, 4, 15), (5, 5, 16), (6, 1, 14), (6, 3, 17), (6, 4, 18), (6, 5, 19), (7, 1, 15), (7, 2, 18), (7, 5, 20), (8, 1, 16), (8, 2, 19), (8, 4, 21), (9, 0, 17), (9, 4, 22), (9, 5, 23), (10, 0, 18), (10, 3, 22), (10, 5, 24), (11, 0, 19), (11, 3, 23), (11, 4, 25), (12, 0, 20), (12, 2, 24), (13, 0, 21), (13, 2, 25), (14, 3, 26), (14, 4, 27), (14, 5, 28), (15, 2, 27), (15, 5, 29), (16, 2, 28), (16, 4, 30), (17, 1, 26), (17, 4, 31), (17, 5, 32), (18, 1, 27), (18, 3, 31), (18, 5, 33), (19, 1, 28), (19, 3, 32), (19, 4, 34), (20, 1, 29), (20, 2, 33), (21, 1, 30), (21, 2, 34), (22, 0, 31), (22, 5, 35), (23, 0, 32), (23, 4, 36), (24, 0, 33), (24, 3, 35), (25, 0, 34), (25, 3, 36), (26, 4, 37), (26, 5, 38), (27, 3, 37), (27, 5, 39), (28, 3, 38), (28, 4, 40), (29, 2, 39), (29, 6, 41), (30, 2, 40), (30, 6, 42), (31, 1, 37), (31, 5, 43), (32, 1, 38), (32, 4, 44), (33, 1, 39), (33, 3, 43), (34, 1, 40), (34, 3, 44), (35, 0, 43), (36, 0, 44), (37, 5, 45), (38, 4, 46), (39, 3, 45), (39, 6, 47), (40, 3, 46), (40, 6, 48), (41, 2, 47), (42, 2, 48), (43, 1, 45), (44, 1, 46), (45, 6, 49), (46, 6, 50), (47, 3, 49), (48, 3, 50), (49, 7, 51), (50, 7, 52)] [51, 52] (content_Same_S1 p0_a p1_b) ⟨fin_sub (sub_of (mk 121 108) [(0, true), (1, true), (2, true), (3, true)]), fin_sub (sub_of (mk 121 108) [(0, true), (1, true), (3, true), (2, true)]), trivial⟩ ?_
  refine SP.seqc ?_
  refine SP.rg <| .a 5 <| ?_
  obtain ⟨x1, hx1, h⟩ := of_bind h
  refine .merge 7 [16, 17, 18, 19, 20, 21] 22 (.d (eB x1)) ?_ ?_
  · replace h := hx1
    rcases Bool.eq_false_or_eq_true (!(p0_a.Text.toList == p1_b.Text.toList)) with hb2 | hb2
    · replace h := of_bif_true hb2 h
      refine .c (congrArg some hb2) <| .a 6 <| .nil ?_
      obtain rfl := Option.some.inj h
      kernel_rfl
    · replace h := of_bif_false hb2 h
      refine .c (congrArg some hb2) <| .a 6 <| .nil ?_
      obtain rfl := Option.some.inj h
      kernel_rfl
  refine .a 1 <| ?_
  obtain ⟨x3, hx3, h⟩ := of_bind h
  refine .merge 6 [24, 25, 26, 27, 28] 29 (.d (eB x3)) ?_ ?_
  · replace h := hx3
    cases x1 with
    | true =>
      replace h := of_bif_true rfl h
      refine .a 6 <| .nil ?_
      obtain rfl := Option.some.inj h
      kernel_rfl
    | false =>
      replace h := of_bif_false rfl h
      refine .a 6 <| .nil ?_
      obtain rfl := Option.some.inj h
      kernel_rfl
  refine .a 1 <| ?_
  obtain ⟨x5, hx5, h⟩ := of_bind h
  refine .merge 6 [31, 32, 33, 34, 35] 36 (.d (eB x5)) ?_ ?_
  · replace h := hx5
    cases x3 with
    | true =>
      replace h := of_bif_true rfl h
      refine .a 6 <| .nil ?_
      obtain rfl := Option.some.inj h
      kernel_rfl
    | false =>
      replace h := of_bif_false rfl h
      refine .a 6 <| .nil ?_
      obtain rfl := Option.some.inj h
      kernel_rfl
  refine .a 1 <| ?_
  obtain ⟨x7, hx7, h⟩ := of_bind h
  refine .merge 6 [38, 39, 40, 41, 42] 43 (.d (eB x7)) ?_ ?_
  · replace h := hx7
    cases x5 with
    | true =>
      replace h := of_bif_true rfl h
      refine .a 6 <| .nil ?_
      obtain rfl := Option.some.inj h
      kernel_rfl
    | false =>
      replace h := of_bif_false rfl h
      refine .a 6 <| .nil ?_
      obtain rfl := Option.some.inj h
      kernel_rfl
  refine .a 1 <| ?_
  obtain ⟨x9, hx9, h⟩ := of_bind h
  refine .merge 7 [45, 46, 47, 48, 49, 50] 51 (.d (eB x9)) ?_ ?_
  · replace h := hx9
    cases x7 with
    | true =>
      replace h := of_bif_true rfl h
      refine .a 7 <| .nil ?_
      obtain rfl := Option.some.inj h
      kernel_rfl
    | false =>
      replace h := of_bif_false rfl h
      obtain ⟨x11, hx11, h⟩ := of_bind h
      refine .a 4 <| .call (content_alike_string_ok p0_a.Allow p1_b.Allow x11 hx11) ent43 <| .a 2 <| .nil ?_
      obtain rfl := Option.some.inj h
      kernel_rfl
  refine .a 1 <| ?_
  obtain ⟨x12, hx12, h⟩ := of_bind h
  refine .merge 7 [53, 54, 55, 56, 57, 58] 59 (.d (eB x12)) ?_ ?_
  · replace h := hx12
    cases x9 with
    | true =>
      replace h := of_bif_true rfl h
      refine .a 7 <| .nil ?_
      obtain rfl := Option.some.inj h
      kernel_rfl
    | false =>
      replace h := of_bif_false rfl h
      obtain ⟨x14, hx14, h⟩ := of_bind h
      refine .a 4 <| .call (content_alike_string_ok p0_a.Deny p1_b.Deny x14 hx14) ent43 <| .a 2 <| .nil ?_
      obtain rfl := Option.some.inj h
      kernel_rfl
  refine .nil ?_
  refine SP.cond x12 (by kernel_rfl) (fun hb15 => ?_) (fun hb15 => ?_)
  · replace h := of_bif_true hb15 h
    refine SP.rg <| .a 1 <| .nil ?_
    refine SP.ret ?_
    rw [← Option.some.inj h]
    exact ⟨[.d (eB false)], [], ⟨resV_tmp (by kernel_rfl), trivial⟩, by kernel_rfl, by kernel_rfl, by kernel_rfl⟩
  · replace h := of_bif_false hb15 h
    refine SP.skip ?_
    obtain ⟨x16, hx16, h⟩ := of_bind h
    refine SP.rg <| .a 4 <| .call (content_alike_apiLevel_ok p0_a.Levels.Users p1_b.Levels.Users x16 hx16) ent44 <| .a 1 <| ?_
    obtain ⟨x17, hx17, h⟩ := of_bind h
    refine .merge 6 [66, 67, 68, 69, 70] 71 (.d (eB x17)) ?_ ?_
    · replace h := hx17
      cases x16 with
      | true =>
        replace h := of_bif_true rfl h
        obtain ⟨x19, hx19, h⟩ := of_bind h
        refine .a 4 <| .call (content_alike_apiKindLevel_ok p0_a.Levels.Kinds p1_b.Levels.Kinds x19 hx19) ent45 <| .a 1 <| .nil ?_
        obtain rfl := Option.some.inj h
        kernel_rfl
      | false =>
        replace h := of_bif_false rfl h
        refine .a 6 <| .nil ?_
        obtain rfl := Option.some.inj h
        kernel_rfl
    refine .a 1 <| ?_
    obtain ⟨x20, hx20, h⟩ := of_bind h
    refine .merge 6 [73, 74, 75, 76, 77] 78 (.d (eB x20)) ?_ ?_
    · replace h := hx20
      cases x17 with
      | true =>
        replace h := of_bif_true rfl h
        refine .a 6 <| .nil ?_
        obtain rfl := Option.some.inj h
        kernel_rfl
      | false =>
        replace h := of_bif_false rfl h
        refine .a 6 <| .nil ?_
        obtain rfl := Option.some.inj h
        kernel_rfl
    refine .a 1 <| ?_
    obtain ⟨x22, hx22, h⟩ := of_bind h
    refine .merge 6 [80, 81, 82, 83, 84] 85 (.d (eB x22)) ?_ ?_
    · replace h := hx22
      cases x20 with
      | true =>
        replace h := of_bif_true rfl h
        refine .a 6 <| .nil ?_
        obtain rfl := Option.some.inj h
        kernel_rfl
      | false =>
        replace h := of_bif_false rfl h
        refine .a 6 <| .nil ?_
        obtain rfl := Option.some.inj h
        kernel_rfl
    refine .a 1 <| ?_
    obtain ⟨x24, hx24, h⟩ := of_bind h
    refine .merge 6 [87, 88, 89, 90, 91] 92 (.d (eB x24)) ?_ ?_
    · replace h := hx24
      cases x22 with
      | true =>
        replace h := of_bif_true rfl h
        refine .a 6 <| .nil ?_
        obtain rfl := Option.some.inj h
        kernel_rfl
      | false =>
        replace h := of_bif_false rfl h
        refine .a 6 <| .nil ?_
        obtain rfl := Option.some.inj h
        kernel_rfl
    refine .a 1 <| ?_
    obtain ⟨x26, hx26, h⟩ := of_bind h
    refine .merge 6 [94, 95, 96, 97, 98] 99 (.d (eB x26)) ?_ ?_
    · replace h := hx26
      cases x24 with
      | true =>
        replace h := of_bif_true rfl h
        refine .a 6 <| .nil ?_
        obtain rfl := Option.some.inj h
        kernel_rfl
      | false =>
        replace h := of_bif_false rfl h
        refine .a 6 <| .nil ?_
        obtain rfl := Option.some.inj h
        kernel_rfl
    refine .a 1 <| ?_
    obtain ⟨x28, hx28, h⟩ := of_bind h
    refine .merge 6 [101, 102, 103, 104, 105] 106 (.d (eB x28)) ?_ ?_
    · replace h := hx28
      cases x26 with
      | true =>
        replace h := of_bif_true rfl h
        refine .a 6 <| .nil ?_
        obtain rfl := Option.some.inj h
        kernel_rfl
      | false =>
        replace h := of_bif_false rfl h
        refine .a 6 <| .nil ?_
        obtain rfl := Option.some.inj h
        kernel_rfl
    refine .a 1 <| ?_
    obtain ⟨x30, hx30, h⟩ := of_bind h
    refine .merge 6 [108, 109, 110, 111, 112] 113 (.d (eB x30)) ?_ ?_
    · replace h := hx30
      cases x28 with
      | true =>
        replace h := of_bif_true rfl h
        refine .a 6 <| .nil ?_
        obtain rfl := Option.some.inj h
        kernel_rfl
      | false =>
        replace h := of_bif_false rfl h
        refine .a 6 <| .nil ?_
        obtain rfl := Option.some.inj h
        kernel_rfl
    refine .a 1 <| ?_
    obtain ⟨x32, hx32, h⟩ := of_bind h
    refine .merge 6 [115, 116, 117, 118, 119] 120 (.d (eB x32)) ?_ ?_
    · replace h := hx32
      cases x30 with
      | true =>
        replace h := of_bif_true rfl h
        refine .a 6 <| .nil ?_
        obtain rfl := Option.some.inj h
        kernel_rfl
      | false =>
        replace h := of_bif_false rfl h
        refine .a 6 <| .nil ?_
        obtain rfl := Option.some.inj h
        kernel_rfl
    refine .a 1 <| .nil ?_
    refine SP.ret ?_
    rw [← Option.some.inj h]
    exact ⟨[.d (eB x32)], [], ⟨resV_tmp (by kernel_rfl), trivial⟩, by kernel_rfl, by kernel_rfl, by kernel_rfl⟩

-- fedchat/event.Verify
def event_Verify_S1 (p0_e : ApiEvent) (v3 : Bool) : St := ⟨shp 40 [(1, .ptr 0 0), (9, .d (eB v3))], [.box (dc (eApiEvent p0_e))], 0⟩
def event_Verify_j1 (p0_e : ApiEvent) (v3 : Bool) : Option Int := (bif v3 then some 6 else (event_IdOf p0_e).bind fun x5 => (bif (x5 != p0_e.Id) then some 11 else (ids_ServerOf p0_e.Sender).bind fun x7 => (bif (!qApiSig p0_e.Sig (⟨x7, p0_e.Id⟩ : ApiSig)) then some 12 else some 0)))
def event_Verify (p0_e : ApiEvent) : Option Int := (event_Check p0_e).bind fun x1 => (bif (x1 != 0) then some x1 else (event_Whole p0_e).bind fun x10 => (bif (!x10) then (content_Strip p0_e.Kind p0_e.Content).bind fun x12 => (content_Same p0_e.Content x12).bind fun x13 => event_Verify_j1 p0_e (!x13) else event_Verify_j1 p0_e false))
theorem event_Verify_ok (p0_e : ApiEvent) (r : Int) (h : event_Verify p0_e = some r) : Runs Try.prog 13 [.d (eApiEvent p0_e)] [] (.d (eI r)) [] := by
  refine Runs.of_fin Try.func13 rfl ?_
  unfold event_Verify at h
  refine SP.rg <| .a 2 <| .nil ?_
  refine SP.seqc ?_
  obtain ⟨x1, hx1, h⟩ := of_bind h
  refine SP.rg <| .a 1 <| .call (event_Check_ok p0_e x1 hx1) ent24 <| .a 1 <| .nil ?_
  refine SP.rg <| .a 2 <| .nil ?_
  refine SP.cond (x1 != 0) (by kernel_rfl) (fun hb2 => ?_) (fun hb2 => ?_)
  · replace h := of_bif_true hb2 h
    refine SP.rg <| .a 2 <| .nil ?_
    refine SP.ret ?_
    rw [← Option.some.inj h]
    exact ⟨[.d (eI x1)], [], ⟨resV_tmp (by kernel_rfl), trivial⟩, by kernel_rfl, by kernel_rfl, by kernel_rfl⟩
  · replace h := of_bif_false hb2 h
    refine SP.skip ?_
    refine SP.seqc ?_
    refine SP.block ?_
    refine SP.join (fun s => ∃ (v3 : Bool), Sub s (event_Verify_S1 p0_e v3) ∧ event_Verify_j1 p0_e v3 = some r) ?_ ?_
    · clear h
      rintro s ⟨v3, hs, h⟩
      refine SP.sub hs ?_
      clear hs
      unfold event_Verify_j1 at h
      refine SP.cond v3 (by kernel_rfl) (fun hb4 => ?_) (fun hb4 => ?_)
      · replace h := of_bif_true hb4 h
        refine SP.rg <| .a 1 <| .nil ?_
        refine SP.ret ?_
        rw [← Option.some.inj h]
        exact ⟨[.d (eI 6)], [], ⟨resV_tmp (by kernel_rfl), trivial⟩, by kernel_rfl, by kernel_rfl, by kernel_rfl⟩
      · replace h := of_bif_false hb4 h
        obtain ⟨x5, hx5, h⟩ := of_bind h
        refine SP.dseq (by kernel_rfl) (by kernel_rfl) (by kernel_rfl) (.a 1 <| .call (event_IdOf_ok p0_e x5 hx5) ent21 <| .a 4 <| .nil _) ?_
        refine SP.cond (x5 != p0_e.Id) (by kernel_rfl) (fun hb6 => ?_) (fun hb6 => ?_)
        · replace h := of_bif_true hb6 h
          refine SP.rg <| .a 1 <| .nil ?_
          refine SP.ret ?_
          rw [← Option.some.inj h]
          exact ⟨[.d (eI 11)], [], ⟨resV_tmp (by kernel_rfl), trivial⟩, by kernel_rfl, by kernel_rfl, by kernel_rfl⟩
        · replace h := of_bif_false hb6 h
          obtain ⟨x7, hx7, h⟩ := of_bind h
          refine SP.dseq (by kernel_rfl) (by kernel_rfl) (by kernel_rfl) (.a 4 <| .call (ids_ServerOf_ok p0_e.Sender x7 hx7) ent20 <| .a 3 <| .p (x := .d (eB (!qApiSig p0_e.Sig (⟨x7, p0_e.Id⟩ : ApiSig)))) (ok_neS [.string p0_e.Sig.Server, .int .i64 p0_e.Sig.Sum] [.string ((⟨x7, p0_e.Id⟩ : ApiSig).Server), .int .i64 ((⟨x7, p0_e.Id⟩ : ApiSig).Sum)] (qApiSig_ok41 p0_e.Sig (⟨x7, p0_e.Id⟩ : ApiSig)) (by decide) eqg41 rfl) <| .a 1 <| .nil _) ?_
          refine SP.cond (!qApiSig p0_e.Sig (⟨x7, p0_e.Id⟩ : ApiSig)) (by kernel_rfl) (fun hb8 => ?_) (fun hb8 => ?_)
          · replace h := of_bif_true hb8 h
            refine SP.rg <| .a 1 <| .nil ?_
            refine SP.ret ?_
            rw [← Option.some.inj h]
            exact ⟨[.d (eI 12)], [], ⟨resV_tmp (by kernel_rfl), trivial⟩, by kernel_rfl, by kernel_rfl, by kernel_rfl⟩
          · replace h := of_bif_false hb8 h
            refine SP.skip ?_
            refine SP.rg <| .a 1 <| .nil ?_
            refine SP.ret ?_
            rw [← Option.some.inj h]
            exact ⟨[.d (eI 0)], [], ⟨resV_tmp (by kernel_rfl), trivial⟩, by kernel_rfl, by kernel_rfl, by kernel_rfl⟩
    · intro K9
      obtain ⟨x10, hx10, h⟩ := of_bind h
      rcases Bool.eq_false_or_eq_true (!x10) with hb11 | hb11
      · replace h := of_bif_true hb11 h
        obtain ⟨x12, hx12, h⟩ := of_bind h
        obtain ⟨x13, hx13, h⟩ := of_bind h
        refine SP.draw (by kernel_rfl) (by kernel_rfl) (by kernel_rfl) (.a 1 <| .call (event_Whole_ok p0_e x10 hx10) ent25 <| .a 1 <| .c (congrArg some hb11) <| .a 6 <| .call (content_Strip_ok p0_e.Kind p0_e.Content x12 hx12) ent27 <| .call (content_Same_ok p0_e.Content x12 x13 hx13) ent26 <| .a 3 <| .nil _) ?_
        exact K9 _ ⟨(!x13), sub_of (mk 40 514) [(0, true)], h⟩
      · replace h := of_bif_false hb11 h
        refine SP.draw (by kernel_rfl) (by kernel_rfl) (by kernel_rfl) (.a 1 <| .call (event_Whole_ok p0_e x10 hx10) ent25 <| .a 1 <| .c (congrArg some hb11) <| .a 11 <| .nil _) ?_
        exact K9 _ ⟨false, sub_of (mk 40 514) [(0, true)], h⟩

-- fedchat/evil.Signed
def evil_Signed_S1 (p0_server : ByteArray) (p1_l : (List ApiEvent)) (v1 : Int) : St := ⟨shp 24 [(0, .d (eS p0_server)), (7, .d ((eL eApiEvent) p1_l)), (8, .d (eI (p1_l.length : Int))), (9, .d (eI v1))], [], 0⟩
def evil_Signed_B1 (p1_l : (List ApiEvent)) (p0_server : ByteArray) (k2 : (Int → Option Bool)) : Int → Option Bool := fun v1 => (bif decide (v1 < (p1_l.length : Int)) then (gIdx p1_l v1).bind fun x4 => (event_Verify x4).bind fun x5 => (bif (x5 == 0) then (ids_ServerOf x4.Sender).bind fun x8 => some (!(x8.toList == p0_server.toList)) else some false).bind fun x6 => (bif x6 then some false else k2 (IntKind.i64.wrap (v1 + 1))) else some true)
def evil_Signed_L1 (p1_l : (List ApiEvent)) (p0_server : ByteArray) : Int → Option Bool := loop1 (evil_Signed_B1 p1_l p0_server) fuel
def evil_Signed (p0_server : ByteArray) (p1_l : (List ApiEvent)) : Option Bool := evil_Signed_L1 p1_l p0_server 0
theorem evil_Signed_ok (p0_server : ByteArray) (p1_l : (List ApiEvent)) (r : Bool) (h : evil_Signed p0_server p1_l = some r) : Runs Try.prog 14 [.d (eS p0_server), .d ((eL eApiEvent) p1_l)] [] (.d (eB r)) [] := by
  refine Runs.of_fin Try.func14 rfl ?_
  unfold evil_Signed at h
  refine SP.rg <| .a 1 <| .nil ?_
  refine SP.seqc ?_
  refine SP.rg <| .a 1 <| .p (ok_lenT eApiEvent p1_l und56 rfl) <| .a 1 <| .nil ?_
  refine SP.block ?_
  refine SP.loop1 (evil_Signed_S1 p0_server p1_l) (evil_Signed_B1 p1_l p0_server) r 0 (sub_of (mk 24 897) []) h ?_
  clear h
  intro J10 k2 hk2 v1 h
  unfold evil_Signed_B1 at h
  refine SP.rg <| .a 1 <| .nil ?_
  refine SP.seqc ?_
  refine SP.cond (decide (v1 < (p1_l.length : Int))) (by kernel_rfl) (fun hb3 => ?_) (fun hb3 => ?_)
  · replace h := of_bif_true hb3 h
    refine SP.skip ?_
    refine SP.seqc ?_
    refine SP.block ?_
    obtain ⟨x4, hx4, h⟩ := of_bind h
    refine SP.rg <| .p (ok_idxT (k := .i64) eApiEvent hx4 und56 ty43 (by kernel_rfl) rfl) <| .a 3 <| .nil ?_
    obtain ⟨x5, hx5, h⟩ := of_bind h
    refine SP.rg <| .a 1 <| .call (event_Verify_ok x4 x5 hx5) ent13 <| .a 1 <| ?_
    obtain ⟨x6, hx6, h⟩ := of_bind h
    refine .merge 7 [16, 17, 18, 19, 20, 21] 22 (.d (eB x6)) ?_ ?_
    · replace h := hx6
      rcases Bool.eq_false_or_eq_true (x5 == 0) with hb7 | hb7
      · replace h := of_bif_true hb7 h
        obtain ⟨x8, hx8, h⟩ := of_bind h
        refine .c (congrArg some hb7) <| .a 2 <| .call (ids_ServerOf_ok x4.Sender x8 hx8) ent20 <| .a 3 <| .nil ?_
        obtain rfl := Option.some.inj h
        kernel_rfl
      · replace h := of_bif_false hb7 h
        refine .c (congrArg some hb7) <| .a 6 <| .nil ?_
        obtain rfl := Option.some.inj h
        kernel_rfl
    refine .nil ?_
    refine SP.cond x6 (by kernel_rfl) (fun hb9 => ?_) (fun hb9 => ?_)
    · replace h := of_bif_true hb9 h
      refine SP.rg <| .a 1 <| .nil ?_
      refine SP.ret ?_
      rw [← Option.some.inj h]
      exact ⟨[.d (eB false)], [], ⟨resV_tmp (by kernel_rfl), trivial⟩, by kernel_rfl, by kernel_rfl, by kernel_rfl⟩
    · replace h := of_bif_false hb9 h
      refine SP.skip ?_
      refine SP.rgn <| .a 2 <| .nil ?_
      exact hk2 _ (IntKind.i64.wrap (v1 + 1)) (sub_of (mk 24 897) []) h
  · replace h := of_bif_false hb3 h
    refine SP.exit ?_
    refine SP.rg <| .a 1 <| .nil ?_
    refine SP.ret ?_
    rw [← Option.some.inj h]
    exact ⟨[.d (eB true)], [], ⟨resV_tmp (by kernel_rfl), trivial⟩, by kernel_rfl, by kernel_rfl, by kernel_rfl⟩

-- fedchat/fedchatlaw33.live
def L33_live_S1 (x2 : ((List ApiPacket) × Int)) (x4 : ((List ApiPacket) × Int)) (x6 : ((List ApiPacket) × Int)) (v7 : Bool) : St := ⟨shp 158 [(1, .ptr 0 0), (2, .d ((eL eApiPacket) x2.1)), (4, .d ((eL eApiPacket) x4.1)), (6, .d ((eL eApiPacket) x6.1)), (78, .d (eB v7))], [.box (dc (eApiServer ({ zApiServer with Name := s_x })))], 0⟩
def L33_live_S2 (v9 : Bool) : St := ⟨shp 158 [(0, .d (eB v9))], [], 0⟩
def L33_live_j2 (v9 : Bool) : Option Bool := some v9
def L33_live_j1 (x2 : ((List ApiPacket) × Int)) (x4 : ((List ApiPacket) × Int)) (x6 : ((List ApiPacket) × Int)) (v7 : Bool) : Option Bool := (bif v7 then some false else (gIdx x2.1 0).bind fun x11 => (gIdx x11.Events 0).bind fun x12 => (bif (x12.Sender.toList == s__40bob_3ax.toList) then (gIdx x2.1 0).bind fun x14 => (bif (x14.From.toList == s_x.toList) then (gIdx x2.1 0).bind fun x16 => (bif (x16.To.toList == s_b.toList) then (gIdx x2.1 0).bind fun x18 => (gIdx x18.Events 0).bind fun x19 => (event_Verify x19).bind fun x20 => (bif (x20 == 0) then (gIdx x4.1 0).bind fun x22 => (gIdx x22.Events 0).bind fun x23 => (event_Verify x23).bind fun x24 => (bif (x24 == 12) then (gIdx x6.1 0).bind fun x26 => (gIdx x26.Events 0).bind fun x27 => (event_Verify x27).bind fun x28 => (bif (x28 == 12) then (evil_Right ({ zApiServer with Name := s_x }) ({ zApiDeed with Kind := 7, To := s_b })).bind fun x30 => (bif (x30 == 2) then (evil_Right ({ zApiServer with Name := s_x }) ({ zApiDeed with Kind := 1, To := s_x })).bind fun x32 => (bif (x32 == 1) then (gIdx x2.1 0).bind fun x34 => (evil_Signed s_x x34.Events).bind fun x35 => (bif x35 then (gIdx x2.1 0).bind fun x37 => (evil_Signed s_b x37.Events).bind fun x38 => L33_live_j2 (!x38) else L33_live_j2 false) else L33_live_j2 false) else L33_live_j2 false) else L33_live_j2 false) else L33_live_j2 false) else L33_live_j2 false) else L33_live_j2 false) else L33_live_j2 false) else L33_live_j2 false))
def L33_live  : Option Bool := (L33_message).bind fun x1 => (evil_Forge ({ zApiServer with Name := s_x }) (⟨1, s_b, x1⟩ : ApiDeed)).bind fun x2 => (L33_message).bind fun x3 => (evil_Forge ({ zApiServer with Name := s_x }) (⟨2, s_b, x3⟩ : ApiDeed)).bind fun x4 => (L33_message).bind fun x5 => (evil_Forge ({ zApiServer with Name := s_x }) (⟨4, s_b, x5⟩ : ApiDeed)).bind fun x6 => (bif (x2.2 != 0) then L33_live_j1 x2 x4 x6 true else (bif (x4.2 != 0) then L33_live_j1 x2 x4 x6 true else (bif (x6.2 != 0) then L33_live_j1 x2 x4 x6 true else (bif ((x2.1.length : Int) != 1) then L33_live_j1 x2 x4 x6 true else (bif ((x4.1.length : Int) != 1) then L33_live_j1 x2 x4 x6 true else (bif ((x6.1.length : Int) != 1) then L33_live_j1 x2 x4 x6 true else (gIdx x2.1 0).bind fun x46 => (bif ((x46.Events.length : Int) != 1) then L33_live_j1 x2 x4 x6 true else (gIdx x4.1 0).bind fun x48 => (bif ((x48.Events.length : Int) != 1) then L33_live_j1 x2 x4 x6 true else (gIdx x6.1 0).bind fun x50 => L33_live_j1 x2 x4 x6 ((x50.Events.length : Int) != 1)))))))))
theorem L33_live_is (h : L33_live = some true) : Runs Try.prog 7 [] [] (.d (eB true)) [] := by
  refine Runs.of_fin Try.func7 rfl ?_
  unfold L33_live at h
  refine SP.rg <| .a 1 <| .nil ?_
  refine SP.rg <| .a 3 <| .nil ?_
  obtain ⟨x1, hx1, h⟩ := of_bind h
  obtain ⟨x2, hx2, h⟩ := of_bind h
  refine SP.dseq (by kernel_rfl) (by kernel_rfl) (by kernel_rfl) (.a 1 <| .call (L33_message_ok  x1 hx1) ent12 <| .a 1 <| .call (evil_Forge_ok ({ zApiServer with Name := s_x }) (⟨1, s_b, x1⟩ : ApiDeed) x2 hx2) ent11 <| .a 5 <| .nil _) ?_
  obtain ⟨x3, hx3, h⟩ := of_bind h
  obtain ⟨x4, hx4, h⟩ := of_bind h
  refine SP.dseq (by kernel_rfl) (by kernel_rfl) (by kernel_rfl) (.a 1 <| .call (L33_message_ok  x3 hx3) ent12 <| .a 1 <| .call (evil_Forge_ok ({ zApiServer with Name := s_x }) (⟨2, s_b, x3⟩ : ApiDeed) x4 hx4) ent11 <| .a 5 <| .nil _) ?_
  obtain ⟨x5, hx5, h⟩ := of_bind h
  obtain ⟨x6, hx6, h⟩ := of_bind h
  refine SP.dseq (by kernel_rfl) (by kernel_rfl) (by kernel_rfl) (.a 1 <| .call (L33_message_ok  x5 hx5) ent12 <| .a 1 <| .call (evil_Forge_ok ({ zApiServer with Name := s_x }) (⟨4, s_b, x5⟩ : ApiDeed) x6 hx6) ent11 <| .a 5 <| .nil _) ?_
  refine SP.seqc ?_
  refine SP.join (fun s => ∃ (v7 : Bool), Sub s (L33_live_S1 x2 x4 x6 v7) ∧ L33_live_j1 x2 x4 x6 v7 = some true) ?_ ?_
  · clear h
    rintro s ⟨v7, hs, h⟩
    refine SP.sub hs ?_
    clear hs
    unfold L33_live_j1 at h
    refine SP.cond v7 (by kernel_rfl) (fun hb8 => ?_) (fun hb8 => ?_)
    · replace h := of_bif_true hb8 h
      exact absurd (Option.some.inj h) (by decide)
    · replace h := of_bif_false hb8 h
      refine SP.skip ?_
      refine SP.join (fun s => ∃ (v9 : Bool), Sub s (L33_live_S2 v9) ∧ L33_live_j2 v9 = some true) ?_ ?_
      · clear h
        rintro s ⟨v9, hs, h⟩
        refine SP.sub hs ?_
        clear hs
        unfold L33_live_j2 at h
        refine SP.ret ?_
        rw [← Option.some.inj h]
        exact ⟨[.d (eB v9)], [], ⟨resV_tmp (by kernel_rfl), trivial⟩, by kernel_rfl, by kernel_rfl, by kernel_rfl⟩
      · intro K10
        obtain ⟨x11, hx11, h⟩ := of_bind h
        obtain ⟨x12, hx12, h⟩ := of_bind h
        refine SP.rgn <| .a 1 <| .p (ok_idxT (k := .i64) eApiPacket hx11 und25 ty58 (by kernel_rfl) rfl) <| .a 2 <| .p (ok_idxT (k := .i64) eApiEvent hx12 und56 ty43 (by kernel_rfl) rfl) <| .a 3 <| ?_
        rcases Bool.eq_false_or_eq_true (x12.Sender.toList == s__40bob_3ax.toList) with hb13 | hb13
        · replace h := of_bif_true hb13 h
          obtain ⟨x14, hx14, h⟩ := of_bind h
          refine .c (congrArg some hb13) <| .a 1 <| .p (ok_idxT (k := .i64) eApiPacket hx14 und25 ty58 (by kernel_rfl) rfl) <| .a 4 <| ?_
          rcases Bool.eq_false_or_eq_true (x14.From.toList == s_x.toList) with hb15 | hb15
          · replace h := of_bif_true hb15 h
            obtain ⟨x16, hx16, h⟩ := of_bind h
            refine .c (congrArg some hb15) <| .a 1 <| .p (ok_idxT (k := .i64) eApiPacket hx16 und25 ty58 (by kernel_rfl) rfl) <| .a 4 <| ?_
            rcases Bool.eq_false_or_eq_true (x16.To.toList == s_b.toList) with hb17 | hb17
            · replace h := of_bif_true hb17 h
              obtain ⟨x18, hx18, h⟩ := of_bind h
              obtain ⟨x19, hx19, h⟩ := of_bind h
              obtain ⟨x20, hx20, h⟩ := of_bind h
              refine .c (congrArg some hb17) <| .a 1 <| .p (ok_idxT (k := .i64) eApiPacket hx18 und25 ty58 (by kernel_rfl) rfl) <| .a 2 <| .p (ok_idxT (k := .i64) eApiEvent hx19 und56 ty43 (by kernel_rfl) rfl) <| .a 1 <| .call (event_Verify_ok x19 x20 hx20) ent13 <| .a 2 <| ?_
              rcases Bool.eq_false_or_eq_true (x20 == 0) with hb21 | hb21
              · replace h := of_bif_true hb21 h
                obtain ⟨x22, hx22, h⟩ := of_bind h
                obtain ⟨x23, hx23, h⟩ := of_bind h
                obtain ⟨x24, hx24, h⟩ := of_bind h
                refine .c (congrArg some hb21) <| .a 1 <| .p (ok_idxT (k := .i64) eApiPacket hx22 und25 ty58 (by kernel_rfl) rfl) <| .a 2 <| .p (ok_idxT (k := .i64) eApiEvent hx23 und56 ty43 (by kernel_rfl) rfl) <| .a 1 <| .call (event_Verify_ok x23 x24 hx24) ent13 <| .a 2 <| ?_
                rcases Bool.eq_false_or_eq_true (x24 == 12) with hb25 | hb25
                · replace h := of_bif_true hb25 h
                  obtain ⟨x26, hx26, h⟩ := of_bind h
                  obtain ⟨x27, hx27, h⟩ := of_bind h
                  obtain ⟨x28, hx28, h⟩ := of_bind h
                  refine .c (congrArg some hb25) <| .a 1 <| .p (ok_idxT (k := .i64) eApiPacket hx26 und25 ty58 (by kernel_rfl) rfl) <| .a 2 <| .p (ok_idxT (k := .i64) eApiEvent hx27 und56 ty43 (by kernel_rfl) rfl) <| .a 1 <| .call (event_Verify_ok x27 x28 hx28) ent13 <| .a 2 <| ?_
                  rcases Bool.eq_false_or_eq_true (x28 == 12) with hb29 | hb29
                  · replace h := of_bif_true hb29 h
                    obtain ⟨x30, hx30, h⟩ := of_bind h
                    refine .c (congrArg some hb29) <| .a 2 <| .call (evil_Right_ok ({ zApiServer with Name := s_x }) ({ zApiDeed with Kind := 7, To := s_b }) x30 hx30) ent5 <| .a 2 <| ?_
                    rcases Bool.eq_false_or_eq_true (x30 == 2) with hb31 | hb31
                    · replace h := of_bif_true hb31 h
                      obtain ⟨x32, hx32, h⟩ := of_bind h
                      refine .c (congrArg some hb31) <| .a 2 <| .call (evil_Right_ok ({ zApiServer with Name := s_x }) ({ zApiDeed with Kind := 1, To := s_x }) x32 hx32) ent5 <| .a 2 <| ?_
                      rcases Bool.eq_false_or_eq_true (x32 == 1) with hb33 | hb33
                      · replace h := of_bif_true hb33 h
                        obtain ⟨x34, hx34, h⟩ := of_bind h
                        obtain ⟨x35, hx35, h⟩ := of_bind h
                        refine .c (congrArg some hb33) <| .a 1 <| .p (ok_idxT (k := .i64) eApiPacket hx34 und25 ty58 (by kernel_rfl) rfl) <| .a 2 <| .call (evil_Signed_ok s_x x34.Events x35 hx35) ent14 <| .a 2 <| ?_
                        cases x35 with
                        | true =>
                          replace h := of_bif_true rfl h
                          obtain ⟨x37, hx37, h⟩ := of_bind h
                          obtain ⟨x38, hx38, h⟩ := of_bind h
                          refine .a 1 <| .p (ok_idxT (k := .i64) eApiPacket hx37 und25 ty58 (by kernel_rfl) rfl) <| .a 2 <| .call (evil_Signed_ok s_b x37.Events x38 hx38) ent14 <| .a 3 <| .nil ?_
                          exact K10 _ ⟨(!x38), sub_of (mk 158 1) [], h⟩
                        | false =>
                          replace h := of_bif_false rfl h
                          exact absurd (Option.some.inj (show some false = some true from h)) (by decide)
                      · replace h := of_bif_false hb33 h
                        exact absurd (Option.some.inj (show some false = some true from h)) (by decide)
                    · replace h := of_bif_false hb31 h
                      exact absurd (Option.some.inj (show some false = some true from h)) (by decide)
                  · replace h := of_bif_false hb29 h
                    exact absurd (Option.some.inj (show some false = some true from h)) (by decide)
                · replace h := of_bif_false hb25 h
                  exact absurd (Option.some.inj (show some false = some true from h)) (by decide)
              · replace h := of_bif_false hb21 h
                exact absurd (Option.some.inj (show some false = some true from h)) (by decide)
            · replace h := of_bif_false hb17 h
              exact absurd (Option.some.inj (show some false = some true from h)) (by decide)
          · replace h := of_bif_false hb15 h
            exact absurd (Option.some.inj (show some false = some true from h)) (by decide)
        · replace h := of_bif_false hb13 h
          exact absurd (Option.some.inj (show some false = some true from h)) (by decide)
  · intro K39
    refine SP.rgn <| .a 2 <| ?_
    rcases Bool.eq_false_or_eq_true (x2.2 != 0) with hb40 | hb40
    · replace h := of_bif_true hb40 h
      refine .c (congrArg some hb40) <| .a 46 <| .nil ?_
      exact K39 _ ⟨true, sub_of (mk 158 302231454903657293676630) [(0, true)], h⟩
    · replace h := of_bif_false hb40 h
      refine .c (congrArg some hb40) <| .a 3 <| ?_
      rcases Bool.eq_false_or_eq_true (x4.2 != 0) with hb41 | hb41
      · replace h := of_bif_true hb41 h
        refine .c (congrArg some hb41) <| .a 42 <| .nil ?_
        exact K39 _ ⟨true, sub_of (mk 158 302231454903657293676630) [(0, true)], h⟩
      · replace h := of_bif_false hb41 h
        refine .c (congrArg some hb41) <| .a 3 <| ?_
        rcases Bool.eq_false_or_eq_true (x6.2 != 0) with hb42 | hb42
        · replace h := of_bif_true hb42 h
          refine .c (congrArg some hb42) <| .a 38 <| .nil ?_
          exact K39 _ ⟨true, sub_of (mk 158 302231454903657293676630) [(0, true)], h⟩
        · replace h := of_bif_false hb42 h
          refine .c (congrArg some hb42) <| .a 1 <| .p (ok_lenT eApiPacket x2.1 und25 rfl) <| .a 2 <| ?_
          rcases Bool.eq_false_or_eq_true ((x2.1.length : Int) != 1) with hb43 | hb43
          · replace h := of_bif_true hb43 h
            refine .c (congrArg some hb43) <| .a 33 <| .nil ?_
            exact K39 _ ⟨true, sub_of (mk 158 302231454903657293676630) [(0, true)], h⟩
          · replace h := of_bif_false hb43 h
            refine .c (congrArg some hb43) <| .a 1 <| .p (ok_lenT eApiPacket x4.1 und25 rfl) <| .a 2 <| ?_
            rcases Bool.eq_false_or_eq_true ((x4.1.length : Int) != 1) with hb44 | hb44
            · replace h := of_bif_true hb44 h
              refine .c (congrArg some hb44) <| .a 28 <| .nil ?_
              exact K39 _ ⟨true, sub_of (mk 158 302231454903657293676630) [(0, true)], h⟩
            · replace h := of_bif_false hb44 h
              refine .c (congrArg some hb44) <| .a 1 <| .p (ok_lenT eApiPacket x6.1 und25 rfl) <| .a 2 <| ?_
              rcases Bool.eq_false_or_eq_true ((x6.1.length : Int) != 1) with hb45 | hb45
              · replace h := of_bif_true hb45 h
                refine .c (congrArg some hb45) <| .a 23 <| .nil ?_
                exact K39 _ ⟨true, sub_of (mk 158 302231454903657293676630) [(0, true)], h⟩
              · replace h := of_bif_false hb45 h
                obtain ⟨x46, hx46, h⟩ := of_bind h
                refine .c (congrArg some hb45) <| .a 1 <| .p (ok_idxT (k := .i64) eApiPacket hx46 und25 ty58 (by kernel_rfl) rfl) <| .a 2 <| .p (ok_lenT eApiEvent x46.Events und56 rfl) <| .a 2 <| ?_
                rcases Bool.eq_false_or_eq_true ((x46.Events.length : Int) != 1) with hb47 | hb47
                · replace h := of_bif_true hb47 h
                  refine .c (congrArg some hb47) <| .a 15 <| .nil ?_
                  exact K39 _ ⟨true, sub_of (mk 158 302231454903657293676630) [(0, true)], h⟩
                · replace h := of_bif_false hb47 h
                  obtain ⟨x48, hx48, h⟩ := of_bind h
                  refine .c (congrArg some hb47) <| .a 1 <| .p (ok_idxT (k := .i64) eApiPacket hx48 und25 ty58 (by kernel_rfl) rfl) <| .a 2 <| .p (ok_lenT eApiEvent x48.Events und56 rfl) <| .a 2 <| ?_
                  rcases Bool.eq_false_or_eq_true ((x48.Events.length : Int) != 1) with hb49 | hb49
                  · replace h := of_bif_true hb49 h
                    refine .c (congrArg some hb49) <| .a 7 <| .nil ?_
                    exact K39 _ ⟨true, sub_of (mk 158 302231454903657293676630) [(0, true)], h⟩
                  · replace h := of_bif_false hb49 h
                    obtain ⟨x50, hx50, h⟩ := of_bind h
                    refine .c (congrArg some hb49) <| .a 1 <| .p (ok_idxT (k := .i64) eApiPacket hx50 und25 ty58 (by kernel_rfl) rfl) <| .a 2 <| .p (ok_lenT eApiEvent x50.Events und56 rfl) <| .a 2 <| .nil ?_
                    exact K39 _ ⟨((x50.Events.length : Int) != 1), sub_of (mk 158 302231454903657293676630) [(0, true)], h⟩
theorem L33_live_val : L33_live = some true := by kernel_rfl
theorem L33_live_ok (r : Bool) (h : L33_live = some r) : Runs Try.prog 7 [] [] (.d (eB r)) [] := by
  obtain rfl := Option.some.inj (h.symm.trans L33_live_val)
  exact L33_live_is L33_live_val

-- fedchat/fedchatlaw33.EvilRights
def L33_EvilRights_S1 (v3 : Bool) : St := ⟨shp 18 [(4, .d (eB v3))], [], 0⟩
def L33_EvilRights_j1 (v3 : Bool) : Option Bool := some v3
def L33_EvilRights (p0_s : ApiServer) (p1_d : ApiDeed) : Option Bool := (L33_great p0_s p1_d).bind fun x1 => (bif x1 then some true else (evil_Right p0_s p1_d).bind fun x5 => (R33_Right p0_s p1_d).bind fun x6 => (bif (x5 == x6) then (L33_live).bind fun x8 => L33_EvilRights_j1 x8 else L33_EvilRights_j1 false))
theorem L33_EvilRights_ok (p0_s : ApiServer) (p1_d : ApiDeed) (r : Bool) (h : L33_EvilRights p0_s p1_d = some r) : Runs Try.prog 3 [.d (eApiServer p0_s), .d (eApiDeed p1_d)] [] (.d (eB r)) [] := by
  refine Runs.of_fin Try.func3 rfl ?_
  unfold L33_EvilRights at h
  refine SP.rg <| .a 3 <| .nil ?_
  refine SP.seqc ?_
  obtain ⟨x1, hx1, h⟩ := of_bind h
  refine SP.rg <| .a 2 <| .call (L33_great_ok p0_s p1_d x1 hx1) ent4 <| .nil ?_
  refine SP.cond x1 (by kernel_rfl) (fun hb2 => ?_) (fun hb2 => ?_)
  · replace h := of_bif_true hb2 h
    refine SP.rg <| .a 1 <| .nil ?_
    refine SP.ret ?_
    rw [← Option.some.inj h]
    exact ⟨[.d (eB true)], [], ⟨resV_tmp (by kernel_rfl), trivial⟩, by kernel_rfl, by kernel_rfl, by kernel_rfl⟩
  · replace h := of_bif_false hb2 h
    refine SP.skip ?_
    refine SP.join (fun s => ∃ (v3 : Bool), Sub s (L33_EvilRights_S1 v3) ∧ L33_EvilRights_j1 v3 = some r) ?_ ?_
    · clear h
      rintro s ⟨v3, hs, h⟩
      refine SP.sub hs ?_
      clear hs
      unfold L33_EvilRights_j1 at h
      refine SP.ret ?_
      rw [← Option.some.inj h]
      exact ⟨[.d (eB v3)], [], ⟨resV_tmp (by kernel_rfl), trivial⟩, by kernel_rfl, by kernel_rfl, by kernel_rfl⟩
    · intro K4
      obtain ⟨x5, hx5, h⟩ := of_bind h
      obtain ⟨x6, hx6, h⟩ := of_bind h
      rcases Bool.eq_false_or_eq_true (x5 == x6) with hb7 | hb7
      · replace h := of_bif_true hb7 h
        obtain ⟨x8, hx8, h⟩ := of_bind h
        refine SP.draw (by kernel_rfl) (by kernel_rfl) (by kernel_rfl) (.a 2 <| .call (evil_Right_ok p0_s p1_d x5 hx5) ent5 <| .a 2 <| .call (R33_Right_ok p0_s p1_d x6 hx6) ent6 <| .a 1 <| .c (congrArg some hb7) <| .call (L33_live_ok  x8 hx8) ent7 <| .a 2 <| .nil _) ?_
        exact K4 _ ⟨x8, sub_of (mk 18 16) [], h⟩
      · replace h := of_bif_false hb7 h
        refine SP.draw (by kernel_rfl) (by kernel_rfl) (by kernel_rfl) (.a 2 <| .call (evil_Right_ok p0_s p1_d x5 hx5) ent5 <| .a 2 <| .call (R33_Right_ok p0_s p1_d x6 hx6) ent6 <| .a 1 <| .c (congrArg some hb7) <| .a 3 <| .nil _) ?_
        exact K4 _ ⟨false, sub_of (mk 18 16) [], h⟩
end Go.Proofs.Ytmegkokogomfnaa
