/- Part 5 of what the laws' proofs lean on: states of the walk, typed functions of the program and their laws (short forms written by wip/shrink.py; no condition). -/
import Derived.Test.YtolgdkhlelfpoaaGreatRc4
set_option linter.unusedVariables false
set_option linter.unusedSimpArgs false
section
namespace Go.Proofs.YtolgdkhlelfpoaaGreat
open Go.RowKit
set_option maxRecDepth 20000
set_option maxHeartbeats 4000000
def aeH (aH : (List aA)) (aJ : (List aA)) (v2 : Int) : St := ⟨bT 54 [(0, .d ((eL au) aH)), (1, .d ((eL au) aJ)), (5, .d (eI v2))], [], 0⟩
def aeI (aH : (List aA)) (aJ : (List aA)) (v2 : Int) (v5 : Bool) : St := ⟨bT 54 [(0, .d ((eL au) aH)), (1, .d ((eL au) aJ)), (5, .d (eI v2)), (53, .d (eB v5))], [], 0⟩
def yw (k3 : (Int → Option Bool)) (v2 : Int) (v5 : Bool) : Option Bool := (bif v5 then some false else k3 (IntKind.i64.wrap (v2 + 1)))
def J5 (aH : (List aA)) (aJ : (List aA)) (k3 : (Int → Option Bool)) : Int → Option Bool := fun v2 => (bif decide (v2 < (aH.length : Int)) then (aX aH v2).bind fun x8 => (aX aJ v2).bind fun x9 => (bif (x8.Kind != x9.Kind) then yw k3 v2 true else (aX aH v2).bind fun x11 => (aX aJ v2).bind fun x12 => (bif (!(x11.Key.toList == x12.Key.toList)) then yw k3 v2 true else (aX aH v2).bind fun x14 => (aX aJ v2).bind fun x15 => yw k3 v2 (x14.Id != x15.Id))) else some true)
def TU (aH : (List aA)) (aJ : (List aA)) : Int → Option Bool := bV (J5 aH aJ) fuel
def Nz (aH : (List aA)) (aJ : (List aA)) : Option Bool := (bif ((aH.length : Int) != (aJ.length : Int)) then some false else TU aH aJ 0)
theorem aeJ (aH aJ r) (h : Nz aH aJ = some r) : Runs Tryz.prog 37 [.d ((eL au) aH), .d ((eL au) aJ)] [] (.d (eB r)) [] := Runs.aK Tryz.func37 rfl <| SP.rg <| .aM 1 <| SP.aC <| SP.rg <| .a 1 <| .p (aI au aH jL rfl) <| .a 1 <| .p (aI au aJ jL rfl) <| .aM 1 <| SP.cnd h (fun h => SP.rg <| .aM 1 <| by cases h; exact .ret (aG [])) fun h => SP.skip <| SP.aC <| SP.rg <| .aM 1 <| SP.block <| SP.bV (aeH aH aJ) _ _ _ (ay (mk 54 35) []) h <| fun J16 k3 hk3 v2 h => SP.aC <| SP.rg <| .a 2 <| .p (aI au aH jL rfl) <| .aM 1 <| SP.cnd h (fun h => SP.skip <| SP.aC <| SP.block <| SP.join (fun s => ∃ (v5 : Bool), Sub s (aeI aH aJ v2 v5) ∧ yw k3 v2 v5 = some r) (by rintro s ⟨v5, hs, h⟩; exact SP.sub hs <| SP.cnd h (fun h => SP.rg <| .aM 1 <| by cases h; exact .ret (aG [])) fun h => SP.skip <| SP.bn <| .a 3 <| .nil <| hk3 _ _ (ay (mk 54 35) []) h) <| fun K7 => fE h fun x8 iL x9 fU h => dQ h (fun jT h => SP.draw (by kernel_rfl) (by kernel_rfl) (by kernel_rfl) (.a 2 <| .p (aQ au iL jL oH rfl) <| .a 4 <| .p (aQ au fU jL oH rfl) <| .a 3 <| .c (congrArg some jT) <| .a 25 <| .nil _) <| K7 _ ⟨true, ay (mk 54 9007199254741027) [], h⟩) fun jT h => fE h fun x11 fD x12 iK h => dQ h (fun lq h => SP.draw (by kernel_rfl) (by kernel_rfl) (by kernel_rfl) (.a 2 <| .p (aQ au iL jL oH rfl) <| .a 4 <| .p (aQ au fU jL oH rfl) <| .a 3 <| .c (congrArg some jT) <| .a 2 <| .p (aQ au fD jL oH rfl) <| .a 4 <| .p (aQ au iK jL oH rfl) <| .a 4 <| .c (congrArg some lq) <| .a 12 <| .nil _) <| K7 _ ⟨true, ay (mk 54 9007199254741027) [], h⟩) fun lq h => fE h fun x14 je x15 jC h => SP.draw (by kernel_rfl) (by kernel_rfl) (by kernel_rfl) (.a 2 <| .p (aQ au iL jL oH rfl) <| .a 4 <| .p (aQ au fU jL oH rfl) <| .a 3 <| .c (congrArg some jT) <| .a 2 <| .p (aQ au fD jL oH rfl) <| .a 4 <| .p (aQ au iK jL oH rfl) <| .a 4 <| .c (congrArg some lq) <| .a 2 <| .p (aQ au je jL oH rfl) <| .a 4 <| .p (aQ au jC jL oH rfl) <| .a 4 <| .nil _) <| K7 _ ⟨(x14.Id != x15.Id), ay (mk 54 9007199254741027) [], h⟩) fun h => SP.exit <| SP.rg <| .aM 1 <| by cases h; exact .ret (aG [])
def aeK (aH : (List Int)) (aJ : (List Int)) (v2 : Int) : St := ⟨bT 26 [(0, .d ((eL eI) aH)), (1, .d ((eL eI) aJ)), (5, .d (eI v2))], [], 0⟩
def Ko (aH : (List Int)) (aJ : (List Int)) (k3 : (Int → Option Bool)) : Int → Option Bool := fun v2 => (bif decide (v2 < (aH.length : Int)) then (aX aH v2).bind fun x5 => (aX aJ v2).bind fun x6 => (bif (x5 != x6) then some false else k3 (IntKind.i64.wrap (v2 + 1))) else some true)
def TV (aH : (List Int)) (aJ : (List Int)) : Int → Option Bool := bV (Ko aH aJ) fuel
def wI (aH : (List Int)) (aJ : (List Int)) : Option Bool := (bif ((aH.length : Int) != (aJ.length : Int)) then some false else TV aH aJ 0)
theorem uo (aH aJ r) (h : wI aH aJ = some r) : Runs Tryz.prog 17 [.d ((eL eI) aH), .d ((eL eI) aJ)] [] (.d (eB r)) [] := Runs.aK Tryz.func17 rfl <| SP.rg <| .aM 1 <| SP.aC <| SP.rg <| .a 1 <| .p (aI eI aH dB rfl) <| .a 1 <| .p (aI eI aJ dB rfl) <| .aM 1 <| SP.cnd h (fun h => SP.rg <| .aM 1 <| by cases h; exact .ret (aG [])) fun h => SP.skip <| SP.aC <| SP.rg <| .aM 1 <| SP.block <| SP.bV (aeK aH aJ) _ _ _ (ay (mk 26 35) []) h <| fun J8 k3 hk3 v2 h => SP.aC <| SP.rg <| .a 2 <| .p (aI eI aH dB rfl) <| .aM 1 <| SP.cnd h (fun h => SP.skip <| SP.aC <| SP.block <| fE h fun x5 hx5 x6 hx6 h => SP.kQ (by kernel_rfl) (by kernel_rfl) (by kernel_rfl) (.a 2 <| .p (aQ eI hx5 dB gU rfl) <| .a 3 <| .p (aQ eI hx6 dB gU rfl) <| .a 2 <| .nil _) <| SP.cnd h (fun h => SP.rg <| .aM 1 <| by cases h; exact .ret (aG [])) fun h => SP.skip <| SP.bn <| .a 3 <| .nil <| hk3 _ _ (ay (mk 26 35) []) h) fun h => SP.exit <| SP.rg <| .aM 1 <| by cases h; exact .ret (aG [])
def NC (aH : aj) (aJ : aj) : Option Bool := (bif (aH.Id == aJ.Id) then some (aH.Room.toList == aJ.Room.toList) else some false).bind fun x1 => (bif x1 then some (aH.fH.toList == aJ.fH.toList) else some false).bind fun x3 => (bif x3 then some (aH.Kind == aJ.Kind) else some false).bind fun x5 => (bif x5 then some (aH.State == aJ.State) else some false).bind fun x7 => (bif x7 then some (aH.Key.toList == aJ.Key.toList) else some false).bind fun x9 => (bif x9 then some (aH.Time == aJ.Time) else some false).bind fun x11 => (bif x11 then some (aH.Depth == aJ.Depth) else some false).bind fun eY => (bif eY then (wI aH.iD aJ.iD).bind fun x17 => some x17 else some false).bind fun x15 => (bif x15 then (wI aH.iw aJ.iw).bind fun ku => some ku else some false).bind fun x18 => (bif x18 then (Ny aH.Content aJ.Content).bind fun x23 => some x23 else some false).bind fun x21 => (bif x21 then some (aH.Hash == aJ.Hash) else some false).bind fun x24 => (bif x24 then some (aH.tq.Server.toList == aJ.tq.Server.toList) else some false).bind fun mD => (bif mD then some (aH.tq.Sum == aJ.tq.Sum) else some false).bind fun x28 => some x28
theorem aeL (aH aJ r) (h : NC aH aJ = some r) : Runs Tryz.prog 50 [.d (ah aH), .d (ah aJ)] [] (.d (eB r)) [] := Runs.aK Tryz.func50 rfl <| SP.rg <| .aM 3 <| SP.rg <| .a 5 <| bnd h fun x1 hx1 h => .merge 7 [10, 11, 12, 13, 14, 15] 16 (.d (eB x1)) (dQ hx1 (fun hb2 h => .c (congrArg some hb2) <| .aM 6 <| by cases h; kernel_rfl) fun hb2 h => .c (congrArg some hb2) <| .aM 6 <| by cases h; kernel_rfl) <| .a 1 <| bnd h fun x3 hx3 h => .merge 6 [18, 19, 20, 21, 22] 23 (.d (eB x3)) (have h := hx3; by cases x1 with | true => exact (have h := aO rfl h; .aM 6 <| by cases h; kernel_rfl) | false => exact (have h := aN rfl h; .aM 6 <| by cases h; kernel_rfl)) <| .a 1 <| bnd h fun x5 hx5 h => .merge 6 [25, 26, 27, 28, 29] 30 (.d (eB x5)) (have h := hx5; by cases x3 with | true => exact (have h := aO rfl h; .aM 6 <| by cases h; kernel_rfl) | false => exact (have h := aN rfl h; .aM 6 <| by cases h; kernel_rfl)) <| .a 1 <| bnd h fun x7 hx7 h => .merge 6 [32, 33, 34, 35, 36] 37 (.d (eB x7)) (have h := hx7; by cases x5 with | true => exact (have h := aO rfl h; .aM 6 <| by cases h; kernel_rfl) | false => exact (have h := aN rfl h; .aM 6 <| by cases h; kernel_rfl)) <| .a 1 <| bnd h fun x9 fU h => .merge 6 [39, 40, 41, 42, 43] 44 (.d (eB x9)) (have h := fU; by cases x7 with | true => exact (have h := aO rfl h; .aM 6 <| by cases h; kernel_rfl) | false => exact (have h := aN rfl h; .aM 6 <| by cases h; kernel_rfl)) <| .a 1 <| bnd h fun x11 fD h => .merge 6 [46, 47, 48, 49, 50] 51 (.d (eB x11)) (have h := fD; by cases x9 with | true => exact (have h := aO rfl h; .aM 6 <| by cases h; kernel_rfl) | false => exact (have h := aN rfl h; .aM 6 <| by cases h; kernel_rfl)) <| .a 1 <| bnd h fun eY jA h => .merge 6 [53, 54, 55, 56, 57] 58 (.d (eB eY)) (have h := jA; by cases x11 with | true => exact (have h := aO rfl h; .aM 6 <| by cases h; kernel_rfl) | false => exact (have h := aN rfl h; .aM 6 <| by cases h; kernel_rfl)) <| .a 1 <| bnd h fun x15 jC h => .merge 6 [60, 61, 62, 63, 64] 65 (.d (eB x15)) (have h := jC; by cases eY with | true => exact (have h := aO rfl h; bnd h fun x17 sF h => .a 4 <| .call (uo aH.iD aJ.iD x17 sF) QG <| .aM 1 <| by cases h; kernel_rfl) | false => exact (have h := aN rfl h; .aM 6 <| by cases h; kernel_rfl)) <| .a 1 <| bnd h fun x18 nS h => .merge 6 [67, 68, 69, 70, 71] 72 (.d (eB x18)) (have h := nS; by cases x15 with | true => exact (have h := aO rfl h; bnd h fun ku qc h => .a 4 <| .call (uo aH.iw aJ.iw ku qc) QG <| .aM 1 <| by cases h; kernel_rfl) | false => exact (have h := aN rfl h; .aM 6 <| by cases h; kernel_rfl)) <| .a 1 <| bnd h fun x21 qE h => .merge 6 [74, 75, 76, 77, 78] 79 (.d (eB x21)) (have h := qE; by cases x18 with | true => exact (have h := aO rfl h; bnd h fun x23 JD h => .a 4 <| .call (aeG aH.Content aJ.Content x23 JD) aoz <| .aM 1 <| by cases h; kernel_rfl) | false => exact (have h := aN rfl h; .aM 6 <| by cases h; kernel_rfl)) <| .a 1 <| bnd h fun x24 hx24 h => .merge 6 [81, 82, 83, 84, 85] 86 (.d (eB x24)) (have h := hx24; by cases x21 with | true => exact (have h := aO rfl h; .aM 6 <| by cases h; kernel_rfl) | false => exact (have h := aN rfl h; .aM 6 <| by cases h; kernel_rfl)) <| .a 1 <| bnd h fun mD wB h => .merge 8 [88, 89, 90, 91, 92, 93, 94] 95 (.d (eB mD)) (have h := wB; by cases x24 with | true => exact (have h := aO rfl h; .aM 8 <| by cases h; kernel_rfl) | false => exact (have h := aN rfl h; .aM 8 <| by cases h; kernel_rfl)) <| .a 1 <| bnd h fun x28 hx28 h => .merge 8 [97, 98, 99, 100, 101, 102, 103] 104 (.d (eB x28)) (have h := hx28; by cases mD with | true => exact (have h := aO rfl h; .aM 8 <| by cases h; kernel_rfl) | false => exact (have h := aN rfl h; .aM 8 <| by cases h; kernel_rfl)) <| .aM 1 <| by cases h; exact .ret (aG [])
def aeM (aB : aj) (v23 : Int) : St := ⟨bT 125 [(3, .ptr 0 0), (4, .d (eI v23))], [.box (dc (bP aB.Content))], 0⟩
def aeN (aB : aj) (v28 : Int) : St := ⟨bT 125 [(3, .ptr 0 0), (5, .d (eI v28))], [.box (dc (bP aB.Content))], 0⟩
def aeO (aB : aj) (v33 : Int) : St := ⟨bT 125 [(3, .ptr 0 0), (6, .d (eI v33))], [.box (dc (bP aB.Content))], 0⟩
def Kq (aB : aj) (k34 : (Int → Option Bool)) : Int → Option Bool := fun v33 => (bif decide (v33 < (aB.Content.Levels.Users.length : Int)) then (aX aB.Content.Levels.Users v33).bind fun DX => (bif decide ((DX.User.size : Int) > 2000) then some true else k34 (IntKind.i64.wrap (v33 + 1))) else some false)
def Kr (aB : aj) : Int → Option Bool := bV (Kq aB) fuel
def Kt (aB : aj) (k29 : (Int → Option Bool)) : Int → Option Bool := fun v28 => (bif decide (v28 < (aB.Content.kD.length : Int)) then (aX aB.Content.kD v28).bind fun x31 => (bif decide ((x31.size : Int) > 2000) then some true else k29 (IntKind.i64.wrap (v28 + 1))) else Kr aB 0)
def Ku (aB : aj) : Int → Option Bool := bV (Kt aB) fuel
def Kv (aB : aj) (k24 : (Int → Option Bool)) : Int → Option Bool := fun v23 => (bif decide (v23 < (aB.Content.Allow.length : Int)) then (aX aB.Content.Allow v23).bind fun mD => (bif decide ((mD.size : Int) > 2000) then some true else k24 (IntKind.i64.wrap (v23 + 1))) else Ku aB 0)
def TW (aB : aj) : Int → Option Bool := bV (Kv aB) fuel
def ND (aB : aj) : Option Bool := (bif decide ((aB.iD.length : Int) > 40) then some true else some (decide ((aB.iw.length : Int) > 40))).bind fun x1 => (bif x1 then some true else some (decide ((aB.Content.Allow.length : Int) > 40))).bind fun x3 => (bif x3 then some true else some (decide ((aB.Content.kD.length : Int) > 40))).bind fun x5 => (bif x5 then some true else some (decide ((aB.Content.Levels.Users.length : Int) > 40))).bind fun x7 => (bif x7 then some true else some (decide ((aB.Content.Levels.Kinds.length : Int) > 40))).bind fun x9 => (bif x9 then some true else (bif decide ((aB.Room.size : Int) > 2000) then some true else some (decide ((aB.fH.size : Int) > 2000))).bind fun x12 => (bif x12 then some true else some (decide ((aB.Key.size : Int) > 2000))).bind fun x14 => (bif x14 then some true else some (decide ((aB.Content.Text.size : Int) > 2000))).bind fun x16 => (bif x16 then some true else some (decide ((aB.Content.Via.size : Int) > 2000))).bind fun x18 => (bif x18 then some true else some (decide ((aB.tq.Server.size : Int) > 2000))).bind fun ku => (bif ku then some true else TW aB 0))
theorem aeP (aB r) (h : ND aB = some r) : Runs Tryz.prog 100 [.d (ah aB)] [] (.d (eB r)) [] := Runs.aK Tryz.func100 rfl <| SP.rg <| .aM 2 <| SP.rg <| .aM 4 <| SP.aC <| SP.rg <| .a 2 <| .p (aI eI aB.iD dB rfl) <| .a 1 <| bnd h fun x1 hx1 h => .merge 6 [13, 14, 15, 16, 17] 18 (.d (eB x1)) (dQ hx1 (fun hb2 h => .c (congrArg some hb2) <| .aM 5 <| by cases h; kernel_rfl) fun hb2 h => .c (congrArg some hb2) <| .a 2 <| .p (aI eI aB.iw dB rfl) <| .aM 2 <| by cases h; kernel_rfl) <| .a 1 <| bnd h fun x3 hx3 h => .merge 5 [20, 21, 22, 23] 24 (.d (eB x3)) (have h := hx3; by cases x1 with | true => exact (have h := aO rfl h; .aM 5 <| by cases h; kernel_rfl) | false => exact (have h := aN rfl h; .a 2 <| .p (aI eS aB.Content.Allow jF rfl) <| .aM 2 <| by cases h; kernel_rfl)) <| .a 1 <| bnd h fun x5 hx5 h => .merge 5 [26, 27, 28, 29] 30 (.d (eB x5)) (have h := hx5; by cases x3 with | true => exact (have h := aO rfl h; .aM 5 <| by cases h; kernel_rfl) | false => exact (have h := aN rfl h; .a 2 <| .p (aI eS aB.Content.kD jF rfl) <| .aM 2 <| by cases h; kernel_rfl)) <| .a 1 <| bnd h fun x7 hx7 h => .merge 6 [32, 33, 34, 35, 36] 37 (.d (eB x7)) (have h := hx7; by cases x5 with | true => exact (have h := aO rfl h; .aM 6 <| by cases h; kernel_rfl) | false => exact (have h := aN rfl h; .a 3 <| .p (aI bW aB.Content.Levels.Users jQ rfl) <| .aM 2 <| by cases h; kernel_rfl)) <| .a 1 <| bnd h fun x9 fU h => .merge 6 [39, 40, 41, 42, 43] 44 (.d (eB x9)) (have h := fU; by cases x7 with | true => exact (have h := aO rfl h; .aM 6 <| by cases h; kernel_rfl) | false => exact (have h := aN rfl h; .a 3 <| .p (aI aW aB.Content.Levels.Kinds kG rfl) <| .aM 2 <| by cases h; kernel_rfl)) <| .bg <| SP.cnd h (fun h => SP.rg <| .aM 1 <| by cases h; exact .ret (aG [])) fun h => SP.skip <| SP.aC <| SP.rg <| .a 4 <| bnd h fun x12 iK h => .merge 6 [49, 50, 51, 52, 53] 54 (.d (eB x12)) (dQ iK (fun lq h => .c (congrArg some lq) <| .aM 5 <| by cases h; kernel_rfl) fun lq h => .c (congrArg some lq) <| .aM 5 <| by cases h; kernel_rfl) <| .a 1 <| bnd h fun x14 je h => .merge 5 [56, 57, 58, 59] 60 (.d (eB x14)) (have h := je; by cases x12 with | true => exact (have h := aO rfl h; .aM 5 <| by cases h; kernel_rfl) | false => exact (have h := aN rfl h; .aM 5 <| by cases h; kernel_rfl)) <| .a 1 <| bnd h fun x16 hx16 h => .merge 5 [62, 63, 64, 65] 66 (.d (eB x16)) (have h := hx16; by cases x14 with | true => exact (have h := aO rfl h; .aM 5 <| by cases h; kernel_rfl) | false => exact (have h := aN rfl h; .aM 5 <| by cases h; kernel_rfl)) <| .a 1 <| bnd h fun x18 nS h => .merge 5 [68, 69, 70, 71] 72 (.d (eB x18)) (have h := nS; by cases x16 with | true => exact (have h := aO rfl h; .aM 5 <| by cases h; kernel_rfl) | false => exact (have h := aN rfl h; .aM 5 <| by cases h; kernel_rfl)) <| .a 1 <| bnd h fun ku qc h => .merge 6 [74, 75, 76, 77, 78] 79 (.d (eB ku)) (have h := qc; by cases x18 with | true => exact (have h := aO rfl h; .aM 6 <| by cases h; kernel_rfl) | false => exact (have h := aN rfl h; .aM 6 <| by cases h; kernel_rfl)) <| .bg <| SP.cnd h (fun h => SP.rg <| .aM 1 <| by cases h; exact .ret (aG [])) fun h => SP.skip <| SP.aC <| SP.rg <| .aM 1 <| SP.block <| SP.bV (aeM aB) _ _ _ (ay (mk 125 24) [(1, true)]) h <| fun J40 k24 ajk v23 h => SP.aC <| SP.rg <| .a 3 <| .p (aI eS aB.Content.Allow jF rfl) <| .aM 1 <| SP.cnd h (fun h => SP.skip <| SP.aC <| SP.block <| bnd h fun mD wB h => SP.rg <| .a 3 <| .p (aQ eS wB jF xY rfl) <| .aM 3 <| SP.cnd h (fun h => SP.rg <| .aM 1 <| by cases h; exact .ret (aG [])) fun h => SP.skip <| SP.bn <| .a 3 <| .nil <| ajk _ _ (ay (mk 125 24) [(0, true)]) h) fun h => SP.exit <| SP.aC <| SP.rg <| .aM 1 <| SP.block <| SP.bV (aeN aB) _ _ _ (ay (mk 125 40) [(0, true)]) h <| fun J39 k29 Vj v28 h => SP.aC <| SP.rg <| .a 3 <| .p (aI eS aB.Content.kD jF rfl) <| .aM 1 <| SP.cnd h (fun h => SP.skip <| SP.aC <| SP.block <| bnd h fun x31 hx31 h => SP.rg <| .a 3 <| .p (aQ eS hx31 jF xY rfl) <| .aM 3 <| SP.cnd h (fun h => SP.rg <| .aM 1 <| by cases h; exact .ret (aG [])) fun h => SP.skip <| SP.bn <| .a 3 <| .nil <| Vj _ _ (ay (mk 125 40) [(0, true)]) h) fun h => SP.exit <| SP.aC <| SP.rg <| .aM 1 <| SP.block <| SP.bV (aeO aB) _ _ _ (ay (mk 125 72) [(0, true)]) h <| fun J38 k34 ajg v33 h => SP.aC <| SP.rg <| .a 4 <| .p (aI bW aB.Content.Levels.Users jQ rfl) <| .aM 1 <| SP.cnd h (fun h => SP.skip <| SP.aC <| SP.block <| bnd h fun DX Vs h => SP.rg <| .a 4 <| .p (aQ bW Vs jQ rX rfl) <| .aM 4 <| SP.cnd h (fun h => SP.rg <| .aM 1 <| by cases h; exact .ret (aG [])) fun h => SP.skip <| SP.bn <| .a 3 <| .nil <| ajg _ _ (ay (mk 125 72) [(0, true)]) h) fun h => SP.exit <| SP.rg <| .aM 1 <| by cases h; exact .ret (aG [])
def adP (ak : (List aj)) (v2 : Int) : St := ⟨bT 21 [(0, .d ((eL ah) ak)), (5, .d (eI v2))], [], 0⟩
def H7 (ak : (List aj)) (k3 : (Int → Option Bool)) : Int → Option Bool := fun v2 => (bif decide (v2 < (ak.length : Int)) then (aX ak v2).bind fun x5 => (ND x5).bind fun x6 => (bif x6 then some true else k3 (IntKind.i64.wrap (v2 + 1))) else some false)
def Qc (ak : (List aj)) : Int → Option Bool := bV (H7 ak) fuel
def D5 (ak : (List aj)) (jM : Int) : Option Bool := (bif decide ((ak.length : Int) > jM) then some true else Qc ak 0)
theorem Qd (ak jM r) (h : D5 ak jM = some r) : Runs Tryz.prog 54 [.d ((eL ah) ak), .d (eI jM)] [] (.d (eB r)) [] := Runs.aK Tryz.func54 rfl <| SP.rg <| .aM 1 <| SP.aC <| SP.rg <| .a 1 <| .p (aI ah ak fF rfl) <| .aM 2 <| SP.cnd h (fun h => SP.rg <| .aM 1 <| by cases h; exact .ret (aG [])) fun h => SP.skip <| SP.aC <| SP.rg <| .aM 1 <| SP.block <| SP.bV (adP ak) _ _ _ (ay (mk 21 33) []) h <| fun J8 k3 hk3 v2 h => SP.aC <| SP.rg <| .a 2 <| .p (aI ah ak fF rfl) <| .aM 1 <| SP.cnd h (fun h => SP.skip <| SP.aC <| SP.block <| fE h fun x5 hx5 x6 hx6 h => SP.rg <| .a 2 <| .p (aQ ah hx5 fF iT rfl) <| .a 1 <| .call (aeP x5 x6 hx6) anI <| .bg <| SP.cnd h (fun h => SP.rg <| .aM 1 <| by cases h; exact .ret (aG [])) fun h => SP.skip <| SP.bn <| .a 3 <| .nil <| hk3 _ _ (ay (mk 21 33) []) h) fun h => SP.exit <| SP.rg <| .aM 1 <| by cases h; exact .ret (aG [])
def adQ (aV : bF) (v18 : Int) : St := ⟨bT 100 [(2, .ptr 0 0), (5, .d (eI v18))], [.box (dc (bG aV))], 0⟩
def adR (aV : bF) (v23 : Int) : St := ⟨bT 100 [(2, .ptr 0 0), (6, .d (eI v23))], [.box (dc (bG aV))], 0⟩
def adS (aV : bF) (v28 : Int) : St := ⟨bT 100 [(2, .ptr 0 0), (7, .d (eI v28))], [.box (dc (bG aV))], 0⟩
def H8 (aV : bF) (k29 : (Int → Option Bool)) : Int → Option Bool := fun v28 => (bif decide (v28 < (aV.kR.length : Int)) then (aX aV.kR v28).bind fun x31 => (bif decide ((x31.User.size : Int) > 2000) then some true else k29 (IntKind.i64.wrap (v28 + 1))) else some false)
def H9 (aV : bF) : Int → Option Bool := bV (H8 aV) fuel
def Ia (aV : bF) (k24 : (Int → Option Bool)) : Int → Option Bool := fun v23 => (bif decide (v23 < (aV.jo.length : Int)) then (aX aV.jo v23).bind fun mD => (bif decide ((mD.User.size : Int) > 2000) then some true else k24 (IntKind.i64.wrap (v23 + 1))) else H9 aV 0)
def Ib (aV : bF) : Int → Option Bool := bV (Ia aV) fuel
def Ic (aV : bF) (k19 : (Int → Option Bool)) : Int → Option Bool := fun v18 => (bif decide (v18 < (aV.State.length : Int)) then (aX aV.State v18).bind fun x21 => (bif decide ((x21.Key.size : Int) > 2000) then some true else k19 (IntKind.i64.wrap (v18 + 1))) else Ib aV 0)
def Qe (aV : bF) : Int → Option Bool := bV (Ic aV) fuel
def Jj (aV : bF) (jM : Int) : Option Bool := (D5 aV.Events jM).bind fun x1 => (bif x1 then some true else (D5 aV.Waiting jM).bind fun x4 => some x4).bind fun x2 => (bif x2 then some true else some (decide ((aV.Rows.length : Int) > jM))).bind fun x5 => (bif x5 then some true else some (decide ((aV.yD.length : Int) > 40))).bind fun x7 => (bif x7 then some true else some (decide ((aV.State.length : Int) > 60))).bind fun x9 => (bif x9 then some true else some (decide ((aV.jo.length : Int) > 40))).bind fun x11 => (bif x11 then some true else some (decide ((aV.kR.length : Int) > 40))).bind fun eY => (bif eY then some true else some (decide ((aV.Id.size : Int) > 2000))).bind fun x15 => (bif x15 then some true else Qe aV 0)
theorem adT (aV jM r) (h : Jj aV jM = some r) : Runs Tryz.prog 14 [.d (bG aV), .d (eI jM)] [] (.d (eB r)) [] := Runs.aK Tryz.func14 rfl <| SP.rg <| .aM 2 <| SP.aC <| bnd h fun x1 hx1 h => SP.rg <| .a 3 <| .call (Qd aV.Events jM x1 hx1) ajX <| .a 1 <| bnd h fun x2 hx2 h => .merge 5 [13, 14, 15, 16] 17 (.d (eB x2)) (have h := hx2; by cases x1 with | true => exact (have h := aO rfl h; .aM 5 <| by cases h; kernel_rfl) | false => exact (have h := aN rfl h; bnd h fun x4 hx4 h => .a 3 <| .call (Qd aV.Waiting jM x4 hx4) ajX <| .aM 1 <| by cases h; kernel_rfl)) <| .a 1 <| bnd h fun x5 hx5 h => .merge 6 [19, 20, 21, 22, 23] 24 (.d (eB x5)) (have h := hx5; by cases x2 with | true => exact (have h := aO rfl h; .aM 6 <| by cases h; kernel_rfl) | false => exact (have h := aN rfl h; .a 2 <| .p (aI dP aV.Rows nX rfl) <| .aM 3 <| by cases h; kernel_rfl)) <| .a 1 <| bnd h fun x7 hx7 h => .merge 5 [26, 27, 28, 29] 30 (.d (eB x7)) (have h := hx7; by cases x5 with | true => exact (have h := aO rfl h; .aM 5 <| by cases h; kernel_rfl) | false => exact (have h := aN rfl h; .a 2 <| .p (aI eI aV.yD dB rfl) <| .aM 2 <| by cases h; kernel_rfl)) <| .a 1 <| bnd h fun x9 fU h => .merge 5 [32, 33, 34, 35] 36 (.d (eB x9)) (have h := fU; by cases x7 with | true => exact (have h := aO rfl h; .aM 5 <| by cases h; kernel_rfl) | false => exact (have h := aN rfl h; .a 2 <| .p (aI au aV.State jL rfl) <| .aM 2 <| by cases h; kernel_rfl)) <| .a 1 <| bnd h fun x11 fD h => .merge 5 [38, 39, 40, 41] 42 (.d (eB x11)) (have h := fD; by cases x9 with | true => exact (have h := aO rfl h; .aM 5 <| by cases h; kernel_rfl) | false => exact (have h := aN rfl h; .a 2 <| .p (aI lS aV.jo IY rfl) <| .aM 2 <| by cases h; kernel_rfl)) <| .a 1 <| bnd h fun eY jA h => .merge 5 [44, 45, 46, 47] 48 (.d (eB eY)) (have h := jA; by cases x11 with | true => exact (have h := aO rfl h; .aM 5 <| by cases h; kernel_rfl) | false => exact (have h := aN rfl h; .a 2 <| .p (aI nI aV.kR IZ rfl) <| .aM 2 <| by cases h; kernel_rfl)) <| .a 1 <| bnd h fun x15 jC h => .merge 5 [50, 51, 52, 53] 54 (.d (eB x15)) (have h := jC; by cases eY with | true => exact (have h := aO rfl h; .aM 5 <| by cases h; kernel_rfl) | false => exact (have h := aN rfl h; .aM 5 <| by cases h; kernel_rfl)) <| .bg <| SP.cnd h (fun h => SP.rg <| .aM 1 <| by cases h; exact .ret (aG [])) fun h => SP.skip <| SP.aC <| SP.rg <| .aM 1 <| SP.block <| SP.bV (adQ aV) _ _ _ (ay (mk 100 36) [(0, true)]) h <| fun J35 k19 UF v18 h => SP.aC <| SP.rg <| .a 3 <| .p (aI au aV.State jL rfl) <| .aM 1 <| SP.cnd h (fun h => SP.skip <| SP.aC <| SP.block <| bnd h fun x21 qE h => SP.rg <| .a 3 <| .p (aQ au qE jL oH rfl) <| .aM 4 <| SP.cnd h (fun h => SP.rg <| .aM 1 <| by cases h; exact .ret (aG [])) fun h => SP.skip <| SP.bn <| .a 3 <| .nil <| UF _ _ (ay (mk 100 36) [(0, true)]) h) fun h => SP.exit <| SP.aC <| SP.rg <| .aM 1 <| SP.block <| SP.bV (adR aV) _ _ _ (ay (mk 100 68) [(0, true)]) h <| fun J34 k24 ajk v23 h => SP.aC <| SP.rg <| .a 3 <| .p (aI lS aV.jo IY rfl) <| .aM 1 <| SP.cnd h (fun h => SP.skip <| SP.aC <| SP.block <| bnd h fun mD wB h => SP.rg <| .a 3 <| .p (aQ lS wB IY afZ rfl) <| .aM 4 <| SP.cnd h (fun h => SP.rg <| .aM 1 <| by cases h; exact .ret (aG [])) fun h => SP.skip <| SP.bn <| .a 3 <| .nil <| ajk _ _ (ay (mk 100 68) [(0, true)]) h) fun h => SP.exit <| SP.aC <| SP.rg <| .aM 1 <| SP.block <| SP.bV (adS aV) _ _ _ (ay (mk 100 132) [(0, true)]) h <| fun J33 k29 Vj v28 h => SP.aC <| SP.rg <| .a 3 <| .p (aI nI aV.kR IZ rfl) <| .aM 1 <| SP.cnd h (fun h => SP.skip <| SP.aC <| SP.block <| bnd h fun x31 hx31 h => SP.rg <| .a 3 <| .p (aQ nI hx31 IZ af0 rfl) <| .aM 4 <| SP.cnd h (fun h => SP.rg <| .aM 1 <| by cases h; exact .ret (aG [])) fun h => SP.skip <| SP.bn <| .a 3 <| .nil <| Vj _ _ (ay (mk 100 132) [(0, true)]) h) fun h => SP.exit <| SP.rg <| .aM 1 <| by cases h; exact .ret (aG [])
def NG (ak : (List aj)) : Option Int := (LU ak).bind fun x1 => (wE x1 8 s0).bind fun x2 => (bif (!x2.2) then some 0 else (jD ak x2.1).bind fun x4 => some x4.1.Content.N)
theorem Ob (ak r) (h : NG ak = some r) : Runs Tryz.prog 15 [.d ((eL ah) ak)] [] (.d (eI r)) [] := Runs.aK Tryz.func15 rfl <| SP.rg <| .aM 1 <| fE h fun x1 hx1 x2 hx2 h => SP.rg <| .a 1 <| .call (SK ak x1 hx1) aoE <| .call (uY x1 8 s0 x2 hx2) ab6 <| .aM 5 <| SP.aC <| SP.rg <| .aM 2 <| SP.cnd h (fun h => SP.rg <| .aM 1 <| by cases h; exact .ret (aG [])) fun h => SP.skip <| bnd h fun x4 hx4 h => SP.rg <| .a 2 <| .call (jf ak x2.1 x4 hx4) rY <| .aM 6 <| SP.rg <| .aM 4 <| by cases h; exact .ret (aG [])
def qZ (aB : aj) : Option Bool := (bif (aB.Kind == 11) then some true else some (aB.Kind == 12)).bind fun x1 => (bif x1 then some true else some (aB.Kind == 13)).bind fun x3 => some x3
theorem EZ (aB r) (h : qZ aB = some r) : Runs Tryz.prog 58 [.d (ah aB)] [] (.d (eB r)) [] := Runs.aK Tryz.func58 rfl <| SP.rg <| .aM 2 <| SP.rg <| .a 3 <| bnd h fun x1 hx1 h => .merge 5 [6, 7, 8, 9] 10 (.d (eB x1)) (dQ hx1 (fun hb2 h => .c (congrArg some hb2) <| .aM 4 <| by cases h; kernel_rfl) fun hb2 h => .c (congrArg some hb2) <| .aM 4 <| by cases h; kernel_rfl) <| .a 1 <| bnd h fun x3 hx3 h => .merge 4 [12, 13, 14] 15 (.d (eB x3)) (have h := hx3; by cases x1 with | true => exact (have h := aO rfl h; .aM 4 <| by cases h; kernel_rfl) | false => exact (have h := aN rfl h; .aM 4 <| by cases h; kernel_rfl)) <| .aM 1 <| by cases h; exact .ret (aG [])
def Qg (FM : Int) (Yq : Int) (LV : Int) : Option Bool := (bif decide (FM ≥ LV) then some false else (bif decide ((IntKind.i64.wrap (LV - FM)) < 0) then some true else some (decide ((IntKind.i64.wrap (LV - FM)) > Yq))).bind fun x2 => some x2)
theorem Yr (FM Yq LV r) (h : Qg FM Yq LV = some r) : Runs Tryz.prog 59 [.d (eI FM), .d (eI Yq), .d (eI LV)] [] (.d (eB r)) [] := Runs.aK Tryz.func59 rfl <| SP.rg <| .aM 1 <| SP.aC <| SP.rg <| .aM 3 <| SP.cnd h (fun h => SP.rg <| .aM 1 <| by cases h; exact .ret (aG [])) fun h => SP.skip <| SP.rg <| .aM 4 <| SP.rg <| .a 2 <| bnd h fun x2 hx2 h => .merge 5 [16, 17, 18, 19] 20 (.d (eB x2)) (dQ hx2 (fun hb3 h => .c (congrArg some hb3) <| .aM 4 <| by cases h; kernel_rfl) fun hb3 h => .c (congrArg some hb3) <| .aM 4 <| by cases h; kernel_rfl) <| .aM 1 <| by cases h; exact .ret (aG [])
def SX (gG : Int) (x1 : Int) (aV : bF) (v3 : (List Int)) (v4 : Int) : St := ⟨bT 38 [(1, .d (eI gG)), (5, .d (eI x1)), (6, .aP 0), (15, .d ((eL ah) aV.Events)), (16, .d (eI (aV.Events.length : Int))), (17, .d (eI v4))], [.arr 3 1 (List.map eI v3)], 0⟩
def SY (gG : Int) (x1 : Int) (aV : bF) (v4 : Int) (v7 : (List Int)) : St := ⟨bT 38 [(1, .d (eI gG)), (5, .d (eI x1)), (6, .aP 0), (15, .d ((eL ah) aV.Events)), (16, .d (eI (aV.Events.length : Int))), (17, .d (eI v4))], [.arr 3 1 (List.map eI v7)], 0⟩
def xQ (k5 : ((List Int) → Int → Option (List Int))) (v4 : Int) (v7 : (List Int)) : Option (List Int) := k5 v7 (IntKind.i64.wrap (v4 + 1))
def S9 (aV : bF) (x1 : Int) (gG : Int) (k5 : ((List Int) → Int → Option (List Int))) : (List Int) → Int → Option (List Int) := fun v3 v4 => (bif decide (v4 < (aV.Events.length : Int)) then (aX aV.Events v4).bind fun x9 => (qZ x9).bind fun x10 => (bif x10 then (Qg x9.Time x1 gG).bind fun eY => some eY else some false).bind fun x11 => (bif x11 then (gB 8 v3 [x9.Id]).bind fun x15 => xQ k5 v4 x15 else xQ k5 v4 v3) else (oQ v3).bind fun x16 => some x16)
def Tc (aV : bF) (x1 : Int) (gG : Int) : (List Int) → Int → Option (List Int) := bM (S9 aV x1 gG) fuel
def LW (aV : bF) (gG : Int) : Option (List Int) := (NG aV.Events).bind fun x1 => (bif decide (x1 ≤ 0) then some [] else Tc aV x1 gG [] 0)
theorem Td (aV gG r) (h : LW aV gG = some r) : Runs Tryz.prog 18 [.d (bG aV), .d (eI gG)] [] (.aP 0) [.arr 3 1 (List.map eI r)] := Runs.aK Tryz.func18 rfl <| SP.rg <| .a 1 <| .e [.box (dc (bG aV)), .arr 3 1 (List.map eI [])] (aT 3 1 rfl) <| .bg <| bnd h fun x1 hx1 h => SP.rg <| .a 2 <| .call (Ob aV.Events x1 hx1) ajY <| .aM 1 <| SP.aC <| SP.rg <| .aM 2 <| SP.cnd h (fun h => SP.rg <| .e [.box (dc (bG aV)), .arr 3 1 (List.map eI []), .arr 3 1 (List.map eI [])] (aT 3 1 rfl) <| .bg <| by cases h; exact .ret (aG [(2, true)])) fun h => SP.skip <| SP.rg <| .e [.box (dc (bG aV)), .arr 3 1 (List.map eI []), .arr 3 1 (List.map eI [])] (aT 3 1 rfl) <| .bg <| SP.aC <| SP.rg <| .a 2 <| .p (aI ah aV.Events fF rfl) <| .aM 1 <| SP.block <| SP.bM (SX gG x1 aV) _ _ _ _ (ay (mk 38 229474) [(2, true)]) h <| fun J17 k5 hk5 v3 v4 h => SP.rg <| .aM 1 <| SP.aC <| SP.cnd h (fun h => SP.skip <| SP.join (fun s => ∃ (v7 : (List Int)), Sub s (SY gG x1 aV v4 v7) ∧ xQ k5 v4 v7 = some r) (by rintro s ⟨v7, hs, h⟩; exact SP.sub hs <| SP.bn <| .a 2 <| .nil <| hk5 _ _ _ (ay (mk 38 229474) [(0, true)]) h) <| fun K8 => SP.block <| bnd h fun x9 fU h => SP.rg <| .p (aQ ah fU fF iT rfl) <| .aM 3 <| bnd h fun x10 gI h => SP.rg <| .a 1 <| .call (EZ x9 x10 gI) ajZ <| .a 1 <| bnd h fun x11 fD h => .merge 6 [24, 25, 26, 27, 28] 29 (.d (eB x11)) (have h := fD; by cases x10 with | true => exact (have h := aO rfl h; bnd h fun eY jA h => .a 4 <| .call (Yr x9.Time x1 gG eY jA) aoF <| .aM 1 <| by cases h; kernel_rfl) | false => exact (have h := aN rfl h; .aM 6 <| by cases h; kernel_rfl)) <| .bg <| SP.cnd h (fun h => bnd h fun x15 jC h => SP.bn <| .a 3 <| .p (fA iM zero3 [eI x9.Id] rfl) <| .e [.dead, .box (dc (ah x9)), .arr 3 1 (List.map eI x15)] (eU (k := 0) eI jC iM (by kernel_rfl) (fun _ => rfl) (by decide) rfl) <| .a 1 <| .nil <| K8 _ ⟨x15, ay (mk 38 229474) [(2, true)], h⟩) fun h => SP.skip <| K8 _ ⟨v3, ay (mk 38 229474) [(0, true)], h⟩) fun h => SP.exit <| bnd h fun x16 hx16 h => SP.rg <| .a 1 <| .e [.arr 3 1 (List.map eI v3), .arr 3 1 (List.map eI x16)] (pJ (dD := [.aP 0]) (dF := [.d (.sl (List.map eI v3))]) (mF v3 x16 hx16) (fun x hx => by obtain ⟨a, _, rfl⟩ := List.mem_map.1 hx; rfl) IX ⟨⟨3, 1, List.map eI v3, by kernel_rfl, rfl⟩, trivial⟩ rfl rfl) <| .aM 1 <| by cases h; exact .ret (aG [(1, true)])
def Kw (aB : aj) : Option Bool := (bif (aB.Kind == 11) then some true else some (aB.Kind == 12)).bind fun x1 => (bif x1 then some true else some (aB.Kind == 13)).bind fun x3 => some x3
theorem aaP (aB r) (h : Kw aB = some r) : Runs Tryz.prog 30 [.d (ah aB)] [] (.d (eB r)) [] := Runs.aK Tryz.func30 rfl <| SP.rg <| .aM 2 <| SP.rg <| .a 3 <| bnd h fun x1 hx1 h => .merge 5 [6, 7, 8, 9] 10 (.d (eB x1)) (dQ hx1 (fun hb2 h => .c (congrArg some hb2) <| .aM 4 <| by cases h; kernel_rfl) fun hb2 h => .c (congrArg some hb2) <| .aM 4 <| by cases h; kernel_rfl) <| .a 1 <| bnd h fun x3 hx3 h => .merge 4 [12, 13, 14] 15 (.d (eB x3)) (have h := hx3; by cases x1 with | true => exact (have h := aO rfl h; .aM 4 <| by cases h; kernel_rfl) | false => exact (have h := aN rfl h; .aM 4 <| by cases h; kernel_rfl)) <| .aM 1 <| by cases h; exact .ret (aG [])
def VU (x1 : (List fG)) (aV : bF) (v2 : Int) (v3 : (List (Int × Bool))) (v4 : (List fG)) : St := ⟨bT 31 [(1, .mp 0), (2, .ptr 1 0), (4, .ptr 2 0), (5, .aP 3), (11, .d (eI (x1.length : Int))), (12, .d (eI v2))], [.map (List.map (eM (Value.int .i64) eB) v3), .box (dc (bG aV)), .box (dc (bG jK)), .arr 60 4 (List.map dP v4)], 1⟩
def VW (x1 : (List fG)) (v2 : Int) (aV : bF) (v7 : (List (Int × Bool))) (v8 : (List fG)) : St := ⟨bT 31 [(1, .mp 0), (2, .ptr 1 0), (4, .ptr 2 0), (5, .aP 3), (11, .d (eI (x1.length : Int))), (12, .d (eI v2))], [.map (List.map (eM (Value.int .i64) eB) v7), .box (dc (bG aV)), .box (dc (bG jK)), .arr 60 4 (List.map dP v8)], 1⟩
def pU (k5 : (Int → (List (Int × Bool)) → (List fG) → Option (bF × (List (Int × Bool))))) (v2 : Int) (v7 : (List (Int × Bool))) (v8 : (List fG)) : Option (bF × (List (Int × Bool))) := k5 (IntKind.i64.wrap (v2 + 1)) v7 v8
def lD (x1 : (List fG)) (aV : bF) (k5 : (Int → (List (Int × Bool)) → (List fG) → Option (bF × (List (Int × Bool))))) : Int → (List (Int × Bool)) → (List fG) → Option (bF × (List (Int × Bool))) := fun v2 v3 v4 => (bif decide (v2 < (x1.length : Int)) then (aX v4 v2).bind fun x10 => (bif (dJ v3 x10.Id).getD false then (aX v4 v2).bind fun x12 => pU k5 v2 v3 (v4.set (v2).toNat ({ x12 with Gone := true })) else pU k5 v2 v3 v4) else some ({ aV with Rows := v4 }, []))
def Ie (x1 : (List fG)) (aV : bF) : Int → (List (Int × Bool)) → (List fG) → Option (bF × (List (Int × Bool))) := oP (lD x1 aV) fuel
def tZ (aV : bF) (bI : (List (Int × Bool))) : Option (bF × (List (Int × Bool))) := (gB 32 [] aV.Rows).bind fun x1 => Ie x1 aV 0 bI x1
theorem VX (aV bI r) (h : tZ aV bI = some r) : Runs Tryz.prog 66 [.d (bG aV), .mp 0] [.map (List.map (eM (Value.int .i64) eB) bI)] (.d (bG r.1)) [.map (List.map (eM (Value.int .i64) eB) r.2)] := Runs.aK Tryz.func66 rfl <| SP.rg <| .aM 2 <| bnd h fun x1 hx1 h => SP.rg <| .a 2 <| .e [.map (List.map (eM (Value.int .i64) eB) bI), .box (dc (bG aV)), .box (dc (bG jK)), .dead, .arr 60 4 (List.map dP x1)] (FZ 60 4 (eU (k := _) dP hx1 af2 (by kernel_rfl) (fun _ => rfl) (by decide) rfl)) <| .aM 1 <| SP.aC <| SP.rg <| .a 1 <| .p (o9 (k := 4) (e' := 60) (s := 4) dP x1 (by kernel_rfl) nX rfl) <| .aM 1 <| SP.block <| SP.oP (VU x1 aV) _ _ _ _ _ (ay (mk 31 6198) [(0, true), (1, true), (2, true), (4, true)]) h <| fun J13 k5 hk5 v2 v3 v4 h => SP.rg <| .aM 1 <| SP.aC <| SP.cnd h (fun h => SP.skip <| SP.join (fun s => ∃ (v7 : (List (Int × Bool))) (v8 : (List fG)), Sub s (VW x1 v2 aV v7 v8) ∧ pU k5 v2 v7 v8 = some r) (by rintro s ⟨v7, v8, hs, h⟩; exact SP.sub hs <| SP.bn <| .a 2 <| .nil <| hk5 _ _ _ _ (ay (mk 31 6198) [(0, true), (1, true), (2, true), (3, true)]) h) <| fun K9 => SP.block <| SP.rg <| .aM 2 <| bnd h fun x10 gI h => SP.rg <| .a 3 <| .p (mX (e' := 60) (kd := .i64) dP gI (k := 3) (by kernel_rfl) nX Gm rfl) <| .a 1 <| .p (x := .d (eI x10.Id)) (kZ (e := 60) (size := 4) (k := 3) (i := (v2).toNat) (off := 1) dP (by kernel_rfl) (by kernel_rfl) (iP gI).2 gU (Nat.le_of_ble_eq_true (by kernel_rfl)) (fun _ => rfl) rfl) <| .p (x := .d (eB ((dJ v3 x10.Id).getD false))) (zn (k := 0) (key := x10.Id) (m := v3) eB false yc lZ QD (by kernel_rfl) (by kernel_rfl) (by kernel_rfl) rfl) <| .bg <| SP.cnd h (fun h => bnd h fun x12 iK h => SP.bn <| .a 2 <| .p (mX (e' := 60) (kd := .i64) dP iK (k := 3) (by kernel_rfl) nX Gm rfl) <| .a 1 <| .e [.map (List.map (eM (Value.int .i64) eB) v3), .box (dc (bG aV)), .box (dc (bG jK)), .arr 60 4 (List.map dP (v4.set (v2).toNat ({ x12 with Gone := true })))] (sW (e := 60) (size := 4) (v := .d (eB true)) (k := 3) (i := (v2).toNat) (off := 3) (a' := ({ x12 with Gone := true })) dP (by kernel_rfl) (iP iK).2 (by kernel_rfl) (ty4).size (by kernel_rfl) (Nat.le_of_ble_eq_true (by kernel_rfl)) (by kernel_rfl) (fun _ => rfl) rfl) <| .nil <| K9 _ ⟨v3, (v4.set (v2).toNat ({ x12 with Gone := true })), ay (mk 31 6198) [(0, true), (1, true), (2, true), (3, true)], h⟩) fun h => SP.skip <| K9 _ ⟨v3, v4, ay (mk 31 6198) [(0, true), (1, true), (2, true), (3, true)], h⟩) fun h => SP.exit <| SP.rg <| .aM 3 <| SP.rg <| .a 1 <| .e [.map (List.map (eM (Value.int .i64) eB) []), .box (setAt (dc (bG aV)) 2 [.aP 3]), .box (dc (bG jK)), .arr 60 4 (List.map dP v4)] (aa6 (k := 0) (es0 := List.map (eM (Value.int .i64) eB) v3) yc (by kernel_rfl) rfl) <| .bg <| SP.rg <| .conv _ (Tn (e := 60) (s := 4) 3 1 (xs := List.map dP v4) (cs := setAt (dc (bG aV)) 2 [.aP 3]) (by kernel_rfl) (by kernel_rfl) (by kernel_rfl)) <| .aM 2 <| SP.ret <| by rw [← bC h]; exact ⟨[.d (bG ({ aV with Rows := v4 }))], [(0, true)], ⟨⟨2, dc (bG ({ aV with Rows := v4 })), true, 9, by kernel_rfl, by kernel_rfl, by kernel_rfl, af4, Nat.le_of_ble_eq_true (by kernel_rfl), (by intro hh; cases hh), by kernel_rfl⟩, trivial⟩, by kernel_rfl, by kernel_rfl, by kernel_rfl⟩
def Yt (dI : ByteArray) (aV : bF) (v1 : Int) (v2 : (List (Int × Bool))) : St := ⟨bT 44 [(1, .d (eS dI)), (2, .ptr 0 0), (4, .ptr 1 0), (5, .mp 2), (12, .d ((eL dP) aV.Rows)), (13, .d (eI (aV.Rows.length : Int))), (14, .d (eI v1))], [.box (dc (bG aV)), .box (dc (bG jK)), .map (List.map (eM (Value.int .i64) eB) v2)], 0⟩
def Yu (dI : ByteArray) (aV : bF) (v1 : Int) (v5 : (List (Int × Bool))) : St := ⟨bT 44 [(1, .d (eS dI)), (2, .ptr 0 0), (4, .ptr 1 0), (5, .mp 2), (12, .d ((eL dP) aV.Rows)), (13, .d (eI (aV.Rows.length : Int))), (14, .d (eI v1))], [.box (dc (bG aV)), .box (dc (bG jK)), .map (List.map (eM (Value.int .i64) eB) v5)], 0⟩
def vg (k3 : (Int → (List (Int × Bool)) → Option bF)) (v1 : Int) (v5 : (List (Int × Bool))) : Option bF := k3 (IntKind.i64.wrap (v1 + 1)) v5
def AQ (aV : bF) (dI : ByteArray) (k3 : (Int → (List (Int × Bool)) → Option bF)) : Int → (List (Int × Bool)) → Option bF := fun v1 v2 => (bif decide (v1 < (aV.Rows.length : Int)) then (aX aV.Rows v1).bind fun x7 => (jD aV.Events x7.Id).bind fun x8 => (bif x8.2 then (qZ x8.1).bind fun x11 => some x11 else some false).bind fun x9 => (bif x9 then some (x8.1.fH.toList == dI.toList) else some false).bind fun x12 => (bif x12 then vg k3 v1 (fK v2 x7.Id true) else vg k3 v1 v2) else (tZ aV v2).bind fun x15 => some x15.1)
def Jk (aV : bF) (dI : ByteArray) : Int → (List (Int × Bool)) → Option bF := bM (AQ aV dI) fuel
def wJ (aV : bF) (dI : ByteArray) : Option bF := Jk aV dI 0 []
theorem vk (aV dI r) (h : wJ aV dI = some r) : Runs Tryz.prog 22 [.d (bG aV), .d (eS dI)] [] (.d (bG r)) [] := Runs.aK Tryz.func22 rfl <| SP.rg <| .aM 2 <| SP.rg <| .e (x := .mp 2) [.box (dc (bG aV)), .box (dc (bG jK)), .map (List.map (eM (Value.int .i64) eB) [])] (zK rfl) <| .aM 1 <| SP.aC <| SP.rg <| .a 2 <| .p (aI dP aV.Rows nX rfl) <| .aM 1 <| SP.block <| SP.bM (Yt dI aV) _ _ _ _ (ay (mk 44 28726) [(0, true), (1, true), (2, true)]) h <| fun J16 k3 hk3 v1 v2 h => SP.rg <| .aM 1 <| SP.aC <| SP.cnd h (fun h => SP.skip <| SP.join (fun s => ∃ (v5 : (List (Int × Bool))), Sub s (Yu dI aV v1 v5) ∧ vg k3 v1 v5 = some r) (by rintro s ⟨v5, hs, h⟩; exact SP.sub hs <| SP.bn <| .a 2 <| .nil <| hk3 _ _ _ (ay (mk 44 28726) [(0, true), (1, true), (2, true)]) h) <| fun K6 => SP.block <| bnd h fun x7 hx7 h => SP.rg <| .p (aQ dP hx7 nX Gm rfl) <| .aM 3 <| bnd h fun x8 iL h => SP.rg <| .a 4 <| .call (jf aV.Events x7.Id x8 iL) rY <| .aM 6 <| SP.rg <| .a 1 <| bnd h fun x9 fU h => .merge 4 [27, 28, 29] 30 (.d (eB x9)) (dQ fU (fun jT h => bnd h fun x11 fD h => .c (congrArg some jT) <| .a 1 <| .call (EZ x8.1 x11 fD) ajZ <| .aM 1 <| by cases h; kernel_rfl) fun jT h => .c (congrArg some jT) <| .aM 3 <| by cases h; kernel_rfl) <| .a 1 <| bnd h fun x12 iK h => .merge 5 [32, 33, 34, 35] 36 (.d (eB x12)) (have h := iK; by cases x9 with | true => exact (have h := aO rfl h; .aM 5 <| by cases h; kernel_rfl) | false => exact (have h := aN rfl h; .aM 5 <| by cases h; kernel_rfl)) <| .bg <| SP.cnd h (fun h => SP.bn <| .a 3 <| .e [.box (dc (bG aV)), .box (dc (bG jK)), .map (List.map (eM (Value.int .i64) eB) (fK v2 x7.Id true)), .box (dc (dP x7)), .box (dc (ah x8.1))] (FK (k := 2) (key := x7.Id) (val := true) (m := v2) eB yc lZ (by kernel_rfl) rfl) <| .nil <| K6 _ ⟨(fK v2 x7.Id true), ay (mk 44 28726) [(0, true), (1, true), (2, true)], h⟩) fun h => SP.skip <| K6 _ ⟨v2, ay (mk 44 28726) [(0, true), (1, true), (2, true)], h⟩) fun h => SP.exit <| bnd h fun x15 jC h => SP.rg <| .a 2 <| .e (x := .d (bG x15.1)) [.box (dc (bG aV)), .box (dc (bG jK)), .map (List.map (eM (Value.int .i64) eB) x15.2)] (dU [.ent 2] (dD := [.d (bG aV), .mp 2]) (dF := [.d (bG aV), .mp 0]) (res' := .d (bG x15.1)) (VX aV v2 x15 jC) aoG (by kernel_rfl) (cZ (by kernel_rfl) <| trivial) ⟨.inl rfl, ⟨0, rfl, rfl⟩, trivial⟩ rfl (by kernel_rfl) rfl) <| .aM 1 <| SP.ret <| by rw [← bC h]; exact ⟨[.d (bG x15.1)], [], ⟨⟨1, dc (bG x15.1), true, 9, by kernel_rfl, by kernel_rfl, by kernel_rfl, af4, Nat.le_of_ble_eq_true (by kernel_rfl), (by intro hh; cases hh), by kernel_rfl⟩, trivial⟩, by kernel_rfl, by kernel_rfl, by kernel_rfl⟩
def aaQ (aV : bF) (v1 : (List Int)) (v2 : Int) : St := ⟨bT 23 [(3, .aP 0), (7, .d ((eL dP) aV.Rows)), (8, .d (eI (aV.Rows.length : Int))), (9, .d (eI v2))], [.arr 3 1 (List.map eI v1)], 0⟩
def aaR (aV : bF) (v2 : Int) (v5 : (List Int)) : St := ⟨bT 23 [(3, .aP 0), (7, .d ((eL dP) aV.Rows)), (8, .d (eI (aV.Rows.length : Int))), (9, .d (eI v2))], [.arr 3 1 (List.map eI v5)], 0⟩
def Dj (k3 : ((List Int) → Int → Option (List Int))) (v2 : Int) (v5 : (List Int)) : Option (List Int) := k3 v5 (IntKind.i64.wrap (v2 + 1))
def Dk (aV : bF) (k3 : ((List Int) → Int → Option (List Int))) : (List Int) → Int → Option (List Int) := fun v1 v2 => (bif decide (v2 < (aV.Rows.length : Int)) then (aX aV.Rows v2).bind fun x7 => (bif (!x7.Gone) then (gB 8 v1 [x7.Id]).bind fun x9 => Dj k3 v2 x9 else Dj k3 v2 v1) else some v1)
def LX (aV : bF) : (List Int) → Int → Option (List Int) := bM (Dk aV) fuel
def qF (aV : bF) : Option (List Int) := LX aV [] 0
theorem ru (aV r) (h : qF aV = some r) : Runs Tryz.prog 24 [.d (bG aV)] [] (.aP 0) [.arr 3 1 (List.map eI r)] := Runs.aK Tryz.func24 rfl <| SP.rg <| .a 1 <| .e [.box (dc (bG aV)), .arr 3 1 (List.map eI [])] (aT 3 1 rfl) <| .bg <| SP.rg <| .e [.box (dc (bG aV)), .arr 3 1 (List.map eI []), .arr 3 1 (List.map eI [])] (aT 3 1 rfl) <| .bg <| SP.aC <| SP.rg <| .a 2 <| .p (aI dP aV.Rows nX rfl) <| .aM 1 <| SP.block <| SP.bM (aaQ aV) _ _ _ _ (ay (mk 23 904) [(2, true)]) h <| fun J10 k3 hk3 v1 v2 h => SP.rg <| .aM 1 <| SP.aC <| SP.cnd h (fun h => SP.skip <| SP.join (fun s => ∃ (v5 : (List Int)), Sub s (aaR aV v2 v5) ∧ Dj k3 v2 v5 = some r) (by rintro s ⟨v5, hs, h⟩; exact SP.sub hs <| SP.bn <| .a 2 <| .nil <| hk3 _ _ _ (ay (mk 23 904) [(0, true)]) h) <| fun K6 => SP.block <| bnd h fun x7 hx7 h => SP.rg <| .p (aQ dP hx7 nX Gm rfl) <| .aM 3 <| SP.rg <| .aM 3 <| SP.cnd h (fun h => bnd h fun x9 fU h => SP.bn <| .a 3 <| .p (fA iM zero3 [eI x7.Id] rfl) <| .e [.dead, .box (dc (dP x7)), .arr 3 1 (List.map eI x9)] (eU (k := 0) eI fU iM (by kernel_rfl) (fun _ => rfl) (by decide) rfl) <| .a 1 <| .nil <| K6 _ ⟨x9, ay (mk 23 904) [(2, true)], h⟩) fun h => SP.skip <| K6 _ ⟨v1, ay (mk 23 904) [(0, true)], h⟩) fun h => SP.exit <| SP.rg <| .aM 2 <| by cases h; exact .ret (aG [(0, true)])
def Ky : aj := { iI with Id := 5, fH := Fj, Kind := 11 }
def Kz : aj := { iI with Id := 6, fH := Fj, Kind := 2, State := true }
def aeQ : (List fG) := [(⟨0, 6, 0, false⟩ : fG), (⟨1, 5, 0, true⟩ : fG), (⟨2, 5, 0, false⟩ : fG)]
def uq : bF := { jK with Events := [Ky, Kz], Rows := aeQ, Next := 3 }
def aeR (v2 : Bool) : St := ⟨bT 50 [(0, .d (eB v2))], [], 0⟩
def nN (v2 : Bool) : Option Bool := some v2
def Dl  : Option Bool := (wJ uq Fj).bind fun x1 => (qF uq).bind fun x4 => (wI x4 [6, 5]).bind fun x5 => (bif x5 then (qF x1).bind fun x7 => (wI x7 [6]).bind fun x8 => (bif x8 then (bif ((x1.Rows.length : Int) == 3) then (bif (x1.Next == 3) then (LW uq 100).bind fun x12 => (bif ((x12.length : Int) == 0) then (NG []).bind fun x14 => (bif (x14 == 0) then (qF jK).bind fun x16 => nN ((x16.length : Int) == 0) else nN false) else nN false) else nN false) else nN false) else nN false) else nN false)
theorem aeS (h : Dl = some true) : Runs Tryz.prog 20 [] [] (.d (eB true)) [] := by
 refine Runs.aK Tryz.func20 rfl ?_; unfold Dl at h; refine SP.rg <| .a 1 <| .bg ?_; refine SP.rg <| .a 2 <| .p (KN BP xZ (by kernel_rfl) (by kernel_rfl) (Nat.le_of_ble_eq_true (by kernel_rfl)) [.d (ah Ky), .d (ah Kz)] [ah Ky, ah Kz] (by kernel_rfl) (by kernel_rfl) (by kernel_rfl) (by kernel_rfl) rfl) <| .a 3 <| .p (KN af2 WY (by kernel_rfl) (by kernel_rfl) (Nat.le_of_ble_eq_true (by kernel_rfl)) [.d (dP (⟨0, 6, 0, false⟩ : fG)), .d (dP (⟨1, 5, 0, true⟩ : fG)), .d (dP (⟨2, 5, 0, false⟩ : fG))] [dP (⟨0, 6, 0, false⟩ : fG), dP (⟨1, 5, 0, true⟩ : fG), dP (⟨2, 5, 0, false⟩ : fG)] (by kernel_rfl) (by kernel_rfl) (by kernel_rfl) (by kernel_rfl) rfl) <| .a 3 <| .bg ?_; obtain ⟨x1, hx1, h⟩ := fP h; refine SP.rg <| .a 1 <| .call (vk uq Fj x1 hx1) ab8 <| .a 2 <| .bg ?_; refine SP.join (fun s => ∃ (v2 : Bool), Sub s (aeR v2) ∧ nN v2 = some true) ?_ ?_
 · clear h; rintro s ⟨v2, hs, h⟩; refine SP.sub hs ?_; clear hs; unfold nN at h; refine SP.ret ?_; rw [← Option.some.inj h]; exact ⟨[.d (eB v2)], [], ⟨oD (by kernel_rfl), trivial⟩, by kernel_rfl, by kernel_rfl, by kernel_rfl⟩
 intro K3; obtain ⟨x4, hx4, h⟩ := fP h; obtain ⟨x5, hx5, h⟩ := fP h; refine SP.bn <| .a 1 <| .call (ru uq x4 hx4).view WZ <| .p (KN iM zero3 (by kernel_rfl) (by kernel_rfl) (Nat.le_of_ble_eq_true (by kernel_rfl)) [.d (eI 6), .d (eI 5)] [eI 6, eI 5] (by kernel_rfl) (by kernel_rfl) (by kernel_rfl) (by kernel_rfl) rfl) <| .call (uo x4 [6, 5] x5 hx5) QG <| .a 1 <| ?_; cases x5 with
 | true =>
   replace h := aO rfl h; obtain ⟨x7, hx7, h⟩ := fP h; obtain ⟨x8, iL, h⟩ := fP h; refine .a 1 <| .call (ru x1 x7 hx7).view WZ <| .p (KN iM zero3 (by kernel_rfl) (by kernel_rfl) (Nat.le_of_ble_eq_true (by kernel_rfl)) [.d (eI 6)] [eI 6] (by kernel_rfl) (by kernel_rfl) (by kernel_rfl) (by kernel_rfl) rfl) <| .call (uo x7 [6] x8 iL) QG <| .a 2 <| ?_; cases x8 with
   | true =>
     replace h := aO rfl h; refine .a 2 <| .p (aI dP x1.Rows nX rfl) <| .a 2 <| ?_; rcases Bool.eq_false_or_eq_true ((x1.Rows.length : Int) == 3) with jT | jT
     · replace h := aO jT h; refine .c (congrArg some jT) <| .a 4 <| ?_; rcases Bool.eq_false_or_eq_true (x1.Next == 3) with Em | Em
       · replace h := aO Em h; obtain ⟨x12, iK, h⟩ := fP h; refine .c (congrArg some Em) <| .a 1 <| .call (Td uq 100 x12 iK).view aoH <| .p (aI eI x12 dB rfl) <| .a 2 <| ?_; rcases Bool.eq_false_or_eq_true ((x12.length : Int) == 0) with lq | lq
         · replace h := aO lq h; obtain ⟨x14, je, h⟩ := fP h; refine .c (congrArg some lq) <| .p (x := .d (eI x14)) (Um (dD := [.d (.lit (.slice none 0 0))]) (dF := [.d ((eL ah) [])]) (Ob [] x14 je) ajY ⟨.inr (.inr ⟨rfl, rfl⟩), trivial⟩ rfl (by kernel_rfl) rfl) <| .a 2 <| ?_; rcases Bool.eq_false_or_eq_true (x14 == 0) with Ej | Ej
           · replace h := aO Ej h; obtain ⟨x16, hx16, h⟩ := fP h; refine .c (congrArg some Ej) <| .a 1 <| .call (ru jK x16 hx16).view WZ <| .p (aI eI x16 dB rfl) <| .a 3 <| .nil ?_; exact K3 _ ⟨((x16.length : Int) == 0), ay (mk 50 1) [], h⟩
           replace h := aN Ej h; exact absurd (Option.some.inj (show some false = some true from h)) (by decide)
         replace h := aN lq h; exact absurd (Option.some.inj (show some false = some true from h)) (by decide)
       replace h := aN Em h; exact absurd (Option.some.inj (show some false = some true from h)) (by decide)
     replace h := aN jT h; exact absurd (Option.some.inj (show some false = some true from h)) (by decide)
   | false =>
     replace h := aN rfl h; exact absurd (Option.some.inj (show some false = some true from h)) (by decide)
 | false =>
   replace h := aN rfl h; exact absurd (Option.some.inj (show some false = some true from h)) (by decide)
theorem Qh : Dl = some true := by kernel_rfl
theorem aeT (r) (h : Dl = some r) : Runs Tryz.prog 20 [] [] (.d (eB r)) [] := by
 obtain rfl := bC (h.symm.trans Qh); exact aeS Qh
def adU (dI : ByteArray) (aV : bF) (v2 : Int) (v3 : (List fG)) : St := ⟨bT 48 [(1, .d (eS dI)), (2, .ptr 0 0), (4, .ptr 1 0), (5, .aP 2), (6, .d (eI v2))], [.box (dc (bG aV)), .box (dc (bG jK)), .arr 60 4 (List.map dP v3)], 0⟩
def adV (dI : ByteArray) (v2 : Int) (aV : bF) (v6 : (List fG)) : St := ⟨bT 48 [(1, .d (eS dI)), (2, .ptr 0 0), (4, .ptr 1 0), (5, .aP 2), (6, .d (eI v2))], [.box (dc (bG aV)), .box (dc (bG jK)), .arr 60 4 (List.map dP v6)], 0⟩
def wK (k4 : (Int → (List fG) → Option bF)) (v2 : Int) (v6 : (List fG)) : Option bF := k4 (IntKind.i64.wrap (v2 + 1)) v6
def pV (aV : bF) (dI : ByteArray) (k4 : (Int → (List fG) → Option bF)) : Int → (List fG) → Option bF := fun v2 v3 => (bif decide (v2 < (v3.length : Int)) then (aX v3 v2).bind fun x8 => (QM aV.Events x8.Id).bind fun x9 => (bif x9.2 then (Kw x9.1).bind fun x12 => some x12 else some false).bind fun x10 => (bif x10 then some (x9.1.fH.toList == dI.toList) else some false).bind fun eY => (bif eY then (aX v3 v2).bind fun x16 => wK k4 v2 (v3.set (v2).toNat ({ x16 with Gone := true })) else wK k4 v2 v3) else some ({ aV with Rows := v3 }))
def Qi (aV : bF) (dI : ByteArray) : Int → (List fG) → Option bF := bM (pV aV dI) fuel
def Jl (aV : bF) (dI : ByteArray) : Option bF := (gB 32 [] aV.Rows).bind fun x1 => Qi aV dI 0 x1
theorem Ig (aV dI r) (h : Jl aV dI = some r) : Runs Tryz.prog 23 [.d (bG aV), .d (eS dI)] [] (.d (bG r)) [] := Runs.aK Tryz.func23 rfl <| SP.rg <| .aM 2 <| bnd h fun x1 hx1 h => SP.rg <| .e [.box (dc (bG aV)), .box (dc (bG jK)), .arr 60 4 (List.map dP [])] (BO af2 WY [] rfl) <| .a 2 <| .e [.box (dc (bG aV)), .box (dc (bG jK)), .dead, .arr 60 4 (List.map dP x1)] (eU (k := 2) dP hx1 af2 (by kernel_rfl) (fun _ => rfl) (by decide) rfl) <| .aM 1 <| SP.aC <| SP.rg <| .aM 1 <| SP.block <| SP.bM (adU dI aV) _ _ _ _ (ay (mk 48 118) [(0, true), (1, true), (3, true)]) h <| fun J17 k4 hk4 v2 v3 h => SP.aC <| SP.rg <| .a 2 <| .p (o9 (k := 2) (e' := 60) (s := 4) dP v3 (by kernel_rfl) nX rfl) <| .aM 1 <| SP.cnd h (fun h => SP.skip <| SP.join (fun s => ∃ (v6 : (List fG)), Sub s (adV dI v2 aV v6) ∧ wK k4 v2 v6 = some r) (by rintro s ⟨v6, hs, h⟩; exact SP.sub hs <| SP.bn <| .a 3 <| .nil <| hk4 _ _ _ (ay (mk 48 118) [(0, true), (1, true), (2, true)]) h) <| fun K7 => SP.block <| fE h fun x8 iL x9 fU h => SP.agV [YR 4 (Go.Op.indexAddr 23 (Go.Operand.tmp 22) (Go.Operand.tmp 23)) 2 (.arr 60 4 (List.map dP v3)) (fun o es hk ho => mX (e' := 60) (kd := .i64) dP iL (k := 2) (by first | exact hk | kernel_rfl) nX Gm ho), YR (x := .d (eI x8.Id)) 6 (Go.Op.load 3 (Go.Operand.tmp 25)) 2 (.arr 60 4 (List.map dP v3)) (fun o es hk ho => kZ (e := 60) (size := 4) (k := 2) (i := (v2).toNat) (off := 1) dP (by first | exact hk | kernel_rfl) (by first | exact hk | kernel_rfl) (iP iL).2 gU (Nat.le_of_ble_eq_true (by first | exact hk | kernel_rfl)) (fun _ => rfl) ho), orc 7 (agb aV.Events x8.Id x9 fU) aoB] 112 0x6c683506a503406a60330664832068603106650310665830064502f062482f064582e060482e062582d060502d05e402c05e582b05c502b05a482b058382a0585829056402905408280543027054582605238260500025050302404e0824050582304c082304e282204e582104c302104a3020048002004a581f046001f048281e044081e048581d046301d042081d044201c044581b042281b040281a03c001a040581903e301903a001903c2018038081803c581703a281703608170381016038181503858140362014034201303000130345812032281202e0012030101102c0811030181002a0810030580f02e200f028080f02c180e02a100e02c580d028100d02a580c028180c026100b022000b026180a020000a0265809024200901e00090221808020100801c0808022580701e100701a0807020580601e1806018080601c580501a180501810050161804014100401000040165803012100300e00030145802012180200c0002010580100e180100c100100a08010085800006180000410000020000 54 <| SP.rg <| .a 1 <| bnd h fun x10 gI h => .merge 4 [31, 32, 33] 34 (.d (eB x10)) (dQ gI (fun Em h => bnd h fun x12 iK h => .c (congrArg some Em) <| .a 1 <| .call (aaP x9.1 x12 iK) aoJ <| .aM 1 <| by cases h; kernel_rfl) fun Em h => .c (congrArg some Em) <| .aM 3 <| by cases h; kernel_rfl) <| .a 1 <| bnd h fun eY jA h => .merge 5 [36, 37, 38, 39] 40 (.d (eB eY)) (have h := jA; by cases x10 with | true => exact (have h := aO rfl h; .aM 5 <| by cases h; kernel_rfl) | false => exact (have h := aN rfl h; .aM 5 <| by cases h; kernel_rfl)) <| .bg <| SP.cnd h (fun h => bnd h fun x16 hx16 h => SP.bn <| .a 2 <| .p (mX (e' := 60) (kd := .i64) dP hx16 (k := 2) (by kernel_rfl) nX Gm rfl) <| .a 1 <| .e [.box (dc (bG aV)), .box (dc (bG jK)), .arr 60 4 (List.map dP (v3.set (v2).toNat ({ x16 with Gone := true }))), .box (dc (ah x9.1))] (sW (e := 60) (size := 4) (v := .d (eB true)) (k := 2) (i := (v2).toNat) (off := 3) (a' := ({ x16 with Gone := true })) dP (by kernel_rfl) (iP hx16).2 (by kernel_rfl) (ty4).size (by kernel_rfl) (Nat.le_of_ble_eq_true (by kernel_rfl)) (by kernel_rfl) (fun _ => rfl) rfl) <| .nil <| K7 _ ⟨(v3.set (v2).toNat ({ x16 with Gone := true })), ay (mk 48 118) [(0, true), (1, true), (2, true)], h⟩) fun h => SP.skip <| K7 _ ⟨v3, ay (mk 48 118) [(0, true), (1, true), (2, true)], h⟩) fun h => SP.exit <| SP.rg <| .aM 3 <| SP.rg <| .conv _ (Tn (e := 60) (s := 4) 2 0 (xs := List.map dP v3) (cs := setAt (dc (bG aV)) 2 [.aP 2]) (by kernel_rfl) (by kernel_rfl) (by kernel_rfl)) <| .aM 2 <| SP.ret <| by rw [← bC h]; exact ⟨[.d (bG ({ aV with Rows := v3 }))], [], ⟨⟨1, dc (bG ({ aV with Rows := v3 })), true, 9, by kernel_rfl, by kernel_rfl, by kernel_rfl, af4, Nat.le_of_ble_eq_true (by kernel_rfl), (by intro hh; cases hh), by kernel_rfl⟩, trivial⟩, by kernel_rfl, by kernel_rfl, by kernel_rfl⟩
def aeU (aH : (List aj)) (aJ : (List aj)) (v2 : Int) : St := ⟨bT 27 [(0, .d ((eL ah) aH)), (1, .d ((eL ah) aJ)), (5, .d (eI v2))], [], 0⟩
def KA (aH : (List aj)) (aJ : (List aj)) (k3 : (Int → Option Bool)) : Int → Option Bool := fun v2 => (bif decide (v2 < (aH.length : Int)) then (aX aH v2).bind fun x5 => (aX aJ v2).bind fun x6 => (NC x5 x6).bind fun x7 => (bif (!x7) then some false else k3 (IntKind.i64.wrap (v2 + 1))) else some true)
def TY (aH : (List aj)) (aJ : (List aj)) : Int → Option Bool := bV (KA aH aJ) fuel
def Ih (aH : (List aj)) (aJ : (List aj)) : Option Bool := (bif ((aH.length : Int) != (aJ.length : Int)) then some false else TY aH aJ 0)
theorem Ua (aH aJ r) (h : Ih aH aJ = some r) : Runs Tryz.prog 62 [.d ((eL ah) aH), .d ((eL ah) aJ)] [] (.d (eB r)) [] := Runs.aK Tryz.func62 rfl <| SP.rg <| .aM 1 <| SP.aC <| SP.rg <| .a 1 <| .p (aI ah aH fF rfl) <| .a 1 <| .p (aI ah aJ fF rfl) <| .aM 1 <| SP.cnd h (fun h => SP.rg <| .aM 1 <| by cases h; exact .ret (aG [])) fun h => SP.skip <| SP.aC <| SP.rg <| .aM 1 <| SP.block <| SP.bV (aeU aH aJ) _ _ _ (ay (mk 27 35) []) h <| fun J9 k3 hk3 v2 h => SP.aC <| SP.rg <| .a 2 <| .p (aI ah aH fF rfl) <| .aM 1 <| SP.cnd h (fun h => SP.skip <| SP.aC <| SP.block <| O6 h fun x5 hx5 x6 hx6 x7 hx7 h => SP.kQ (by kernel_rfl) (by kernel_rfl) (by kernel_rfl) (.a 2 <| .p (aQ ah hx5 fF iT rfl) <| .a 3 <| .p (aQ ah hx6 fF iT rfl) <| .a 1 <| .call (aeL x5 x6 x7 hx7) aoD <| .a 1 <| .nil _) <| SP.cnd h (fun h => SP.rg <| .aM 1 <| by cases h; exact .ret (aG [])) fun h => SP.skip <| SP.bn <| .a 3 <| .nil <| hk3 _ _ (ay (mk 27 35) []) h) fun h => SP.exit <| SP.rg <| .aM 1 <| by cases h; exact .ret (aG [])
end Go.Proofs.YtolgdkhlelfpoaaGreat
end
section
namespace Go.Proofs.YtolgdkhlelfpoaaGreat
open Go.RowKit
set_option maxRecDepth 20000
set_option maxHeartbeats 4000000
def Yv (aH : (List fG)) (aJ : (List fG)) (v2 : Int) : St := ⟨bT 26 [(0, .d ((eL dP) aH)), (1, .d ((eL dP) aJ)), (5, .d (eI v2))], [], 0⟩
def AU (aH : (List fG)) (aJ : (List fG)) (k3 : (Int → Option Bool)) : Int → Option Bool := fun v2 => (bif decide (v2 < (aH.length : Int)) then (aX aH v2).bind fun x5 => (aX aJ v2).bind fun x6 => (bif (!QH x5 x6) then some false else k3 (IntKind.i64.wrap (v2 + 1))) else some true)
def Jm (aH : (List fG)) (aJ : (List fG)) : Int → Option Bool := bV (AU aH aJ) fuel
def AX (aH : (List fG)) (aJ : (List fG)) : Option Bool := (bif ((aH.length : Int) != (aJ.length : Int)) then some false else Jm aH aJ 0)
theorem Yw (aH aJ r) (h : AX aH aJ = some r) : Runs Tryz.prog 63 [.d ((eL dP) aH), .d ((eL dP) aJ)] [] (.d (eB r)) [] := Runs.aK Tryz.func63 rfl <| SP.rg <| .aM 1 <| SP.aC <| SP.rg <| .a 1 <| .p (aI dP aH nX rfl) <| .a 1 <| .p (aI dP aJ nX rfl) <| .aM 1 <| SP.cnd h (fun h => SP.rg <| .aM 1 <| by cases h; exact .ret (aG [])) fun h => SP.skip <| SP.aC <| SP.rg <| .aM 1 <| SP.block <| SP.bV (Yv aH aJ) _ _ _ (ay (mk 26 35) []) h <| fun J8 k3 hk3 v2 h => SP.aC <| SP.rg <| .a 2 <| .p (aI dP aH nX rfl) <| .aM 1 <| SP.cnd h (fun h => SP.skip <| SP.aC <| SP.block <| fE h fun x5 hx5 x6 hx6 h => SP.kQ (by kernel_rfl) (by kernel_rfl) (by kernel_rfl) (.a 2 <| .p (aQ dP hx5 nX Gm rfl) <| .a 3 <| .p (aQ dP hx6 nX Gm rfl) <| .a 1 <| .p (x := .d (eB (!QH x5 x6))) (KR [.int .i64 x5.Pos, .int .i64 x5.Id, .int .i64 x5.Status, .bool x5.Gone] [.int .i64 x6.Pos, .int .i64 x6.Id, .int .i64 x6.Status, .bool x6.Gone] (adf x5 x6) (by decide) aoK rfl) <| .nil _) <| SP.cnd h (fun h => SP.rg <| .aM 1 <| by cases h; exact .ret (aG [])) fun h => SP.skip <| SP.bn <| .a 3 <| .nil <| hk3 _ _ (ay (mk 26 35) []) h) fun h => SP.exit <| SP.rg <| .aM 1 <| by cases h; exact .ret (aG [])
def Yx (aH : (List Int)) (aJ : (List Int)) (v2 : Int) : St := ⟨bT 26 [(0, .d ((eL eI) aH)), (1, .d ((eL eI) aJ)), (5, .d (eI v2))], [], 0⟩
def AY (aH : (List Int)) (aJ : (List Int)) (k3 : (Int → Option Bool)) : Int → Option Bool := fun v2 => (bif decide (v2 < (aH.length : Int)) then (aX aH v2).bind fun x5 => (aX aJ v2).bind fun x6 => (bif (x5 != x6) then some false else k3 (IntKind.i64.wrap (v2 + 1))) else some true)
def Jo (aH : (List Int)) (aJ : (List Int)) : Int → Option Bool := bV (AY aH aJ) fuel
def AZ (aH : (List Int)) (aJ : (List Int)) : Option Bool := (bif ((aH.length : Int) != (aJ.length : Int)) then some false else Jo aH aJ 0)
theorem Yy (aH aJ r) (h : AZ aH aJ = some r) : Runs Tryz.prog 64 [.d ((eL eI) aH), .d ((eL eI) aJ)] [] (.d (eB r)) [] := Runs.aK Tryz.func64 rfl <| SP.rg <| .aM 1 <| SP.aC <| SP.rg <| .a 1 <| .p (aI eI aH dB rfl) <| .a 1 <| .p (aI eI aJ dB rfl) <| .aM 1 <| SP.cnd h (fun h => SP.rg <| .aM 1 <| by cases h; exact .ret (aG [])) fun h => SP.skip <| SP.aC <| SP.rg <| .aM 1 <| SP.block <| SP.bV (Yx aH aJ) _ _ _ (ay (mk 26 35) []) h <| fun J8 k3 hk3 v2 h => SP.aC <| SP.rg <| .a 2 <| .p (aI eI aH dB rfl) <| .aM 1 <| SP.cnd h (fun h => SP.skip <| SP.aC <| SP.block <| fE h fun x5 hx5 x6 hx6 h => SP.kQ (by kernel_rfl) (by kernel_rfl) (by kernel_rfl) (.a 2 <| .p (aQ eI hx5 dB gU rfl) <| .a 3 <| .p (aQ eI hx6 dB gU rfl) <| .a 2 <| .nil _) <| SP.cnd h (fun h => SP.rg <| .aM 1 <| by cases h; exact .ret (aG [])) fun h => SP.skip <| SP.bn <| .a 3 <| .nil <| hk3 _ _ (ay (mk 26 35) []) h) fun h => SP.exit <| SP.rg <| .aM 1 <| by cases h; exact .ret (aG [])
def Yz (aH : bF) (aJ : bF) (v4 : Int) : St := ⟨bT 59 [(2, .ptr 0 0), (3, .ptr 1 0), (5, .d (eI v4))], [.box (dc (bG aH)), .box (dc (bG aJ))], 0⟩
def YA (aH : bF) (aJ : bF) (v10 : Int) : St := ⟨bT 59 [(2, .ptr 0 0), (3, .ptr 1 0), (6, .d (eI v10))], [.box (dc (bG aH)), .box (dc (bG aJ))], 0⟩
def A8 (aH : bF) (aJ : bF) (k11 : (Int → Option Bool)) : Int → Option Bool := fun v10 => (bif decide (v10 < (aH.kR.length : Int)) then (aX aH.kR v10).bind fun eY => (aX aJ.kR v10).bind fun x14 => (bif (!Fp eY x14) then some false else k11 (IntKind.i64.wrap (v10 + 1))) else some true)
def Ba (aH : bF) (aJ : bF) : Int → Option Bool := bV (A8 aH aJ) fuel
def Bc (aH : bF) (aJ : bF) (k5 : (Int → Option Bool)) : Int → Option Bool := fun v4 => (bif decide (v4 < (aH.jo.length : Int)) then (aX aH.jo v4).bind fun x7 => (aX aJ.jo v4).bind fun x8 => (bif (!Dw x7 x8) then some false else k5 (IntKind.i64.wrap (v4 + 1))) else Ba aH aJ 0)
def Jp (aH : bF) (aJ : bF) : Int → Option Bool := bV (Bc aH aJ) fuel
def wL (aH : bF) (aJ : bF) : Option Bool := (bif ((aH.jo.length : Int) != (aJ.jo.length : Int)) then some true else some ((aH.kR.length : Int) != (aJ.kR.length : Int))).bind fun x1 => (bif x1 then some false else Jp aH aJ 0)
theorem YB (aH aJ r) (h : wL aH aJ = some r) : Runs Tryz.prog 65 [.d (bG aH), .d (bG aJ)] [] (.d (eB r)) [] := Runs.aK Tryz.func65 rfl <| SP.rg <| .aM 3 <| SP.aC <| SP.rg <| .a 2 <| .p (aI lS aH.jo IY rfl) <| .a 2 <| .p (aI lS aJ.jo IY rfl) <| .a 1 <| bnd h fun x1 hx1 h => .merge 9 [14, 15, 16, 17, 18, 19, 20, 21] 22 (.d (eB x1)) (dQ hx1 (fun hb2 h => .c (congrArg some hb2) <| .aM 8 <| by cases h; kernel_rfl) fun hb2 h => .c (congrArg some hb2) <| .a 2 <| .p (aI nI aH.kR IZ rfl) <| .a 2 <| .p (aI nI aJ.kR IZ rfl) <| .aM 2 <| by cases h; kernel_rfl) <| .bg <| SP.cnd h (fun h => SP.rg <| .aM 1 <| by cases h; exact .ret (aG [])) fun h => SP.skip <| SP.aC <| SP.rg <| .aM 1 <| SP.block <| SP.bV (Yz aH aJ) _ _ _ (ay (mk 59 44) [(0, true), (1, true)]) h <| fun J17 k5 hk5 v4 h => SP.aC <| SP.rg <| .a 3 <| .p (aI lS aH.jo IY rfl) <| .aM 1 <| SP.cnd h (fun h => SP.skip <| SP.aC <| SP.block <| fE h fun x7 hx7 x8 iL h => SP.kQ (by kernel_rfl) (by kernel_rfl) (by kernel_rfl) (.a 3 <| .p (aQ lS hx7 IY afZ rfl) <| .a 4 <| .p (aQ lS iL IY afZ rfl) <| .a 1 <| .p (x := .d (eB (!Dw x7 x8))) (KR [.string x7.User, .int .i64 x7.Thread, .int .i64 x7.Id, .int .i64 x7.Time] [.string x8.User, .int .i64 x8.Thread, .int .i64 x8.Id, .int .i64 x8.Time] (UE x7 x8) (by decide) aoL rfl) <| .nil _) <| SP.cnd h (fun h => SP.rg <| .aM 1 <| by cases h; exact .ret (aG [])) fun h => SP.skip <| SP.bn <| .a 3 <| .nil <| hk5 _ _ (ay (mk 59 44) [(0, true), (1, true)]) h) fun h => SP.exit <| SP.aC <| SP.rg <| .aM 1 <| SP.block <| SP.bV (YA aH aJ) _ _ _ (ay (mk 59 76) [(0, true), (1, true)]) h <| fun J16 k11 Nh v10 h => SP.aC <| SP.rg <| .a 3 <| .p (aI nI aH.kR IZ rfl) <| .aM 1 <| SP.cnd h (fun h => SP.skip <| SP.aC <| SP.block <| fE h fun eY jA x14 je h => SP.kQ (by kernel_rfl) (by kernel_rfl) (by kernel_rfl) (.a 3 <| .p (aQ nI jA IZ af0 rfl) <| .a 4 <| .p (aQ nI je IZ af0 rfl) <| .a 1 <| .p (x := .d (eB (!Fp eY x14))) (KR [.string eY.User, .int .i64 eY.Until] [.string x14.User, .int .i64 x14.Until] (W9 eY x14) (by decide) aoM rfl) <| .nil _) <| SP.cnd h (fun h => SP.rg <| .aM 1 <| by cases h; exact .ret (aG [])) fun h => SP.skip <| SP.bn <| .a 3 <| .nil <| Nh _ _ (ay (mk 59 76) [(0, true), (1, true)]) h) fun h => SP.exit <| SP.rg <| .aM 1 <| by cases h; exact .ret (aG [])
def NH (aH : bF) (aJ : bF) : Option Bool := (bif (aH.Id.toList == aJ.Id.toList) then some (aH.Next == aJ.Next) else some false).bind fun x1 => (bif x1 then (Ih aH.Events aJ.Events).bind fun x5 => some x5 else some false).bind fun x3 => (bif x3 then (Ih aH.Waiting aJ.Waiting).bind fun x8 => some x8 else some false).bind fun x6 => (bif x6 then (AX aH.Rows aJ.Rows).bind fun x11 => some x11 else some false).bind fun x9 => (bif x9 then (AZ aH.yD aJ.yD).bind fun x14 => some x14 else some false).bind fun x12 => (bif x12 then (Nz aH.State aJ.State).bind fun x17 => some x17 else some false).bind fun x15 => (bif x15 then (wL aH aJ).bind fun ku => some ku else some false).bind fun x18 => some x18
theorem KC (aH aJ r) (h : NH aH aJ = some r) : Runs Tryz.prog 21 [.d (bG aH), .d (bG aJ)] [] (.d (eB r)) [] := Runs.aK Tryz.func21 rfl <| SP.rg <| .aM 3 <| SP.rg <| .a 5 <| bnd h fun x1 hx1 h => .merge 7 [10, 11, 12, 13, 14, 15] 16 (.d (eB x1)) (dQ hx1 (fun hb2 h => .c (congrArg some hb2) <| .aM 6 <| by cases h; kernel_rfl) fun hb2 h => .c (congrArg some hb2) <| .aM 6 <| by cases h; kernel_rfl) <| .a 1 <| bnd h fun x3 hx3 h => .merge 6 [18, 19, 20, 21, 22] 23 (.d (eB x3)) (have h := hx3; by cases x1 with | true => exact (have h := aO rfl h; bnd h fun x5 hx5 h => .a 4 <| .call (Ua aH.Events aJ.Events x5 hx5) aj1 <| .aM 1 <| by cases h; kernel_rfl) | false => exact (have h := aN rfl h; .aM 6 <| by cases h; kernel_rfl)) <| .a 1 <| bnd h fun x6 hx6 h => .merge 6 [25, 26, 27, 28, 29] 30 (.d (eB x6)) (have h := hx6; by cases x3 with | true => exact (have h := aO rfl h; bnd h fun x8 iL h => .a 4 <| .call (Ua aH.Waiting aJ.Waiting x8 iL) aj1 <| .aM 1 <| by cases h; kernel_rfl) | false => exact (have h := aN rfl h; .aM 6 <| by cases h; kernel_rfl)) <| .a 1 <| bnd h fun x9 fU h => .merge 6 [32, 33, 34, 35, 36] 37 (.d (eB x9)) (have h := fU; by cases x6 with | true => exact (have h := aO rfl h; bnd h fun x11 fD h => .a 4 <| .call (Yw aH.Rows aJ.Rows x11 fD) aoN <| .aM 1 <| by cases h; kernel_rfl) | false => exact (have h := aN rfl h; .aM 6 <| by cases h; kernel_rfl)) <| .a 1 <| bnd h fun x12 iK h => .merge 6 [39, 40, 41, 42, 43] 44 (.d (eB x12)) (have h := iK; by cases x9 with | true => exact (have h := aO rfl h; bnd h fun x14 je h => .a 4 <| .call (Yy aH.yD aJ.yD x14 je) aoO <| .aM 1 <| by cases h; kernel_rfl) | false => exact (have h := aN rfl h; .aM 6 <| by cases h; kernel_rfl)) <| .a 1 <| bnd h fun x15 jC h => .merge 6 [46, 47, 48, 49, 50] 51 (.d (eB x15)) (have h := jC; by cases x12 with | true => exact (have h := aO rfl h; bnd h fun x17 sF h => .a 4 <| .call (aeJ aH.State aJ.State x17 sF) aoP <| .aM 1 <| by cases h; kernel_rfl) | false => exact (have h := aN rfl h; .aM 6 <| by cases h; kernel_rfl)) <| .a 1 <| bnd h fun x18 nS h => .merge 4 [53, 54, 55] 56 (.d (eB x18)) (have h := nS; by cases x15 with | true => exact (have h := aO rfl h; bnd h fun ku qc h => .a 2 <| .call (YB aH aJ ku qc) aoQ <| .aM 1 <| by cases h; kernel_rfl) | false => exact (have h := aN rfl h; .aM 4 <| by cases h; kernel_rfl)) <| .aM 1 <| by cases h; exact .ret (aG [])
def aeV (aV : bF) (v1 : (List Int)) (v2 : Int) : St := ⟨bT 30 [(1, .ptr 0 0), (3, .aP 1), (4, .d (eI v2))], [.box (dc (bG aV)), .arr 3 1 (List.map eI v1)], 0⟩
def aeW (v2 : Int) (aV : bF) (v5 : (List Int)) : St := ⟨bT 30 [(1, .ptr 0 0), (3, .aP 1), (4, .d (eI v2))], [.box (dc (bG aV)), .arr 3 1 (List.map eI v5)], 0⟩
def KD (k3 : ((List Int) → Int → Option (List Int))) (v2 : Int) (v5 : (List Int)) : Option (List Int) := k3 v5 (IntKind.i64.wrap (v2 + 1))
def KE (aV : bF) (k3 : ((List Int) → Int → Option (List Int))) : (List Int) → Int → Option (List Int) := fun v1 v2 => (bif decide (v2 < (aV.Rows.length : Int)) then (aX aV.Rows v2).bind fun x7 => (bif (!x7.Gone) then (aX aV.Rows v2).bind fun x9 => (gB 8 v1 [x9.Id]).bind fun x10 => KD k3 v2 x10 else KD k3 v2 v1) else some v1)
def Ub (aV : bF) : (List Int) → Int → Option (List Int) := bM (KE aV) fuel
def NI (aV : bF) : Option (List Int) := Ub aV [] 0
theorem Uc (aV r) (h : NI aV = some r) : Runs Tryz.prog 25 [.d (bG aV)] [] (.aP 0) [.arr 3 1 (List.map eI r)] := Runs.aK Tryz.func25 rfl <| SP.rg <| .a 1 <| .e [.box (dc (bG aV)), .arr 3 1 (List.map eI [])] (aT 3 1 rfl) <| .bg <| SP.rg <| .e [.box (dc (bG aV)), .arr 3 1 (List.map eI []), .arr 3 1 (List.map eI [])] (BO iM zero3 [] rfl) <| .aM 1 <| SP.aC <| SP.rg <| .aM 1 <| SP.block <| SP.bM (aeV aV) _ _ _ _ (ay (mk 30 26) [(0, true), (2, true)]) h <| fun J11 k3 hk3 v1 v2 h => SP.aC <| SP.rg <| .a 3 <| .p (aI dP aV.Rows nX rfl) <| .aM 1 <| SP.cnd h (fun h => SP.skip <| SP.join (fun s => ∃ (v5 : (List Int)), Sub s (aeW v2 aV v5) ∧ KD k3 v2 v5 = some r) (by rintro s ⟨v5, hs, h⟩; exact SP.sub hs <| SP.bn <| .a 3 <| .nil <| hk3 _ _ _ (ay (mk 30 26) [(0, true), (1, true)]) h) <| fun K6 => SP.block <| bnd h fun x7 hx7 h => SP.rg <| .a 3 <| .p (aQ dP hx7 nX Gm rfl) <| .aM 3 <| SP.cnd h (fun h => fE h fun x9 fU x10 gI h => SP.bn <| .a 4 <| .p (aQ dP fU nX Gm rfl) <| .a 2 <| .p (fA iM zero3 [eI x9.Id] rfl) <| .e [.box (dc (bG aV)), .dead, .arr 3 1 (List.map eI x10)] (eU (k := 1) eI gI iM (by kernel_rfl) (fun _ => rfl) (by decide) rfl) <| .a 1 <| .nil <| K6 _ ⟨x10, ay (mk 30 26) [(0, true), (2, true)], h⟩) fun h => SP.skip <| K6 _ ⟨v1, ay (mk 30 26) [(0, true), (1, true)], h⟩) fun h => SP.exit <| SP.rg <| .aM 2 <| by cases h; exact .ret (aG [(1, true)])
def OE (v3 : Bool) : St := ⟨bT 24 [(4, .d (eB v3))], [], 0⟩
def pX (v3 : Bool) : Option Bool := some v3
def zf (aV : bF) (dI : ByteArray) : Option Bool := (Jj aV 14).bind fun x1 => (bif x1 then some true else (wJ aV dI).bind fun x5 => (Jl aV dI).bind fun x6 => (NH x5 x6).bind fun x7 => (bif x7 then (qF aV).bind fun x9 => (NI aV).bind fun x10 => (wI x9 x10).bind fun x11 => (bif x11 then (Dl).bind fun eY => pX eY else pX false) else pX false))
theorem OG (aV dI r) (h : zf aV dI = some r) : Runs Tryz.prog 4 [.d (bG aV), .d (eS dI)] [] (.d (eB r)) [] := Runs.aK Tryz.func4 rfl <| SP.rg <| .aM 2 <| SP.aC <| bnd h fun x1 hx1 h => SP.rg <| .a 1 <| .call (adT aV 14 x1 hx1) aoI <| .bg <| SP.cnd h (fun h => SP.rg <| .aM 1 <| by cases h; exact .ret (aG [])) fun h => SP.skip <| SP.join (fun s => ∃ (v3 : Bool), Sub s (OE v3) ∧ pX v3 = some r) (by rintro s ⟨v3, hs, h⟩; exact SP.sub hs <| by cases h; exact .ret (aG [])) <| fun K4 => O6 h fun x5 hx5 x6 hx6 x7 hx7 h => by cases x7 with | true => exact (have h := aO rfl h; O6 h fun x9 fU x10 gI x11 fD h => by cases x11 with | true => exact (have h := aO rfl h; bnd h fun eY jA h => SP.draw (by kernel_rfl) (by kernel_rfl) (by kernel_rfl) (.a 2 <| .call (vk aV dI x5 hx5) ab8 <| .a 2 <| .call (Ig aV dI x6 hx6) af5 <| .call (KC x5 x6 true hx7) af6 <| .a 2 <| .call (ru aV x9 fU).view WZ <| .a 1 <| .call (Uc aV x10 gI).view aj2 <| .call (uo x9 x10 true fD) QG <| .a 2 <| .call (aeT  eY jA) aoR <| .a 2 <| .nil _) <| K4 _ ⟨eY, ay (mk 24 16) [], h⟩) | false => exact (have h := aN rfl h; SP.draw (by kernel_rfl) (by kernel_rfl) (by kernel_rfl) (.a 2 <| .call (vk aV dI x5 hx5) ab8 <| .a 2 <| .call (Ig aV dI x6 hx6) af5 <| .call (KC x5 x6 true hx7) af6 <| .a 2 <| .call (ru aV x9 fU).view WZ <| .a 1 <| .call (Uc aV x10 gI).view aj2 <| .call (uo x9 x10 false fD) QG <| .a 5 <| .nil _) <| K4 _ ⟨false, ay (mk 24 16) [], h⟩)) | false => exact (have h := aN rfl h; SP.draw (by kernel_rfl) (by kernel_rfl) (by kernel_rfl) (.a 2 <| .call (vk aV dI x5 hx5) ab8 <| .a 2 <| .call (Ig aV dI x6 hx6) af5 <| .call (KC x5 x6 false hx7) af6 <| .a 11 <| .nil _) <| K4 _ ⟨false, ay (mk 24 16) [], h⟩)
end Go.Proofs.YtolgdkhlelfpoaaGreat
end
section
namespace Go.Proofs.YtolgdkhlelfpoaaGreat
open Go.RowKit
variable {α : Type}
theorem ajl {R : Type} (c : Bool) (x y : R) : (bif c then some x else some y) = some (bif c then x else y) := by cases c <;> rfl
theorem anK (a b : Bool) : (bif a then true else b) = (a || b) := by cases a <;> rfl
theorem anL {R α : Type} {body : (Int → Option R) → Int → Option R} (l : List α) (hl : l.length < fuel) (q : α → Bool) (g : Nat → Option R) (rest : Option R)
 (hb : ∀ k (i : Nat) (h : i < l.length), body k (i : Int) = bif q l[i] then g i else k (IntKind.i64.wrap ((i : Int) + 1))) (he : ∀ k, body k (l.length : Int) = rest) :
 bV body fuel 0 = if l.findIdx q < l.length then g (l.findIdx q) else rest := by
 have hf : fuel = 9223372036854775808 := rfl
 have key : ∀ n (i : Nat), i + n = l.length → ∀ m, n < m → bV body m (i : Int) = if (l.drop i).findIdx q + i < l.length then g ((l.drop i).findIdx q + i) else rest := by
  intro n
  induction n with
  | zero =>
    intro i hi m hm; obtain ⟨m, rfl⟩ : ∃ m', m = m' + 1 := ⟨m - 1, by omega⟩
    have : i = l.length := by omega
    subst this; show body (bV body m) _ = _; rw [he, List.drop_length, if_neg (by omega)]
  | succ n ih =>
    intro i hi m hm; obtain ⟨m, rfl⟩ : ∃ m', m = m' + 1 := ⟨m - 1, by omega⟩
    have hlt : i < l.length := by omega
    show body (bV body m) _ = _; rw [hb _ i hlt, wrap_succ i (by omega), ih (i + 1) (by omega) m (by omega), List.drop_eq_getElem_cons hlt, List.findIdx_cons]; cases q l[i] with
    | true => simp [hlt]
    | false => simp only [cond_false]; rw [show (l.drop (i + 1)).findIdx q + (i + 1) = (l.drop (i + 1)).findIdx q + 1 + i by omega]
 have := key l.length 0 (by omega) fuel hl; simpa using this
end Go.Proofs.YtolgdkhlelfpoaaGreat
end
section
namespace Go.Proofs.YtolgdkhlelfpoaaGreat
open Go.RowKit
structure D6 (e : aj) : Prop where
 prev : e.iD.length ≤ 40
 auth : e.iw.length ≤ 40
 allow : e.Content.Allow.length ≤ 100
 deny : e.Content.kD.length ≤ 100
 users : e.Content.Levels.Users.length ≤ 100
 kinds : e.Content.Levels.Kinds.length ≤ 100
 room : e.Room.size ≤ 2000
 sender : e.fH.size ≤ 2000
 key : e.Key.size ≤ 2000
 text : e.Content.Text.size ≤ 2000
 via : e.Content.Via.size ≤ 2000
 server : e.tq.Server.size ≤ 2000
 allows : ∀ x ∈ e.Content.Allow, x.size ≤ 2000
 denies : ∀ x ∈ e.Content.kD, x.size ≤ 2000
 names : ∀ x ∈ e.Content.Levels.Users, x.User.size ≤ 2000
theorem iW {a b : Int} (h : decide (a > b) = false) : a ≤ b := by have := of_decide_eq_false h; omega
theorem abj {α : Type} {l : List α} {P : α → Prop} (h : ∀ j, (hl : j < l.length) → P l[j]) : ∀ x ∈ l, P x := fun x hx => by
 obtain ⟨j, hj, rfl⟩ := List.getElem_of_mem hx; exact h j hj
theorem Dn {α : Type} {body : (Int → Option Bool) → Int → Option Bool} (l : List α) (hl : l.length < fuel) (big : α → Bool) (rest : Option Bool) {P : Prop}
 (hb : ∀ (k : Int → Option Bool) (i : Nat) (h : i < l.length), body k (i : Int) = bif big l[i] then some true else k (IntKind.i64.wrap ((i : Int) + 1))) (he : ∀ k, body k (l.length : Int) = rest)
 (hr : (∀ x ∈ l, big x = false) → lu rest (fun b => b = false → P)) : lu (bV body fuel 0) (fun b => b = false → P) := by
 refine acB l.length hl (fun i => ∀ j, (hj : j < i) → (hl : j < l.length) → big l[j] = false) (fun j hj => by omega) ?_ ?_
 · intro i k hi hI hk; have hf : fuel = 9223372036854775808 := rfl; rw [hb k i hi, wrap_succ i (by omega)]; refine lu.bif (fun _ => .ret (fun h => by cases h)) fun e => hk fun j hj hl' => ?_; by_cases ej : j = i
   · subst ej; exact e
   exact hI j (by omega) hl'
 intro k hI; rw [he]; exact hr (abj fun j hj => hI j hj hj)
theorem qj {α R : Type} {l : List α} {i : Nat} (h : i < l.length) (f : α → Option R) (z : Option R) : (bif decide ((i : Int) < (l.length : Int)) then (aX l (i : Int)).bind f else z) = f l[i] := by
 rw [show decide ((i : Int) < (l.length : Int)) = true by simpa using h, pq h]; rfl
theorem uf {α R : Type} {l : List α} (y z : Option R) : (bif decide ((l.length : Int) < (l.length : Int)) then y else z) = z := by
 rw [show decide ((l.length : Int) < (l.length : Int)) = false by simp]; rfl
theorem adW (e : aj) : lu (ND e) (fun b => b = false → D6 e) := by
 have hf : fuel = 9223372036854775808 := rfl; have no : ∀ {P : Prop}, lu (some true) (fun b => b = false → P) := .ret fun h => by cases h
 unfold ND; simp only [ajl, Option.bind_some, anK]; refine lu.bif (fun _ => no) fun a => ?_; refine lu.bif (fun _ => no) fun b => ?_; simp only [Bool.or_eq_false_iff] at a b; obtain ⟨⟨⟨⟨⟨a1, a2⟩, a3⟩, a4⟩, a5⟩, a6⟩ := a; obtain ⟨⟨⟨⟨⟨b1, b2⟩, b3⟩, b4⟩, b5⟩, b6⟩ := b; have a1 := iW a1; have a2 := iW a2; have a3 := iW a3; have a4 := iW a4; have a5 := iW a5; have a6 := iW a6; have b1 := iW b1; have b2 := iW b2; have b3 := iW b3; have b4 := iW b4; have b5 := iW b5; have b6 := iW b6; unfold TW; refine Dn e.Content.Allow (by omega) (fun x => decide ((x.size : Int) > 2000)) (Ku e 0) (fun k i h => ?_) (fun k => ?_) fun c1 => ?_
 · unfold Kv; rw [qj h]
 · unfold Kv; rw [uf]
 unfold Ku; refine Dn e.Content.kD (by omega) (fun x => decide ((x.size : Int) > 2000)) (Kr e 0) (fun k i h => ?_) (fun k => ?_) fun c2 => ?_
 · unfold Kt; rw [qj h]
 · unfold Kt; rw [uf]
 unfold Kr; refine Dn e.Content.Levels.Users (by omega) (fun x => decide ((x.User.size : Int) > 2000)) (some false) (fun k i h => ?_) (fun k => ?_) fun c3 => ?_
 · unfold Kq; rw [qj h]
 · unfold Kq; rw [uf]
 refine .ret fun _ => ⟨by omega, by omega, by omega, by omega, by omega, by omega, by omega, by omega, by omega, by omega, by omega, by omega, fun x hx => ?_, fun x hx => ?_, fun x hx => ?_⟩
 · have := iW (c1 x hx); omega
 · have := iW (c2 x hx); omega
 have := iW (c3 x hx); omega
end Go.Proofs.YtolgdkhlelfpoaaGreat
end
section
namespace Go.Proofs.YtolgdkhlelfpoaaGreat
open Go.RowKit
theorem fuel_lt {n : Nat} (h : n ≤ 1099511627776) : n < fuel := by have : fuel = 9223372036854775808 := rfl; omega
theorem dec_lt {i n : Nat} (h : i < n) : decide ((i : Int) < (n : Int)) = true := by simpa using h
theorem ql (n : Nat) : decide ((n : Int) < (n : Int)) = false := by simp
theorem aj3 {R A α : Type} {body : (A → Int → Option R) → A → Int → Option R} (l : List α) (hl : l.length ≤ 1099511627776) (step : A → α → A) (I : Nat → A → Prop) (fin : A → Option R) {a0 : A} (h0 : I 0 a0)
 (hb : ∀ k a (i : Nat) (h : i < l.length), I i a → I (i + 1) (step a l[i]) ∧ body k a (i : Int) = k (step a l[i]) (IntKind.i64.wrap ((i : Int) + 1)))
 (he : ∀ k a, I l.length a → body k a (l.length : Int) = fin a) : bM body fuel a0 0 = fin (l.foldl step a0) := by
 have key : ∀ n (i : Nat) (a : A), i + n = l.length → I i a → ∀ m, n < m → bM body m a (i : Int) = fin ((l.drop i).foldl step a) := by
  intro n
  induction n with
  | zero =>
    intro i a hi ha m hm; obtain ⟨m, rfl⟩ : ∃ m', m = m' + 1 := ⟨m - 1, by omega⟩
    have : i = l.length := by omega
    subst this; show body (bM body m) _ _ = _; rw [he _ _ ha, List.drop_length]; rfl
  | succ n ih =>
    intro i a hi ha m hm; obtain ⟨m, rfl⟩ : ∃ m', m = m' + 1 := ⟨m - 1, by omega⟩
    have hlt : i < l.length := by omega
    obtain ⟨h1, h2⟩ := hb (bM body m) a i hlt ha; show body (bM body m) _ _ = _; rw [h2, wrap_succ i (by omega), ih (i + 1) _ (by omega) h1 m (by omega), List.drop_eq_getElem_cons hlt, List.foldl_cons]
 have := key l.length 0 a0 (by omega) h0 fuel (fuel_lt hl); simpa using this
theorem anM {R A α : Type} {body : (Int → A → Option R) → Int → A → Option R} (l : List α) (hl : l.length ≤ 1099511627776) (step : A → α → A) (I : Nat → A → Prop) (fin : A → Option R) {a0 : A} (h0 : I 0 a0)
 (hb : ∀ k a (i : Nat) (h : i < l.length), I i a → I (i + 1) (step a l[i]) ∧ body k (i : Int) a = k (IntKind.i64.wrap ((i : Int) + 1)) (step a l[i]))
 (he : ∀ k a, I l.length a → body k (l.length : Int) a = fin a) : bM body fuel 0 a0 = fin (l.foldl step a0) := by
 have key : ∀ n (i : Nat) (a : A), i + n = l.length → I i a → ∀ m, n < m → bM body m (i : Int) a = fin ((l.drop i).foldl step a) := by
  intro n
  induction n with
  | zero =>
    intro i a hi ha m hm; obtain ⟨m, rfl⟩ : ∃ m', m = m' + 1 := ⟨m - 1, by omega⟩
    have : i = l.length := by omega
    subst this; show body (bM body m) _ _ = _; rw [he _ _ ha, List.drop_length]; rfl
  | succ n ih =>
    intro i a hi ha m hm; obtain ⟨m, rfl⟩ : ∃ m', m = m' + 1 := ⟨m - 1, by omega⟩
    have hlt : i < l.length := by omega
    obtain ⟨h1, h2⟩ := hb (bM body m) a i hlt ha; show body (bM body m) _ _ = _; rw [h2, wrap_succ i (by omega), ih (i + 1) _ (by omega) h1 m (by omega), List.drop_eq_getElem_cons hlt, List.foldl_cons]
 have := key l.length 0 a0 (by omega) h0 fuel (fuel_lt hl); simpa using this
theorem afo {α : Type} (p : α → Bool) : ∀ l : List α, l.find? p = l[l.findIdx p]?
 | [] => rfl
 | x :: l => by
   rw [List.find?_cons, List.findIdx_cons]; cases h : p x with
   | true => rfl
   | false => simp [afo p l]
def adX (l : List aj) (id : Int) : Option aj := l.find? fun e => e.Id == id
def aaS (l : List aj) (id : Int) : aj × Bool := match adX l id with
 | some e => (e, true)
 | none => (iI, false)
theorem adY (l : List aj) (hl : l.length ≤ 1099511627776) (f : aj → Option Bool) (p : aj → Bool) (hf : ∀ e, f e = some (p e)) :
 ig l f = some (if l.findIdx p < l.length then ((l.findIdx p : Nat) : Int) else -1) := by
 unfold ig nR; rw [anL l (fuel_lt hl) p (fun i => some (i : Int)) (some (-1))]
 · split <;> rfl
 · intro k i h; unfold kJ; rw [qj h, hf]; rfl
 intro k; unfold kJ; rw [uf]
theorem found_eq (l : List aj) (p : aj → Bool) {n : Int} (hn : n = if l.findIdx p < l.length then ((l.findIdx p : Nat) : Int) else -1) :
 (bif decide (n < 0) then some (iI, false) else (aX l n).bind fun x3 => some (x3, true)) = some (match l.find? p with | some e => (e, true) | none => (iI, false)) := by
 subst hn; rw [afo]; by_cases h : l.findIdx p < l.length
 · rw [if_pos h, List.getElem?_eq_getElem h, show decide (((l.findIdx p : Nat) : Int) < 0) = false by simp, pq h]; rfl
 rw [if_neg h, List.getElem?_eq_none (by omega)]; rfl
theorem adZ (l : List aj) (id : Int) (hl : l.length ≤ 1099511627776) : jD l id = some (aaS l id) := by
 unfold jD JF yE; rw [adY l hl _ (fun e => e.Id == id) fun _ => rfl]; exact found_eq l _ rfl
theorem ad1 (l : List aj) (id : Int) (hl : l.length ≤ 1099511627776) : Ji l id = some (if l.findIdx (fun e => e.Id == id) < l.length then ((l.findIdx (fun e => e.Id == id) : Nat) : Int) else -1) := by
 unfold Ji Qb; rw [anL l (fuel_lt hl) (fun e => e.Id == id) (fun i => some (i : Int)) (some (-1))]
 · split <;> rfl
 · intro k i h; unfold H6; rw [qj h]
 intro k; unfold H6; rw [uf]
theorem agc (l : List aj) (id : Int) (hl : l.length ≤ 1099511627776) : QM l id = some (aaS l id) := by
 unfold QM; rw [ad1 l id hl]; exact found_eq l _ rfl
end Go.Proofs.YtolgdkhlelfpoaaGreat
end
section
namespace Go.Proofs.YtolgdkhlelfpoaaGreat
open Go.RowKit
def YC (l : List aj) (id : Int) : Bool := (adX l id).isSome
def Qj (l : List aj) (id : Int) : List Int := (aaS l id).1.iw
inductive Ch (l : List aj) (ids : List Int) : Int → Prop
 | one {i x : Int} (h : i ∈ ids) (hx : x ∈ Qj l i) (hk : YC l x = true) : Ch l ids x
 | more {y x : Int} (h : Ch l ids y) (hx : x ∈ Qj l y) (hk : YC l x = true) : Ch l ids x
end Go.Proofs.YtolgdkhlelfpoaaGreat
end
section
namespace Go.Proofs.YtolgdkhlelfpoaaGreat
open Go.RowKit
theorem YD {V : Type} : ∀ (m : List (Int × V)) (k k' : Int) (v : V), dJ (fK m k v) k' = bif k' == k then some v else dJ m k'
 | [], k, k', v => by
   unfold fK dJ; rfl
 | p :: m, k, k', v => by
   unfold fK; cases h : k == p.1 with
   | true =>
     have h1 : k = p.1 := by simpa using h
     subst h1; simp only [cond_true, dJ]; cases k' == p.1 <;> rfl
   | false =>
     have h1 : k ≠ p.1 := by simpa using h
     simp only [cond_false, dJ, YD m k k' v]; cases h2 : k' == p.1 with
     | true =>
       have h3 : k' = p.1 := by simpa using h2
       subst h3; have : (p.1 == k) = false := by simpa using fun e : p.1 = k => h1 e.symm
       rw [this]; rfl
     | false => rfl
def acd (l : List aj) (m : List (Int × Int)) : Prop := ∀ id, (dJ m id = none ∧ adX l id = none) ∨ ∃ (n : Nat) (e : aj), dJ m id = some (n : Int) ∧ adX l id = some e ∧ l[n]? = some e
theorem acd.isSome {l : List aj} {m : List (Int × Int)} (h : acd l m) (id : Int) : (dJ m id).isSome = YC l id := by
 unfold YC; rcases h id with ⟨h1, h2⟩ | ⟨n, e, h1, h2, _⟩ <;> rw [h1, h2] <;> rfl
theorem acd.get {l : List aj} {m : List (Int × Int)} (h : acd l m) {id : Int} {e : aj} (hg : adX l id = some e) : aX l ((dJ m id).getD 0) = some e := by
 rcases h id with ⟨_, h2⟩ | ⟨n, e', h1, h2, h3⟩
 · rw [hg] at h2; cases h2
 rw [hg] at h2; cases h2; rw [h1]; show aX l (n : Int) = _; rw [ML, h3]
inductive Rch (l : List aj) (from_ : List Int) : Int → Prop
 | one {x : Int} (h : x ∈ from_) (hk : YC l x = true) : Rch l from_ x
 | more {y x : Int} (h : Rch l from_ y) (hx : x ∈ Qj l y) (hk : YC l x = true) : Rch l from_ x
theorem Rch.YC {l : List aj} {f : List Int} {x : Int} (h : Rch l f x) : YC l x = true := by cases h <;> assumption
structure Mid (l : List aj) (from_ next agd : List Int) (i : Nat) (out later : List Int) (found level : List (Int × Bool)) : Prop where
 found : ∀ x, (dJ found x).getD false = true ↔ x ∈ out
 level : ∀ x, (dJ level x).getD false = true → x ∈ out
 nodup : (anV out).length = out.length
 rch : ∀ x ∈ out, Rch l from_ x
 seen : ∀ x ∈ next.take i, YC l x = true → x ∈ out
 sub : ∀ x ∈ agd, x ∈ out
 ref : ∀ y ∈ out, y ∈ agd ∨ ∀ x ∈ Qj l y, x ∈ later
 back : ∀ x ∈ later, ∃ y ∈ out, x ∈ Qj l y
 size : later.length + 40 * agd.length ≤ 40 * out.length
 same : out.length = agd.length → later = []
end Go.Proofs.YtolgdkhlelfpoaaGreat
end
section
namespace Go.Proofs.YtolgdkhlelfpoaaGreat
open Go.RowKit
theorem ad3 {α : Type} {v : List α} {i : Nat} {x : α} (h : v[i]? = some x) : v.set i x = v := by
 apply List.ext_getElem?; intro j; rw [List.getElem?_set]; split
 · rename_i e; subst e; split
   · rw [h]
   rename_i q; rw [List.getElem?_eq_none (by omega)]
 rfl
theorem ad4 {R α : Type} (go : Nat → Int → List α → Option R) (l : List α) (f : α → α) (fin : List α → Option R) (hl : l.length ≤ 1099511627776)
 (hb : ∀ m (i : Nat) v (h : i < l.length), v.length = l.length → v[i]? = some l[i] → go (m + 1) (i : Int) v = go m (IntKind.i64.wrap ((i : Int) + 1)) (v.set i (f l[i])))
 (he : ∀ m v, v.length = l.length → go (m + 1) (l.length : Int) v = fin v) : go fuel 0 l = fin (l.map f) := by
 have key : ∀ n (i : Nat) (v : List α), i + n = l.length → v = (l.take i).map f ++ l.drop i → ∀ m, n < m → go m (i : Int) v = fin (l.map f) := by
  intro n
  induction n with
  | zero =>
    intro i v hi hv m hm; obtain ⟨m, rfl⟩ : ∃ k, m = k + 1 := ⟨m - 1, by omega⟩
    have hi' : i = l.length := by omega
    subst hi'; have e : v = l.map f := by rw [hv]; simp
    rw [he m v (by rw [e]; simp), e]
  | succ n ih =>
    intro i v hi hv m hm; obtain ⟨m, rfl⟩ : ∃ k, m = k + 1 := ⟨m - 1, by omega⟩
    have h : i < l.length := by omega
    have hA : ((l.take i).map f).length = i := by simp; omega
    have e2 : v = (l.take i).map f ++ l[i] :: l.drop (i + 1) := by rw [hv, List.drop_eq_getElem_cons h]
    have hlen : v.length = l.length := by rw [hv]; simp; omega
    have hget : v[i]? = some l[i] := by rw [e2, List.getElem?_append_right (by omega), hA]; simp
    rw [hb m i v h hlen hget, wrap_succ i (by omega)]; refine ih (i + 1) _ (by omega) ?_ m (by omega); rw [e2, List.set_append_right _ _ (by omega), hA, Nat.sub_self, List.set_cons_zero, List.take_succ_eq_append_getElem h, List.map_append, List.append_assoc]; rfl
 exact key l.length 0 l (by omega) (by simp) fuel (fuel_lt hl)
theorem Ud (l : List aj) : lu (D5 l 14) (fun b => b = false → l.length ≤ 14 ∧ ∀ e ∈ l, D6 e) := by
 have hf : fuel = 9223372036854775808 := rfl; unfold D5; refine lu.bif (fun _ => .ret fun h => by cases h) fun a1 => ?_; have a1 := iW a1; unfold Qc; refine acB l.length (by omega) (fun i => ∀ j, (hj : j < i) → (hl : j < l.length) → D6 l[j]) (fun j hj => by omega) ?_ ?_
 · intro i k hi hI hk; unfold H7; rw [qj hi, wrap_succ i (by omega)]; refine (adW l[i]).bind fun b hb => lu.bif (fun _ => .ret fun h => by cases h) fun e => hk fun j hj hl' => ?_; by_cases ej : j = i
   · subst ej; exact hb e
   exact hI j (by omega) hl'
 intro k hI; unfold H7; rw [uf]; exact .ret fun _ => ⟨by omega, abj fun j hj => hI j hj hj⟩
structure Jq (r : bF) : Prop where
 events : r.Events.length ≤ 14
 small : ∀ e ∈ r.Events, D6 e
 waiting : r.Waiting.length ≤ 14
 apw : ∀ e ∈ r.Waiting, D6 e
 rows : r.Rows.length ≤ 14
 heads : r.yD.length ≤ 40
 state : r.State.length ≤ 60
 apv : r.jo.length ≤ 40
 typing : r.kR.length ≤ 40
theorem ab2 (r : bF) : lu (Jj r 14) (fun b => b = false → Jq r) := by
 have hf : fuel = 9223372036854775808 := rfl; have no : ∀ {P : Prop}, lu (some true) (fun b => b = false → P) := .ret fun h => by cases h
 have c0 : ∀ {b : Bool} {o : Option Bool}, (bif b then some true else o).bind (fun x => some x) = bif b then some true else o := fun {b o} => by cases b <;> simp
 unfold Jj; refine (Ud r.Events).bind fun g1 h1 => ?_; cases g1 with
 | true => simp only [cond_true, Option.bind_some]; exact no
 | false =>
 refine lu.bind (P := fun b => b = false → r.Waiting.length ≤ 14 ∧ ∀ e ∈ r.Waiting, D6 e) ?_ fun g2 h2 => ?_
 · rw [cond_false]; exact (Ud r.Waiting).bind fun b hb => .ret hb
 cases g2 with
 | true => simp only [cond_true, Option.bind_some]; exact no
 | false =>
 simp only [cond_false, Option.bind_some]; obtain ⟨w1, w2⟩ := h2 rfl; obtain ⟨v1, v2⟩ := h1 rfl
 have step : ∀ {a : Bool} {F : Bool → Option Bool}, F true = some true → ((a = false) → lu (F false) (fun b => b = false → Jq r)) → lu (F a) (fun b => b = false → Jq r) := by
  intro a F ht hf; cases a with
  | true => rw [ht]; exact no
  | false => exact hf rfl
 refine step (F := fun a => Option.bind (bif a then some true else some (decide ((r.yD.length : Int) > 40))) _) rfl fun a1 => ?_; simp only [cond_false, Option.bind_some]; refine step (F := fun a => Option.bind (bif a then some true else some (decide ((r.State.length : Int) > 60))) _) rfl fun a2 => ?_; simp only [cond_false, Option.bind_some]; refine step (F := fun a => Option.bind (bif a then some true else some (decide ((r.jo.length : Int) > 40))) _) rfl fun a3 => ?_; simp only [cond_false, Option.bind_some]; refine step (F := fun a => Option.bind (bif a then some true else some (decide ((r.kR.length : Int) > 40))) _) rfl fun a4 => ?_; simp only [cond_false, Option.bind_some]; refine step (F := fun a => Option.bind (bif a then some true else some (decide ((r.Id.size : Int) > 2000))) _) rfl fun a5 => ?_; simp only [cond_false, Option.bind_some]; refine lu.bif (fun _ => no) fun a6 => ?_; have a1 := iW a1; have a2 := iW a2; have a3 := iW a3; have a4 := iW a4; have a5 := iW a5; unfold Qe; refine Dn r.State (by omega) (fun x => decide ((x.Key.size : Int) > 2000)) (Ib r 0) (fun k i h => ?_) (fun k => ?_) fun c1 => ?_
 · unfold Ic; rw [qj h]
 · unfold Ic; rw [uf]
 unfold Ib; refine Dn r.jo (by omega) (fun x => decide ((x.User.size : Int) > 2000)) (H9 r 0) (fun k i h => ?_) (fun k => ?_) fun c2 => ?_
 · unfold Ia; rw [qj h]
 · unfold Ia; rw [uf]
 unfold H9; refine Dn r.kR (by omega) (fun x => decide ((x.User.size : Int) > 2000)) (some false) (fun k i h => ?_) (fun k => ?_) fun c3 => ?_
 · unfold H8; rw [qj h]
 · unfold H8; rw [uf]
 exact .ret fun _ => ⟨v1, v2, w1, w2, by omega, by omega, by omega, by omega, by omega⟩
theorem uw {α : Type} {body : (Int → Option Bool) → Int → Option Bool} (l : List α) (hl : l.length ≤ 1000) (rest : Option Bool) (hb : ∀ k (i : Nat) (h : i < l.length), body k (i : Int) = k (IntKind.i64.wrap ((i : Int) + 1))) (he : ∀ k, body k (l.length : Int) = rest) : bV body fuel 0 = rest := by
 have key : ∀ n (i : Nat), i + n = l.length → ∀ m, n < m → bV body m (i : Int) = rest := by
  intro n
  induction n with
  | zero =>
    intro i hi m hm; obtain ⟨m, rfl⟩ : ∃ k, m = k + 1 := ⟨m - 1, by omega⟩
    rw [show i = l.length by omega]; exact he _
  | succ n ih =>
    intro i hi m hm; obtain ⟨m, rfl⟩ : ∃ k, m = k + 1 := ⟨m - 1, by omega⟩
    have := hb (bV body m) i (by omega); rw [wrap_succ i (by omega)] at this; exact this.trans (ih (i + 1) (by omega) m (by omega))
 exact key l.length 0 (by omega) fuel (fuel_lt (by omega))
theorem KF (n : Int) : (n != n) = false := by simp
theorem ad5 {l : List Int} (h : l.length ≤ 1000) : wI l l = some true := by
 unfold wI TV; rw [KF, cond_false]; exact uw l h _ (fun k i h => by simp only [Ko, dec_lt h, cond_true, pq h, Option.bind_some, bne_self_eq_false, cond_false]) (fun k => by simp only [Ko, ql, cond_false])
theorem ahQ {l : List ByteArray} (h : l.length ≤ 1000) : tY l l = some true := by
 unfold tY Hz; rw [KF, cond_false]; exact uw l h _ (fun k i h => by simp only [yZ, dec_lt h, cond_true, pq h, Option.bind_some, beq_self_eq_true, Bool.not_true, cond_false]) (fun k => by simp only [yZ, ql, cond_false])
theorem anN {l : aY} (h1 : l.Users.length ≤ 1000) (h2 : l.Kinds.length ≤ 1000) : xg l l = some true := by
 have h3 : xO l l 0 = some true := by
  unfold xO; exact uw l.Kinds h2 _ (fun k i h => by simp only [xM, dec_lt h, cond_true, pq h, Option.bind_some, bne_self_eq_false, cond_false, qL]) (fun k => by simp only [xM, ql, cond_false, beq_self_eq_true, cond_true, Option.bind_some])
 unfold xg; rw [KF, KF, cond_false, Option.bind_some, cond_false]; unfold EY; exact uw l.Users h1 _ (fun k i h => by simp only [xP, dec_lt h, cond_true, pq h, Option.bind_some, beq_self_eq_true, Bool.not_true, bne_self_eq_false, cond_false, qK]) (fun k => by simp only [xP, ql, cond_false]; exact h3)
theorem aoT {c : aU} (h1 : c.Allow.length ≤ 1000) (h2 : c.kD.length ≤ 1000) (h3 : c.Levels.Users.length ≤ 1000) (h4 : c.Levels.Kinds.length ≤ 1000) : Ny c c = some true := by
 unfold Ny; simp only [beq_self_eq_true, cond_true, Option.bind_some, ahQ h1, ahQ h2, anN h3 h4]
theorem aoU {e : aj} (h : D6 e) : NC e e = some true := by
 have := h.prev; have := h.auth; have h1 := h.allow; have h2 := h.deny; have h3 := h.users; have h4 := h.kinds; unfold NC; simp only [beq_self_eq_true, cond_true, Option.bind_some, ad5 (l := e.iD) (by omega), ad5 (l := e.iw) (by omega), aoT (c := e.Content) (by omega) (by omega) (by omega) (by omega)]
theorem ahR {l : List aj} (h : l.length ≤ 1000) (hs : ∀ e ∈ l, D6 e) : Ih l l = some true := by
 unfold Ih TY; rw [KF, cond_false]; exact uw l h _ (fun k i h => by simp only [KA, dec_lt h, cond_true, pq h, Option.bind_some, aoU (hs _ (List.getElem_mem h)), Bool.not_true, cond_false]) (fun k => by simp only [KA, ql, cond_false])
theorem ajm {l : List fG} (h : l.length ≤ 1000) : AX l l = some true := by
 unfold AX Jm; rw [KF, cond_false]; exact uw l h _ (fun k i h => by simp only [AU, dec_lt h, cond_true, pq h, Option.bind_some, QH, beq_self_eq_true, Bool.and_true, Bool.not_true, cond_false]) (fun k => by simp only [AU, ql, cond_false])
theorem ajn {l : List Int} (h : l.length ≤ 1000) : AZ l l = some true := by
 unfold AZ Jo; rw [KF, cond_false]; exact uw l h _ (fun k i h => by simp only [AY, dec_lt h, cond_true, pq h, Option.bind_some, bne_self_eq_false, cond_false]) (fun k => by simp only [AY, ql, cond_false])
theorem anO {l : List aA} (h : l.length ≤ 1000) : Nz l l = some true := by
 unfold Nz TU; rw [KF, cond_false]; exact uw l h _ (fun k i h => by simp only [J5, yw, dec_lt h, cond_true, pq h, Option.bind_some, bne_self_eq_false, beq_self_eq_true, Bool.not_true, cond_false]) (fun k => by simp only [J5, ql, cond_false])
theorem ajo {r : bF} (h1 : r.jo.length ≤ 1000) (h2 : r.kR.length ≤ 1000) : wL r r = some true := by
 have h3 : Ba r r 0 = some true := by
  unfold Ba; exact uw r.kR h2 _ (fun k i h => by simp only [A8, dec_lt h, cond_true, pq h, Option.bind_some, Fp, beq_self_eq_true, Bool.and_true, Bool.not_true, cond_false]) (fun k => by simp only [A8, ql, cond_false])
 unfold wL; rw [KF, KF, cond_false, Option.bind_some, cond_false]; unfold Jp; exact uw r.jo h1 _ (fun k i h => by simp only [Bc, dec_lt h, cond_true, pq h, Option.bind_some, Dw, beq_self_eq_true, Bool.and_true, Bool.not_true, cond_false]) (fun k => by simp only [Bc, ql, cond_false]; exact h3)
theorem ajp {r : bF} (h : Jq r) (rows : List fG) (hr : rows.length ≤ 1000) : NH { r with Rows := rows } { r with Rows := rows } = some true := by
 obtain ⟨h1, h2, h3, h4, h5, h6, h7, h8, h9⟩ := h; have e : wL { r with Rows := rows } { r with Rows := rows } = some true := ajo (r := { r with Rows := rows }) (by show r.jo.length ≤ 1000; omega) (by show r.kR.length ≤ 1000; omega); unfold NH; simp only [beq_self_eq_true, cond_true, Option.bind_some, ahR (l := r.Events) (by omega) h2, ahR (l := r.Waiting) (by omega) h4, ajm hr, ajn (l := r.yD) (by omega), anO (l := r.State) (by omega), e]
def agf (e : aj) : Bool := (e.Kind == 11 || e.Kind == 12) || e.Kind == 13
theorem YE (e : aj) : qZ e = some (agf e) := by
 unfold qZ agf; cases (e.Kind == 11) <;> cases (e.Kind == 12) <;> cases (e.Kind == 13) <;> rfl
theorem agh (e : aj) : Kw e = some (agf e) := YE e
def Ii (l : List aj) (user : ByteArray) (id : Int) : Bool := (aaS l id).2 && (agf (aaS l id).1 && ((aaS l id).1.fH.toList == user.toList))
def gone (g : Int → Bool) (x : fG) : fG := bif g x.Id then { x with Gone := true } else x
theorem ahS (r : bF) (m : List (Int × Bool)) (g : Int → Bool) (hr : r.Rows.length ≤ 1000) (hm : ∀ x ∈ r.Rows, (dJ m x.Id).getD false = g x.Id) : tZ r m = some ({ r with Rows := r.Rows.map (gone g) }, []) := by
 unfold tZ; rw [Qw (by simp; omega), List.nil_append, Option.bind_some]; unfold Ie; refine ad4 (fun n i v => oP (lD r.Rows r) n i m v) r.Rows (gone g) (fun v => some ({ r with Rows := v }, [])) (by omega) ?_ ?_
 · intro n i v h hv hg; show lD r.Rows r _ (i : Int) m v = _; unfold lD; rw [dec_lt h, cond_true, ML, hg, Option.bind_some, Option.bind_some, hm _ (List.getElem_mem h), pU, pU, Int.toNat_natCast]; show _ = oP (lD r.Rows r) n (IntKind.i64.wrap ((i : Int) + 1)) m (v.set i (gone g r.Rows[i])); unfold gone; cases g r.Rows[i].Id with
   | true => rfl
   | false => rw [cond_false, cond_false, ad3 hg]; rfl
 intro n v hv; show lD r.Rows r _ (r.Rows.length : Int) m v = _; unfold lD; rw [ql, cond_false]
theorem three {R : Type} {b c d : Bool} {k : Bool → Option R} : (bif b then some c else some false).bind (fun x9 => (bif x9 then some d else some false).bind k) = k (b && (c && d)) := by cases b <;> cases c <;> rfl
theorem abk (g : Int → Bool) : ∀ (l : List fG) (m : List (Int × Bool)) (id : Int), (dJ (l.foldl (fun m x => bif g x.Id then fK m x.Id true else m) m) id).getD false = ((l.any fun x => x.Id == id && g id) || (dJ m id).getD false)
 | [], m, id => by simp
 | x :: l, m, id => by
   rw [List.foldl_cons, abk g l, List.any_cons]; cases hg : g x.Id with
   | true =>
     rw [cond_true, YD]; cases h : (id == x.Id) with
     | true => have e : id = x.Id := by simpa using h
               subst e; simp [hg]
     | false =>
       have e : (x.Id == id) = false := by rw [beq_eq_false_iff_ne] at h ⊢; exact fun q => h q.symm
       simp [e]
   | false =>
     rw [cond_false]; cases h : (x.Id == id) with
     | true => have e : x.Id = id := by simpa using h
               subst e; simp [hg]
     | false => simp
theorem ajq (r : bF) (user : ByteArray) (hr : r.Rows.length ≤ 1000) (he : r.Events.length ≤ 1000) : wJ r user = some { r with Rows := r.Rows.map (gone (Ii r.Events user)) } := by
 unfold wJ Jk; rw [anM r.Rows (by omega) (fun m x => bif Ii r.Events user x.Id then fK m x.Id true else m) (fun _ _ => True) (fun m => (tZ r m).bind fun x => some x.1) trivial]
 · rw [ahS r _ (Ii r.Events user) hr fun x hx => ?_]; rfl; rw [abk]; cases h : Ii r.Events user x.Id with
   | true =>
     have : (r.Rows.any fun y => y.Id == x.Id && true) = true := List.any_eq_true.2 ⟨x, hx, by simp⟩; rw [this]; rfl
   | false => simp [dJ]
 · intro k a i h _; refine ⟨trivial, ?_⟩; unfold AQ; rw [qj h, adZ _ _ (by omega), Option.bind_some, YE, Option.bind_some, three]; show (bif Ii r.Events user r.Rows[i].Id then _ else _) = _; unfold vg; cases Ii r.Events user r.Rows[i].Id <;> rfl
 intro k a _; unfold AQ; rw [uf]
theorem ad6 (r : bF) (user : ByteArray) (hr : r.Rows.length ≤ 1000) (he : r.Events.length ≤ 1000) : Jl r user = some { r with Rows := r.Rows.map (gone (Ii r.Events user)) } := by
 unfold Jl; rw [Qw (by simp; omega), List.nil_append, Option.bind_some]; unfold Qi; refine ad4 (fun n i v => bM (pV r user) n i v) r.Rows (gone (Ii r.Events user)) (fun v => some { r with Rows := v }) (by omega) ?_ ?_
 · intro n i v h hv hg; show pV r user _ (i : Int) v = _; unfold pV; rw [hv, dec_lt h, cond_true, ML, hg, Option.bind_some, agc _ _ (by omega), Option.bind_some, agh, Option.bind_some, three, Option.bind_some, wK, wK, Int.toNat_natCast]; show (bif Ii r.Events user r.Rows[i].Id then _ else _) = bM (pV r user) n (IntKind.i64.wrap ((i : Int) + 1)) (v.set i (gone (Ii r.Events user) r.Rows[i])); unfold gone; cases Ii r.Events user r.Rows[i].Id with
   | true => rfl
   | false => rw [cond_false, cond_false, ad3 hg]; rfl
 intro n v hv; show pV r user _ (r.Rows.length : Int) v = _; unfold pV; rw [hv, ql, cond_false]
def ace (l : List fG) : List Int := l.foldl (fun a x => bif !x.Gone then a ++ [x.Id] else a) []
theorem alq (r : bF) (hr : r.Rows.length ≤ 1000) : qF r = some (ace r.Rows) := by
 unfold qF LX; rw [aj3 r.Rows (by omega) (fun a x => bif !x.Gone then a ++ [x.Id] else a) (fun i a => a.length ≤ i) some (a0 := []) (Nat.le_refl 0)]
 · rfl
 · intro k a i h hI; unfold Dk; rw [qj h]; cases r.Rows[i].Gone with
   | true => exact ⟨by simp; omega, rfl⟩
   | false =>
     refine ⟨by simp; omega, ?_⟩; rw [Qw (by simp; omega)]; rfl
 intro k a _; unfold Dk; rw [uf]
theorem aeX (r : bF) (hr : r.Rows.length ≤ 1000) : NI r = some (ace r.Rows) := by
 unfold NI Ub; rw [aj3 r.Rows (by omega) (fun a x => bif !x.Gone then a ++ [x.Id] else a) (fun i a => a.length ≤ i) some (a0 := []) (Nat.le_refl 0)]
 · rfl
 · intro k a i h hI; unfold KE; rw [qj h, pq h, Option.bind_some]; cases r.Rows[i].Gone with
   | true => exact ⟨by simp; omega, rfl⟩
   | false =>
     refine ⟨by simp; omega, ?_⟩; rw [Qw (by simp; omega)]; rfl
 intro k a _; unfold KE; rw [uf]
theorem ajr (l : List fG) : (ace l).length ≤ l.length := by
 have key : ∀ (l : List fG) (a : List Int), (l.foldl (fun a x => bif !x.Gone then a ++ [x.Id] else a) a).length ≤ a.length + l.length := by
  intro l
  induction l with
  | nil => intro a; simp
  | cons x l ih =>
    intro a; rw [List.foldl_cons]; refine Nat.le_trans (ih _) ?_; cases x.Gone <;> simp <;> omega
 simpa [ace] using key l []
theorem anP : Dl = some true := by kernel_rfl
theorem agi (r : bF) (user : ByteArray) : zf r user = some true := by
 unfold zf; refine lu.eq ((ab2 r).bind fun b hb => lu.bif (fun _ => .ret rfl) fun e => ?_); have h := hb e; have hr := h.rows; have hev := h.events
 rw [ajq r user (by omega) (by omega), ad6 r user (by omega) (by omega), Option.bind_some, Option.bind_some, ajp h _ (by simp; omega), Option.bind_some, cond_true, alq r (by omega), aeX r (by omega), Option.bind_some, Option.bind_some,
  ad5 (Nat.le_trans (ajr _) (by omega)), Option.bind_some, cond_true, anP]
 exact .ret rfl
end Go.Proofs.YtolgdkhlelfpoaaGreat
end
