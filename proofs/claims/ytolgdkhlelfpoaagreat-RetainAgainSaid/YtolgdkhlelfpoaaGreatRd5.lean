/- Part 5 of what the laws' proofs lean on: states of the walk, typed functions of the program and their laws (short forms written by wip/shrink.py; no condition). -/
import Derived.Test.YtolgdkhlelfpoaaGreatRd4
set_option linter.unusedVariables false
set_option linter.unusedSimpArgs false
section
namespace Go.Proofs.YtolgdkhlelfpoaaGreat
open Go.RowKit
set_option maxRecDepth 20000
set_option maxHeartbeats 4000000
def Lh (mP : Int) (EO : Int) (Cc : Bool) : Option Bool:=(bif decide (mP < 0) then some true else some (decide (mP > 4))).bind fun x1=>(bif x1 then some false else (bif (EO == 3) then (bif Cc then some (mP != 4) else some false).bind fun x5=>some x5 else (bif (EO == 0) then (bif (mP == 1) then some true else some (mP == 2)).bind fun x8=>(bif x8 then some true else some (mP == 3)).bind fun x10=>(bif x10 then some true else (bif (mP == 4) then some (!Cc) else some false).bind fun x14=>some x14).bind fun x12=>some x12 else (bif (EO == 2) then (bif Cc then (bif (mP == 0) then some true else some (mP == 2)).bind fun x19=>some x19 else some false).bind fun x17=>some x17 else (bif (EO == 1) then (bif (!Cc) then (bif (mP == 0) then some true else some (mP == 2)).bind fun x24=>(bif x24 then some true else some (mP == 1)).bind fun pR=>some pR else some false).bind fun pO=>some pO else (bif (EO == 4) then some (!Cc) else some false))))))
def akA (aH : (List au)) (aI : (List au)) (v2 : Int) : St:=⟨bZ 54 [(0,.d ((eL ay) aH)),(1,.d ((eL ay) aI)),(5,.d (eI v2))], [],0⟩
def akB (aH : (List au)) (aI : (List au)) (v2 : Int) (v5 : Bool) : St:=⟨bZ 54 [(0,.d ((eL ay) aH)),(1,.d ((eL ay) aI)),(5,.d (eI v2)),(53,.d (eB v5))], [],0⟩
def GL (k3 : (Int → Option Bool)) (v2 : Int) (v5 : Bool) : Option Bool:=(bif v5 then some false else k3 (IntKind.i64.wrap (v2 + 1)))
def UE (aH : (List au)) (aI : (List au)) (k3 : (Int → Option Bool)) : Int → Option Bool:=fun v2=>(bif decide (v2 < (aH.length : Int)) then (aX aH v2).bind fun x8=>(aX aI v2).bind fun x9=>(bif (x8.Kind != x9.Kind) then GL k3 v2 true else (aX aH v2).bind fun x11=>(aX aI v2).bind fun x12=>(bif (!(x11.Key.toList == x12.Key.toList)) then GL k3 v2 true else (aX aH v2).bind fun x14=>(aX aI v2).bind fun x15=>GL k3 v2 (x14.Id != x15.Id))) else some true)
def aa5 (aH : (List au)) (aI : (List au)) : Int → Option Bool:=bQ (UE aH aI) fuel
def Xj (aH : (List au)) (aI : (List au)) : Option Bool:=(bif ((aH.length : Int) != (aI.length : Int)) then some false else aa5 aH aI 0)
theorem akC (aH aI r) (h : Xj aH aI = some r) : Runs Tryz.prog 37 [.d ((eL ay) aH),.d ((eL ay) aI)] [] (.d (eB r)) []:=Runs.aK Tryz.func37 rfl <| SP.rg <| .aM 1 <| SP.aC <| SP.rg <| .a 1 <| .p (aJ ay aH lC rfl) <| .a 1 <| .p (aJ ay aI lC rfl) <| .aM 1 <| SP.cnd h (fun h=>SP.rg <| .aM 1 <| by cases h;exact .ret (aG [])) fun h=>SP.skip <| SP.aC <| SP.rg <| .aM 1 <| SP.block <| SP.bQ (akA aH aI) _ _ _ (aA (mk 54 35) []) h <| fun J16 k3 hk3 v2 h=>SP.aC <| SP.rg <| .a 2 <| .p (aJ ay aH lC rfl) <| .aM 1 <| SP.cnd h (fun h=>SP.skip <| SP.aC <| SP.block <| SP.join (fun s=>∃ (v5 : Bool),Sub s (akB aH aI v2 v5) ∧ GL k3 v2 v5 = some r) (by rintro s ⟨v5,hs,h⟩;exact SP.sub hs <| SP.cnd h (fun h=>SP.rg <| .aM 1 <| by cases h;exact .ret (aG [])) fun h=>SP.skip <| SP.bF <| .a 3 <| .nil <| hk3 _ _ (aA (mk 54 35) []) h) <| fun K7=>gu h fun x8 jl x9 iK h=>dY h (fun lV h=>SP.draw (by kernel_rfl) (by kernel_rfl) (by kernel_rfl) (.a 2 <| .p (aT ay jl lC uo rfl) <| .a 4 <| .p (aT ay iK lC uo rfl) <| .a 3 <| .c (congrArg some lV) <| .a 25 <| .nil _) <| K7 _ ⟨true,aA (mk 54 9007199254741027) [],h⟩) fun lV h=>gu h fun x11 fZ x12 jB h=>dY h (fun oz h=>SP.draw (by kernel_rfl) (by kernel_rfl) (by kernel_rfl) (.a 2 <| .p (aT ay jl lC uo rfl) <| .a 4 <| .p (aT ay iK lC uo rfl) <| .a 3 <| .c (congrArg some lV) <| .a 2 <| .p (aT ay fZ lC uo rfl) <| .a 4 <| .p (aT ay jB lC uo rfl) <| .a 4 <| .c (congrArg some oz) <| .a 12 <| .nil _) <| K7 _ ⟨true,aA (mk 54 9007199254741027) [],h⟩) fun oz h=>gu h fun x14 jD x15 jX h=>SP.draw (by kernel_rfl) (by kernel_rfl) (by kernel_rfl) (.a 2 <| .p (aT ay jl lC uo rfl) <| .a 4 <| .p (aT ay iK lC uo rfl) <| .a 3 <| .c (congrArg some lV) <| .a 2 <| .p (aT ay fZ lC uo rfl) <| .a 4 <| .p (aT ay jB lC uo rfl) <| .a 4 <| .c (congrArg some oz) <| .a 2 <| .p (aT ay jD lC uo rfl) <| .a 4 <| .p (aT ay jX lC uo rfl) <| .a 4 <| .nil _) <| K7 _ ⟨(x14.Id != x15.Id),aA (mk 54 9007199254741027) [],h⟩) fun h=>SP.exit <| SP.rg <| .aM 1 <| by cases h;exact .ret (aG [])
def akD (aH : (List Int)) (aI : (List Int)) (v2 : Int) : St:=⟨bZ 26 [(0,.d ((eL eI) aH)),(1,.d ((eL eI) aI)),(5,.d (eI v2))], [],0⟩
def UF (aH : (List Int)) (aI : (List Int)) (k3 : (Int → Option Bool)) : Int → Option Bool:=fun v2=>(bif decide (v2 < (aH.length : Int)) then (aX aH v2).bind fun x5=>(aX aI v2).bind fun x6=>(bif (x5 != x6) then some false else k3 (IntKind.i64.wrap (v2 + 1))) else some true)
def aa6 (aH : (List Int)) (aI : (List Int)) : Int → Option Bool:=bQ (UF aH aI) fuel
def H9 (aH : (List Int)) (aI : (List Int)) : Option Bool:=(bif ((aH.length : Int) != (aI.length : Int)) then some false else aa6 aH aI 0)
theorem MH (aH aI r) (h : H9 aH aI = some r) : Runs Tryz.prog 17 [.d ((eL eI) aH),.d ((eL eI) aI)] [] (.d (eB r)) []:=Runs.aK Tryz.func17 rfl <| SP.rg <| .aM 1 <| SP.aC <| SP.rg <| .a 1 <| .p (aJ eI aH dJ rfl) <| .a 1 <| .p (aJ eI aI dJ rfl) <| .aM 1 <| SP.cnd h (fun h=>SP.rg <| .aM 1 <| by cases h;exact .ret (aG [])) fun h=>SP.skip <| SP.aC <| SP.rg <| .aM 1 <| SP.block <| SP.bQ (akD aH aI) _ _ _ (aA (mk 26 35) []) h <| fun J8 k3 hk3 v2 h=>SP.aC <| SP.rg <| .a 2 <| .p (aJ eI aH dJ rfl) <| .aM 1 <| SP.cnd h (fun h=>SP.skip <| SP.aC <| SP.block <| gu h fun x5 hx5 x6 hx6 h=>SP.nH (by kernel_rfl) (by kernel_rfl) (by kernel_rfl) (.a 2 <| .p (aT eI hx5 dJ iO rfl) <| .a 3 <| .p (aT eI hx6 dJ iO rfl) <| .a 2 <| .nil _) <| SP.cnd h (fun h=>SP.rg <| .aM 1 <| by cases h;exact .ret (aG [])) fun h=>SP.skip <| SP.bF <| .a 3 <| .nil <| hk3 _ _ (aA (mk 26 35) []) h) fun h=>SP.exit <| SP.rg <| .aM 1 <| by cases h;exact .ret (aG [])
def Xk (aH : ah) (aI : ah) : Option Bool:=(bif (aH.Id == aI.Id) then some (aH.Room.toList == aI.Room.toList) else some false).bind fun x1=>(bif x1 then some (aH.cZ.toList == aI.cZ.toList) else some false).bind fun x3=>(bif x3 then some (aH.Kind == aI.Kind) else some false).bind fun x5=>(bif x5 then some (aH.State == aI.State) else some false).bind fun x7=>(bif x7 then some (aH.Key.toList == aI.Key.toList) else some false).bind fun x9=>(bif x9 then some (aH.Time == aI.Time) else some false).bind fun x11=>(bif x11 then some (aH.Depth == aI.Depth) else some false).bind fun fD=>(bif fD then (H9 aH.gy aI.gy).bind fun x17=>some x17 else some false).bind fun x15=>(bif x15 then (H9 aH.fB aI.fB).bind fun kX=>some kX else some false).bind fun x18=>(bif x18 then (Xi aH.Content aI.Content).bind fun x23=>some x23 else some false).bind fun x21=>(bif x21 then some (aH.Hash == aI.Hash) else some false).bind fun x24=>(bif x24 then some (aH.zV.Server.toList == aI.zV.Server.toList) else some false).bind fun pR=>(bif pR then some (aH.zV.Sum == aI.zV.Sum) else some false).bind fun x28=>some x28
theorem akE (aH aI r) (h : Xk aH aI = some r) : Runs Tryz.prog 50 [.d (aj aH),.d (aj aI)] [] (.d (eB r)) []:=Runs.aK Tryz.func50 rfl <| SP.rg <| .aM 3 <| SP.rg <| .a 5 <| bnd h fun x1 hx1 h=>.merge 7 [10,11,12,13,14,15] 16 (.d (eB x1)) (dY hx1 (fun hb2 h=>.c (congrArg some hb2) <| .aM 6 <| by cases h;kernel_rfl) fun hb2 h=>.c (congrArg some hb2) <| .aM 6 <| by cases h;kernel_rfl) <| .a 1 <| bnd h fun x3 hx3 h=>.merge 6 [18,19,20,21,22] 23 (.d (eB x3)) (have h:=hx3;by cases x1 with | true=>exact (have h:=aO rfl h;.aM 6 <| by cases h;kernel_rfl) | false=>exact (have h:=aN rfl h;.aM 6 <| by cases h;kernel_rfl)) <| .a 1 <| bnd h fun x5 hx5 h=>.merge 6 [25,26,27,28,29] 30 (.d (eB x5)) (have h:=hx5;by cases x3 with | true=>exact (have h:=aO rfl h;.aM 6 <| by cases h;kernel_rfl) | false=>exact (have h:=aN rfl h;.aM 6 <| by cases h;kernel_rfl)) <| .a 1 <| bnd h fun x7 hx7 h=>.merge 6 [32,33,34,35,36] 37 (.d (eB x7)) (have h:=hx7;by cases x5 with | true=>exact (have h:=aO rfl h;.aM 6 <| by cases h;kernel_rfl) | false=>exact (have h:=aN rfl h;.aM 6 <| by cases h;kernel_rfl)) <| .a 1 <| bnd h fun x9 iK h=>.merge 6 [39,40,41,42,43] 44 (.d (eB x9)) (have h:=iK;by cases x7 with | true=>exact (have h:=aO rfl h;.aM 6 <| by cases h;kernel_rfl) | false=>exact (have h:=aN rfl h;.aM 6 <| by cases h;kernel_rfl)) <| .a 1 <| bnd h fun x11 fZ h=>.merge 6 [46,47,48,49,50] 51 (.d (eB x11)) (have h:=fZ;by cases x9 with | true=>exact (have h:=aO rfl h;.aM 6 <| by cases h;kernel_rfl) | false=>exact (have h:=aN rfl h;.aM 6 <| by cases h;kernel_rfl)) <| .a 1 <| bnd h fun fD kH h=>.merge 6 [53,54,55,56,57] 58 (.d (eB fD)) (have h:=kH;by cases x11 with | true=>exact (have h:=aO rfl h;.aM 6 <| by cases h;kernel_rfl) | false=>exact (have h:=aN rfl h;.aM 6 <| by cases h;kernel_rfl)) <| .a 1 <| bnd h fun x15 jX h=>.merge 6 [60,61,62,63,64] 65 (.d (eB x15)) (have h:=jX;by cases fD with | true=>exact (have h:=aO rfl h;bnd h fun x17 yj h=>.a 4 <| .call (MH aH.gy aI.gy x17 yj) aib <| .aM 1 <| by cases h;kernel_rfl) | false=>exact (have h:=aN rfl h;.aM 6 <| by cases h;kernel_rfl)) <| .a 1 <| bnd h fun x18 sS h=>.merge 6 [67,68,69,70,71] 72 (.d (eB x18)) (have h:=sS;by cases x15 with | true=>exact (have h:=aO rfl h;bnd h fun kX wP h=>.a 4 <| .call (MH aH.fB aI.fB kX wP) aib <| .aM 1 <| by cases h;kernel_rfl) | false=>exact (have h:=aN rfl h;.aM 6 <| by cases h;kernel_rfl)) <| .a 1 <| bnd h fun x21 yh h=>.merge 6 [74,75,76,77,78] 79 (.d (eB x21)) (have h:=yh;by cases x18 with | true=>exact (have h:=aO rfl h;bnd h fun x23 Uj h=>.a 4 <| .call (akz aH.Content aI.Content x23 Uj) awW <| .aM 1 <| by cases h;kernel_rfl) | false=>exact (have h:=aN rfl h;.aM 6 <| by cases h;kernel_rfl)) <| .a 1 <| bnd h fun x24 hx24 h=>.merge 6 [81,82,83,84,85] 86 (.d (eB x24)) (have h:=hx24;by cases x21 with | true=>exact (have h:=aO rfl h;.aM 6 <| by cases h;kernel_rfl) | false=>exact (have h:=aN rfl h;.aM 6 <| by cases h;kernel_rfl)) <| .a 1 <| bnd h fun pR D7 h=>.merge 8 [88,89,90,91,92,93,94] 95 (.d (eB pR)) (have h:=D7;by cases x24 with | true=>exact (have h:=aO rfl h;.aM 8 <| by cases h;kernel_rfl) | false=>exact (have h:=aN rfl h;.aM 8 <| by cases h;kernel_rfl)) <| .a 1 <| bnd h fun x28 hx28 h=>.merge 8 [97,98,99,100,101,102,103] 104 (.d (eB x28)) (have h:=hx28;by cases pR with | true=>exact (have h:=aO rfl h;.aM 8 <| by cases h;kernel_rfl) | false=>exact (have h:=aN rfl h;.aM 8 <| by cases h;kernel_rfl)) <| .aM 1 <| by cases h;exact .ret (aG [])
def akF (aB : ah) (v23 : Int) : St:=⟨bZ 125 [(3,.ptr 0 0),(4,.d (eI v23))], [.box (dc (bU aB.Content))],0⟩
def akG (aB : ah) (v28 : Int) : St:=⟨bZ 125 [(3,.ptr 0 0),(5,.d (eI v28))], [.box (dc (bU aB.Content))],0⟩
def akH (aB : ah) (v33 : Int) : St:=⟨bZ 125 [(3,.ptr 0 0),(6,.d (eI v33))], [.box (dc (bU aB.Content))],0⟩
def UG (aB : ah) (k34 : (Int → Option Bool)) : Int → Option Bool:=fun v33=>(bif decide (v33 < (aB.Content.Levels.Users.length : Int)) then (aX aB.Content.Levels.Users v33).bind fun Nc=>(bif decide ((Nc.User.size : Int) > 2000) then some true else k34 (IntKind.i64.wrap (v33 + 1))) else some false)
def UH (aB : ah) : Int → Option Bool:=bQ (UG aB) fuel
def UJ (aB : ah) (k29 : (Int → Option Bool)) : Int → Option Bool:=fun v28=>(bif decide (v28 < (aB.Content.kT.length : Int)) then (aX aB.Content.kT v28).bind fun x31=>(bif decide ((x31.size : Int) > 2000) then some true else k29 (IntKind.i64.wrap (v28 + 1))) else UH aB 0)
def UK (aB : ah) : Int → Option Bool:=bQ (UJ aB) fuel
def UL (aB : ah) (k24 : (Int → Option Bool)) : Int → Option Bool:=fun v23=>(bif decide (v23 < (aB.Content.Allow.length : Int)) then (aX aB.Content.Allow v23).bind fun pR=>(bif decide ((pR.size : Int) > 2000) then some true else k24 (IntKind.i64.wrap (v23 + 1))) else UK aB 0)
def aa7 (aB : ah) : Int → Option Bool:=bQ (UL aB) fuel
def Xl (aB : ah) : Option Bool:=(bif decide ((aB.gy.length : Int) > 40) then some true else some (decide ((aB.fB.length : Int) > 40))).bind fun x1=>(bif x1 then some true else some (decide ((aB.Content.Allow.length : Int) > 40))).bind fun x3=>(bif x3 then some true else some (decide ((aB.Content.kT.length : Int) > 40))).bind fun x5=>(bif x5 then some true else some (decide ((aB.Content.Levels.Users.length : Int) > 40))).bind fun x7=>(bif x7 then some true else some (decide ((aB.Content.Levels.Kinds.length : Int) > 40))).bind fun x9=>(bif x9 then some true else (bif decide ((aB.Room.size : Int) > 2000) then some true else some (decide ((aB.cZ.size : Int) > 2000))).bind fun x12=>(bif x12 then some true else some (decide ((aB.Key.size : Int) > 2000))).bind fun x14=>(bif x14 then some true else some (decide ((aB.Content.Text.size : Int) > 2000))).bind fun x16=>(bif x16 then some true else some (decide ((aB.Content.Via.size : Int) > 2000))).bind fun x18=>(bif x18 then some true else some (decide ((aB.zV.Server.size : Int) > 2000))).bind fun kX=>(bif kX then some true else aa7 aB 0))
theorem akI (aB r) (h : Xl aB = some r) : Runs Tryz.prog 100 [.d (aj aB)] [] (.d (eB r)) []:=Runs.aK Tryz.func100 rfl <| SP.rg <| .aM 2 <| SP.rg <| .aM 4 <| SP.aC <| SP.rg <| .a 2 <| .p (aJ eI aB.gy dJ rfl) <| .a 1 <| bnd h fun x1 hx1 h=>.merge 6 [13,14,15,16,17] 18 (.d (eB x1)) (dY hx1 (fun hb2 h=>.c (congrArg some hb2) <| .aM 5 <| by cases h;kernel_rfl) fun hb2 h=>.c (congrArg some hb2) <| .a 2 <| .p (aJ eI aB.fB dJ rfl) <| .aM 2 <| by cases h;kernel_rfl) <| .a 1 <| bnd h fun x3 hx3 h=>.merge 5 [20,21,22,23] 24 (.d (eB x3)) (have h:=hx3;by cases x1 with | true=>exact (have h:=aO rfl h;.aM 5 <| by cases h;kernel_rfl) | false=>exact (have h:=aN rfl h;.a 2 <| .p (aJ eS aB.Content.Allow kS rfl) <| .aM 2 <| by cases h;kernel_rfl)) <| .a 1 <| bnd h fun x5 hx5 h=>.merge 5 [26,27,28,29] 30 (.d (eB x5)) (have h:=hx5;by cases x3 with | true=>exact (have h:=aO rfl h;.aM 5 <| by cases h;kernel_rfl) | false=>exact (have h:=aN rfl h;.a 2 <| .p (aJ eS aB.Content.kT kS rfl) <| .aM 2 <| by cases h;kernel_rfl)) <| .a 1 <| bnd h fun x7 hx7 h=>.merge 6 [32,33,34,35,36] 37 (.d (eB x7)) (have h:=hx7;by cases x5 with | true=>exact (have h:=aO rfl h;.aM 6 <| by cases h;kernel_rfl) | false=>exact (have h:=aN rfl h;.a 3 <| .p (aJ cu aB.Content.Levels.Users lM rfl) <| .aM 2 <| by cases h;kernel_rfl)) <| .a 1 <| bnd h fun x9 iK h=>.merge 6 [39,40,41,42,43] 44 (.d (eB x9)) (have h:=iK;by cases x7 with | true=>exact (have h:=aO rfl h;.aM 6 <| by cases h;kernel_rfl) | false=>exact (have h:=aN rfl h;.a 3 <| .p (aJ aY aB.Content.Levels.Kinds mQ rfl) <| .aM 2 <| by cases h;kernel_rfl)) <| .bD <| SP.cnd h (fun h=>SP.rg <| .aM 1 <| by cases h;exact .ret (aG [])) fun h=>SP.skip <| SP.aC <| SP.rg <| .a 4 <| bnd h fun x12 jB h=>.merge 6 [49,50,51,52,53] 54 (.d (eB x12)) (dY jB (fun oz h=>.c (congrArg some oz) <| .aM 5 <| by cases h;kernel_rfl) fun oz h=>.c (congrArg some oz) <| .aM 5 <| by cases h;kernel_rfl) <| .a 1 <| bnd h fun x14 jD h=>.merge 5 [56,57,58,59] 60 (.d (eB x14)) (have h:=jD;by cases x12 with | true=>exact (have h:=aO rfl h;.aM 5 <| by cases h;kernel_rfl) | false=>exact (have h:=aN rfl h;.aM 5 <| by cases h;kernel_rfl)) <| .a 1 <| bnd h fun x16 hx16 h=>.merge 5 [62,63,64,65] 66 (.d (eB x16)) (have h:=hx16;by cases x14 with | true=>exact (have h:=aO rfl h;.aM 5 <| by cases h;kernel_rfl) | false=>exact (have h:=aN rfl h;.aM 5 <| by cases h;kernel_rfl)) <| .a 1 <| bnd h fun x18 sS h=>.merge 5 [68,69,70,71] 72 (.d (eB x18)) (have h:=sS;by cases x16 with | true=>exact (have h:=aO rfl h;.aM 5 <| by cases h;kernel_rfl) | false=>exact (have h:=aN rfl h;.aM 5 <| by cases h;kernel_rfl)) <| .a 1 <| bnd h fun kX wP h=>.merge 6 [74,75,76,77,78] 79 (.d (eB kX)) (have h:=wP;by cases x18 with | true=>exact (have h:=aO rfl h;.aM 6 <| by cases h;kernel_rfl) | false=>exact (have h:=aN rfl h;.aM 6 <| by cases h;kernel_rfl)) <| .bD <| SP.cnd h (fun h=>SP.rg <| .aM 1 <| by cases h;exact .ret (aG [])) fun h=>SP.skip <| SP.aC <| SP.rg <| .aM 1 <| SP.block <| SP.bQ (akF aB) _ _ _ (aA (mk 125 24) [(1,true)]) h <| fun J40 k24 aqE v23 h=>SP.aC <| SP.rg <| .a 3 <| .p (aJ eS aB.Content.Allow kS rfl) <| .aM 1 <| SP.cnd h (fun h=>SP.skip <| SP.aC <| SP.block <| bnd h fun pR D7 h=>SP.rg <| .a 3 <| .p (aT eS D7 kS Gt rfl) <| .aM 3 <| SP.cnd h (fun h=>SP.rg <| .aM 1 <| by cases h;exact .ret (aG [])) fun h=>SP.skip <| SP.bF <| .a 3 <| .nil <| aqE _ _ (aA (mk 125 24) [(0,true)]) h) fun h=>SP.exit <| SP.aC <| SP.rg <| .aM 1 <| SP.block <| SP.bQ (akG aB) _ _ _ (aA (mk 125 40) [(0,true)]) h <| fun J39 k29 aci v28 h=>SP.aC <| SP.rg <| .a 3 <| .p (aJ eS aB.Content.kT kS rfl) <| .aM 1 <| SP.cnd h (fun h=>SP.skip <| SP.aC <| SP.block <| bnd h fun x31 hx31 h=>SP.rg <| .a 3 <| .p (aT eS hx31 kS Gt rfl) <| .aM 3 <| SP.cnd h (fun h=>SP.rg <| .aM 1 <| by cases h;exact .ret (aG [])) fun h=>SP.skip <| SP.bF <| .a 3 <| .nil <| aci _ _ (aA (mk 125 40) [(0,true)]) h) fun h=>SP.exit <| SP.aC <| SP.rg <| .aM 1 <| SP.block <| SP.bQ (akH aB) _ _ _ (aA (mk 125 72) [(0,true)]) h <| fun J38 k34 aqA v33 h=>SP.aC <| SP.rg <| .a 4 <| .p (aJ cu aB.Content.Levels.Users lM rfl) <| .aM 1 <| SP.cnd h (fun h=>SP.skip <| SP.aC <| SP.block <| bnd h fun Nc acv h=>SP.rg <| .a 4 <| .p (aT cu acv lM Ak rfl) <| .aM 4 <| SP.cnd h (fun h=>SP.rg <| .aM 1 <| by cases h;exact .ret (aG [])) fun h=>SP.skip <| SP.bF <| .a 3 <| .nil <| aqA _ _ (aA (mk 125 72) [(0,true)]) h) fun h=>SP.exit <| SP.rg <| .aM 1 <| by cases h;exact .ret (aG [])
def ajt (ak : (List ah)) (v2 : Int) : St:=⟨bZ 21 [(0,.d ((eL aj) ak)),(5,.d (eI v2))], [],0⟩
def QU (ak : (List ah)) (k3 : (Int → Option Bool)) : Int → Option Bool:=fun v2=>(bif decide (v2 < (ak.length : Int)) then (aX ak v2).bind fun x5=>(Xl x5).bind fun x6=>(bif x6 then some true else k3 (IntKind.i64.wrap (v2 + 1))) else some false)
def Y6 (ak : (List ah)) : Int → Option Bool:=bQ (QU ak) fuel
def Nl (ak : (List ah)) (lD : Int) : Option Bool:=(bif decide ((ak.length : Int) > lD) then some true else Y6 ak 0)
theorem Y7 (ak lD r) (h : Nl ak lD = some r) : Runs Tryz.prog 54 [.d ((eL aj) ak),.d (eI lD)] [] (.d (eB r)) []:=Runs.aK Tryz.func54 rfl <| SP.rg <| .aM 1 <| SP.aC <| SP.rg <| .a 1 <| .p (aJ aj ak gB rfl) <| .aM 2 <| SP.cnd h (fun h=>SP.rg <| .aM 1 <| by cases h;exact .ret (aG [])) fun h=>SP.skip <| SP.aC <| SP.rg <| .aM 1 <| SP.block <| SP.bQ (ajt ak) _ _ _ (aA (mk 21 33) []) h <| fun J8 k3 hk3 v2 h=>SP.aC <| SP.rg <| .a 2 <| .p (aJ aj ak gB rfl) <| .aM 1 <| SP.cnd h (fun h=>SP.skip <| SP.aC <| SP.block <| gu h fun x5 hx5 x6 hx6 h=>SP.rg <| .a 2 <| .p (aT aj hx5 gB jR rfl) <| .a 1 <| .call (akI x5 x6 hx6) avQ <| .bD <| SP.cnd h (fun h=>SP.rg <| .aM 1 <| by cases h;exact .ret (aG [])) fun h=>SP.skip <| SP.bF <| .a 3 <| .nil <| hk3 _ _ (aA (mk 21 33) []) h) fun h=>SP.exit <| SP.rg <| .aM 1 <| by cases h;exact .ret (aG [])
def aju (bn : bY) (v18 : Int) : St:=⟨bZ 100 [(2,.ptr 0 0),(5,.d (eI v18))], [.box (dc (bT bn))],0⟩
def ajv (bn : bY) (v23 : Int) : St:=⟨bZ 100 [(2,.ptr 0 0),(6,.d (eI v23))], [.box (dc (bT bn))],0⟩
def ajw (bn : bY) (v28 : Int) : St:=⟨bZ 100 [(2,.ptr 0 0),(7,.d (eI v28))], [.box (dc (bT bn))],0⟩
def QV (bn : bY) (k29 : (Int → Option Bool)) : Int → Option Bool:=fun v28=>(bif decide (v28 < (bn.nN.length : Int)) then (aX bn.nN v28).bind fun x31=>(bif decide ((x31.User.size : Int) > 2000) then some true else k29 (IntKind.i64.wrap (v28 + 1))) else some false)
def QW (bn : bY) : Int → Option Bool:=bQ (QV bn) fuel
def QX (bn : bY) (k24 : (Int → Option Bool)) : Int → Option Bool:=fun v23=>(bif decide (v23 < (bn.jW.length : Int)) then (aX bn.jW v23).bind fun pR=>(bif decide ((pR.User.size : Int) > 2000) then some true else k24 (IntKind.i64.wrap (v23 + 1))) else QW bn 0)
def QY (bn : bY) : Int → Option Bool:=bQ (QX bn) fuel
def QZ (bn : bY) (k19 : (Int → Option Bool)) : Int → Option Bool:=fun v18=>(bif decide (v18 < (bn.State.length : Int)) then (aX bn.State v18).bind fun x21=>(bif decide ((x21.Key.size : Int) > 2000) then some true else k19 (IntKind.i64.wrap (v18 + 1))) else QY bn 0)
def Y8 (bn : bY) : Int → Option Bool:=bQ (QZ bn) fuel
def TI (bn : bY) (lD : Int) : Option Bool:=(Nl bn.Events lD).bind fun x1=>(bif x1 then some true else (Nl bn.Waiting lD).bind fun x4=>some x4).bind fun x2=>(bif x2 then some true else some (decide ((bn.Rows.length : Int) > lD))).bind fun x5=>(bif x5 then some true else some (decide ((bn.GZ.length : Int) > 40))).bind fun x7=>(bif x7 then some true else some (decide ((bn.State.length : Int) > 60))).bind fun x9=>(bif x9 then some true else some (decide ((bn.jW.length : Int) > 40))).bind fun x11=>(bif x11 then some true else some (decide ((bn.nN.length : Int) > 40))).bind fun fD=>(bif fD then some true else some (decide ((bn.Id.size : Int) > 2000))).bind fun x15=>(bif x15 then some true else Y8 bn 0)
theorem ajx (bn lD r) (h : TI bn lD = some r) : Runs Tryz.prog 14 [.d (bT bn),.d (eI lD)] [] (.d (eB r)) []:=Runs.aK Tryz.func14 rfl <| SP.rg <| .aM 2 <| SP.aC <| bnd h fun x1 hx1 h=>SP.rg <| .a 3 <| .call (Y7 bn.Events lD x1 hx1) arJ <| .a 1 <| bnd h fun x2 hx2 h=>.merge 5 [13,14,15,16] 17 (.d (eB x2)) (have h:=hx2;by cases x1 with | true=>exact (have h:=aO rfl h;.aM 5 <| by cases h;kernel_rfl) | false=>exact (have h:=aN rfl h;bnd h fun x4 hx4 h=>.a 3 <| .call (Y7 bn.Waiting lD x4 hx4) arJ <| .aM 1 <| by cases h;kernel_rfl)) <| .a 1 <| bnd h fun x5 hx5 h=>.merge 6 [19,20,21,22,23] 24 (.d (eB x5)) (have h:=hx5;by cases x2 with | true=>exact (have h:=aO rfl h;.aM 6 <| by cases h;kernel_rfl) | false=>exact (have h:=aN rfl h;.a 2 <| .p (aJ gW bn.Rows C9 rfl) <| .aM 3 <| by cases h;kernel_rfl)) <| .a 1 <| bnd h fun x7 hx7 h=>.merge 5 [26,27,28,29] 30 (.d (eB x7)) (have h:=hx7;by cases x5 with | true=>exact (have h:=aO rfl h;.aM 5 <| by cases h;kernel_rfl) | false=>exact (have h:=aN rfl h;.a 2 <| .p (aJ eI bn.GZ dJ rfl) <| .aM 2 <| by cases h;kernel_rfl)) <| .a 1 <| bnd h fun x9 iK h=>.merge 5 [32,33,34,35] 36 (.d (eB x9)) (have h:=iK;by cases x7 with | true=>exact (have h:=aO rfl h;.aM 5 <| by cases h;kernel_rfl) | false=>exact (have h:=aN rfl h;.a 2 <| .p (aJ ay bn.State lC rfl) <| .aM 2 <| by cases h;kernel_rfl)) <| .a 1 <| bnd h fun x11 fZ h=>.merge 5 [38,39,40,41] 42 (.d (eB x11)) (have h:=fZ;by cases x9 with | true=>exact (have h:=aO rfl h;.aM 5 <| by cases h;kernel_rfl) | false=>exact (have h:=aN rfl h;.a 2 <| .p (aJ pW bn.jW SH rfl) <| .aM 2 <| by cases h;kernel_rfl)) <| .a 1 <| bnd h fun fD kH h=>.merge 5 [44,45,46,47] 48 (.d (eB fD)) (have h:=kH;by cases x11 with | true=>exact (have h:=aO rfl h;.aM 5 <| by cases h;kernel_rfl) | false=>exact (have h:=aN rfl h;.a 2 <| .p (aJ su bn.nN SI rfl) <| .aM 2 <| by cases h;kernel_rfl)) <| .a 1 <| bnd h fun x15 jX h=>.merge 5 [50,51,52,53] 54 (.d (eB x15)) (have h:=jX;by cases fD with | true=>exact (have h:=aO rfl h;.aM 5 <| by cases h;kernel_rfl) | false=>exact (have h:=aN rfl h;.aM 5 <| by cases h;kernel_rfl)) <| .bD <| SP.cnd h (fun h=>SP.rg <| .aM 1 <| by cases h;exact .ret (aG [])) fun h=>SP.skip <| SP.aC <| SP.rg <| .aM 1 <| SP.block <| SP.bQ (aju bn) _ _ _ (aA (mk 100 36) [(0,true)]) h <| fun J35 k19 abS v18 h=>SP.aC <| SP.rg <| .a 3 <| .p (aJ ay bn.State lC rfl) <| .aM 1 <| SP.cnd h (fun h=>SP.skip <| SP.aC <| SP.block <| bnd h fun x21 yh h=>SP.rg <| .a 3 <| .p (aT ay yh lC uo rfl) <| .aM 4 <| SP.cnd h (fun h=>SP.rg <| .aM 1 <| by cases h;exact .ret (aG [])) fun h=>SP.skip <| SP.bF <| .a 3 <| .nil <| abS _ _ (aA (mk 100 36) [(0,true)]) h) fun h=>SP.exit <| SP.aC <| SP.rg <| .aM 1 <| SP.block <| SP.bQ (ajv bn) _ _ _ (aA (mk 100 68) [(0,true)]) h <| fun J34 k24 aqE v23 h=>SP.aC <| SP.rg <| .a 3 <| .p (aJ pW bn.jW SH rfl) <| .aM 1 <| SP.cnd h (fun h=>SP.skip <| SP.aC <| SP.block <| bnd h fun pR D7 h=>SP.rg <| .a 3 <| .p (aT pW D7 SH amr rfl) <| .aM 4 <| SP.cnd h (fun h=>SP.rg <| .aM 1 <| by cases h;exact .ret (aG [])) fun h=>SP.skip <| SP.bF <| .a 3 <| .nil <| aqE _ _ (aA (mk 100 68) [(0,true)]) h) fun h=>SP.exit <| SP.aC <| SP.rg <| .aM 1 <| SP.block <| SP.bQ (ajw bn) _ _ _ (aA (mk 100 132) [(0,true)]) h <| fun J33 k29 aci v28 h=>SP.aC <| SP.rg <| .a 3 <| .p (aJ su bn.nN SI rfl) <| .aM 1 <| SP.cnd h (fun h=>SP.skip <| SP.aC <| SP.block <| bnd h fun x31 hx31 h=>SP.rg <| .a 3 <| .p (aT su hx31 SI ams rfl) <| .aM 4 <| SP.cnd h (fun h=>SP.rg <| .aM 1 <| by cases h;exact .ret (aG [])) fun h=>SP.skip <| SP.bF <| .a 3 <| .nil <| aci _ _ (aA (mk 100 132) [(0,true)]) h) fun h=>SP.exit <| SP.rg <| .aM 1 <| by cases h;exact .ret (aG [])
def Bj (ak : (List ah)) : Option Int:=(Fa ak).bind fun x1=>(wz x1 8 s0).bind fun x2=>(bif (!x2.2) then some 0 else (kJ ak x2.1).bind fun x4=>some x4.1.Content.N)
theorem XL (ak r) (h : Bj ak = some r) : Runs Tryz.prog 15 [.d ((eL aj) ak)] [] (.d (eI r)) []:=Runs.aK Tryz.func15 rfl <| SP.rg <| .aM 1 <| gu h fun x1 hx1 x2 hx2 h=>SP.rg <| .a 1 <| .call (aaJ ak x1 hx1) awZ <| .call (Dh x1 8 s0 x2 hx2) ah9 <| .aM 5 <| SP.aC <| SP.rg <| .aM 2 <| SP.cnd h (fun h=>SP.rg <| .aM 1 <| by cases h;exact .ret (aG [])) fun h=>SP.skip <| bnd h fun x4 hx4 h=>SP.rg <| .a 2 <| .call (jM ak x2.1 x4 hx4) Am <| .aM 6 <| SP.rg <| .aM 4 <| by cases h;exact .ret (aG [])
def zQ (aB : ah) : Option Bool:=(bif (aB.Kind == 11) then some true else some (aB.Kind == 12)).bind fun x1=>(bif x1 then some true else some (aB.Kind == 13)).bind fun x3=>some x3
theorem OD (aB r) (h : zQ aB = some r) : Runs Tryz.prog 58 [.d (aj aB)] [] (.d (eB r)) []:=Runs.aK Tryz.func58 rfl <| SP.rg <| .aM 2 <| SP.rg <| .a 3 <| bnd h fun x1 hx1 h=>.merge 5 [6,7,8,9] 10 (.d (eB x1)) (dY hx1 (fun hb2 h=>.c (congrArg some hb2) <| .aM 4 <| by cases h;kernel_rfl) fun hb2 h=>.c (congrArg some hb2) <| .aM 4 <| by cases h;kernel_rfl) <| .a 1 <| bnd h fun x3 hx3 h=>.merge 4 [12,13,14] 15 (.d (eB x3)) (have h:=hx3;by cases x1 with | true=>exact (have h:=aO rfl h;.aM 4 <| by cases h;kernel_rfl) | false=>exact (have h:=aN rfl h;.aM 4 <| by cases h;kernel_rfl)) <| .aM 1 <| by cases h;exact .ret (aG [])
def Q5 (PD : Int) (aen : Int) (VW : Int) : Option Bool:=(bif decide (PD ≥ VW) then some false else (bif decide ((IntKind.i64.wrap (VW - PD)) < 0) then some true else some (decide ((IntKind.i64.wrap (VW - PD)) > aen))).bind fun x2=>some x2)
theorem aeo (PD aen VW r) (h : Q5 PD aen VW = some r) : Runs Tryz.prog 59 [.d (eI PD),.d (eI aen),.d (eI VW)] [] (.d (eB r)) []:=Runs.aK Tryz.func59 rfl <| SP.rg <| .aM 1 <| SP.aC <| SP.rg <| .aM 3 <| SP.cnd h (fun h=>SP.rg <| .aM 1 <| by cases h;exact .ret (aG [])) fun h=>SP.skip <| SP.rg <| .aM 4 <| SP.rg <| .a 2 <| bnd h fun x2 hx2 h=>.merge 5 [16,17,18,19] 20 (.d (eB x2)) (dY hx2 (fun hb3 h=>.c (congrArg some hb3) <| .aM 4 <| by cases h;kernel_rfl) fun hb3 h=>.c (congrArg some hb3) <| .aM 4 <| by cases h;kernel_rfl) <| .aM 1 <| by cases h;exact .ret (aG [])
def aaP (eu : Int) (x1 : Int) (bn : bY) (v3 : (List Int)) (v4 : Int) : St:=⟨bZ 38 [(1,.d (eI eu)),(5,.d (eI x1)),(6,.aQ 0),(15,.d ((eL aj) bn.Events)),(16,.d (eI (bn.Events.length : Int))),(17,.d (eI v4))], [.arr 3 1 (List.map eI v3)],0⟩
def aaQ (eu : Int) (x1 : Int) (bn : bY) (v4 : Int) (v7 : (List Int)) : St:=⟨bZ 38 [(1,.d (eI eu)),(5,.d (eI x1)),(6,.aQ 0),(15,.d ((eL aj) bn.Events)),(16,.d (eI (bn.Events.length : Int))),(17,.d (eI v4))], [.arr 3 1 (List.map eI v7)],0⟩
def yS (k5 : ((List Int) → Int → Option (List Int))) (v4 : Int) (v7 : (List Int)) : Option (List Int):=k5 v7 (IntKind.i64.wrap (v4 + 1))
def Gj (bn : bY) (x1 : Int) (eu : Int) (k5 : ((List Int) → Int → Option (List Int))) : (List Int) → Int → Option (List Int):=fun v3 v4=>(bif decide (v4 < (bn.Events.length : Int)) then (aX bn.Events v4).bind fun x9=>(zQ x9).bind fun x10=>(bif x10 then (Q5 x9.Time x1 eu).bind fun fD=>some fD else some false).bind fun x11=>(bif x11 then (gZ 8 v3 [x9.Id]).bind fun x15=>yS k5 v4 x15 else yS k5 v4 v3) else (qy v3).bind fun x16=>some x16)
def OE (bn : bY) (x1 : Int) (eu : Int) : (List Int) → Int → Option (List Int):=bg (Gj bn x1 eu) fuel
def vJ (bn : bY) (eu : Int) : Option (List Int):=(Bj bn.Events).bind fun x1=>(bif decide (x1 ≤ 0) then some [] else OE bn x1 eu [] 0)
theorem OG (bn eu r) (h : vJ bn eu = some r) : Runs Tryz.prog 18 [.d (bT bn),.d (eI eu)] [] (.aQ 0) [.arr 3 1 (List.map eI r)]:=Runs.aK Tryz.func18 rfl <| SP.rg <| .a 1 <| .e [.box (dc (bT bn)),.arr 3 1 (List.map eI [])] (aU 3 1 rfl) <| .bD <| bnd h fun x1 hx1 h=>SP.rg <| .a 2 <| .call (XL bn.Events x1 hx1) arK <| .aM 1 <| SP.aC <| SP.rg <| .aM 2 <| SP.cnd h (fun h=>SP.rg <| .e [.box (dc (bT bn)),.arr 3 1 (List.map eI []),.arr 3 1 (List.map eI [])] (aU 3 1 rfl) <| .bD <| by cases h;exact .ret (aG [(2,true)])) fun h=>SP.skip <| SP.rg <| .e [.box (dc (bT bn)),.arr 3 1 (List.map eI []),.arr 3 1 (List.map eI [])] (aU 3 1 rfl) <| .bD <| SP.aC <| SP.rg <| .a 2 <| .p (aJ aj bn.Events gB rfl) <| .aM 1 <| SP.block <| SP.bg (aaP eu x1 bn) _ _ _ _ (aA (mk 38 229474) [(2,true)]) h <| fun J17 k5 hk5 v3 v4 h=>SP.rg <| .aM 1 <| SP.aC <| SP.cnd h (fun h=>SP.skip <| SP.join (fun s=>∃ (v7 : (List Int)),Sub s (aaQ eu x1 bn v4 v7) ∧ yS k5 v4 v7 = some r) (by rintro s ⟨v7,hs,h⟩;exact SP.sub hs <| SP.bF <| .a 2 <| .nil <| hk5 _ _ _ (aA (mk 38 229474) [(0,true)]) h) <| fun K8=>SP.block <| bnd h fun x9 iK h=>SP.rg <| .p (aT aj iK gB jR rfl) <| .aM 3 <| bnd h fun x10 iR h=>SP.rg <| .a 1 <| .call (OD x9 x10 iR) arL <| .a 1 <| bnd h fun x11 fZ h=>.merge 6 [24,25,26,27,28] 29 (.d (eB x11)) (have h:=fZ;by cases x10 with | true=>exact (have h:=aO rfl h;bnd h fun fD kH h=>.a 4 <| .call (aeo x9.Time x1 eu fD kH) aw0 <| .aM 1 <| by cases h;kernel_rfl) | false=>exact (have h:=aN rfl h;.aM 6 <| by cases h;kernel_rfl)) <| .bD <| SP.cnd h (fun h=>bnd h fun x15 jX h=>SP.bF <| .a 3 <| .p (fV jE zero3 [eI x9.Id] rfl) <| .e [.dead,.box (dc (aj x9)),.arr 3 1 (List.map eI x15)] (fU (k:=0) eI jX jE (by kernel_rfl) (fun _=>rfl) (by decide) rfl) <| .a 1 <| .nil <| K8 _ ⟨x15,aA (mk 38 229474) [(2,true)],h⟩) fun h=>SP.skip <| K8 _ ⟨v3,aA (mk 38 229474) [(0,true)],h⟩) fun h=>SP.exit <| bnd h fun x16 hx16 h=>SP.rg <| .a 1 <| .e [.arr 3 1 (List.map eI v3),.arr 3 1 (List.map eI x16)] (vP (dK:= [.aQ 0]) (dL:= [.d (.sl (List.map eI v3))]) (qH v3 x16 hx16) (fun x hx=>by obtain ⟨a,_,rfl⟩:=List.mem_map.1 hx;rfl) SG ⟨⟨3,1,List.map eI v3,by kernel_rfl,rfl⟩,trivial⟩ rfl rfl) <| .aM 1 <| by cases h;exact .ret (aG [(1,true)])
def acL (x1 : (List gV)) (bn : bY) (v2 : Int) (v3 : (List (Int × Bool))) (v4 : (List gV)) : St:=⟨bZ 31 [(1,.mp 0),(2,.ptr 1 0),(4,.ptr 2 0),(5,.aQ 3),(11,.d (eI (x1.length : Int))),(12,.d (eI v2))], [.map (List.map (eM (Value.int .i64) eB) v3),.box (dc (bT bn)),.box (dc (bT lU)),.arr 60 4 (List.map gW v4)],1⟩
def acM (x1 : (List gV)) (v2 : Int) (bn : bY) (v7 : (List (Int × Bool))) (v8 : (List gV)) : St:=⟨bZ 31 [(1,.mp 0),(2,.ptr 1 0),(4,.ptr 2 0),(5,.aQ 3),(11,.d (eI (x1.length : Int))),(12,.d (eI v2))], [.map (List.map (eM (Value.int .i64) eB) v7),.box (dc (bT bn)),.box (dc (bT lU)),.arr 60 4 (List.map gW v8)],1⟩
def wF (k5 : (Int → (List (Int × Bool)) → (List gV) → Option (bY × (List (Int × Bool))))) (v2 : Int) (v7 : (List (Int × Bool))) (v8 : (List gV)) : Option (bY × (List (Int × Bool))):=k5 (IntKind.i64.wrap (v2 + 1)) v7 v8
def oK (x1 : (List gV)) (bn : bY) (k5 : (Int → (List (Int × Bool)) → (List gV) → Option (bY × (List (Int × Bool))))) : Int → (List (Int × Bool)) → (List gV) → Option (bY × (List (Int × Bool))):=fun v2 v3 v4=>(bif decide (v2 < (x1.length : Int)) then (aX v4 v2).bind fun x10=>(bif (dD v3 x10.Id).getD false then (aX v4 v2).bind fun x12=>wF k5 v2 v3 (v4.set (v2).toNat ({ x12 with Gone:=true })) else wF k5 v2 v3 v4) else some ({ bn with Rows:=v4 }, []))
def Q7 (x1 : (List gV)) (bn : bY) : Int → (List (Int × Bool)) → (List gV) → Option (bY × (List (Int × Bool))):=tC (oK x1 bn) fuel
def uD (bn : bY) (bK : (List (Int × Bool))) : Option (bY × (List (Int × Bool))):=(gZ 32 [] bn.Rows).bind fun x1=>Q7 x1 bn 0 bK x1
theorem Q8 (bn bK r) (h : uD bn bK = some r) : Runs Tryz.prog 66 [.d (bT bn),.mp 0] [.map (List.map (eM (Value.int .i64) eB) bK)] (.d (bT r.1)) [.map (List.map (eM (Value.int .i64) eB) r.2)]:=Runs.aK Tryz.func66 rfl <| SP.rg <| .aM 2 <| bnd h fun x1 hx1 h=>SP.rg <| .a 2 <| .e [.map (List.map (eM (Value.int .i64) eB) bK),.box (dc (bT bn)),.box (dc (bT lU)),.dead,.arr 60 4 (List.map gW x1)] (PW 60 4 (fU (k:=_) gW hx1 avR (by kernel_rfl) (fun _=>rfl) (by decide) rfl)) <| .aM 1 <| SP.aC <| SP.rg <| .a 1 <| .p (wY (k:=4) (e':=60) (s:=4) gW x1 (by kernel_rfl) C9 rfl) <| .aM 1 <| SP.block <| SP.tC (acL x1 bn) _ _ _ _ _ (aA (mk 31 6198) [(0,true),(1,true),(2,true),(4,true)]) h <| fun J13 k5 hk5 v2 v3 v4 h=>SP.rg <| .aM 1 <| SP.aC <| SP.cnd h (fun h=>SP.skip <| SP.join (fun s=>∃ (v7 : (List (Int × Bool))) (v8 : (List gV)),Sub s (acM x1 v2 bn v7 v8) ∧ wF k5 v2 v7 v8 = some r) (by rintro s ⟨v7,v8,hs,h⟩;exact SP.sub hs <| SP.bF <| .a 2 <| .nil <| hk5 _ _ _ _ (aA (mk 31 6198) [(0,true),(1,true),(2,true),(3,true)]) h) <| fun K9=>SP.block <| SP.rg <| .aM 2 <| bnd h fun x10 iR h=>SP.rg <| .a 3 <| .p (vF (e':=60) (kd:=.i64) gW iR (k:=3) (by kernel_rfl) C9 abQ rfl) <| .a 1 <| .p (x:=.d (eI x10.Id)) (qg (e:=60) (size:=4) (k:=3) (i:=(v2).toNat) (off:=1) gW (by kernel_rfl) (by kernel_rfl) (jQ iR).2 iO (Nat.le_of_ble_eq_true (by kernel_rfl)) (fun _=>rfl) rfl) <| .p (x:=.d (eB ((dD v3 x10.Id).getD false))) (Ik (k:=0) (key:=x10.Id) (m:=v3) eB false DV pG ZV (by kernel_rfl) (by kernel_rfl) (by kernel_rfl) rfl) <| .bD <| SP.cnd h (fun h=>bnd h fun x12 jB h=>SP.bF <| .a 2 <| .p (vF (e':=60) (kd:=.i64) gW jB (k:=3) (by kernel_rfl) C9 abQ rfl) <| .a 1 <| .e [.map (List.map (eM (Value.int .i64) eB) v3),.box (dc (bT bn)),.box (dc (bT lU)),.arr 60 4 (List.map gW (v4.set (v2).toNat ({ x12 with Gone:=true })))] (GV (e:=60) (size:=4) (v:=.d (eB true)) (k:=3) (i:=(v2).toNat) (off:=3) (a':=({ x12 with Gone:=true })) gW (by kernel_rfl) (jQ jB).2 (by kernel_rfl) (ty4).size (by kernel_rfl) (Nat.le_of_ble_eq_true (by kernel_rfl)) (by kernel_rfl) (fun _=>rfl) rfl) <| .nil <| K9 _ ⟨v3,(v4.set (v2).toNat ({ x12 with Gone:=true })),aA (mk 31 6198) [(0,true),(1,true),(2,true),(3,true)],h⟩) fun h=>SP.skip <| K9 _ ⟨v3,v4,aA (mk 31 6198) [(0,true),(1,true),(2,true),(3,true)],h⟩) fun h=>SP.exit <| SP.rg <| .aM 3 <| SP.rg <| .a 1 <| .e [.map (List.map (eM (Value.int .i64) eB) []),.box (setAt (dc (bT bn)) 2 [.aQ 3]),.box (dc (bT lU)),.arr 60 4 (List.map gW v4)] (ag2 (k:=0) (es0:=List.map (eM (Value.int .i64) eB) v3) DV (by kernel_rfl) rfl) <| .bD <| SP.rg <| .conv _ (akk (e:=60) (s:=4) 3 1 (xs:=List.map gW v4) (cs:=setAt (dc (bT bn)) 2 [.aQ 3]) (by kernel_rfl) (by kernel_rfl) (by kernel_rfl)) <| .aM 2 <| SP.ret <| by rw [← bJ h];exact ⟨[.d (bT ({ bn with Rows:=v4 }))], [(0,true)],⟨⟨2,dc (bT ({ bn with Rows:=v4 })),true,9,by kernel_rfl,by kernel_rfl,by kernel_rfl,amu,Nat.le_of_ble_eq_true (by kernel_rfl),(by intro hh;cases hh),by kernel_rfl⟩,trivial⟩,by kernel_rfl,by kernel_rfl,by kernel_rfl⟩
def aep (iy : ByteArray) (bn : bY) (v1 : Int) (v2 : (List (Int × Bool))) : St:=⟨bZ 44 [(1,.d (eS iy)),(2,.ptr 0 0),(4,.ptr 1 0),(5,.mp 2),(12,.d ((eL gW) bn.Rows)),(13,.d (eI (bn.Rows.length : Int))),(14,.d (eI v1))], [.box (dc (bT bn)),.box (dc (bT lU)),.map (List.map (eM (Value.int .i64) eB) v2)],0⟩
def aer (iy : ByteArray) (bn : bY) (v1 : Int) (v5 : (List (Int × Bool))) : St:=⟨bZ 44 [(1,.d (eS iy)),(2,.ptr 0 0),(4,.ptr 1 0),(5,.mp 2),(12,.d ((eL gW) bn.Rows)),(13,.d (eI (bn.Rows.length : Int))),(14,.d (eI v1))], [.box (dc (bT bn)),.box (dc (bT lU)),.map (List.map (eM (Value.int .i64) eB) v5)],0⟩
def Dt (k3 : (Int → (List (Int × Bool)) → Option bY)) (v1 : Int) (v5 : (List (Int × Bool))) : Option bY:=k3 (IntKind.i64.wrap (v1 + 1)) v5
def JB (bn : bY) (iy : ByteArray) (k3 : (Int → (List (Int × Bool)) → Option bY)) : Int → (List (Int × Bool)) → Option bY:=fun v1 v2=>(bif decide (v1 < (bn.Rows.length : Int)) then (aX bn.Rows v1).bind fun x7=>(kJ bn.Events x7.Id).bind fun x8=>(bif x8.2 then (zQ x8.1).bind fun x11=>some x11 else some false).bind fun x9=>(bif x9 then some (x8.1.cZ.toList == iy.toList) else some false).bind fun x12=>(bif x12 then Dt k3 v1 (eY v2 x7.Id true) else Dt k3 v1 v2) else (uD bn v2).bind fun x15=>some x15.1)
def TJ (bn : bY) (iy : ByteArray) : Int → (List (Int × Bool)) → Option bY:=bg (JB bn iy) fuel
def qB (bn : bY) (iy : ByteArray) : Option bY:=TJ bn iy 0 []
theorem qC (bn iy r) (h : qB bn iy = some r) : Runs Tryz.prog 22 [.d (bT bn),.d (eS iy)] [] (.d (bT r)) []:=Runs.aK Tryz.func22 rfl <| SP.rg <| .aM 2 <| SP.rg <| .e (x:=.mp 2) [.box (dc (bT bn)),.box (dc (bT lU)),.map (List.map (eM (Value.int .i64) eB) [])] (EC rfl) <| .aM 1 <| SP.aC <| SP.rg <| .a 2 <| .p (aJ gW bn.Rows C9 rfl) <| .aM 1 <| SP.block <| SP.bg (aep iy bn) _ _ _ _ (aA (mk 44 28726) [(0,true),(1,true),(2,true)]) h <| fun J16 k3 hk3 v1 v2 h=>SP.rg <| .aM 1 <| SP.aC <| SP.cnd h (fun h=>SP.skip <| SP.join (fun s=>∃ (v5 : (List (Int × Bool))),Sub s (aer iy bn v1 v5) ∧ Dt k3 v1 v5 = some r) (by rintro s ⟨v5,hs,h⟩;exact SP.sub hs <| SP.bF <| .a 2 <| .nil <| hk3 _ _ _ (aA (mk 44 28726) [(0,true),(1,true),(2,true)]) h) <| fun K6=>SP.block <| bnd h fun x7 hx7 h=>SP.rg <| .p (aT gW hx7 C9 abQ rfl) <| .aM 3 <| bnd h fun x8 jl h=>SP.rg <| .a 4 <| .call (jM bn.Events x7.Id x8 jl) Am <| .aM 6 <| SP.rg <| .a 1 <| bnd h fun x9 iK h=>.merge 4 [27,28,29] 30 (.d (eB x9)) (dY iK (fun lV h=>bnd h fun x11 fZ h=>.c (congrArg some lV) <| .a 1 <| .call (OD x8.1 x11 fZ) arL <| .aM 1 <| by cases h;kernel_rfl) fun lV h=>.c (congrArg some lV) <| .aM 3 <| by cases h;kernel_rfl) <| .a 1 <| bnd h fun x12 jB h=>.merge 5 [32,33,34,35] 36 (.d (eB x12)) (have h:=jB;by cases x9 with | true=>exact (have h:=aO rfl h;.aM 5 <| by cases h;kernel_rfl) | false=>exact (have h:=aN rfl h;.aM 5 <| by cases h;kernel_rfl)) <| .bD <| SP.cnd h (fun h=>SP.bF <| .a 3 <| .e [.box (dc (bT bn)),.box (dc (bT lU)),.map (List.map (eM (Value.int .i64) eB) (eY v2 x7.Id true)),.box (dc (gW x7)),.box (dc (aj x8.1))] (KG (k:=2) (key:=x7.Id) (val:=true) (m:=v2) eB DV pG (by kernel_rfl) rfl) <| .nil <| K6 _ ⟨(eY v2 x7.Id true),aA (mk 44 28726) [(0,true),(1,true),(2,true)],h⟩) fun h=>SP.skip <| K6 _ ⟨v2,aA (mk 44 28726) [(0,true),(1,true),(2,true)],h⟩) fun h=>SP.exit <| bnd h fun x15 jX h=>SP.rg <| .a 2 <| .e (x:=.d (bT x15.1)) [.box (dc (bT bn)),.box (dc (bT lU)),.map (List.map (eM (Value.int .i64) eB) x15.2)] (eG [.ent 2] (dK:= [.d (bT bn),.mp 2]) (dL:= [.d (bT bn),.mp 0]) (res':=.d (bT x15.1)) (Q8 bn v2 x15 jX) arM (by kernel_rfl) (dn (by kernel_rfl) <| trivial) ⟨.inl rfl,⟨0,rfl,rfl⟩,trivial⟩ rfl (by kernel_rfl) rfl) <| .aM 1 <| SP.ret <| by rw [← bJ h];exact ⟨[.d (bT x15.1)], [],⟨⟨1,dc (bT x15.1),true,9,by kernel_rfl,by kernel_rfl,by kernel_rfl,amu,Nat.le_of_ble_eq_true (by kernel_rfl),(by intro hh;cases hh),by kernel_rfl⟩,trivial⟩,by kernel_rfl,by kernel_rfl,by kernel_rfl⟩
def ags (bn : bY) (v1 : (List Int)) (v2 : Int) : St:=⟨bZ 23 [(3,.aQ 0),(7,.d ((eL gW) bn.Rows)),(8,.d (eI (bn.Rows.length : Int))),(9,.d (eI v2))], [.arr 3 1 (List.map eI v1)],0⟩
def agt (bn : bY) (v2 : Int) (v5 : (List Int)) : St:=⟨bZ 23 [(3,.aQ 0),(7,.d ((eL gW) bn.Rows)),(8,.d (eI (bn.Rows.length : Int))),(9,.d (eI v2))], [.arr 3 1 (List.map eI v5)],0⟩
def Lj (k3 : ((List Int) → Int → Option (List Int))) (v2 : Int) (v5 : (List Int)) : Option (List Int):=k3 v5 (IntKind.i64.wrap (v2 + 1))
def agu (bn : bY) (k3 : ((List Int) → Int → Option (List Int))) : (List Int) → Int → Option (List Int):=fun v1 v2=>(bif decide (v2 < (bn.Rows.length : Int)) then (aX bn.Rows v2).bind fun x7=>(bif (!x7.Gone) then (gZ 8 v1 [x7.Id]).bind fun x9=>Lj k3 v2 x9 else Lj k3 v2 v1) else some v1)
def agv (bn : bY) : (List Int) → Int → Option (List Int):=bg (agu bn) fuel
def MI (bn : bY) : Option (List Int):=agv bn [] 0
theorem Ll (bn r) (h : MI bn = some r) : Runs Tryz.prog 24 [.d (bT bn)] [] (.aQ 0) [.arr 3 1 (List.map eI r)]:=Runs.aK Tryz.func24 rfl <| SP.rg <| .a 1 <| .e [.box (dc (bT bn)),.arr 3 1 (List.map eI [])] (aU 3 1 rfl) <| .bD <| SP.rg <| .e [.box (dc (bT bn)),.arr 3 1 (List.map eI []),.arr 3 1 (List.map eI [])] (aU 3 1 rfl) <| .bD <| SP.aC <| SP.rg <| .a 2 <| .p (aJ gW bn.Rows C9 rfl) <| .aM 1 <| SP.block <| SP.bg (ags bn) _ _ _ _ (aA (mk 23 904) [(2,true)]) h <| fun J10 k3 hk3 v1 v2 h=>SP.rg <| .aM 1 <| SP.aC <| SP.cnd h (fun h=>SP.skip <| SP.join (fun s=>∃ (v5 : (List Int)),Sub s (agt bn v2 v5) ∧ Lj k3 v2 v5 = some r) (by rintro s ⟨v5,hs,h⟩;exact SP.sub hs <| SP.bF <| .a 2 <| .nil <| hk3 _ _ _ (aA (mk 23 904) [(0,true)]) h) <| fun K6=>SP.block <| bnd h fun x7 hx7 h=>SP.rg <| .p (aT gW hx7 C9 abQ rfl) <| .aM 3 <| SP.rg <| .aM 3 <| SP.cnd h (fun h=>bnd h fun x9 iK h=>SP.bF <| .a 3 <| .p (fV jE zero3 [eI x7.Id] rfl) <| .e [.dead,.box (dc (gW x7)),.arr 3 1 (List.map eI x9)] (fU (k:=0) eI iK jE (by kernel_rfl) (fun _=>rfl) (by decide) rfl) <| .a 1 <| .nil <| K6 _ ⟨x9,aA (mk 23 904) [(2,true)],h⟩) fun h=>SP.skip <| K6 _ ⟨v1,aA (mk 23 904) [(0,true)],h⟩) fun h=>SP.exit <| SP.rg <| .aM 2 <| by cases h;exact .ret (aG [(0,true)])
def UM : ah:={ gX with Id:=5,cZ:=OW,Kind:=11 }
def UN : ah:={ gX with Id:=6,cZ:=OW,Kind:=2,State:=true }
def akJ : (List gV):= [(⟨0,6,0,false⟩ : gV),(⟨1,5,0,true⟩ : gV),(⟨2,5,0,false⟩ : gV)]
def Ce : bY:={ lU with Events:= [UM,UN],Rows:=akJ,Next:=3 }
def akK (v2 : Bool) : St:=⟨bZ 50 [(0,.d (eB v2))], [],0⟩
def sH (v2 : Bool) : Option Bool:=some v2
def Lm  : Option Bool:=(qB Ce OW).bind fun x1=>(MI Ce).bind fun x4=>(H9 x4 [6,5]).bind fun x5=>(bif x5 then (MI x1).bind fun x7=>(H9 x7 [6]).bind fun x8=>(bif x8 then (bif ((x1.Rows.length : Int) == 3) then (bif (x1.Next == 3) then (vJ Ce 100).bind fun x12=>(bif ((x12.length : Int) == 0) then (Bj []).bind fun x14=>(bif (x14 == 0) then (MI lU).bind fun x16=>sH ((x16.length : Int) == 0) else sH false) else sH false) else sH false) else sH false) else sH false) else sH false)
theorem akL (h : Lm = some true) : Runs Tryz.prog 20 [] [] (.d (eB true)) []:=by
 refine Runs.aK Tryz.func20 rfl ?_;unfold Lm at h;refine SP.rg <| .a 1 <| .bD ?_;refine SP.rg <| .a 2 <| .p (U8 KH Gu (by kernel_rfl) (by kernel_rfl) (Nat.le_of_ble_eq_true (by kernel_rfl)) [.d (aj UM),.d (aj UN)] [aj UM,aj UN] (by kernel_rfl) (by kernel_rfl) (by kernel_rfl) (by kernel_rfl) rfl) <| .a 3 <| .p (U8 avR aja (by kernel_rfl) (by kernel_rfl) (Nat.le_of_ble_eq_true (by kernel_rfl)) [.d (gW (⟨0,6,0,false⟩ : gV)),.d (gW (⟨1,5,0,true⟩ : gV)),.d (gW (⟨2,5,0,false⟩ : gV))] [gW (⟨0,6,0,false⟩ : gV),gW (⟨1,5,0,true⟩ : gV),gW (⟨2,5,0,false⟩ : gV)] (by kernel_rfl) (by kernel_rfl) (by kernel_rfl) (by kernel_rfl) rfl) <| .a 3 <| .bD ?_;obtain ⟨x1,hx1,h⟩:=gY h;refine SP.rg <| .a 1 <| .call (qC Ce OW x1 hx1) WS <| .a 2 <| .bD ?_;refine SP.join (fun s=>∃ (v2 : Bool),Sub s (akK v2) ∧ sH v2 = some true) ?_ ?_
 · clear h;rintro s ⟨v2,hs,h⟩;refine SP.sub hs ?_;clear hs;unfold sH at h;refine SP.ret ?_;rw [← Option.some.inj h];exact ⟨[.d (eB v2)], [],⟨yc (by kernel_rfl),trivial⟩,by kernel_rfl,by kernel_rfl,by kernel_rfl⟩
 intro K3;obtain ⟨x4,hx4,h⟩:=gY h;obtain ⟨x5,hx5,h⟩:=gY h;refine SP.bF <| .a 1 <| .call (Ll Ce x4 hx4).view amv <| .p (U8 jE zero3 (by kernel_rfl) (by kernel_rfl) (Nat.le_of_ble_eq_true (by kernel_rfl)) [.d (eI 6),.d (eI 5)] [eI 6,eI 5] (by kernel_rfl) (by kernel_rfl) (by kernel_rfl) (by kernel_rfl) rfl) <| .call (MH x4 [6,5] x5 hx5) aib <| .a 1 <| ?_;cases x5 with
 | true=>
   replace h:=aO rfl h;obtain ⟨x7,hx7,h⟩:=gY h;obtain ⟨x8,jl,h⟩:=gY h;refine .a 1 <| .call (Ll x1 x7 hx7).view amv <| .p (U8 jE zero3 (by kernel_rfl) (by kernel_rfl) (Nat.le_of_ble_eq_true (by kernel_rfl)) [.d (eI 6)] [eI 6] (by kernel_rfl) (by kernel_rfl) (by kernel_rfl) (by kernel_rfl) rfl) <| .call (MH x7 [6] x8 jl) aib <| .a 2 <| ?_;cases x8 with
   | true=>
     replace h:=aO rfl h;refine .a 2 <| .p (aJ gW x1.Rows C9 rfl) <| .a 2 <| ?_;rcases Bool.eq_false_or_eq_true ((x1.Rows.length : Int) == 3) with lV | lV
     · replace h:=aO lV h;refine .c (congrArg some lV) <| .a 4 <| ?_;rcases Bool.eq_false_or_eq_true (x1.Next == 3) with YR | YR
       · replace h:=aO YR h;obtain ⟨x12,jB,h⟩:=gY h;refine .c (congrArg some YR) <| .a 1 <| .call (OG Ce 100 x12 jB).view arN <| .p (aJ eI x12 dJ rfl) <| .a 2 <| ?_;rcases Bool.eq_false_or_eq_true ((x12.length : Int) == 0) with oz | oz
         · replace h:=aO oz h;obtain ⟨x14,jD,h⟩:=gY h;refine .c (congrArg some oz) <| .p (x:=.d (eI x14)) (abz (dK:= [.d (.lit (.slice none 0 0))]) (dL:= [.d ((eL aj) [])]) (XL [] x14 jD) arK ⟨.inr (.inr ⟨rfl,rfl⟩),trivial⟩ rfl (by kernel_rfl) rfl) <| .a 2 <| ?_;rcases Bool.eq_false_or_eq_true (x14 == 0) with NC | NC
           · replace h:=aO NC h;obtain ⟨x16,hx16,h⟩:=gY h;refine .c (congrArg some NC) <| .a 1 <| .call (Ll lU x16 hx16).view amv <| .p (aJ eI x16 dJ rfl) <| .a 3 <| .nil ?_;exact K3 _ ⟨((x16.length : Int) == 0),aA (mk 50 1) [],h⟩
           replace h:=aN NC h;exact absurd (Option.some.inj (show some false = some true from h)) (by decide)
         replace h:=aN oz h;exact absurd (Option.some.inj (show some false = some true from h)) (by decide)
       replace h:=aN YR h;exact absurd (Option.some.inj (show some false = some true from h)) (by decide)
     replace h:=aN lV h;exact absurd (Option.some.inj (show some false = some true from h)) (by decide)
   | false=>
     replace h:=aN rfl h;exact absurd (Option.some.inj (show some false = some true from h)) (by decide)
 | false=>
   replace h:=aN rfl h;exact absurd (Option.some.inj (show some false = some true from h)) (by decide)
theorem Y9 : Lm = some true:=by kernel_rfl
theorem akM (r) (h : Lm = some r) : Runs Tryz.prog 20 [] [] (.d (eB r)) []:=by
 obtain rfl:=bJ (h.symm.trans Y9);exact akL Y9
def akN (aH : (List ah)) (aI : (List ah)) (v2 : Int) : St:=⟨bZ 27 [(0,.d ((eL aj) aH)),(1,.d ((eL aj) aI)),(5,.d (eI v2))], [],0⟩
def UO (aH : (List ah)) (aI : (List ah)) (k3 : (Int → Option Bool)) : Int → Option Bool:=fun v2=>(bif decide (v2 < (aH.length : Int)) then (aX aH v2).bind fun x5=>(aX aI v2).bind fun x6=>(Xk x5 x6).bind fun x7=>(bif (!x7) then some false else k3 (IntKind.i64.wrap (v2 + 1))) else some true)
def aa8 (aH : (List ah)) (aI : (List ah)) : Int → Option Bool:=bQ (UO aH aI) fuel
def Q9 (aH : (List ah)) (aI : (List ah)) : Option Bool:=(bif ((aH.length : Int) != (aI.length : Int)) then some false else aa8 aH aI 0)
theorem aa9 (aH aI r) (h : Q9 aH aI = some r) : Runs Tryz.prog 62 [.d ((eL aj) aH),.d ((eL aj) aI)] [] (.d (eB r)) []:=Runs.aK Tryz.func62 rfl <| SP.rg <| .aM 1 <| SP.aC <| SP.rg <| .a 1 <| .p (aJ aj aH gB rfl) <| .a 1 <| .p (aJ aj aI gB rfl) <| .aM 1 <| SP.cnd h (fun h=>SP.rg <| .aM 1 <| by cases h;exact .ret (aG [])) fun h=>SP.skip <| SP.aC <| SP.rg <| .aM 1 <| SP.block <| SP.bQ (akN aH aI) _ _ _ (aA (mk 27 35) []) h <| fun J9 k3 hk3 v2 h=>SP.aC <| SP.rg <| .a 2 <| .p (aJ aj aH gB rfl) <| .aM 1 <| SP.cnd h (fun h=>SP.skip <| SP.aC <| SP.block <| abO h fun x5 hx5 x6 hx6 x7 hx7 h=>SP.nH (by kernel_rfl) (by kernel_rfl) (by kernel_rfl) (.a 2 <| .p (aT aj hx5 gB jR rfl) <| .a 3 <| .p (aT aj hx6 gB jR rfl) <| .a 1 <| .call (akE x5 x6 x7 hx7) awY <| .a 1 <| .nil _) <| SP.cnd h (fun h=>SP.rg <| .aM 1 <| by cases h;exact .ret (aG [])) fun h=>SP.skip <| SP.bF <| .a 3 <| .nil <| hk3 _ _ (aA (mk 27 35) []) h) fun h=>SP.exit <| SP.rg <| .aM 1 <| by cases h;exact .ret (aG [])
end Go.Proofs.YtolgdkhlelfpoaaGreat
end
section
namespace Go.Proofs.YtolgdkhlelfpoaaGreat
open Go.RowKit
set_option maxRecDepth 20000
set_option maxHeartbeats 4000000
def aes (aH : (List gV)) (aI : (List gV)) (v2 : Int) : St:=⟨bZ 26 [(0,.d ((eL gW) aH)),(1,.d ((eL gW) aI)),(5,.d (eI v2))], [],0⟩
def JC (aH : (List gV)) (aI : (List gV)) (k3 : (Int → Option Bool)) : Int → Option Bool:=fun v2=>(bif decide (v2 < (aH.length : Int)) then (aX aH v2).bind fun x5=>(aX aI v2).bind fun x6=>(bif (!ZY x5 x6) then some false else k3 (IntKind.i64.wrap (v2 + 1))) else some true)
def TK (aH : (List gV)) (aI : (List gV)) : Int → Option Bool:=bQ (JC aH aI) fuel
def JD (aH : (List gV)) (aI : (List gV)) : Option Bool:=(bif ((aH.length : Int) != (aI.length : Int)) then some false else TK aH aI 0)
theorem aeu (aH aI r) (h : JD aH aI = some r) : Runs Tryz.prog 63 [.d ((eL gW) aH),.d ((eL gW) aI)] [] (.d (eB r)) []:=Runs.aK Tryz.func63 rfl <| SP.rg <| .aM 1 <| SP.aC <| SP.rg <| .a 1 <| .p (aJ gW aH C9 rfl) <| .a 1 <| .p (aJ gW aI C9 rfl) <| .aM 1 <| SP.cnd h (fun h=>SP.rg <| .aM 1 <| by cases h;exact .ret (aG [])) fun h=>SP.skip <| SP.aC <| SP.rg <| .aM 1 <| SP.block <| SP.bQ (aes aH aI) _ _ _ (aA (mk 26 35) []) h <| fun J8 k3 hk3 v2 h=>SP.aC <| SP.rg <| .a 2 <| .p (aJ gW aH C9 rfl) <| .aM 1 <| SP.cnd h (fun h=>SP.skip <| SP.aC <| SP.block <| gu h fun x5 hx5 x6 hx6 h=>SP.nH (by kernel_rfl) (by kernel_rfl) (by kernel_rfl) (.a 2 <| .p (aT gW hx5 C9 abQ rfl) <| .a 3 <| .p (aT gW hx6 C9 abQ rfl) <| .a 1 <| .p (x:=.d (eB (!ZY x5 x6))) (Vd [.int .i64 x5.Pos,.int .i64 x5.Id,.int .i64 x5.Status,.bool x5.Gone] [.int .i64 x6.Pos,.int .i64 x6.Id,.int .i64 x6.Status,.bool x6.Gone] (ajb x5 x6) (by decide) aw2 rfl) <| .nil _) <| SP.cnd h (fun h=>SP.rg <| .aM 1 <| by cases h;exact .ret (aG [])) fun h=>SP.skip <| SP.bF <| .a 3 <| .nil <| hk3 _ _ (aA (mk 26 35) []) h) fun h=>SP.exit <| SP.rg <| .aM 1 <| by cases h;exact .ret (aG [])
def aev (aH : (List Int)) (aI : (List Int)) (v2 : Int) : St:=⟨bZ 26 [(0,.d ((eL eI) aH)),(1,.d ((eL eI) aI)),(5,.d (eI v2))], [],0⟩
def JE (aH : (List Int)) (aI : (List Int)) (k3 : (Int → Option Bool)) : Int → Option Bool:=fun v2=>(bif decide (v2 < (aH.length : Int)) then (aX aH v2).bind fun x5=>(aX aI v2).bind fun x6=>(bif (x5 != x6) then some false else k3 (IntKind.i64.wrap (v2 + 1))) else some true)
def TL (aH : (List Int)) (aI : (List Int)) : Int → Option Bool:=bQ (JE aH aI) fuel
def JF (aH : (List Int)) (aI : (List Int)) : Option Bool:=(bif ((aH.length : Int) != (aI.length : Int)) then some false else TL aH aI 0)
theorem aew (aH aI r) (h : JF aH aI = some r) : Runs Tryz.prog 64 [.d ((eL eI) aH),.d ((eL eI) aI)] [] (.d (eB r)) []:=Runs.aK Tryz.func64 rfl <| SP.rg <| .aM 1 <| SP.aC <| SP.rg <| .a 1 <| .p (aJ eI aH dJ rfl) <| .a 1 <| .p (aJ eI aI dJ rfl) <| .aM 1 <| SP.cnd h (fun h=>SP.rg <| .aM 1 <| by cases h;exact .ret (aG [])) fun h=>SP.skip <| SP.aC <| SP.rg <| .aM 1 <| SP.block <| SP.bQ (aev aH aI) _ _ _ (aA (mk 26 35) []) h <| fun J8 k3 hk3 v2 h=>SP.aC <| SP.rg <| .a 2 <| .p (aJ eI aH dJ rfl) <| .aM 1 <| SP.cnd h (fun h=>SP.skip <| SP.aC <| SP.block <| gu h fun x5 hx5 x6 hx6 h=>SP.nH (by kernel_rfl) (by kernel_rfl) (by kernel_rfl) (.a 2 <| .p (aT eI hx5 dJ iO rfl) <| .a 3 <| .p (aT eI hx6 dJ iO rfl) <| .a 2 <| .nil _) <| SP.cnd h (fun h=>SP.rg <| .aM 1 <| by cases h;exact .ret (aG [])) fun h=>SP.skip <| SP.bF <| .a 3 <| .nil <| hk3 _ _ (aA (mk 26 35) []) h) fun h=>SP.exit <| SP.rg <| .aM 1 <| by cases h;exact .ret (aG [])
def aex (aH : bY) (aI : bY) (v4 : Int) : St:=⟨bZ 59 [(2,.ptr 0 0),(3,.ptr 1 0),(5,.d (eI v4))], [.box (dc (bT aH)),.box (dc (bT aI))],0⟩
def aey (aH : bY) (aI : bY) (v10 : Int) : St:=⟨bZ 59 [(2,.ptr 0 0),(3,.ptr 1 0),(6,.d (eI v10))], [.box (dc (bT aH)),.box (dc (bT aI))],0⟩
def JG (aH : bY) (aI : bY) (k11 : (Int → Option Bool)) : Int → Option Bool:=fun v10=>(bif decide (v10 < (aH.nN.length : Int)) then (aX aH.nN v10).bind fun fD=>(aX aI.nN v10).bind fun x14=>(bif (!OY fD x14) then some false else k11 (IntKind.i64.wrap (v10 + 1))) else some true)
def JH (aH : bY) (aI : bY) : Int → Option Bool:=bQ (JG aH aI) fuel
def JI (aH : bY) (aI : bY) (k5 : (Int → Option Bool)) : Int → Option Bool:=fun v4=>(bif decide (v4 < (aH.jW.length : Int)) then (aX aH.jW v4).bind fun x7=>(aX aI.jW v4).bind fun x8=>(bif (!LV x7 x8) then some false else k5 (IntKind.i64.wrap (v4 + 1))) else JH aH aI 0)
def TM (aH : bY) (aI : bY) : Int → Option Bool:=bQ (JI aH aI) fuel
def En (aH : bY) (aI : bY) : Option Bool:=(bif ((aH.jW.length : Int) != (aI.jW.length : Int)) then some true else some ((aH.nN.length : Int) != (aI.nN.length : Int))).bind fun x1=>(bif x1 then some false else TM aH aI 0)
theorem aez (aH aI r) (h : En aH aI = some r) : Runs Tryz.prog 65 [.d (bT aH),.d (bT aI)] [] (.d (eB r)) []:=Runs.aK Tryz.func65 rfl <| SP.rg <| .aM 3 <| SP.aC <| SP.rg <| .a 2 <| .p (aJ pW aH.jW SH rfl) <| .a 2 <| .p (aJ pW aI.jW SH rfl) <| .a 1 <| bnd h fun x1 hx1 h=>.merge 9 [14,15,16,17,18,19,20,21] 22 (.d (eB x1)) (dY hx1 (fun hb2 h=>.c (congrArg some hb2) <| .aM 8 <| by cases h;kernel_rfl) fun hb2 h=>.c (congrArg some hb2) <| .a 2 <| .p (aJ su aH.nN SI rfl) <| .a 2 <| .p (aJ su aI.nN SI rfl) <| .aM 2 <| by cases h;kernel_rfl) <| .bD <| SP.cnd h (fun h=>SP.rg <| .aM 1 <| by cases h;exact .ret (aG [])) fun h=>SP.skip <| SP.aC <| SP.rg <| .aM 1 <| SP.block <| SP.bQ (aex aH aI) _ _ _ (aA (mk 59 44) [(0,true),(1,true)]) h <| fun J17 k5 hk5 v4 h=>SP.aC <| SP.rg <| .a 3 <| .p (aJ pW aH.jW SH rfl) <| .aM 1 <| SP.cnd h (fun h=>SP.skip <| SP.aC <| SP.block <| gu h fun x7 hx7 x8 jl h=>SP.nH (by kernel_rfl) (by kernel_rfl) (by kernel_rfl) (.a 3 <| .p (aT pW hx7 SH amr rfl) <| .a 4 <| .p (aT pW jl SH amr rfl) <| .a 1 <| .p (x:=.d (eB (!LV x7 x8))) (Vd [.string x7.User,.int .i64 x7.Thread,.int .i64 x7.Id,.int .i64 x7.Time] [.string x8.User,.int .i64 x8.Thread,.int .i64 x8.Id,.int .i64 x8.Time] (abR x7 x8) (by decide) aw3 rfl) <| .nil _) <| SP.cnd h (fun h=>SP.rg <| .aM 1 <| by cases h;exact .ret (aG [])) fun h=>SP.skip <| SP.bF <| .a 3 <| .nil <| hk5 _ _ (aA (mk 59 44) [(0,true),(1,true)]) h) fun h=>SP.exit <| SP.aC <| SP.rg <| .aM 1 <| SP.block <| SP.bQ (aey aH aI) _ _ _ (aA (mk 59 76) [(0,true),(1,true)]) h <| fun J16 k11 WU v10 h=>SP.aC <| SP.rg <| .a 3 <| .p (aJ su aH.nN SI rfl) <| .aM 1 <| SP.cnd h (fun h=>SP.skip <| SP.aC <| SP.block <| gu h fun fD kH x14 jD h=>SP.nH (by kernel_rfl) (by kernel_rfl) (by kernel_rfl) (.a 3 <| .p (aT su kH SI ams rfl) <| .a 4 <| .p (aT su jD SI ams rfl) <| .a 1 <| .p (x:=.d (eB (!OY fD x14))) (Vd [.string fD.User,.int .i64 fD.Until] [.string x14.User,.int .i64 x14.Until] (adI fD x14) (by decide) aw4 rfl) <| .nil _) <| SP.cnd h (fun h=>SP.rg <| .aM 1 <| by cases h;exact .ret (aG [])) fun h=>SP.skip <| SP.bF <| .a 3 <| .nil <| WU _ _ (aA (mk 59 76) [(0,true),(1,true)]) h) fun h=>SP.exit <| SP.rg <| .aM 1 <| by cases h;exact .ret (aG [])
def Lp (aH : bY) (aI : bY) : Option Bool:=(bif (aH.Id.toList == aI.Id.toList) then some (aH.Next == aI.Next) else some false).bind fun x1=>(bif x1 then (Q9 aH.Events aI.Events).bind fun x5=>some x5 else some false).bind fun x3=>(bif x3 then (Q9 aH.Waiting aI.Waiting).bind fun x8=>some x8 else some false).bind fun x6=>(bif x6 then (JD aH.Rows aI.Rows).bind fun x11=>some x11 else some false).bind fun x9=>(bif x9 then (JF aH.GZ aI.GZ).bind fun x14=>some x14 else some false).bind fun x12=>(bif x12 then (Xj aH.State aI.State).bind fun x17=>some x17 else some false).bind fun x15=>(bif x15 then (En aH aI).bind fun kX=>some kX else some false).bind fun x18=>some x18
theorem sJ (aH aI r) (h : Lp aH aI = some r) : Runs Tryz.prog 21 [.d (bT aH),.d (bT aI)] [] (.d (eB r)) []:=Runs.aK Tryz.func21 rfl <| SP.rg <| .aM 3 <| SP.rg <| .a 5 <| bnd h fun x1 hx1 h=>.merge 7 [10,11,12,13,14,15] 16 (.d (eB x1)) (dY hx1 (fun hb2 h=>.c (congrArg some hb2) <| .aM 6 <| by cases h;kernel_rfl) fun hb2 h=>.c (congrArg some hb2) <| .aM 6 <| by cases h;kernel_rfl) <| .a 1 <| bnd h fun x3 hx3 h=>.merge 6 [18,19,20,21,22] 23 (.d (eB x3)) (have h:=hx3;by cases x1 with | true=>exact (have h:=aO rfl h;bnd h fun x5 hx5 h=>.a 4 <| .call (aa9 aH.Events aI.Events x5 hx5) arP <| .aM 1 <| by cases h;kernel_rfl) | false=>exact (have h:=aN rfl h;.aM 6 <| by cases h;kernel_rfl)) <| .a 1 <| bnd h fun x6 hx6 h=>.merge 6 [25,26,27,28,29] 30 (.d (eB x6)) (have h:=hx6;by cases x3 with | true=>exact (have h:=aO rfl h;bnd h fun x8 jl h=>.a 4 <| .call (aa9 aH.Waiting aI.Waiting x8 jl) arP <| .aM 1 <| by cases h;kernel_rfl) | false=>exact (have h:=aN rfl h;.aM 6 <| by cases h;kernel_rfl)) <| .a 1 <| bnd h fun x9 iK h=>.merge 6 [32,33,34,35,36] 37 (.d (eB x9)) (have h:=iK;by cases x6 with | true=>exact (have h:=aO rfl h;bnd h fun x11 fZ h=>.a 4 <| .call (aeu aH.Rows aI.Rows x11 fZ) aw5 <| .aM 1 <| by cases h;kernel_rfl) | false=>exact (have h:=aN rfl h;.aM 6 <| by cases h;kernel_rfl)) <| .a 1 <| bnd h fun x12 jB h=>.merge 6 [39,40,41,42,43] 44 (.d (eB x12)) (have h:=jB;by cases x9 with | true=>exact (have h:=aO rfl h;bnd h fun x14 jD h=>.a 4 <| .call (aew aH.GZ aI.GZ x14 jD) aw6 <| .aM 1 <| by cases h;kernel_rfl) | false=>exact (have h:=aN rfl h;.aM 6 <| by cases h;kernel_rfl)) <| .a 1 <| bnd h fun x15 jX h=>.merge 6 [46,47,48,49,50] 51 (.d (eB x15)) (have h:=jX;by cases x12 with | true=>exact (have h:=aO rfl h;bnd h fun x17 yj h=>.a 4 <| .call (akC aH.State aI.State x17 yj) aw7 <| .aM 1 <| by cases h;kernel_rfl) | false=>exact (have h:=aN rfl h;.aM 6 <| by cases h;kernel_rfl)) <| .a 1 <| bnd h fun x18 sS h=>.merge 4 [53,54,55] 56 (.d (eB x18)) (have h:=sS;by cases x15 with | true=>exact (have h:=aO rfl h;bnd h fun kX wP h=>.a 2 <| .call (aez aH aI kX wP) aw8 <| .aM 1 <| by cases h;kernel_rfl) | false=>exact (have h:=aN rfl h;.aM 4 <| by cases h;kernel_rfl)) <| .aM 1 <| by cases h;exact .ret (aG [])
end Go.Proofs.YtolgdkhlelfpoaaGreat
end
section
namespace Go.Proofs.YtolgdkhlelfpoaaGreat
open Go.RowKit
theorem qK (l : List Int) (h : l.length ≤ 1099511627776) : qy l = some (kC l):=by
 unfold qy wM iG jw;rw [fK (by simp;omega)];have h2 : (GX l).length ≤ 1099511627776:=by rw [(uO l).length_eq];exact h
 simp [h,abG,PY]
theorem lJ (l : List Int) : (kC l).length ≤ l.length:=by
 rw [← PY];exact Nat.le_trans (Lib.compact_length_le _) (by simp)
theorem XM (a b : List Int) : (Gp a b).length ≤ a.length:=by
 unfold Gp;exact Nat.le_trans (List.length_filter_le _ _) (lJ a)
theorem NW (a b : List Int) : (kV a b).length ≤ a.length + b.length:=by
 rw [MS];exact Nat.le_trans (lJ _) (by simp)
theorem akO (a b : Int) : cmp_Less_int a b = some (decide (a < b)):=by
 simp [cmp_Less_int,cmp_isNaN_int]
theorem aoL (l : List Int) (x : Int) (hi : Inc l) (hn : l.length ≤ 1099511627776) : dG (oI l x) (fun r=>r.2 = hasB l x):=by
 unfold oI yE;refine uZ (fun (m : Nat) (a b : Int)=>∃ i j : Nat,a = i ∧ b = j ∧ i ≤ j ∧ j ≤ l.length ∧ m = j - i ∧ (∀ q,(hq : q < i) → (hl : q < l.length) → l[q] < x) ∧ (∀ q,(hq : j ≤ q) → (hl : q < l.length) → x ≤ l[q])) ?_ fuel l.length 0 (l.length : Int) (by simp [fuel];omega) ⟨0,l.length,rfl,rfl,Nat.zero_le _,Nat.le_refl _,rfl,fun q hq=>by omega,fun q hq hl=>by omega⟩;rintro m a b k ⟨i,j,rfl,rfl,hij,hj,rfl,h1,h2⟩ hk;unfold yD;refine dG.bif (fun e=>?_) fun e=>?_
 · have hlt : i < j:=by simpa using e
   have w1 : IntKind.i64.wrap ((i : Int) + (j : Int)) = ((i + j : Nat) : Int):=by rw [IntKind.wrap_i64];omega
   have w2 : IntKind.u64.wrap ((i + j : Nat) : Int) = ((i + j : Nat) : Int):=by rw [IntKind.wrap_u64];omega
   have w3 : RX .shr .u64 ((i + j : Nat) : Int) 1 = some (((i + j) / 2 : Nat) : Int):=by
    have e0 : ((i + j : Nat) : Int).fdiv (2 ^ (min (1 : Int).toNat IntKind.u64.bits)) = (((i + j) / 2 : Nat) : Int):=by
     have : (2 : Int) ^ (min (1 : Int).toNat IntKind.u64.bits) = 2:=rfl;rw [this,Int.fdiv_eq_ediv_of_nonneg _ (by omega)];omega
    unfold RX;rw [if_neg (by omega)];exact congrArg some e0
   have w4 : IntKind.i64.wrap (((i + j) / 2 : Nat) : Int) = (((i + j) / 2 : Nat) : Int):=by rw [IntKind.wrap_i64];omega
   have hm : (i + j) / 2 < l.length:=by omega
   rw [w1,w2,w3];simp only [Option.bind_some];rw [w4,fA hm];simp only [Option.bind_some];rw [akO,wrap_succ _ (by omega)];simp only [Option.bind_some];have mono : ∀ p q,(hp : p < l.length) → (hq : q < l.length) → p < q → l[p] < l[q]:=fun p q hp hq hpq=>List.pairwise_iff_getElem.1 hi p q hp hq hpq;refine dG.bif (fun e2=>?_) fun e2=>?_
   · have e3 : l[(i + j) / 2] < x:=by simpa using e2
     refine hk (j - ((i + j) / 2 + 1)) _ _ (by omega) ⟨(i + j) / 2 + 1,j,rfl,rfl,by omega,hj,rfl,fun q hq hl=>?_,h2⟩;by_cases eq : q = (i + j) / 2
     · subst eq;exact e3
     have:=mono q ((i + j) / 2) hl hm (by omega);omega
   have e3 : ¬ l[(i + j) / 2] < x:=by simpa using e2
   refine hk ((i + j) / 2 - i) _ _ (by omega) ⟨i,(i + j) / 2,rfl,rfl,by omega,by omega,rfl,h1,fun q hq hl=>?_⟩;by_cases eq : q = (i + j) / 2
   · subst eq;omega
   have:=mono ((i + j) / 2) q hm hl (by omega);omega
 have hlt : ¬ i < j:=by simpa using e
 have hij' : i = j:=by omega
 subst hij';have mono : ∀ p q,(hp : p < l.length) → (hq : q < l.length) → p < q → l[p] < l[q]:=fun p q hp hq hpq=>List.pairwise_iff_getElem.1 hi p q hp hq hpq;by_cases hl : i < l.length
 · rw [show decide ((i : Int) < (l.length : Int)) = true by simpa using hl,fA hl];simp only [cond_true,Option.bind_some];by_cases e3 : l[i] = x
   · have e4 : (l[i] == x) = true:=by simpa using e3
     rw [e4];refine .ret ?_;exact (qZ.2 (e3 ▸ List.getElem_mem hl)).symm
   have e4 : (l[i] == x) = false:=by simpa using e3
   rw [e4]
   have hno : hasB l x = false:=ql.2 fun hm=>by
    obtain ⟨q,hq,e5⟩:=List.getElem_of_mem hm;rcases Nat.lt_trichotomy q i with h5 | h5 | h5
    · have:=h1 q h5 hq;omega
    · subst h5;exact e3 e5
    have:=mono i q hl hq h5;have:=h2 i (Nat.le_refl _) hl;omega
   simp [Bd,hno,dG]
 rw [show decide ((i : Int) < (l.length : Int)) = false by simpa using hl];refine .ret ?_;refine (ql.2 fun hm=>?_).symm;obtain ⟨q,hq,e4⟩:=List.getElem_of_mem hm;have:=h1 q (by omega) hq;omega
theorem ajy {l b : List Int} {i : Nat} (h : i < l.length) : (l.take (i + 1)).filter (fun x=>!hasB b x) = (l.take i).filter (fun x=>!hasB b x) ++ (if hasB b l[i] then [] else [l[i]]):=by
 rw [List.take_succ_eq_append_getElem h,List.filter_append];cases hb : hasB b l[i] <;> simp [hb]
theorem ajz (a b : List Int) (h : a.length ≤ 274877906944) (h2 : b.length ≤ 274877906944) : Tn a b = some (Gp a b):=by
 unfold Tn;rw [qK b (by omega),qK a (by omega)];simp only [Option.bind_some];have ha:=lJ a;have hb:=lJ b;have hbi:=nV b
 have hM : Gp a b = ((kC a).take (kC a).length).filter (fun x=>!hasB (kC b) x):=by
  rw [List.take_length];unfold Gp;congr 1;funext x;congr 1;by_cases hx : x ∈ b
  · rw [qZ.2 hx,qZ.2 (nU.2 hx)]
  rw [ql.2 hx,ql.2 (fun h=>hx (nU.1 h))]
 rw [hM];generalize kC a = S at *;generalize kC b = S2 at *;refine dG.eq ?_;unfold YZ;refine ru S.length (by simp [fuel];omega) (fun i v=>v = (S.take i).filter (fun x=>!hasB S2 x)) (by simp) ?_ ?_
 · rintro i v k hi rfl hk;have hw:=wrap_succ i (by omega);have hfl : ((S.take i).filter (fun x=>!hasB S2 x)).length ≤ i:=Nat.le_trans (List.length_filter_le _ _) (by simp;omega);have hst:=ajy (b:=S2) hi;unfold QK Ju;rw [show decide ((i : Int) < (S.length : Int)) = true by simpa using hi,fA hi];simp only [cond_true,Option.bind_some];refine (aoL S2 S[i] hbi (by omega)).bind ?_;rintro r hr;rw [hr];cases hh : hasB S2 S[i] with
   | true=>
     simp only [Bool.not_true,cond_false,hw];exact hk _ (by rw [hst];simp [hh])
   | false=>
     simp only [Bool.not_false,cond_true,hw];rw [fK (by simp only [List.length_singleton];omega)];exact hk _ (by rw [hst];simp [hh])
 rintro v k rfl;unfold QK;rw [show decide ((S.length : Int) < (S.length : Int)) = false by simp];exact .ret rfl
theorem amB (l : List Int) (x : Int) : (put l x).length ≤ l.length + 1:=by
 unfold put;split
 · omega
 rw [List.length_append,List.length_cons];have:=congrArg List.length (List.takeWhile_append_dropWhile (p:=(decide <| · < x)) (l:=l));rw [List.length_append] at this;omega
end Go.Proofs.YtolgdkhlelfpoaaGreat
end
section
namespace Go.Proofs.YtolgdkhlelfpoaaGreat
open Go.RowKit
variable {α : Type}
theorem Lr {R : Type} (c : Bool) (x y : R) : (bif c then some x else some y) = some (bif c then x else y):=by cases c <;> rfl
theorem aoM (a b : Bool) : (bif a then true else b) = (a || b):=by cases a <;> rfl
theorem atj (a b : Bool) : (bif a then b else false) = (a && b):=by cases a <;> rfl
theorem Ia {s : ByteArray} {i : Nat} (h : i < (aZ s).length) : lK s (i : Int) = some (aZ s)[i]:=by
 unfold lK;rw [if_pos (Int.natCast_nonneg i)];have h' : i < s.size:=by rw [dR] at h;exact h
 have e : s[i]? = some s[i]:=by simp [h']
 simp only [Int.toNat_natCast,e,Option.map_some,aZ,List.getElem_map];rfl
theorem amC {s : ByteArray} (h : 0 < (aZ s).length) : lK s 0 = some (aZ s)[0]:=Ia (i:=0) h
theorem scan {R α : Type} {body : (Int → Option R) → Int → Option R} (l : List α) (hl : l.length < fuel) (p : α → Bool) (bad : R) (rest : Option R)
 (hb : ∀ k (i : Nat) (h : i < l.length),body k (i : Int) = bif p l[i] then some bad else k (IntKind.i64.wrap ((i : Int) + 1))) (he : ∀ k,body k (l.length : Int) = rest) :
 bQ body fuel 0 = bif l.any p then some bad else rest:=by
 have hf : fuel = 9223372036854775808:=rfl
 have key : ∀ n (i : Nat),i + n = l.length → ∀ m,n < m → bQ body m (i : Int) = bif (l.drop i).any p then some bad else rest:=by
  intro n
  induction n with
  | zero=>
    intro i hi m hm;obtain ⟨m,rfl⟩ : ∃ m',m = m' + 1:=⟨m - 1,by omega⟩
    have : i = l.length:=by omega
    subst this;show body (bQ body m) _ = _;rw [he,List.drop_length];rfl
  | succ n ih=>
    intro i hi m hm;obtain ⟨m,rfl⟩ : ∃ m',m = m' + 1:=⟨m - 1,by omega⟩
    have hlt : i < l.length:=by omega
    show body (bQ body m) _ = _;rw [hb _ i hlt,wrap_succ i (by omega),ih (i + 1) (by omega) m (by omega),List.drop_eq_getElem_cons hlt,List.any_cons];cases p l[i] <;> rfl
 have:=key l.length 0 (by omega) fuel hl;simpa using this
theorem bytes_inj {s t : ByteArray} (h : aZ s = aZ t) : s = t:=by
 have hd : s.data.toList = t.data.toList:=by
  unfold aZ at h;refine List.map_inj_right (f:=fun c : UInt8=>(c.toNat : Int)) (fun a b hab=>?_) |>.1 h;exact UInt8.toNat_inj.1 (by omega)
 obtain ⟨⟨a⟩⟩:=s;obtain ⟨⟨b⟩⟩:=t;simp only at hd;rw [hd]
theorem toList_inj {s t : ByteArray} (h : s.toList = t.toList) : s = t:=by
 rw [ByteArray.toList_eq,ByteArray.toList_eq] at h;obtain ⟨⟨a⟩⟩:=s;obtain ⟨⟨b⟩⟩:=t;simp only at h;rw [h]
theorem Ci {s t : ByteArray} : (s.toList == t.toList) = decide (s = t):=by
 by_cases h : s = t
 · subst h;simp
 have : s.toList ≠ t.toList:=fun e=>h (toList_inj e);simp [h,this]
theorem Xm {R α : Type} {body : (Int → Option R) → Int → Option R} (l : List α) (hl : l.length < fuel) (q : α → Bool) (g : Nat → Option R) (rest : Option R)
 (hb : ∀ k (i : Nat) (h : i < l.length),body k (i : Int) = bif q l[i] then g i else k (IntKind.i64.wrap ((i : Int) + 1))) (he : ∀ k,body k (l.length : Int) = rest) :
 bQ body fuel 0 = if l.findIdx q < l.length then g (l.findIdx q) else rest:=by
 have hf : fuel = 9223372036854775808:=rfl
 have key : ∀ n (i : Nat),i + n = l.length → ∀ m,n < m → bQ body m (i : Int) = if (l.drop i).findIdx q + i < l.length then g ((l.drop i).findIdx q + i) else rest:=by
  intro n
  induction n with
  | zero=>
    intro i hi m hm;obtain ⟨m,rfl⟩ : ∃ m',m = m' + 1:=⟨m - 1,by omega⟩
    have : i = l.length:=by omega
    subst this;show body (bQ body m) _ = _;rw [he,List.drop_length,if_neg (by omega)]
  | succ n ih=>
    intro i hi m hm;obtain ⟨m,rfl⟩ : ∃ m',m = m' + 1:=⟨m - 1,by omega⟩
    have hlt : i < l.length:=by omega
    show body (bQ body m) _ = _;rw [hb _ i hlt,wrap_succ i (by omega),ih (i + 1) (by omega) m (by omega),List.drop_eq_getElem_cons hlt,List.findIdx_cons];cases q l[i] with
    | true=>simp [hlt]
    | false=>simp only [cond_false];rw [show (l.drop (i + 1)).findIdx q + (i + 1) = (l.drop (i + 1)).findIdx q + 1 + i by omega]
 have:=key l.length 0 (by omega) fuel hl;simpa using this
theorem PE {s : ByteArray} {lo hi : Nat} (h1 : lo ≤ hi) (h2 : hi ≤ s.size) : DI s (lo : Int) (hi : Int) = some (s.extract lo hi):=by
 unfold DI;rw [if_pos ⟨by omega,by omega,by omega⟩];simp
theorem VX (s : ByteArray) (a b : Nat) : aZ (s.extract a b) = ((aZ s).take b).drop a:=by
 simp [aZ,ByteArray.data_extract,List.map_drop,List.map_take,List.extract_eq_drop_take']
theorem Pm (l : List α) (q : α → Bool) : (bif l.any (fun c=>!q c) then false else true) = l.all q:=by
 have : l.any (fun c=>!q c) = !l.all q:=by simp [List.not_all_eq_any_not]
 rw [this];cases l.all q <;> rfl
theorem Ls : ∀ (l : List UInt8) (c : UInt8),Lib.indexByte l c = if l.findIdx (· == c) < l.length then ((l.findIdx (· == c) : Nat) : Int) else -1
 | [],c=>rfl
 | b :: l,c=>by
   unfold Lib.indexByte;rw [List.findIdx_cons];cases h : b == c with
   | true=>simp
   | false=>
     rw [Ls l c];simp only [Bool.false_eq_true,if_false,cond_false,List.length_cons];by_cases hl : l.findIdx (· == c) < l.length
     · simp only [hl,if_true,show l.findIdx (· == c) + 1 < l.length + 1 by omega];have : (((l.findIdx (· == c) : Nat) : Int) == -1) = false:=by simp
       simp [this]
     simp [hl,show ¬ l.findIdx (· == c) + 1 < l.length + 1 by omega]
end Go.Proofs.YtolgdkhlelfpoaaGreat
end
section
namespace Go.Proofs.YtolgdkhlelfpoaaGreat
open Go.RowKit
structure jG (e : ah) : Prop where
 prev : e.gy.length ≤ 40
 auth : e.fB.length ≤ 40
 allow : e.Content.Allow.length ≤ 100
 deny : e.Content.kT.length ≤ 100
 users : e.Content.Levels.Users.length ≤ 100
 kinds : e.Content.Levels.Kinds.length ≤ 100
 room : e.Room.size ≤ 2000
 sender : e.cZ.size ≤ 2000
 key : e.Key.size ≤ 2000
 text : e.Content.Text.size ≤ 2000
 via : e.Content.Via.size ≤ 2000
 server : e.zV.Server.size ≤ 2000
 allows : ∀ x ∈ e.Content.Allow,x.size ≤ 2000
 denies : ∀ x ∈ e.Content.kT,x.size ≤ 2000
 names : ∀ x ∈ e.Content.Levels.Users,x.User.size ≤ 2000
theorem jH {a b : Int} (h : decide (a > b) = false) : a ≤ b:=by have:=of_decide_eq_false h;omega
theorem Za {α : Type} {l : List α} {P : α → Prop} (h : ∀ j,(hl : j < l.length) → P l[j]) : ∀ x ∈ l,P x:=fun x hx=>by
 obtain ⟨j,hj,rfl⟩:=List.getElem_of_mem hx;exact h j hj
theorem Lu {α : Type} {body : (Int → Option Bool) → Int → Option Bool} (l : List α) (hl : l.length < fuel) (big : α → Bool) (rest : Option Bool) {P : Prop}
 (hb : ∀ (k : Int → Option Bool) (i : Nat) (h : i < l.length),body k (i : Int) = bif big l[i] then some true else k (IntKind.i64.wrap ((i : Int) + 1))) (he : ∀ k,body k (l.length : Int) = rest)
 (hr : (∀ x ∈ l,big x = false) → dG rest (fun b=>b = false → P)) : dG (bQ body fuel 0) (fun b=>b = false → P):=by
 refine lu l.length hl (fun i=>∀ j,(hj : j < i) → (hl : j < l.length) → big l[j] = false) (fun j hj=>by omega) ?_ ?_
 · intro i k hi hI hk;have hf : fuel = 9223372036854775808:=rfl;rw [hb k i hi,wrap_succ i (by omega)];refine dG.bif (fun _=>.ret (fun h=>by cases h)) fun e=>hk fun j hj hl'=>?_;by_cases ej : j = i
   · subst ej;exact e
   exact hI j (by omega) hl'
 intro k hI;rw [he];exact hr (Za fun j hj=>hI j hj hj)
theorem dw {α R : Type} {l : List α} {i : Nat} (h : i < l.length) (f : α → Option R) (z : Option R) : (bif decide ((i : Int) < (l.length : Int)) then (aX l (i : Int)).bind f else z) = f l[i]:=by
 rw [show decide ((i : Int) < (l.length : Int)) = true by simpa using h,fA h];rfl
theorem dO {α R : Type} {l : List α} (y z : Option R) : (bif decide ((l.length : Int) < (l.length : Int)) then y else z) = z:=by
 rw [show decide ((l.length : Int) < (l.length : Int)) = false by simp];rfl
theorem ajA (e : ah) : dG (Xl e) (fun b=>b = false → jG e):=by
 have hf : fuel = 9223372036854775808:=rfl;have no : ∀ {P : Prop},dG (some true) (fun b=>b = false → P):=.ret fun h=>by cases h
 unfold Xl;simp only [Lr,Option.bind_some,aoM];refine dG.bif (fun _=>no) fun a=>?_;refine dG.bif (fun _=>no) fun b=>?_;simp only [Bool.or_eq_false_iff] at a b;obtain ⟨⟨⟨⟨⟨a1,a2⟩,a3⟩,a4⟩,a5⟩,a6⟩:=a;obtain ⟨⟨⟨⟨⟨b1,b2⟩,b3⟩,b4⟩,b5⟩,b6⟩:=b;have a1:=jH a1;have a2:=jH a2;have a3:=jH a3;have a4:=jH a4;have a5:=jH a5;have a6:=jH a6;have b1:=jH b1;have b2:=jH b2;have b3:=jH b3;have b4:=jH b4;have b5:=jH b5;have b6:=jH b6;unfold aa7;refine Lu e.Content.Allow (by omega) (fun x=>decide ((x.size : Int) > 2000)) (UK e 0) (fun k i h=>?_) (fun k=>?_) fun c1=>?_
 · unfold UL;rw [dw h]
 · unfold UL;rw [dO]
 unfold UK;refine Lu e.Content.kT (by omega) (fun x=>decide ((x.size : Int) > 2000)) (UH e 0) (fun k i h=>?_) (fun k=>?_) fun c2=>?_
 · unfold UJ;rw [dw h]
 · unfold UJ;rw [dO]
 unfold UH;refine Lu e.Content.Levels.Users (by omega) (fun x=>decide ((x.User.size : Int) > 2000)) (some false) (fun k i h=>?_) (fun k=>?_) fun c3=>?_
 · unfold UG;rw [dw h]
 · unfold UG;rw [dO]
 refine .ret fun _=>⟨by omega,by omega,by omega,by omega,by omega,by omega,by omega,by omega,by omega,by omega,by omega,by omega,fun x hx=>?_,fun x hx=>?_,fun x hx=>?_⟩
 · have:=jH (c1 x hx);omega
 · have:=jH (c2 x hx);omega
 have:=jH (c3 x hx);omega
end Go.Proofs.YtolgdkhlelfpoaaGreat
end
section
namespace Go.Proofs.YtolgdkhlelfpoaaGreat
open Go.RowKit
theorem fuel_lt {n : Nat} (h : n ≤ 1099511627776) : n < fuel:=by have : fuel = 9223372036854775808:=rfl;omega
theorem dec_lt {i n : Nat} (h : i < n) : decide ((i : Int) < (n : Int)) = true:=by simpa using h
theorem lg (n : Nat) : decide ((n : Int) < (n : Int)) = false:=by simp
theorem Hg {R A α : Type} {body : (A → Int → Option R) → A → Int → Option R} (l : List α) (hl : l.length ≤ 1099511627776) (step : A → α → A) (I : Nat → A → Prop) (fin : A → Option R) {a0 : A} (h0 : I 0 a0)
 (hb : ∀ k a (i : Nat) (h : i < l.length),I i a → I (i + 1) (step a l[i]) ∧ body k a (i : Int) = k (step a l[i]) (IntKind.i64.wrap ((i : Int) + 1)))
 (he : ∀ k a,I l.length a → body k a (l.length : Int) = fin a) : bg body fuel a0 0 = fin (l.foldl step a0):=by
 have key : ∀ n (i : Nat) (a : A),i + n = l.length → I i a → ∀ m,n < m → bg body m a (i : Int) = fin ((l.drop i).foldl step a):=by
  intro n
  induction n with
  | zero=>
    intro i a hi ha m hm;obtain ⟨m,rfl⟩ : ∃ m',m = m' + 1:=⟨m - 1,by omega⟩
    have : i = l.length:=by omega
    subst this;show body (bg body m) _ _ = _;rw [he _ _ ha,List.drop_length];rfl
  | succ n ih=>
    intro i a hi ha m hm;obtain ⟨m,rfl⟩ : ∃ m',m = m' + 1:=⟨m - 1,by omega⟩
    have hlt : i < l.length:=by omega
    obtain ⟨h1,h2⟩:=hb (bg body m) a i hlt ha;show body (bg body m) _ _ = _;rw [h2,wrap_succ i (by omega),ih (i + 1) _ (by omega) h1 m (by omega),List.drop_eq_getElem_cons hlt,List.foldl_cons]
 have:=key l.length 0 a0 (by omega) h0 fuel (fuel_lt hl);simpa using this
theorem Zb {R A α : Type} {body : (Int → A → Option R) → Int → A → Option R} (l : List α) (hl : l.length ≤ 1099511627776) (step : A → α → A) (I : Nat → A → Prop) (fin : A → Option R) {a0 : A} (h0 : I 0 a0)
 (hb : ∀ k a (i : Nat) (h : i < l.length),I i a → I (i + 1) (step a l[i]) ∧ body k (i : Int) a = k (IntKind.i64.wrap ((i : Int) + 1)) (step a l[i]))
 (he : ∀ k a,I l.length a → body k (l.length : Int) a = fin a) : bg body fuel 0 a0 = fin (l.foldl step a0):=by
 have key : ∀ n (i : Nat) (a : A),i + n = l.length → I i a → ∀ m,n < m → bg body m (i : Int) a = fin ((l.drop i).foldl step a):=by
  intro n
  induction n with
  | zero=>
    intro i a hi ha m hm;obtain ⟨m,rfl⟩ : ∃ m',m = m' + 1:=⟨m - 1,by omega⟩
    have : i = l.length:=by omega
    subst this;show body (bg body m) _ _ = _;rw [he _ _ ha,List.drop_length];rfl
  | succ n ih=>
    intro i a hi ha m hm;obtain ⟨m,rfl⟩ : ∃ m',m = m' + 1:=⟨m - 1,by omega⟩
    have hlt : i < l.length:=by omega
    obtain ⟨h1,h2⟩:=hb (bg body m) a i hlt ha;show body (bg body m) _ _ = _;rw [h2,wrap_succ i (by omega),ih (i + 1) _ (by omega) h1 m (by omega),List.drop_eq_getElem_cons hlt,List.foldl_cons]
 have:=key l.length 0 a0 (by omega) h0 fuel (fuel_lt hl);simpa using this
theorem xk {α : Type} (p : α → Bool) : ∀ l : List α,l.find? p = l[l.findIdx p]?
 | []=>rfl
 | x :: l=>by
   rw [List.find?_cons,List.findIdx_cons];cases h : p x with
   | true=>rfl
   | false=>simp [xk p l]
def kE (l : List ah) (id : Int) : Option ah:=l.find? fun e=>e.Id == id
def sV (l : List ah) (id : Int) : ah × Bool:=match kE l id with
 | some e=>(e,true)
 | none=>(gX,false)
theorem agw {l : List ah} {id : Int} {e : ah} (h : kE l id = some e) : e.Id = id:=by
 have:=List.find?_some h;simpa using this
theorem yx {l : List ah} {id : Int} {e : ah} (h : kE l id = some e) : e ∈ l:=List.mem_of_find?_eq_some h
theorem Np (l : List ah) (id : Int) : (sV l id).2 = (kE l id).isSome:=by
 unfold sV;cases kE l id <;> rfl
theorem Rf (l : List ah) (hl : l.length ≤ 1099511627776) (f : ah → Option Bool) (p : ah → Bool) (hf : ∀ e,f e = some (p e)) :
 je l f = some (if l.findIdx p < l.length then ((l.findIdx p : Nat) : Int) else -1):=by
 unfold je sQ;rw [Xm l (fuel_lt hl) p (fun i=>some (i : Int)) (some (-1))]
 · split <;> rfl
 · intro k i h;unfold ng;rw [dw h,hf];rfl
 intro k;unfold ng;rw [dO]
theorem found_eq (l : List ah) (p : ah → Bool) {n : Int} (hn : n = if l.findIdx p < l.length then ((l.findIdx p : Nat) : Int) else -1) :
 (bif decide (n < 0) then some (gX,false) else (aX l n).bind fun x3=>some (x3,true)) = some (match l.find? p with | some e=>(e,true) | none=>(gX,false)):=by
 subst hn;rw [xk];by_cases h : l.findIdx p < l.length
 · rw [if_pos h,List.getElem?_eq_getElem h,show decide (((l.findIdx p : Nat) : Int) < 0) = false by simp,fA h];rfl
 rw [if_neg h,List.getElem?_eq_none (by omega)];rfl
theorem jv (l : List ah) (id : Int) (hl : l.length ≤ 1099511627776) : kJ l id = some (sV l id):=by
 unfold kJ Um G5;rw [Rf l hl _ (fun e=>e.Id == id) fun _=>rfl];exact found_eq l _ rfl
def ofIds (l : List ah) (ids : List Int) : List ah:=ids.filterMap (kE l)
theorem foldl_append {α β : Type} (f : α → List β) : ∀ (l : List α) (a : List β),l.foldl (fun r x=>r ++ f x) a = a ++ l.flatMap f
 | [],a=>by simp
 | x :: l,a=>by rw [List.foldl_cons,foldl_append f l,List.flatMap_cons,List.append_assoc]
theorem ajB (l : List ah) : ∀ ids,ofIds l ids = ids.flatMap fun id=>(kE l id).toList
 | []=>rfl
 | id :: ids=>by
   unfold ofIds;rw [List.filterMap_cons,List.flatMap_cons,← ajB l ids];cases kE l id <;> rfl
theorem toList_le {α : Type} (o : Option α) : o.toList.length ≤ 1:=by cases o <;> simp
end Go.Proofs.YtolgdkhlelfpoaaGreat
end
section
namespace Go.Proofs.YtolgdkhlelfpoaaGreat
open Go.RowKit
theorem sW {l : List ah} {id : Int} {e : ah} (h : kE l id = some e) : sV l id = (e,true):=by unfold sV;rw [h]
theorem Eo {l : List ah} {id : Int} (h : kE l id = none) : sV l id = (gX,false):=by unfold sV;rw [h]
theorem ajC (l : List ah) (ids : List Int) : (ofIds l ids).length ≤ ids.length:=List.length_filterMap_le ..
theorem amD (l : List ah) (ids : List Int) : ids.foldl (fun r id=>r ++ (kE l id).toList) [] = ofIds l ids:=by
 rw [foldl_append (fun id=>(kE l id).toList),ajB];rfl
theorem akP (l : List ah) (ids : List Int) (hl : l.length ≤ 1000) (hi : ids.length ≤ 1000000) : Xc l ids = some (ofIds l ids):=by
 unfold Xc
 have hm : pF 376 gX 0 (ids.length : Int) = some []:=by
  unfold pF;rw [if_pos (by constructor <;> omega)];rfl
 rw [hm];simp only [Option.bind_some];unfold aa2;rw [Hg ids (by omega) (fun r id=>r ++ (kE l id).toList) (fun i r=>r.length ≤ i) (fun r=>some r) (by simp)]
 · rw [amD]
 · intro k a i h hI;have ht:=toList_le (kE l ids[i]);refine ⟨by rw [List.length_append];omega,?_⟩;unfold UA L9;rw [dw h,jv l _ (by omega)];cases hg : kE l ids[i] with
   | none=>simp [Eo hg]
   | some e=>
     rw [sW hg];simp only [Option.bind_some,cond_true,Option.toList_some];rw [fK (by simp only [List.length_singleton];omega)];rfl
 intro k a hI;unfold UA;rw [dO]
end Go.Proofs.YtolgdkhlelfpoaaGreat
end
section
namespace Go.Proofs.YtolgdkhlelfpoaaGreat
open Go.RowKit
def gG (l : List ah) (id : Int) : Bool:=(kE l id).isSome
def uN (l : List ah) (ids : List Int) : List Int:=(kC ids).filter (gG l)
theorem Fg {l : List ah} {ids : List Int} {x : Int} : x ∈ uN l ids ↔ x ∈ ids ∧ gG l x = true:=by unfold uN;rw [List.mem_filter,nU]
theorem Xn (l : List ah) (ids : List Int) : Inc (uN l ids):=(nV ids).sublist List.filter_sublist
def kZ (l : List ah) (id : Int) : List Int:=(sV l id).1.fB
def acN (l : List ah) (r : List Int) (x : Int) : List Int:=bif gG l x then put r x else r
def tZ (l : List ah) (ids : List Int) : List Int:=ids.foldl (fun r id=>(kZ l id).foldl (acN l) r) []
theorem agx (l : List ah) : ∀ (xs r : List Int),Inc r → Inc (xs.foldl (acN l) r) ∧ (∀ x,x ∈ xs.foldl (acN l) r ↔ x ∈ r ∨ x ∈ xs ∧ gG l x = true) ∧ (xs.foldl (acN l) r).length ≤ r.length + xs.length
 | [],r,h=>⟨h,fun x=>by simp,by simp⟩
 | y :: xs,r,h=>by
   rw [List.foldl_cons];unfold acN;cases hk : gG l y with
   | true=>
     obtain ⟨h1,h2,h3⟩:=agx l xs (put r y) (alm h);refine ⟨h1,fun x=>(h2 x).trans ?_,?_⟩
     · rw [alk,List.mem_cons];constructor
       · rintro ((h | rfl) | h)
         · exact .inl h
         · exact .inr ⟨.inl rfl,hk⟩
         exact .inr ⟨.inr h.1,h.2⟩
       rintro (h | ⟨rfl | h,h4⟩)
       · exact .inl (.inl h)
       · exact .inl (.inr rfl)
       exact .inr ⟨h,h4⟩
     have:=amB r y;simp only [List.length_cons,cond_true] at h3 ⊢;exact Nat.le_trans h3 (by omega)
   | false=>
     obtain ⟨h1,h2,h3⟩:=agx l xs r h;refine ⟨h1,fun x=>(h2 x).trans ⟨fun h=>?_,fun h=>?_⟩,?_⟩
     · rcases h with h | h
       · exact .inl h
       exact .inr ⟨List.mem_cons_of_mem _ h.1,h.2⟩
     · rcases h with h | ⟨h,h4⟩
       · exact .inl h
       rcases List.mem_cons.1 h with rfl | h
       · rw [hk] at h4;cases h4
       exact .inr ⟨h,h4⟩
     simp only [List.length_cons,cond_false] at h3 ⊢;exact Nat.le_trans h3 (by omega)
theorem acO (l : List ah) : ∀ (ids r : List Int),Inc r → Inc (ids.foldl (fun r id=>(kZ l id).foldl (acN l) r) r) ∧ ∀ x,x ∈ ids.foldl (fun r id=>(kZ l id).foldl (acN l) r) r ↔ x ∈ r ∨ gG l x = true ∧ ∃ id ∈ ids,x ∈ kZ l id
 | [],r,h=>⟨h,fun x=>by simp⟩
 | id :: ids,r,h=>by
   rw [List.foldl_cons];obtain ⟨g1,g2,_⟩:=agx l (kZ l id) r h;obtain ⟨h1,h2⟩:=acO l ids _ g1;refine ⟨h1,fun x=>(h2 x).trans ?_⟩;rw [g2 x];constructor
   · rintro ((h | h) | ⟨h3,i,h4,h5⟩)
     · exact .inl h
     · exact .inr ⟨h.2,id,List.mem_cons_self ..,h.1⟩
     exact .inr ⟨h3,i,List.mem_cons_of_mem _ h4,h5⟩
   rintro (h | ⟨h3,i,h4,h5⟩)
   · exact .inl (.inl h)
   rcases List.mem_cons.1 h4 with rfl | h4
   · exact .inl (.inr ⟨h5,h3⟩)
   exact .inr ⟨h3,i,h4,h5⟩
theorem Zc (l : List ah) (ids : List Int) : Inc (tZ l ids):=(acO l ids [] .nil).1
theorem xR {l : List ah} {ids : List Int} {x : Int} : x ∈ tZ l ids ↔ gG l x = true ∧ ∃ id ∈ ids,x ∈ kZ l id:=by
 unfold tZ;rw [(acO l ids [] .nil).2 x];simp
def chainOf (l : List ah) (ids : List Int) : List Int:=l.foldl (fun s _=>kV s (tZ l s)) (tZ l (uN l ids))
inductive Ch (l : List ah) (ids : List Int) : Int → Prop
 | one {i x : Int} (h : i ∈ ids) (hx : x ∈ kZ l i) (hk : gG l x = true) : Ch l ids x
 | more {y x : Int} (h : Ch l ids y) (hx : x ∈ kZ l y) (hk : gG l x = true) : Ch l ids x
theorem amE {l : List ah} {i x : Int} (h : x ∈ kZ l i) : gG l i = true:=by
 unfold kZ at h;unfold gG;cases hg : kE l i with
 | none=>rw [Eo hg] at h;cases h
 | some e=>rfl
theorem Fh {s t : List Int} (hs : Inc s) (ht : Inc t) (h : ∀ x ∈ s,x ∈ t) : s.length ≤ t.length ∧ (t.length ≤ s.length → s = t):=by
 have e : s = t.filter (fun x=>hasB s x):=Py hs (ht.sublist List.filter_sublist) fun x=>by
  rw [List.mem_filter,qZ];exact ⟨fun hx=>⟨h x hx,hx⟩,fun hx=>hx.2⟩
 have hl:=List.length_filter_le (fun x=>hasB s x) t;refine ⟨by rw [e];exact hl,fun hle=>?_⟩;have h3 : (t.filter (fun x=>hasB s x)).length = t.length:=by have:=congrArg List.length e;omega
 rw [e];exact List.filter_eq_self.2 (List.length_filter_eq_length_iff.1 h3)
def UQ (l : List ah) : List Int:=kC (l.map (·.Id))
theorem Z8 {l : List ah} {x : Int} (h : gG l x = true) : x ∈ UQ l:=by
 unfold gG at h;obtain ⟨e,he⟩:=Option.isSome_iff_exists.1 h;exact nU.2 (List.mem_map.2 ⟨e,yx he,agw he⟩)
theorem Xo (l : List ah) : ∀ (l' : List ah) (s : List Int),Inc s → (∀ x ∈ s,gG l x = true) →
 Inc (l'.foldl (fun s _=>kV s (tZ l s)) s) ∧ (∀ x ∈ l'.foldl (fun s _=>kV s (tZ l s)) s,gG l x = true) ∧ (∀ x ∈ s,x ∈ l'.foldl (fun s _=>kV s (tZ l s)) s) ∧
 ((UQ l).length ≤ s.length + l'.length → ∀ x ∈ tZ l (l'.foldl (fun s _=>kV s (tZ l s)) s),x ∈ l'.foldl (fun s _=>kV s (tZ l s)) s)
 | [],s,hs,hk=>⟨hs,hk,fun _ h=>h,fun hlen x hx=>by
     have h1:=(Fh hs (nV _) (fun x hx=>Z8 (hk x hx))).2 (by show (UQ l).length ≤ s.length;simpa using hlen);have h2:=Z8 (xR.1 hx).1;unfold UQ at h2
     rw [← h1] at h2;exact h2⟩
 | e :: l',s,hs,hk=>by
   rw [List.foldl_cons]
   have hku : ∀ x ∈ kV s (tZ l s),gG l x = true:=fun x hx=>by
    rcases Ey.1 hx with h | h
    · exact hk x h
    exact (xR.1 h).1
   obtain ⟨h1,h2,h3,h4⟩:=Xo l l' (kV s (tZ l s)) (OT _ _) hku;refine ⟨h1,h2,fun x hx=>h3 x (Ey.2 (.inl hx)),fun hlen=>?_⟩;have hsub:=Fh hs (OT s (tZ l s)) fun x hx=>Ey.2 (.inl hx);by_cases hfix : s = kV s (tZ l s)
   ·
    have hst : ∀ (l' : List ah),l'.foldl (fun s _=>kV s (tZ l s)) s = s:=by
     intro l'
     induction l' with
     | nil=>rfl
     | cons e l' ih=>rw [List.foldl_cons,← hfix,ih]
    rw [← hfix,hst];intro x hx;rw [hfix];exact Ey.2 (.inr hx)
   · refine h4 ?_
     have : s.length < (kV s (tZ l s)).length:=by
      rcases Nat.lt_or_ge s.length (kV s (tZ l s)).length with h | h
      · exact h
      exact absurd (hsub.2 h) hfix
     simp only [List.length_cons] at hlen;omega
theorem abb (l : List ah) (ids : List Int) : Inc (chainOf l ids):=(Xo l l _ (Zc _ _) fun _ hx=>(xR.1 hx).1).1
theorem akQ {l : List ah} {ids : List Int} {x : Int} (h : x ∈ chainOf l ids) : gG l x = true:=(Xo l l _ (Zc _ _) fun _ hx=>(xR.1 hx).1).2.1 x h
theorem abd (l : List ah) (ids : List Int) : ∀ (l' : List ah) (s : List Int),(∀ x ∈ s,Ch l ids x) → ∀ x ∈ l'.foldl (fun s _=>kV s (tZ l s)) s,Ch l ids x
 | [],s,h=>h
 | e :: l',s,h=>by
   rw [List.foldl_cons];refine abd l ids l' _ fun x hx=>?_;rcases Ey.1 hx with hx | hx
   · exact h x hx
   obtain ⟨h1,y,h2,h3⟩:=xR.1 hx;exact .more (h y h2) h3 h1
theorem abe {l : List ah} {ids : List Int} {x : Int} : x ∈ chainOf l ids ↔ Ch l ids x:=by
 constructor
 · refine abd l ids l _ (fun x hx=>?_) x;obtain ⟨h1,y,h2,h3⟩:=xR.1 hx;exact .one (Fg.1 h2).1 h3 h1
 obtain ⟨h1,h2,h3,h4⟩:=Xo l l _ (Zc l (uN l ids)) fun _ hx=>(xR.1 hx).1
 have hlen : (UQ l).length ≤ (tZ l (uN l ids)).length + l.length:=by
  have:=lJ (l.map (·.Id));unfold UQ;simp only [List.length_map] at this;omega
 have h5:=h4 hlen;intro h
 induction h with
 | one h hx hk=>exact h3 _ (xR.2 ⟨hk,_,Fg.2 ⟨h,amE hx⟩,hx⟩)
 | more h hx hk ih=>exact h5 _ (xR.2 ⟨hk,_,ih,hx⟩)
theorem Fj (l : List ah) (ids : List Int) : (chainOf l ids).length ≤ l.length:=by
 have h1:=(Fh (t:=UQ l) (abb l ids) (nV _) fun x hx=>Z8 (akQ hx)).1;have h2:=lJ (l.map fun e : ah=>e.Id);unfold UQ at h1;simp only [List.length_map] at h2;omega
def Xp (l : List ah) : Prop:=∀ e ∈ l,e.fB.length ≤ 40
theorem NY {l : List ah} (h : Xp l) (id : Int) : (kZ l id).length ≤ 40:=by
 unfold kZ;cases hg : kE l id with
 | none=>rw [Eo hg];exact Nat.zero_le _
 | some e=>rw [sW hg];exact h e (yx hg)
theorem vK {l : List ah} {r : List Int} (hi : Inc r) (h : ∀ x ∈ r,gG l x = true) : r.length ≤ l.length:=by
 have h1:=(Fh (t:=UQ l) hi (nV _) fun x hx=>Z8 (h x hx)).1;have h2:=lJ (l.map fun e : ah=>e.Id);unfold UQ at h1;simp only [List.length_map] at h2;omega
end Go.Proofs.YtolgdkhlelfpoaaGreat
end
section
namespace Go.Proofs.YtolgdkhlelfpoaaGreat
open Go.RowKit
section
variable {R A B C D E F G : Type} {Q : R → Prop}
theorem Iq {body : (A → B → C → Option R) → A → B → C → Option R} (I : Nat → A → B → C → Prop) (hs : ∀ m a b c k,I m a b c → (∀ m' a' b' c',m' < m → I m' a' b' c' → dG (k a' b' c') Q) → dG (body k a b c) Q) :
 ∀ n m a b c,m < n → I m a b c → dG (tC body n a b c) Q
 | 0,m,_,_,_,h,_=>by omega
 | n + 1,m,a,b,c,h,hi=>hs m a b c _ hi fun m' a' b' c' h' hi'=>Iq I hs n m' a' b' c' (by omega) hi'
theorem Zd {body : (A → B → C → D → E → Option R) → A → B → C → D → E → Option R} (I : Nat → A → B → C → D → E → Prop) (hs : ∀ m a b c d e k,I m a b c d e → (∀ m' a' b' c' d' e',m' < m → I m' a' b' c' d' e' → dG (k a' b' c' d' e') Q) → dG (body k a b c d e) Q) :
 ∀ n m a b c d e,m < n → I m a b c d e → dG (Af body n a b c d e) Q
 | 0,m,_,_,_,_,_,h,_=>by omega
 | n + 1,m,a,b,c,d,e,h,hi=>hs m a b c d e _ hi fun m' a' b' c' d' e' h' hi'=>Zd I hs n m' a' b' c' d' e' (by omega) hi'
theorem Ze {body : (A → B → C → D → E → F → Option R) → A → B → C → D → E → F → Option R} (I : Nat → A → B → C → D → E → F → Prop) (hs : ∀ m a b c d e f k,I m a b c d e f → (∀ m' a' b' c' d' e' f',m' < m → I m' a' b' c' d' e' f' → dG (k a' b' c' d' e' f') Q) → dG (body k a b c d e f) Q) :
 ∀ n m a b c d e f,m < n → I m a b c d e f → dG (Ag body n a b c d e f) Q
 | 0,m,_,_,_,_,_,_,h,_=>by omega
 | n + 1,m,a,b,c,d,e,f,h,hi=>hs m a b c d e f _ hi fun m' a' b' c' d' e' f' h' hi'=>Ze I hs n m' a' b' c' d' e' f' (by omega) hi'
theorem ag8 {body : (A → B → C → D → E → F → G → Option R) → A → B → C → D → E → F → G → Option R} (I : Nat → A → B → C → D → E → F → G → Prop) (hs : ∀ m a b c d e f g k,I m a b c d e f g → (∀ m' a' b' c' d' e' f' g',m' < m → I m' a' b' c' d' e' f' g' → dG (k a' b' c' d' e' f' g') Q) → dG (body k a b c d e f g) Q) :
 ∀ n m a b c d e f g,m < n → I m a b c d e f g → dG (RV body n a b c d e f g) Q
 | 0,m,_,_,_,_,_,_,_,h,_=>by omega
 | n + 1,m,a,b,c,d,e,f,g,h,hi=>hs m a b c d e f g _ hi fun m' a' b' c' d' e' f' g' h' hi'=>ag8 I hs n m' a' b' c' d' e' f' g' (by omega) hi'
end
theorem xU {V : Type} : ∀ (m : List (Int × V)) (k k' : Int) (v : V),dD (eY m k v) k' = bif k' == k then some v else dD m k'
 | [],k,k',v=>by
   unfold eY dD;rfl
 | p :: m,k,k',v=>by
   unfold eY;cases h : k == p.1 with
   | true=>
     have h1 : k = p.1:=by simpa using h
     subst h1;simp only [cond_true,dD];cases k' == p.1 <;> rfl
   | false=>
     have h1 : k ≠ p.1:=by simpa using h
     simp only [cond_false,dD,xU m k k' v];cases h2 : k' == p.1 with
     | true=>
       have h3 : k' = p.1:=by simpa using h2
       subst h3;have : (p.1 == k) = false:=by simpa using fun e : p.1 = k=>h1 e.symm
       rw [this];rfl
     | false=>rfl
def TN (l : List ah) (m : List (Int × Int)) : Prop:=∀ id,(dD m id = none ∧ kE l id = none) ∨ ∃ (n : Nat) (e : ah),dD m id = some (n : Int) ∧ kE l id = some e ∧ l[n]? = some e
theorem TN.isSome {l : List ah} {m : List (Int × Int)} (h : TN l m) (id : Int) : (dD m id).isSome = gG l id:=by
 unfold gG;rcases h id with ⟨h1,h2⟩ | ⟨n,e,h1,h2,_⟩ <;> rw [h1,h2] <;> rfl
theorem TN.get {l : List ah} {m : List (Int × Int)} (h : TN l m) {id : Int} {e : ah} (hg : kE l id = some e) : aX l ((dD m id).getD 0) = some e:=by
 rcases h id with ⟨_,h2⟩ | ⟨n,e',h1,h2,h3⟩
 · rw [hg] at h2;cases h2
 rw [hg] at h2;cases h2;rw [h1];show aX l (n : Int) = _;rw [abD,h3]
theorem xW (l : List ah) (hl : l.length ≤ 1000) : dG (vk l) (TN l):=by
 unfold vk VA
 refine uZ (fun m a b=>∃ i : Nat,a = (i : Int) - 1 ∧ m = i ∧ i ≤ l.length ∧ ∀ id,(dD b id = none ∧ (l.drop i).find? (fun e=>e.Id == id) = none) ∨ ∃ (n : Nat) (e : ah),dD b id = some (n : Int) ∧ (l.drop i).find? (fun e=>e.Id == id) = some e ∧ l[n]? = some e) ?_ fuel l.length _ _ (fuel_lt (by omega))
  ⟨l.length,by rw [IntKind.wrap_i64];omega,rfl,Nat.le_refl _,fun id=>.inl ⟨rfl,by simp⟩⟩
 rintro m a b k ⟨i,rfl,hm,hi,h⟩ hk;unfold Vz;refine dG.bif (fun e=>?_) fun e=>?_
 · have hpos : 0 < i:=by have:=of_decide_eq_true e;omega
   have hlt : i - 1 < l.length:=by omega
   have e1 : (i : Int) - 1 = ((i - 1 : Nat) : Int):=by omega
   rw [e1,fA hlt];simp only [Option.bind_some];refine hk (i - 1) _ _ (by omega) ⟨i - 1,by rw [IntKind.wrap_i64];omega,rfl,by omega,fun id=>?_⟩;rw [xU,List.drop_eq_getElem_cons hlt,show i - 1 + 1 = i by omega,List.find?_cons];cases hid : l[i - 1].Id == id with
   | true=>
     have : (id == l[i - 1].Id) = true:=by have : l[i - 1].Id = id:=by simpa using hid
                                           simp [this]
     rw [this];exact .inr ⟨i - 1,l[i - 1],rfl,rfl,by simp [hlt]⟩
   | false=>
     have : (id == l[i - 1].Id) = false:=by have : l[i - 1].Id ≠ id:=by simpa using hid
                                            simpa using fun e : id = l[i - 1].Id=>this e.symm
     rw [this];exact h id
 have hz : i = 0:=by have:=of_decide_eq_false e;omega
 subst hz;refine .ret fun id=>?_;have:=h id;rw [List.drop_zero] at this;exact this
inductive Rch (l : List ah) (from_ : List Int) : Int → Prop
 | one {x : Int} (h : x ∈ from_) (hk : gG l x = true) : Rch l from_ x
 | more {y x : Int} (h : Rch l from_ y) (hx : x ∈ kZ l y) (hk : gG l x = true) : Rch l from_ x
theorem Rch.gG {l : List ah} {f : List Int} {x : Int} (h : Rch l f x) : gG l x = true:=by cases h <;> assumption
theorem agy {r : List Int} {x : Int} (h : x ∉ r) : (put r x).length = r.length + 1:=by
 unfold put;rw [if_neg (by rw [qZ];exact h),List.length_append,List.length_cons];have:=congrArg List.length (List.takeWhile_append_dropWhile (p:=(decide <| · < x)) (l:=r));rw [List.length_append] at this;omega
theorem amF (r : List Int) (x : Int) : kC (r ++ [x]) = put (kC r) x:=by unfold kC;rw [List.foldl_append];rfl
structure Mid (l : List ah) (from_ next amG : List Int) (i : Nat) (out later : List Int) (found level : List (Int × Bool)) : Prop where
 found : ∀ x,(dD found x).getD false = true ↔ x ∈ out
 level : ∀ x,(dD level x).getD false = true → x ∈ out
 nodup : (kC out).length = out.length
 rch : ∀ x ∈ out,Rch l from_ x
 seen : ∀ x ∈ next.take i,gG l x = true → x ∈ out
 sub : ∀ x ∈ amG,x ∈ out
 ref : ∀ y ∈ out,y ∈ amG ∨ ∀ x ∈ kZ l y,x ∈ later
 back : ∀ x ∈ later,∃ y ∈ out,x ∈ kZ l y
 size : later.length + 40 * amG.length ≤ 40 * out.length
 same : out.length = amG.length → later = []
theorem Xq {l : List ah} {out : List Int} (h : (kC out).length = out.length) (hr : ∀ x ∈ out,gG l x = true) : out.length ≤ l.length:=by
 rw [← h];exact vK (nV out) fun x hx=>hr x (nU.1 hx)
theorem acP (l : List ah) {x : Int} {e : ah} (h : kE l x = some e) : qI e = some (kZ l x):=by
 unfold qI kZ;rw [sW h]
theorem aeA (l : List ah) (from_ : List Int) (hl : l.length ≤ 1000) (ha : Xp l) (hf : from_.length ≤ 10000000) :
 dG (Gx l from_ fun a0=>qI a0) (fun r=>Inc r ∧ ∀ x,x ∈ r ↔ Rch l from_ x):=by
 unfold Gx;refine (xW l hl).bind fun at_ hat=>?_;unfold VH
 refine Zd (fun m out next at' found level=>at' = at_ ∧ m = 2 * (l.length - out.length) + (if next = [] then 0 else 1) ∧ next.length ≤ 10000000 ∧ (∀ x,(dD found x).getD false = true ↔ x ∈ out) ∧ (kC out).length = out.length ∧
  (∀ x ∈ out,Rch l from_ x) ∧ (∀ x ∈ next,gG l x = true → Rch l from_ x) ∧ (∀ x ∈ from_,gG l x = true → x ∈ out ∨ x ∈ next) ∧ (∀ y ∈ out,∀ x ∈ kZ l y,gG l x = true → x ∈ out ∨ x ∈ next)) ?_ fuel (2 * (l.length - ([] : List Int).length) + (if from_ = [] then 0 else 1)) _ _ _ _ _ ?_ ?_
 · rintro m out next at2 found level k ⟨axQ,rfl,hn,h1,h2,h3,h4,h5,h6⟩ hk;subst axQ;unfold VG;have hol:=Xq h2 fun x hx=>(h3 x hx).gG;refine dG.bif (fun e=>?_) fun e=>?_
   · have hne : next ≠ []:=by
      rintro rfl;simp at e
     unfold VF;refine Ze (body:=KR next l (fun a0=>qI a0) k) (fun (m : Nat) (o la : List Int) (c : Int) (d : List (Int × Int)) (fo le : List (Int × Bool))=>∃ i : Nat,c = i ∧ i + m = next.length ∧ d = at2 ∧ Mid l from_ next out i o la fo le) ?_ fuel next.length _ _ _ _ _ _ (by have : fuel = 9223372036854775808:=rfl;omega) ?_
     · rintro m o la c d fo le k2 ⟨i,rfl,hm,rfl,hM⟩ hk2;unfold KR;refine dG.bif (fun e=>?_) fun e=>?_
       · have hi : i < next.length:=by simpa using e
         have w:=wrap_succ i (by omega);have axR:=Xq hM.nodup fun x hx=>(hM.rch x hx).gG;rw [fA hi];simp only [Option.bind_some];rw [hat.isSome];unfold EL;have htake : next.take (i + 1) = next.take i ++ [next[i]]:=by rw [List.take_succ_eq_append_getElem hi]
         cases hkn : gG l next[i] with
         | false=>
           simp only [Bool.not_false,cond_true,Option.bind_some,w];refine hk2 (m - 1) _ _ _ _ _ _ (by omega) ⟨i + 1,rfl,by omega,rfl,{ hM with seen:=fun x hx hk=>?_ }⟩;rw [htake,List.mem_append] at hx;rcases hx with hx | hx
           · exact hM.seen x hx hk
           rw [List.mem_singleton.1 hx,hkn] at hk;cases hk
         | true=>
           simp only [Bool.not_true,cond_false,Option.bind_some];by_cases hin : next[i] ∈ o
           · rw [(hM.found next[i]).2 hin];simp only [cond_true,Option.bind_some,w];refine hk2 (m - 1) _ _ _ _ _ _ (by omega) ⟨i + 1,rfl,by omega,rfl,{ hM with seen:=fun x hx hk=>?_ }⟩;rw [htake,List.mem_append] at hx;rcases hx with hx | hx
             · exact hM.seen x hx hk
             rw [List.mem_singleton.1 hx];exact hin
           have f1 : (dD fo next[i]).getD false = false:=by
            cases h : (dD fo next[i]).getD false with
            | false=>rfl
            | true=>exact absurd ((hM.found _).1 h) hin
           have f2 : (dD le next[i]).getD false = false:=by
            cases h : (dD le next[i]).getD false with
            | false=>rfl
            | true=>exact absurd (hM.level _ h) hin
           rw [f1,f2];simp only [cond_false,Option.bind_some];obtain ⟨ev,hev⟩:=Option.isSome_iff_exists.1 (show (kE l next[i]).isSome = true from hkn);rw [fK (by simp only [List.length_singleton];omega)];simp only [Option.bind_some];rw [hat.get hev];simp only [Option.bind_some];rw [acP l hev];simp only [Option.bind_some];have hau:=NY ha next[i];have hsz:=hM.size;rw [fK (by omega)];simp only [Option.bind_some,w];refine hk2 (m - 1) _ _ _ _ _ _ (by omega) ⟨i + 1,rfl,by omega,rfl,?_⟩;have hnx : Rch l from_ next[i]:=h4 _ (List.getElem_mem hi) hkn;refine ⟨fun x=>?_,fun x hx=>?_,?_,fun x hx=>?_,fun x hx hk=>?_,fun x hx=>List.mem_append_left _ (hM.sub x hx),fun y hy=>?_,fun x hx=>?_,?_,fun h=>?_⟩
           · rw [xU,List.mem_append,List.mem_singleton];cases hx : x == next[i] with
             | true=>simp only [cond_true,Option.getD_some,true_iff];exact .inr (by simpa using hx)
             | false=>simp only [cond_false];rw [hM.found x];exact ⟨.inl,fun h=>h.elim id fun h=>by simp [h] at hx⟩
           · rw [xU] at hx;rw [List.mem_append,List.mem_singleton];cases hxe : x == next[i] with
             | true=>exact .inr (by simpa using hxe)
             | false=>rw [hxe] at hx;exact .inl (hM.level x hx)
           · rw [amF,agy (fun h=>hin (nU.1 h)),hM.nodup];simp
           · rcases List.mem_append.1 hx with hx | hx
             · exact hM.rch x hx
             rw [List.mem_singleton.1 hx];exact hnx
           · rw [htake,List.mem_append] at hx;rcases hx with hx | hx
             · exact List.mem_append_left _ (hM.seen x hx hk)
             exact List.mem_append_right _ hx
           · rcases List.mem_append.1 hy with hy | hy
             · exact (hM.ref y hy).imp id fun h x hx=>List.mem_append_left _ (h x hx)
             rw [List.mem_singleton.1 hy];exact .inr fun x hx=>List.mem_append_right _ hx
           · rcases List.mem_append.1 hx with hx | hx
             · obtain ⟨y,hy,h⟩:=hM.back x hx;exact ⟨y,List.mem_append_left _ hy,h⟩
             exact ⟨next[i],List.mem_append_right _ (List.mem_singleton.2 rfl),hx⟩
           · simp only [List.length_append,List.length_singleton];omega
           have:=hM.size;simp only [List.length_append,List.length_singleton] at h;omega
       have hi : i = next.length:=by have : ¬ i < next.length:=by simpa using e
                                     omega
       subst hi;have axR:=Xq hM.nodup fun x hx=>(hM.rch x hx).gG;have hsz:=hM.size;refine hk (2 * (l.length - o.length) + (if la = [] then 0 else 1)) _ _ _ _ _ ?_ ⟨rfl,rfl,by omega,hM.found,hM.nodup,hM.rch,fun x hx hkx=>?_,fun x hx hkx=>?_,fun y hy x hx hkx=>?_⟩
       · rw [if_neg hne];have hle : out.length ≤ o.length:=by omega
         rcases Nat.lt_or_ge out.length o.length with h | h
         · split <;> omega
         have:=hM.same (by omega);rw [if_pos this];omega
       · obtain ⟨y,hy,h⟩:=hM.back x hx;exact .more (hM.rch y hy) h hkx
       · rcases h5 x hx hkx with h | h
         · exact .inl (hM.sub x h)
         exact .inl (hM.seen x (by rw [List.take_length];exact h) hkx)
       rcases hM.ref y hy with h | h
       · rcases h6 y h x hx hkx with h | h
         · exact .inl (hM.sub x h)
         exact .inl (hM.seen x (by rw [List.take_length];exact h) hkx)
       exact .inr (h x hx)
     exact ⟨0,rfl,by omega,rfl,⟨h1,fun x hx=>by simp [dD] at hx,h2,h3,fun x hx=>by simp at hx,fun _ h=>h,fun y hy=>.inl hy,fun x hx=>(List.not_mem_nil hx).elim,by simp,fun _=>rfl⟩⟩
   have hz : next = []:=by
    cases next with
    | nil=>rfl
    | cons a b=>simp at e
   subst hz;rw [qK out (by omega)];refine .ret ⟨nV _,fun x=>?_⟩;rw [nU];refine ⟨h3 x,fun h=>?_⟩
   induction h with
   | one h hkx=>exact (h5 _ h hkx).elim id fun h=>(List.not_mem_nil h).elim
   | more h hx hkx ih=>exact (h6 _ ih _ hx hkx).elim id fun h=>(List.not_mem_nil h).elim
 · have : fuel = 9223372036854775808:=rfl;split <;> (simp only [List.length_nil];omega)
 exact ⟨rfl,rfl,hf,fun x=>by simp [dD],rfl,fun x hx=>(List.not_mem_nil hx).elim,fun x hx hk=>.one hx hk,fun x hx _=>.inr hx,fun y hy=>(List.not_mem_nil hy).elim⟩
theorem LC (l : List ah) (ids : List Int) (hl : l.length ≤ 1000) (ha : Xp l) (hi : ids.length ≤ 100000) : vw l ids = some (chainOf l ids):=by
 refine dG.eq ?_;unfold vw;refine (xW l hl).bind fun at_ hat=>?_;unfold VI;rw [Hg ids (by omega) (fun r id=>r ++ kZ l id) (fun i r=>r.length ≤ 40 * i) (fun r=>(Gx l r fun a0=>qI a0).bind fun x12=>some x12) (by simp)]
 · rw [foldl_append (kZ l),List.nil_append]
   have hlen : (ids.flatMap (kZ l)).length ≤ 40 * ids.length:=by
    have key : ∀ ids : List Int,(ids.flatMap (kZ l)).length ≤ 40 * ids.length:=by
     intro ids
     induction ids with
     | nil=>simp
     | cons x ids ih=>have:=NY ha x;rw [List.flatMap_cons,List.length_append,List.length_cons];omega
    exact key ids
   refine (aeA l _ hl ha (by omega)).bind fun r hr=>.ret ?_;refine Py hr.1 (abb l ids) fun x=>(hr.2 x).trans (Iff.trans ?_ abe.symm);constructor
   · intro h
     induction h with
     | one h hk=>
       obtain ⟨i,hi,h⟩:=List.mem_flatMap.1 h;exact .one hi h hk
     | more h hx hk ih=>exact .more ih hx hk
   intro h
   induction h with
   | one h hx hk=>exact .one (List.mem_flatMap.2 ⟨_,h,hx⟩) hk
   | more h hx hk ih=>exact .more ih hx hk
 · intro k r i h hI;have hau:=NY ha ids[i];refine ⟨by simp only [List.length_append];omega,?_⟩;unfold KT EM;rw [dw h,hat.isSome];cases hk : gG l ids[i] with
   | false=>
     have : kZ l ids[i] = []:=by
      unfold kZ;rw [Eo (by unfold gG at hk;simpa using hk)];rfl
     rw [this,List.append_nil];rfl
   | true=>
     obtain ⟨ev,hev⟩:=Option.isSome_iff_exists.1 (show (kE l ids[i]).isSome = true from hk);simp only [cond_true];rw [hat.get hev];simp only [Option.bind_some];have : kZ l ids[i] = ev.fB:=by unfold kZ;rw [sW hev]
     rw [← this,fK (by omega)];rfl
 intro k r _;unfold KT;rw [dO]
end Go.Proofs.YtolgdkhlelfpoaaGreat
end
section
namespace Go.Proofs.YtolgdkhlelfpoaaGreat
open Go.RowKit
theorem Zf : ∀ x : List UInt8,Op.bytesLess x x = false
 | []=>rfl
 | a :: x=>by
   unfold Op.bytesLess;rw [Zf x];simp
theorem ajD : ∀ {x y z : List UInt8},Op.bytesLess x y = true → Op.bytesLess y z = true → Op.bytesLess x z = true
 | _,_, [],_,h=>by simp [Op.bytesLess] at h
 | [],_,_ :: _,_,_=>rfl
 | _ :: _, [],_ :: _,h,_=>by simp [Op.bytesLess] at h
 | a :: x,b :: y,c :: z,h,k=>by
   simp only [Op.bytesLess,Bool.or_eq_true,Bool.and_eq_true,decide_eq_true_eq,beq_iff_eq] at h k ⊢;rcases h with h | ⟨rfl,h⟩ <;> rcases k with k | ⟨rfl,k⟩
   · exact .inl (UInt8.lt_trans h k)
   · exact .inl h
   · exact .inl k
   exact .inr ⟨rfl,ajD h k⟩
theorem ajE : ∀ {x y : List UInt8},Op.bytesLess x y = false → Op.bytesLess y x = false → x = y
 | [], [],_,_=>rfl
 | [],_ :: _,h,_=>by simp [Op.bytesLess] at h
 | _ :: _, [],_,h=>by simp [Op.bytesLess] at h
 | a :: x,b :: y,h,k=>by
   simp only [Op.bytesLess,Bool.or_eq_false_iff,Bool.and_eq_false_iff,decide_eq_false_iff_not,beq_eq_false_iff_ne] at h k;have e : a = b:=UInt8.le_antisymm (UInt8.not_lt.1 k.1) (UInt8.not_lt.1 h.1);subst e;have h2:=h.2.resolve_left (fun h=>h rfl);have k2:=k.2.resolve_left (fun h=>h rfl);rw [ajE h2 k2]
def jK (a b : au) : Bool:=decide (a.Kind < b.Kind) || (a.Kind == b.Kind && Op.bytesLess a.Key.toList b.Key.toList)
def oJ (a b : au) : Bool:=a.Kind == b.Kind && decide (a.Key = b.Key)
theorem akR (a : au) : jK a a = false:=by unfold jK;rw [Zf];simp
theorem aeB {a b c : au} (h : jK a b = true) (k : jK b c = true) : jK a c = true:=by
 unfold jK at *;simp only [Bool.or_eq_true,Bool.and_eq_true,decide_eq_true_eq,beq_iff_eq] at *;rcases h with h | ⟨h1,h2⟩ <;> rcases k with k | ⟨k1,k2⟩
 · exact .inl (by omega)
 · exact .inl (by omega)
 · exact .inl (by omega)
 exact .inr ⟨by omega,ajD h2 k2⟩
theorem zW {a b : au} : oJ a b = true ↔ a.Kind = b.Kind ∧ a.Key = b.Key:=by unfold oJ;simp
theorem aeC {a b : au} (h : jK a b = false) (k : jK b a = false) : oJ a b = true:=by
 unfold jK at *;simp only [Bool.or_eq_false_iff,Bool.and_eq_false_iff,decide_eq_false_iff_not,beq_eq_false_iff_ne] at *;have e : a.Kind = b.Kind:=by omega
 rw [zW];exact ⟨e,toList_inj (ajE (h.2.resolve_left fun n=>n e) (k.2.resolve_left fun n=>n e.symm))⟩
theorem TP {a b : au} (h : oJ a b = true) : jK a b = false:=by
 obtain ⟨h1,h2⟩:=zW.1 h;unfold jK;rw [h1,h2,Zf];simp
theorem JJ {a b c : au} (h : oJ a b = true) : jK a c = jK b c ∧ jK c a = jK c b:=by
 obtain ⟨h1,h2⟩:=zW.1 h;unfold jK;rw [h1,h2];exact ⟨rfl,rfl⟩
theorem akS (a b : au) : uK a b = some (jK a b):=by
 unfold uK jK;cases h1 : decide (a.Kind < b.Kind) <;> cases h2 : a.Kind == b.Kind <;> rfl
def rM (s : List au) (e : au) : Nat:=s.findIdx fun x=>!jK x e
def Bl (s : List au) (e : au) : Bool:=match s[rM s e]? with
 | some x=>oJ x e
 | none=>false
theorem agz (s : List au) (e : au) : rM s e ≤ s.length:=List.findIdx_le_length
theorem abf {s : List au} {e : au} (h : rM s e < s.length) : jK s[rM s e] e = false:=by
 have:=List.findIdx_getElem (w:=h);unfold rM;simpa using this
theorem Rh (s : List au) (k : Int) (key : ByteArray) (hs : s.length ≤ 1000000) : BM s k key = some (((rM s ⟨k,key,0⟩ : Nat) : Int),Bl s ⟨k,key,0⟩):=by
 unfold BM wU BL;generalize he : (⟨k,key,0⟩ : au) = e
 have hp : bQ (oH s (fun a0=>xK a0 e) (fun a0=>xM a0 e)) fuel 0 = some (((rM s e : Nat) : Int),Bl s e):=by
  rw [Xm s (fuel_lt (by omega)) (fun x=>!jK x e) (fun i=>some (((i : Nat) : Int),match s[i]? with | some x=>!jK e x | none=>false)) (some (((s.length : Nat) : Int),false))]
  · split
    · rename_i h;congr 2;unfold Bl rM;rw [List.getElem?_eq_getElem h];have h1 : jK s[s.findIdx fun x=>!jK x e] e = false:=abf h;show (!jK e s[s.findIdx fun x=>!jK x e]) = oJ s[s.findIdx fun x=>!jK x e] e;cases h2 : jK e s[s.findIdx fun x=>!jK x e] with
      | false=>rw [aeC h1 h2];rfl
      | true=>
        cases h3 : oJ s[s.findIdx fun x=>!jK x e] e with
        | false=>rfl
        | true=>rw [(JJ h3).2,akR] at h2;cases h2
    rename_i h;have h' : rM s e = s.length:=by have:=agz s e;unfold rM at *;omega
    have h2 : Bl s e = false:=by unfold Bl;rw [h',List.getElem?_eq_none (Nat.le_refl _)]
    rw [h',h2]
  · intro k2 i h;unfold oH;rw [dw h,dw h];simp only [xK,xM,akS,Option.bind_some];rw [List.getElem?_eq_getElem h];cases jK s[i] e <;> rfl
  intro k2;unfold oH;rw [dO,dO];rfl
 rw [hp];rfl
def kQ (s : List au) : Prop:=s.Pairwise fun a b=>jK a b = true
def uV (s : List au) (k : Int) (key : ByteArray) : Int × Bool:=match s.find? fun x=>oJ x ⟨k,key,0⟩ with
 | some x=>(x.Id,true)
 | none=>(0,false)
theorem akT {s : List au} (h : kQ s) (e : au) : s.find? (fun x=>oJ x e) = match s[rM s e]? with | some x=>if oJ x e then some x else none | none=>none:=by
 induction s with
 | nil=>rfl
 | cons a s ih=>
   have h':=List.pairwise_cons.1 h;unfold rM;rw [List.find?_cons,List.findIdx_cons];cases hp : jK a e with
   | true=>
     have hs : oJ a e = false:=by
      cases hs : oJ a e with
      | false=>rfl
      | true=>rw [TP hs] at hp;cases hp
     rw [hs];simp only [Bool.not_true,cond_false,List.getElem?_cons_succ];exact ih h'.2
   | false=>
     simp only [Bool.not_false,cond_true,List.getElem?_cons_zero];cases hs : oJ a e with
     | true=>rfl
     | false=>
       simp only [Bool.false_eq_true,if_false];refine List.find?_eq_none.2 fun x hx hk=>?_;have h1:=h'.1 x hx;rw [(JJ hk).2,hp] at h1;cases h1
theorem Du (s : List au) (k : Int) (key : ByteArray) (hs : s.length ≤ 1000000) (h : kQ s) : wz s k key = some (uV s k key):=by
 unfold wz;rw [Rh s k key hs];simp only [Option.bind_some];unfold uV Bl;rw [akT h];by_cases hl : rM s ⟨k,key,0⟩ < s.length
 · rw [List.getElem?_eq_getElem hl];simp only;cases hk : oJ s[rM s ⟨k,key,0⟩] ⟨k,key,0⟩ with
   | true=>simp only [cond_true,if_true];rw [fA hl];rfl
   | false=>rfl
 rw [List.getElem?_eq_none (by omega)];rfl
def rO (s : List au) (k : Int) (key : ByteArray) (id : Int) : List au:=
 s.take (rM s ⟨k,key,0⟩) ++ ⟨k,key,id⟩ :: s.drop (rM s ⟨k,key,0⟩ + bif Bl s ⟨k,key,0⟩ then 1 else 0)
theorem aqF {s : List au} {e : au} (h : Bl s e = true) : rM s e < s.length:=by
 unfold Bl at h;by_cases hl : rM s e < s.length
 · exact hl
 rw [List.getElem?_eq_none (by omega)] at h;cases h
theorem ag9 {α : Type} {l : List α} {i : Nat} (hi : i ≤ l.length) : FM l 0 (i : Int) = some (l.take i):=by
 have:=ZM (l:=l) (lo:=0) (hi:=i) (by omega) hi;simpa using this
theorem Zg {α : Type} {l : List α} {i : Nat} (hi : i ≤ l.length) : FM l (i : Int) (l.length : Int) = some (l.drop i):=by
 rw [ZM (l:=l) (lo:=i) (hi:=l.length) hi (by omega)];congr 1;exact List.take_of_length_le (by simp)
theorem oh (s : List au) (k : Int) (key : ByteArray) (id : Int) (hs : s.length ≤ 1000000) : lI s k key id = some (rO s k key id):=by
 unfold lI;rw [Rh s k key hs];simp only [Option.bind_some];have hp:=agz s ⟨k,key,0⟩;unfold Di rO;rw [ag9 hp];simp only [Option.bind_some];rw [fK (by simp;omega)];simp only [Option.bind_some,List.nil_append];rw [fK (by simp;omega)];simp only [Option.bind_some];cases hh : Bl s ⟨k,key,0⟩ with
 | true=>
   have hl:=aqF hh;simp only [cond_true];rw [wrap_succ _ (by omega),Zg hl];simp only [Option.bind_some];rw [fK (by simp;omega)];simp
 | false=>
   simp only [cond_false];rw [Zg hp];simp only [Option.bind_some];rw [fK (by simp;omega)];simp
end Go.Proofs.YtolgdkhlelfpoaaGreat
end
section
namespace Go.Proofs.YtolgdkhlelfpoaaGreat
open Go.RowKit
theorem pX (s : List au) (k : Int) (key : ByteArray) (id : Int) : (rO s k key id).length ≤ s.length + 1:=by
 unfold rO;have:=agz s ⟨k,key,0⟩;simp only [List.length_append,List.length_cons,List.length_take,List.length_drop];omega
theorem akU {s : List au} {e x : au} (h : x ∈ s.take (rM s e)) : jK x e = true:=by
 obtain ⟨i,hi,rfl⟩:=List.getElem_of_mem h;have hi' : i < rM s e:=by simp at hi;omega
 have:=List.not_of_lt_findIdx hi';rw [List.getElem_take];simpa using this
theorem aeD {s : List au} (hs : kQ s) {e x : au} (h : x ∈ s.drop (rM s e + bif Bl s e then 1 else 0)) : jK e x = true:=by
 generalize hn : (rM s e + bif Bl s e then 1 else 0) = n at h;obtain ⟨i,hi,rfl⟩:=List.getElem_of_mem h;rw [List.getElem_drop];rw [List.length_drop] at hi;by_cases hl : rM s e < s.length
 · have h1:=abf hl;cases hh : Bl s e with
   | true=>
     rw [hh] at hn;simp only [cond_true] at hn;have h2 : oJ s[rM s e] e = true:=by unfold Bl at hh;rw [List.getElem?_eq_getElem hl] at hh;exact hh
     rw [← (JJ h2).1];exact List.pairwise_iff_getElem.1 hs _ _ hl (by omega) (by omega)
   | false=>
     rw [hh] at hn;simp only [cond_false,Nat.add_zero] at hn;subst hn;have h2 : oJ s[rM s e] e = false:=by unfold Bl at hh;rw [List.getElem?_eq_getElem hl] at hh;exact hh
     have h3 : jK e s[rM s e] = true:=by
      cases h : jK e s[rM s e] with
      | true=>rfl
      | false=>rw [aeC h1 h] at h2;cases h2
     rcases Nat.eq_zero_or_pos i with h0 | h0
     · subst h0;simpa using h3
     exact aeB h3 (List.pairwise_iff_getElem.1 hs _ _ hl (by omega) (by omega))
 omega
theorem UR {s : List au} (h : kQ s) (k : Int) (key : ByteArray) (id : Int) : kQ (rO s k key id):=by
 have e0 : oJ ⟨k,key,id⟩ ⟨k,key,0⟩ = true:=zW.2 ⟨rfl,rfl⟩;unfold rO kQ;refine List.pairwise_append.2 ⟨h.sublist (List.take_sublist ..),List.pairwise_cons.2 ⟨fun x hx=>?_,h.sublist (List.drop_sublist ..)⟩,fun x hx y hy=>?_⟩
 · rw [(JJ e0).1];exact aeD h hx
 have h1 : jK x ⟨k,key,0⟩ = true:=akU hx;rcases List.mem_cons.1 hy with rfl | hy
 · rw [(JJ e0).2];exact h1
 exact aeB h1 (aeD h hy)
structure uF (l : List (List au)) : Prop where
 len : l.length ≤ 100
 each : ∀ s ∈ l,s.length ≤ 100 ∧ kQ s
def qV (l : List (List au)) (x : au) : Bool:=l.all fun s=>(uV s x.Kind x.Key).2 && (uV s x.Kind x.Key).1 == x.Id
theorem aeE (l : List (List au)) (x : au) (h : uF l) : Jj l x = some (qV l x):=by
 unfold Jj SV;rw [scan l (fuel_lt (by have:=h.len;omega)) (fun s=>!((uV s x.Kind x.Key).2 && (uV s x.Kind x.Key).1 == x.Id)) false (some true)]
 · unfold qV;rw [Lr,Pm]
 · intro k i hi;obtain ⟨h1,h2⟩:=h.each l[i] (List.getElem_mem hi);unfold Ji;rw [dw hi,Du _ _ _ (by omega) h2];simp only [Option.bind_some];cases (uV l[i] x.Kind x.Key).2 <;> simp [bne]
 intro k;unfold Ji;rw [dO]
def uX (l : List (List au)) : List au:=match l with
 | []=> []
 | s :: _=>s.filter (qV l)
def Pn (l : List (List au)) : List Int:=(l.flatMap fun s=>s.filter fun x=>!qV l x).map (·.Id)
def JK (l : List (List au)) (i : Nat) : List au:=if i = 0 then [] else uX l
def zS (l : List (List au)) (i : Nat) : List Int:=((l.take i).flatMap fun s=>s.filter fun x=>!qV l x).map (·.Id)
theorem akV {l : List (List au)} {i : Nat} (h : i < l.length) : JK l (i + 1) = JK l i ++ (if i = 0 then l[i].filter (qV l) else []):=by
 unfold JK uX;cases l with
 | nil=>simp at h
 | cons s l=>cases i <;> simp
theorem abg {l : List (List au)} {i : Nat} (h : i < l.length) : zS l (i + 1) = zS l i ++ (l[i].filter fun x=>!qV l x).map (·.Id):=by
 unfold zS;rw [List.take_succ_eq_append_getElem h,List.flatMap_append,List.map_append];simp
theorem aeF (l : List (List au)) : zS l l.length = Pn l:=by unfold zS Pn;rw [List.take_length]
theorem amH (l : List (List au)) : JK l l.length = uX l:=by
 unfold JK;cases l with
 | nil=>rfl
 | cons s l=>simp
theorem XO {l : List (List au)} (h : uF l) (i : Nat) : (zS l i).length ≤ 100 * i:=by
 induction i with
 | zero=>simp [zS]
 | succ i ih=>
   by_cases hi : i < l.length
   · rw [abg hi,List.length_append,List.length_map];have:=(h.each _ (List.getElem_mem hi)).1;have:=List.length_filter_le (fun x=>!qV l x) l[i];omega
   have : zS l (i + 1) = zS l i:=by unfold zS;rw [List.take_of_length_le (by omega),List.take_of_length_le (by omega)]
   rw [this];omega
theorem Ri {l : List (List au)} (h : uF l) : (Pn l).length ≤ 10000:=by
 have:=XO h l.length;rw [aeF] at this;have:=h.len;omega
theorem JL {l : List (List au)} (h : uF l) : (uX l).length ≤ 100:=by
 unfold uX;cases l with
 | nil=>exact Nat.zero_le _
 | cons s l=>exact Nat.le_trans (List.length_filter_le _ _) (h.each s (List.mem_cons_self ..)).1
theorem Zh {l : List (List au)} (h : uF l) : kQ (uX l):=by
 unfold uX;cases l with
 | nil=>exact .nil
 | cons s l=>exact (h.each s (List.mem_cons_self ..)).2.sublist List.filter_sublist
theorem OH (l : List (List au)) (h : uF l) : zH l = some (uX l,kC (Pn l)):=by
 have hlen:=h.len;refine dG.eq ?_;unfold zH Oq;refine Ze (body:=FZ l) (fun (m : Nat) (a : List au) (b : List Int) (c : Int) (d : List (List au)) (_ : List au) (_ : List Int)=>∃ i : Nat,c = i ∧ i + m = l.length ∧ d = l ∧ a = JK l i ∧ b = zS l i) ?_ fuel l.length [] [] 0 l [] [] (fuel_lt (by omega)) ⟨0,rfl,by omega,rfl,rfl,by simp [zS]⟩;rintro m a b c d e f k ⟨i,rfl,hm,rfl,rfl,rfl⟩ hk;unfold FZ;refine dG.bif (fun hi=>?_) fun hi=>?_
 · have hi : i < d.length:=by simpa using hi
   have hs:=(h.each d[i] (List.getElem_mem hi)).1;have hdl:=XO h i;rw [fA hi];simp only [Option.bind_some,BK];unfold Oo
   refine ag8 (body:=FY d[i] k (i : Int)) (fun (m2 : Nat) (a : List au) (b : List Int) (c : Int) (d2 : List (List au)) (_ : List au) (_ : List Int) (g : Int)=>
    ∃ j : Nat,c = j ∧ j + m2 = d[i].length ∧ d2 = d ∧ g = i ∧ a = JK d i ++ (if i = 0 then (d[i].take j).filter (qV d) else []) ∧ b = zS d i ++ ((d[i].take j).filter fun x=>!qV d x).map (·.Id)) ?_ fuel d[i].length _ _ _ _ _ _ _ (fuel_lt (by omega)) ⟨0,rfl,by omega,rfl,rfl,by simp,by simp⟩
   rintro m2 a b c d2 e2 f2 g k2 ⟨j,rfl,hm2,rfl,rfl,rfl,rfl⟩ hk2;unfold FY;refine dG.bif (fun hj=>?_) fun hj=>?_
   · have hj : j < d2[i].length:=by simpa using hj
     have htake : d2[i].take (j + 1) = d2[i].take j ++ [d2[i][j]]:=by rw [List.take_succ_eq_append_getElem hj]
     rw [fA hj];simp only [Option.bind_some];rw [aeE d2 _ h];simp only [Option.bind_some];have w:=wrap_succ j (by omega);have hf1:=List.length_filter_le (fun x=>!qV d2 x) (d2[i].take j);have hf2:=List.length_filter_le (qV d2) (d2[i].take j)
     have hst : (JK d2 i).length ≤ 100:=by unfold JK;split;· exact Nat.zero_le _
                                           · exact JL h
     rw [List.length_take] at hf1 hf2;cases ha : qV d2 d2[i][j] with
     | false=>
       simp only [Bool.not_false,cond_true];rw [fK (by simp only [List.length_append,List.length_map,List.length_singleton];omega)];simp only [Option.bind_some,w];refine hk2 (m2 - 1) _ _ _ _ _ _ _ (by omega) ⟨j + 1,rfl,by omega,rfl,rfl,?_,?_⟩
       · rw [htake,List.filter_append];simp [ha]
       rw [htake,List.filter_append];simp [ha]
     | true=>
       simp only [Bool.not_true,cond_false];by_cases h0 : i = 0
       · subst h0;simp only [show (((0 : Nat) : Int) == 0) = true from rfl,cond_true,if_true];rw [fK (by simp only [List.length_append,List.length_singleton];omega)];simp only [Option.bind_some,w];refine hk2 (m2 - 1) _ _ _ _ _ _ _ (by omega) ⟨j + 1,rfl,by omega,rfl,rfl,?_,?_⟩
         · rw [htake,List.filter_append];simp [ha]
         rw [htake,List.filter_append];simp [ha]
       have : ((i : Int) == 0) = false:=by simpa using h0
       rw [this];simp only [cond_false,w];refine hk2 (m2 - 1) _ _ _ _ _ _ _ (by omega) ⟨j + 1,rfl,by omega,rfl,rfl,?_,?_⟩
       · simp [h0]
       rw [htake,List.filter_append];simp [ha]
   have hj : j = d2[i].length:=by have : ¬ j < d2[i].length:=by simpa using hj
                                  omega
   subst hj;rw [wrap_succ i (by omega),List.take_length];exact hk (m - 1) _ _ _ _ _ _ (by omega) ⟨i + 1,rfl,by omega,rfl,(akV hi).symm,(abg hi).symm⟩
 have hi : i = d.length:=by have : ¬ i < d.length:=by simpa using hi
                            omega
 subst hi;have:=Ri h;rw [aeF,amH,qK _ (by omega)];exact .ret rfl
end Go.Proofs.YtolgdkhlelfpoaaGreat
end
section
namespace Go.Proofs.YtolgdkhlelfpoaaGreat
open Go.RowKit
def Po (s : List au) : List Int:=s.map (·.Id)
def iH (l : List ah) (s : List au) : List Int:=kV (Po s) (chainOf l (Po s))
def allOf (l : List ah) (bf : List (List au)) : List Int:=bf.foldl (fun a s=>kV a (iH l s)) []
def Dv (l : List ah) (bf : List (List au)) (x : Int) : Nat:=bf.countP fun s=>hasB (iH l s) x
def JM (l : List ah) (bf : List (List au)) : List Int:=(allOf l bf).filter fun x=>decide (Dv l bf x < bf.length)
def wG (l : List ah) (bf : List (List au)) : List Int:=kV (kC (Pn bf)) (JM l bf)
theorem XP (l : List ah) (s : List au) : Inc (iH l s):=OT _ _
theorem Zi (s : List au) : (Po s).length = s.length:=List.length_map _
theorem Ib (l : List ah) (s : List au) : (iH l s).length ≤ s.length + l.length:=by
 have h1:=NW (Po s) (chainOf l (Po s));have h2:=Fj l (Po s);rw [Zi] at h1;unfold iH;omega
theorem acQ (l : List ah) : ∀ (bf : List (List au)) (a : List Int),Inc a → Inc (bf.foldl (fun a s=>kV a (iH l s)) a) ∧ ∀ x,x ∈ bf.foldl (fun a s=>kV a (iH l s)) a ↔ x ∈ a ∨ ∃ s ∈ bf,x ∈ iH l s
 | [],a,h=>⟨h,fun x=>by simp⟩
 | s :: bf,a,h=>by
   rw [List.foldl_cons];obtain ⟨h1,h2⟩:=acQ l bf (kV a (iH l s)) (OT _ _);refine ⟨h1,fun x=>(h2 x).trans ?_⟩;rw [Ey];constructor
   · rintro ((h | h) | ⟨t,h3,h4⟩)
     · exact .inl h
     · exact .inr ⟨s,List.mem_cons_self ..,h⟩
     exact .inr ⟨t,List.mem_cons_of_mem _ h3,h4⟩
   rintro (h | ⟨t,h3,h4⟩)
   · exact .inl (.inl h)
   rcases List.mem_cons.1 h3 with rfl | h3
   · exact .inl (.inr h4)
   exact .inr ⟨t,h3,h4⟩
theorem aoN (l : List ah) (bf : List (List au)) : Inc (allOf l bf):=(acQ l bf [] .nil).1
theorem aoO {l : List ah} {bf : List (List au)} {x : Int} : x ∈ allOf l bf ↔ ∃ s ∈ bf,x ∈ iH l s:=by
 unfold allOf;rw [(acQ l bf [] .nil).2 x];simp
theorem amI (l : List ah) (bf : List (List au)) : Inc (JM l bf):=(aoN l bf).sublist List.filter_sublist
theorem aeG {bf : List (List au)} {x : au} : qV bf x = true ↔ ∀ s ∈ bf,(uV s x.Kind x.Key).2 = true ∧ (uV s x.Kind x.Key).1 = x.Id:=by
 unfold qV;rw [List.all_eq_true];simp
theorem JO (l : List ah) : ∀ (bf : List (List au)) (a : List Int),(∀ s ∈ bf,s.length ≤ 100) → (bf.foldl (fun a s=>kV a (iH l s)) a).length ≤ a.length + bf.length * (100 + l.length)
 | [],a,_=>by simp
 | s :: bf,a,h=>by
   rw [List.foldl_cons];have h1:=JO l bf (kV a (iH l s)) fun t ht=>h t (List.mem_cons_of_mem _ ht);have h2:=NW a (iH l s);have h3:=Ib l s;have h4:=h s (List.mem_cons_self ..);rw [List.length_cons,Nat.succ_mul];omega
theorem ahS {l : List ah} {bf : List (List au)} (hs : uF bf) (hl : l.length ≤ 1000) : (JM l bf).length ≤ 110000:=by
 have h1:=JO l bf [] fun s h=>(hs.2 s h).1;have h2:=hs.1;have h3:=List.length_filter_le (fun x=>decide (Dv l bf x < bf.length)) (allOf l bf);have h4 : bf.length * (100 + l.length) ≤ 100 * 1100:=Nat.mul_le_mul h2 (by omega);unfold JM;unfold allOf at h3 ⊢;simp only [List.length_nil] at h1;omega
theorem amJ {s : List au} (h : kQ s) {x : au} (hx : x ∈ s) : uV s x.Kind x.Key = (x.Id,true):=by
 unfold uV;cases hf : s.find? (fun y=>oJ y ⟨x.Kind,x.Key,0⟩) with
 | none=>
   have:=List.find?_eq_none.1 hf x hx;unfold oJ at this;simp at this
 | some y=>
   have h1:=List.find?_some hf;have hy:=List.mem_of_find?_eq_some hf;have h2 : oJ y x = true:=by unfold oJ at h1 ⊢;exact h1
   have : y = x:=by
    obtain ⟨i,hi,rfl⟩:=List.getElem_of_mem hx;obtain ⟨j,hj,rfl⟩:=List.getElem_of_mem hy;rcases Nat.lt_trichotomy i j with h3 | h3 | h3
    · have h4:=List.pairwise_iff_getElem.1 h i j hi hj h3;have h5 : oJ s[i] s[j] = true:=by obtain ⟨a,b⟩:=zW.1 h2;exact zW.2 ⟨a.symm,b.symm⟩
      rw [TP h5] at h4;cases h4
    · subst h3;rfl
    have h4:=List.pairwise_iff_getElem.1 h j i hj hi h3;rw [TP h2] at h4;cases h4
   rw [this]
theorem aqG {s : List au} {k : Int} {key : ByteArray} {n : Int} (h : uV s k key = (n,true)) : (⟨k,key,n⟩ : au) ∈ s:=by
 unfold uV at h;cases hf : s.find? (fun y=>oJ y ⟨k,key,0⟩) with
 | none=>rw [hf] at h;cases h
 | some y=>
   rw [hf] at h;have h0 : oJ y ⟨k,key,0⟩ = true:=by have:=List.find?_some hf;exact this
   have h1:=zW.1 h0;have hy:=List.mem_of_find?_eq_some hf;obtain ⟨a,b,c⟩:=y;cases h;simp only at h1;rw [← h1.1,← h1.2];exact hy
theorem amK {bf : List (List au)} {x : au} (hx : qV bf x = true) {s : List au} (hs : s ∈ bf) : x ∈ s:=by
 obtain ⟨h1,h2⟩:=aeG.1 hx s hs;exact aqG (s:=s) (k:=x.Kind) (key:=x.Key) (n:=x.Id) (by rw [← h1,← h2])
theorem amL {bf : List (List au)} (h : uF bf) {x : au} (hx : ∀ s ∈ bf,x ∈ s) : qV bf x = true:=
 aeG.2 fun s hs=>by rw [amJ (h.2 s hs).2 (hx s hs)];exact ⟨rfl,rfl⟩
theorem aoP {bf : List (List au)} (h : uF bf) (hne : bf ≠ []) {x : au} : x ∈ uX bf ↔ ∀ s ∈ bf,x ∈ s:=by
 cases bf with
 | nil=>exact absurd rfl hne
 | cons s bf=>
   show x ∈ s.filter (qV (s :: bf)) ↔ _;rw [List.mem_filter];exact ⟨fun hx t ht=>amK hx.2 ht,fun hx=>⟨hx s (List.mem_cons_self ..),amL h hx⟩⟩
end Go.Proofs.YtolgdkhlelfpoaaGreat
end
section
namespace Go.Proofs.YtolgdkhlelfpoaaGreat
open Go.RowKit
theorem Zj (l : List Int) (h : l.length ≤ 1099511627776) : ((iG l).bind fun x=>(jw x).bind fun y=>some y) = some (kC l):=by
 unfold iG jw;have h2 : (GX l).length ≤ 1099511627776:=by rw [(uO l).length_eq];exact h
 simp [h,abG,PY]
theorem aqH (s : List au) : s.foldl (fun r x=>r ++ [x.Id]) [] = Po s:=by
 rw [foldl_append (fun x : au=> [x.Id])];unfold Po;rw [List.nil_append]
 induction s with
 | nil=>rfl
 | cons x s ih=>rw [List.flatMap_cons,ih];rfl
theorem Yg (l : List ah) (s : List au) (hl : l.length ≤ 1000) (ha : Xp l) (hs : s.length ≤ 100) : AO l s = some (iH l s):=by
 unfold AO
 have hm : pF 8 (0 : Int) 0 (s.length : Int) = some []:=by
  unfold pF;rw [if_pos (by constructor <;> omega)];rfl
 rw [hm];simp only [Option.bind_some];unfold Ku;rw [Hg s (by omega) (fun r x=>r ++ [x.Id]) (fun i r=>r.length ≤ i) (fun r=>(vw l r).bind fun x8=>(gZ 8 r x8).bind fun x9=>(iG x9).bind fun x10=>(jw x10).bind fun x11=>some x11) (by simp)]
 · have h1:=Fj l (Po s);have h2:=Zi s;rw [aqH,LC l _ hl ha (by omega)];simp only [Option.bind_some];rw [fK (by omega)];simp only [Option.bind_some];rw [Zj _ (by rw [List.length_append];omega)];unfold iH;rw [MS]
 · intro k a i h hI;refine ⟨by rw [List.length_append];simp only [List.length_singleton];omega,?_⟩;unfold CO;rw [dw h,fK (by simp only [List.length_singleton];omega)];rfl
 intro k a hI;unfold CO;rw [dO]
def stepM (m : List (Int × Int)) (x : Int) : List (Int × Int):=eY m x (IntKind.i64.wrap (((dD m x).getD 0) + 1))
structure CM (m : List (Int × Int)) (f : Int → Nat) : Prop where
 nodup : (m.map (·.1)).Nodup
 find : ∀ x,dD m x = if f x = 0 then none else some (f x : Int)
theorem aoQ {m : List (Int × Int)} {k v y : Int} : y ∈ (eY m k v).map (·.1) ↔ y = k ∨ y ∈ m.map (·.1):=by
 induction m with
 | nil=>simp [eY]
 | cons p m ih=>
   unfold eY;cases h : k == p.1 with
   | true=>
     have h1 : k = p.1:=by simpa using h
     simp only [cond_true,List.map_cons,List.mem_cons];rw [h1];simp
   | false=>
     simp only [cond_false,List.map_cons,List.mem_cons,ih];exact ⟨fun h=>h.elim (fun e=>.inr (.inl e)) fun h=>h.elim .inl fun h=>.inr (.inr h),fun h=>h.elim (fun e=>.inr (.inl e)) fun h=>h.elim .inl fun h=>.inr (.inr h)⟩
theorem amM {m : List (Int × Int)} {k v : Int} (h : (m.map (·.1)).Nodup) : ((eY m k v).map (·.1)).Nodup:=by
 induction m with
 | nil=>simp [eY]
 | cons p m ih=>
   have h':=List.nodup_cons.1 h;unfold eY;cases hk : k == p.1 with
   | true=>
     have h1 : k = p.1:=by simpa using hk
     simp only [cond_true,List.map_cons];rw [h1];exact h
   | false=>
     have h1 : k ≠ p.1:=by simpa using hk
     simp only [cond_false,List.map_cons];refine List.nodup_cons.2 ⟨fun hm=>?_,ih h'.2⟩;rcases aoQ.1 hm with e | hm
     · exact h1 e.symm
     exact h'.1 hm
theorem akW (m : List (Int × Int)) (k v : Int) : (eY m k v).length ≤ m.length + 1:=by
 induction m with
 | nil=>simp [eY]
 | cons p m ih=>
   unfold eY;cases k == p.1 with
   | true=>simp
   | false=>simp only [cond_false,List.length_cons];omega
theorem CM.step {m : List (Int × Int)} {f : Int → Nat} (h : CM m f) (x : Int) (hf : f x ≤ 1000000) : CM (stepM m x) (fun y=>f y + if y = x then 1 else 0):=by
 refine ⟨amM h.nodup,fun y=>?_⟩;unfold stepM;rw [xU,h.find x]
 have e : IntKind.i64.wrap (((if f x = 0 then none else some (f x : Int)).getD 0) + 1) = ((f x + 1 : Nat) : Int):=by
  by_cases h0 : f x = 0
  · rw [if_pos h0,h0];rfl
  rw [if_neg h0];show IntKind.i64.wrap ((f x : Int) + 1) = _;exact wrap_succ _ (by omega)
 by_cases hy : y = x
 · subst hy;simp only [beq_self_eq_true,cond_true,if_true];rw [e,if_neg (by omega)]
 have : (y == x) = false:=by simpa using hy
 rw [this];simp only [cond_false,if_neg hy,Nat.add_zero];exact h.find y
theorem CM.fold : ∀ (c : List Int) {m : List (Int × Int)} {f : Int → Nat},c.Nodup → CM m f → (∀ x,f x ≤ 1000) → CM (c.foldl stepM m) (fun y=>f y + if y ∈ c then 1 else 0)
 | [],m,f,_,h,_=>by
   refine ⟨h.nodup,fun x=>?_⟩;simp only [List.foldl_nil,List.not_mem_nil,if_false,Nat.add_zero];exact h.find x
 | x :: c,m,f,hn,h,hf=>by
   have hn':=List.nodup_cons.1 hn
   have key : ∀ (c : List Int) (m : List (Int × Int)) (g : Int → Nat),c.Nodup → CM m g → (∀ x ∈ c,g x ≤ 1000) → CM (c.foldl stepM m) (fun y=>g y + if y ∈ c then 1 else 0):=by
    intro c
    induction c with
    | nil=>intro m g _ h _;refine ⟨h.nodup,fun x=>?_⟩;simp only [List.foldl_nil,List.not_mem_nil,if_false,Nat.add_zero];exact h.find x
    | cons z c ih=>
      intro m g hn h hg;have hn':=List.nodup_cons.1 hn
      have h1:=ih (stepM m z) (fun y=>g y + if y = z then 1 else 0) hn'.2 (h.step z (by have:=hg z (List.mem_cons_self ..);omega)) fun y hy=>by
       have hne : y ≠ z:=fun e=>hn'.1 (e ▸ hy);simp only [if_neg hne,Nat.add_zero];exact hg y (List.mem_cons_of_mem _ hy)
      refine ⟨h1.nodup,fun y=>?_⟩;rw [List.foldl_cons,h1.find y]
      have : (g y + if y = z then 1 else 0) + (if y ∈ c then 1 else 0) = g y + if y ∈ z :: c then 1 else 0:=by
       by_cases e : y = z
       · subst e;simp [hn'.1]
       simp [e]
      simp only [this]
   exact key (x :: c) m f hn h fun y _=>hf y
theorem Rj : ∀ (c : List Int) (m : List (Int × Int)),(c.foldl stepM m).length ≤ m.length + c.length
 | [],m=>by simp
 | x :: c,m=>by
   have h1:=Rj c (stepM m x);have h2:=akW m x (IntKind.i64.wrap (((dD m x).getD 0) + 1));rw [List.foldl_cons,List.length_cons];unfold stepM at h1 ⊢;omega
theorem Nq {l : List Int} (h : Inc l) : l.Nodup:=h.imp fun h=>by omega
theorem CM.mem {m : List (Int × Int)} {f : Int → Nat} (h : CM m f) {x n : Int} : (x,n) ∈ m ↔ f x ≠ 0 ∧ n = f x:=by
 have key : ∀ m : List (Int × Int),(m.map (·.1)).Nodup → ((x,n) ∈ m ↔ dD m x = some n):=by
  intro m
  induction m with
  | nil=>intro _;simp [dD]
  | cons p m ih=>
    intro hn;have hn':=List.nodup_cons.1 hn;unfold dD;rw [List.mem_cons];cases hx : x == p.1 with
    | true=>
      have h1 : x = p.1:=by simpa using hx
      simp only [cond_true,Option.some.injEq];constructor
      · rintro (e | hm)
        · rw [← e]
        exact absurd (List.mem_map.2 ⟨_,hm,h1⟩) hn'.1
      intro e;left;rw [h1,← e]
    | false=>
      have h1 : x ≠ p.1:=by simpa using hx
      simp only [cond_false];rw [← ih hn'.2];exact ⟨fun h=>h.elim (fun e=>absurd (by rw [← e]) h1) id,.inr⟩
 rw [key m h.nodup,h.find x];by_cases h0 : f x = 0
 · simp [h0]
 rw [if_neg h0];simp only [Option.some.injEq,ne_eq,h0,not_false_eq_true,true_and];exact eq_comm
theorem aha {l : List Int} (h : l.Nodup) : GX l = kC l:=by
 refine Py ?_ (nV l) fun x=>by rw [nU];exact (uO l).mem_iff
 have h1:=WA l;have h2 : (GX l).Nodup:=(uO l).nodup_iff.2 h;exact (h1.and h2).imp fun h=>by omega
theorem acR (n : Int) : ∀ (m : List (Int × Int)) (r : List Int) (bf : List (List au)),(bf.length : Int) = n → r.length + m.length ≤ 1000000 → List.foldlM (iQ bf) r m = some (r ++ (m.filter fun p=>decide (p.2 < n)).map (·.1))
 | [],r,bf,_,_=>by simp
 | p :: m,r,bf,hs,hr=>by
   simp only [List.length_cons] at hr;have e : iQ bf r p = (bif decide (p.2 < n) then (gZ 8 r [p.1]).bind fun kX=>some kX else some r):=by unfold iQ;rw [hs]
   rw [List.foldlM_cons,e];cases hd : decide (p.2 < n) with
   | true=>
     simp only [cond_true];rw [fK (by simp only [List.length_singleton];omega)];simp only [Option.bind_some];show List.foldlM (iQ bf) (r ++ [p.1]) m = _;rw [acR n m (r ++ [p.1]) bf hs (by simp only [List.length_append,List.length_singleton];omega),List.filter_cons,if_pos hd];simp
   | false=>
     simp only [cond_false];show List.foldlM (iQ bf) r m = _;rw [acR n m r bf hs (by omega),List.filter_cons,if_neg (by simp [hd])]
theorem ajF (l : List ah) (bf : List (List au)) (x : Int) : Dv l bf x ≤ bf.length:=List.countP_le_length
theorem CM.of_eq {m : List (Int × Int)} {f g : Int → Nat} (h : CM m f) (e : ∀ x,f x = g x) : CM m g:=⟨h.nodup,fun x=>by rw [h.find,e]⟩
theorem UU (l : List ah) (bf : List (List au)) (hl : l.length ≤ 1000) (ha : Xp l) (hs : uF bf) : qP l bf = some (JM l bf):=by
 unfold qP Gz;have hsl:=hs.len;rw [Zb (a0:= []) bf (by omega) (fun m s=>(iH l s).foldl stepM m) (fun i m=>CM m (Dv l (bf.take i)) ∧ m.length ≤ 1100 * i) (fun v2=>(pF 8 (0 : Int) 0 (v2.length : Int)).bind fun fD=>(List.foldlM (iQ bf) fD v2).bind lQ) ⟨⟨List.nodup_nil,fun x=>rfl⟩,Nat.zero_le _⟩]
 · obtain ⟨hC,hlen⟩ : CM (bf.foldl (fun m s=>(iH l s).foldl stepM m) []) (Dv l bf) ∧ (bf.foldl (fun m s=>(iH l s).foldl stepM m) []).length ≤ 1100 * bf.length:=by
    have key : ∀ (b a : List (List au)) (m : List (Int × Int)),(∀ s ∈ b,s.length ≤ 100) → a.length + b.length ≤ 100 → CM m (Dv l a) → m.length ≤ 1100 * a.length → CM (b.foldl (fun m s=>(iH l s).foldl stepM m) m) (Dv l (a ++ b)) ∧ (b.foldl (fun m s=>(iH l s).foldl stepM m) m).length ≤ 1100 * (a.length + b.length):=by
     intro b
     induction b with
     | nil=>intro a m _ _ h1 h2;simpa using ⟨h1,h2⟩
     | cons s b ih=>
       intro a m hb hab h1 h2;rw [List.foldl_cons,List.append_cons];have hc:=Ib l s;have arQ:=hb s (List.mem_cons_self ..);have h3:=Rj (iH l s) m;simp only [List.length_cons] at hab ⊢;have:=ih (a ++ [s]) ((iH l s).foldl stepM m) (fun t ht=>hb t (List.mem_cons_of_mem _ ht)) (by simp only [List.length_append,List.length_singleton];omega) ?_ (by simp only [List.length_append,List.length_singleton];omega)
       · simpa [Nat.add_assoc,Nat.add_comm 1] using this
       refine (CM.fold (iH l s) (Nq (XP l s)) h1 fun x=>by have:=ajF l a x;omega).of_eq fun x=>?_;unfold Dv;rw [List.countP_append,List.countP_singleton];by_cases hx : x ∈ iH l s
       · rw [if_pos hx,if_pos (qZ.2 hx)]
       rw [if_neg hx,if_neg (by rw [ql.2 hx];simp)]
    have:=key bf [] [] (fun s h=>(hs.each s h).1) (by simpa using hs.len) ⟨List.nodup_nil,fun x=>rfl⟩ (Nat.zero_le _);simpa using this
   generalize bf.foldl (fun m s=>(iH l s).foldl stepM m) [] = m at hC hlen
   have hm : pF 8 (0 : Int) 0 (m.length : Int) = some []:=by
    unfold pF;rw [if_pos (by constructor <;> omega)];rfl
   rw [hm];simp only [Option.bind_some];rw [acR (bf.length : Int) m [] bf rfl (by simp only [List.length_nil];omega)];simp only [Option.bind_some,List.nil_append];have hnd : ((m.filter fun p=>decide (p.2 < (bf.length : Int))).map (·.1)).Nodup:=hC.nodup.sublist (List.filter_sublist.map _);have hle : ((m.filter fun p=>decide (p.2 < (bf.length : Int))).map (·.1)).length ≤ m.length:=by rw [List.length_map];exact List.length_filter_le _ _
   unfold lQ iG;rw [if_pos (by omega)];simp only [Option.bind_some];congr 1;rw [aha hnd];refine Py (nV _) (amI _ _) fun x=>?_;rw [nU,List.mem_map];unfold JM;rw [List.mem_filter,aoO];constructor
   · rintro ⟨⟨y,n⟩,hp,rfl⟩;rw [List.mem_filter] at hp;obtain ⟨h1,h2⟩:=hC.mem.1 hp.1;have h3 : n < (bf.length : Int):=by simpa using hp.2
     subst h2;refine ⟨?_,by simp;omega⟩;have : 0 < Dv l bf y:=by omega
     obtain ⟨s,hs1,hs2⟩:=List.countP_pos_iff.1 this;exact ⟨s,hs1,qZ.1 hs2⟩
   rintro ⟨⟨s,h1,h2⟩,h3⟩;have h4 : 0 < Dv l bf x:=List.countP_pos_iff.2 ⟨s,h1,qZ.2 h2⟩;refine ⟨(x,(Dv l bf x : Int)),List.mem_filter.2 ⟨hC.mem.2 ⟨by omega,rfl⟩,?_⟩,rfl⟩;have h5 : Dv l bf x < bf.length:=by simpa using h3
   simp;omega
 · intro k m i h hI;have hc:=Ib l bf[i];have arQ:=(hs.each bf[i] (List.getElem_mem h)).1;refine ⟨⟨?_,?_⟩,?_⟩
   · refine (CM.fold (iH l bf[i]) (Nq (XP l bf[i])) hI.1 fun x=>by have:=ajF l (bf.take i) x;rw [List.length_take] at this;omega).of_eq fun x=>?_;rw [List.take_succ_eq_append_getElem h];unfold Dv;rw [List.countP_append,List.countP_singleton];by_cases hx : x ∈ iH l bf[i]
     · rw [if_pos hx,if_pos (qZ.2 hx)]
     rw [if_neg hx,if_neg (by rw [ql.2 hx];simp)]
   · have:=Rj (iH l bf[i]) m;have:=hI.2;omega
   unfold sG;rw [dw h,Yg l _ hl ha arQ];simp only [Option.bind_some];unfold Gy;rw [Zb (iH l bf[i]) (by omega) stepM (fun _ _=>True) (fun v8=>k (IntKind.i64.wrap ((i : Int) + 1)) v8) trivial]
   · intro k2 a j hj _;refine ⟨trivial,?_⟩;unfold sF;rw [dw hj];rfl
   intro k2 a _;unfold sF;rw [dO]
 intro k m hI;unfold sG;rw [dO]
theorem acS (l : List ah) (bf : List (List au)) (hl : l.length ≤ 1000) (ha : Xp l) (hs : uF bf) : G9 l bf = some (wG l bf):=by
 have h1:=Ri hs;have h2:=lJ (Pn bf);have h3:=ahS hs hl;unfold G9;rw [OH bf hs,UU l bf hl ha hs];simp only [Option.bind_some];rw [fK (by omega)];simp only [Option.bind_some];rw [Zj _ (by rw [List.length_append];omega)];unfold wG;rw [MS]
end Go.Proofs.YtolgdkhlelfpoaaGreat
end
section
namespace Go.Proofs.YtolgdkhlelfpoaaGreat
open Go.RowKit
def gK (l : List ah) : Prop:=∀ e ∈ l,jG e
theorem gK.amN {l : List ah} (h : gK l) : Xp l:=fun e he=>(h e he).auth
theorem amO {R A α : Type} {body : (A → Int → Option R) → A → Int → Option R} (l : List α) (hl : l.length < fuel) (p : α → Bool) (g : Nat → Option R) (rest : Option R) (a0 : A)
 (hb : ∀ k (i : Nat) (h : i < l.length),body k a0 (i : Int) = bif p l[i] then g i else k a0 (IntKind.i64.wrap ((i : Int) + 1))) (he : ∀ k,body k a0 (l.length : Int) = rest) :
 bg body fuel a0 0 = if l.findIdx p < l.length then g (l.findIdx p) else rest:=by
 have hf : fuel = 9223372036854775808:=rfl
 have key : ∀ n (i : Nat),i + n = l.length → ∀ m,n < m → bg body m a0 (i : Int) = if (l.drop i).findIdx p + i < l.length then g ((l.drop i).findIdx p + i) else rest:=by
  intro n
  induction n with
  | zero=>
    intro i hi m hm;obtain ⟨m,rfl⟩ : ∃ m',m = m' + 1:=⟨m - 1,by omega⟩
    have : i = l.length:=by omega
    subst this;show body (bg body m) _ _ = _;rw [he,List.drop_length,if_neg (by simp)]
  | succ n ih=>
    intro i hi m hm;obtain ⟨m,rfl⟩ : ∃ m',m = m' + 1:=⟨m - 1,by omega⟩
    have hlt : i < l.length:=by omega
    show body (bg body m) _ _ = _;rw [hb _ i hlt,wrap_succ i (by omega),ih (i + 1) (by omega) m (by omega),List.drop_eq_getElem_cons hlt,List.findIdx_cons];cases p l[i] with
    | true=>simp only [cond_true,Nat.zero_add];rw [if_pos hlt]
    | false=>
      simp only [cond_false];rw [show (l.drop (i + 1)).findIdx p + (i + 1) = (l.drop (i + 1)).findIdx p + 1 + i by omega]
 have:=key l.length 0 (by omega) fuel hl;simpa using this
theorem acT {s : List au} {k : Int} {key : ByteArray} {id : Int} {x : au} (h : x ∈ rO s k key id) : x = ⟨k,key,id⟩ ∨ x ∈ s:=by
 unfold rO at h;rcases List.mem_append.1 h with h | h
 · exact .inr (List.mem_of_mem_take h)
 rcases List.mem_cons.1 h with h | h
 · exact .inl h
 exact .inr (List.mem_of_mem_drop h)
def zT (e : ah) : List au:=rO (rO (rO [] 1 s0 0) 3 s0 0) 2 e.cZ 0
def keysOf (e : ah) : List au:=
 bif e.Kind == 1 then [] else bif e.Kind == 2 then (bif e.Content.N == 3 || e.Content.N == 1 || e.Content.N == 2 then rO (rO (zT e) 2 e.Key 0) 4 s0 0 else rO (zT e) 2 e.Key 0) else zT e
theorem VY (e : ah) : (zT e).length ≤ 3:=by
 have h1:=pX [] 1 s0 0;have h2:=pX (rO [] 1 s0 0) 3 s0 0;have h3:=pX (rO (rO [] 1 s0 0) 3 s0 0) 2 e.cZ 0;unfold zT;simp only [List.length_nil] at h1;omega
theorem xq (e : ah) : (keysOf e).length ≤ 5:=by
 have h1:=VY e;have h2:=pX (zT e) 2 e.Key 0;have h3:=pX (rO (zT e) 2 e.Key 0) 4 s0 0;unfold keysOf;cases e.Kind == 1 <;> cases e.Kind == 2 <;> cases (e.Content.N == 3 || e.Content.N == 1 || e.Content.N == 2) <;> simp only [cond_true,cond_false,List.length_nil] <;> omega
theorem TQ (e : ah) : Ea e = some (keysOf e):=by
 have h1:=VY e;have h2:=pX (zT e) 2 e.Key 0;have g1:=pX [] 1 s0 0;have g2:=pX (rO [] 1 s0 0) 3 s0 0;simp only [List.length_nil] at g1;unfold Ea keysOf;rw [oh [] 1 s0 0 (by simp)];simp only [Option.bind_some];rw [oh _ 3 s0 0 (by omega)];simp only [Option.bind_some];rw [oh _ 2 e.cZ 0 (by omega)];simp only [Option.bind_some];show (bif e.Kind == 1 then some [] else bif e.Kind == 2 then (lI (zT e) 2 e.Key 0).bind _ else tV (zT e)) = _;rw [oh (zT e) 2 e.Key 0 (by omega)];simp only [Option.bind_some];rw [oh _ 4 s0 0 (by omega)];unfold tV;cases e.Kind == 1 <;> cases e.Kind == 2 <;> cases e.Content.N == 3 <;> cases e.Content.N == 1 <;> cases e.Content.N == 2 <;> rfl
def Nr (k : au) (x : ah) : Bool:=x.Kind == k.Kind && decide (x.Key = k.Key)
def VZ (l : List ah) (e : ah) : List ah:=(keysOf e).flatMap fun k=>((ofIds l e.fB).find? (Nr k)).toList
theorem flat_length {α β : Type} {f : α → List β} {n : Nat} (h : ∀ x,(f x).length ≤ n) : ∀ l : List α,(l.flatMap f).length ≤ n * l.length
 | []=>by simp
 | x :: l=>by
   have h1:=h x;have h2:=flat_length h l;rw [List.flatMap_cons,List.length_append,List.length_cons,Nat.mul_succ];omega
theorem XQ (l : List ah) (e : ah) : (VZ l e).length ≤ 5:=by
 have h1:=flat_length (f:=fun k=>((ofIds l e.fB).find? (Nr k)).toList) (n:=1) (fun k=>toList_le _) (keysOf e);have h2:=xq e;unfold VZ;omega
theorem ahb {l : List ah} {ids : List Int} {x : ah} (h : x ∈ ofIds l ids) : x ∈ l:=by
 obtain ⟨i,_,h⟩:=List.mem_filterMap.1 h;exact yx h
theorem amP {l : List ah} {e x : ah} (h : x ∈ VZ l e) : x ∈ l:=by
 obtain ⟨k,_,h⟩:=List.mem_flatMap.1 h;have : (ofIds l e.fB).find? (Nr k) = some x:=by simpa using h
 exact ahb (List.mem_of_find?_eq_some this)
def Zk (x : au) : fO:=⟨x.Kind,x.Key⟩
theorem TR (e : ah) : Eh e = some ((keysOf e).map Zk):=by
 unfold Eh;rw [TQ];simp only [Option.bind_some];have hk:=xq e;unfold Tq;rw [Hg (keysOf e) (by omega) (fun r x=>r ++ [Zk x]) (fun i r=>r.length ≤ i) (fun r=>some r) (Nat.le_refl _)]
 · rw [foldl_append (fun x=> [Zk x]),List.nil_append];congr 1
   induction keysOf e with
   | nil=>rfl
   | cons x s ih=>rw [List.flatMap_cons,ih];rfl
 · intro k r i h hI;refine ⟨by rw [List.length_append];simp only [List.length_singleton];omega,?_⟩;unfold Jv;rw [dw h,fK (by simp only [List.length_singleton];omega)];rfl
 intro k r _;unfold Jv;rw [dO]
theorem aeH (l : List ah) (p : ah → Bool) : ∀ ids : List Int,(ofIds l ids).find? p = (ids.find? fun i=>match kE l i with | some x=>p x | none=>false).bind (kE l)
 | []=>rfl
 | i :: ids=>by
   have ih:=aeH l p ids;unfold ofIds at ih ⊢;rw [List.filterMap_cons,List.find?_cons];cases hg : kE l i with
   | none=>exact ih
   | some x=>
     simp only;rw [List.find?_cons];cases p x with
     | true=>exact hg.symm
     | false=>exact ih
theorem TS (l : List ah) (e : ah) (hl : l.length ≤ 1000) (he : e.fB.length ≤ 40) : Ei l e = some (VZ l e):=by
 unfold Ei;rw [TR];simp only [Option.bind_some];have hk:=xq e;unfold Tz;rw [Hg (a0:= []) ((keysOf e).map Zk) (by rw [List.length_map];omega) (fun r k=>r ++ ((ofIds l e.fB).find? fun x=>x.Kind == k.OX && decide (x.Key = k.SC)).toList) (fun i r=>r.length ≤ i) (fun r=>some r) (Nat.le_refl _)]
 · congr 1;rw [foldl_append (fun k : fO=>((ofIds l e.fB).find? fun x=>x.Kind == k.OX && decide (x.Key = k.SC)).toList),List.nil_append,List.flatMap_map];rfl
 · intro k r i h hI;have ht:=toList_le ((ofIds l e.fB).find? fun x=>x.Kind == ((keysOf e).map Zk)[i].OX && decide (x.Key = ((keysOf e).map Zk)[i].SC));refine ⟨by rw [List.length_append];omega,?_⟩;have hi : i < 5:=by rw [List.length_map] at h;omega
   unfold Jy;rw [dw h];generalize ((keysOf e).map Zk)[i] = K;unfold Tv
   rw [amO e.fB (fuel_lt (by omega)) (fun id=>match kE l id with | some x=>x.Kind == K.OX && decide (x.Key = K.SC) | none=>false)
    (fun j=>xP k (i : Int) (r ++ (match e.fB[j]? with | some id=>(kE l id).toList | none=> []))) (xP k (i : Int) r)]
   · rw [aeH,xk];by_cases hf : e.fB.findIdx (fun id=>match kE l id with | some x=>x.Kind == K.OX && decide (x.Key = K.SC) | none=>false) < e.fB.length
     · rw [if_pos hf,List.getElem?_eq_getElem hf];rfl
     rw [if_neg hf,List.getElem?_eq_none (by omega)];simp only [Option.bind_none,Option.toList_none,List.append_nil];rfl
   · intro k2 j hj;unfold Jw;rw [dw hj,jv l _ (by omega),List.getElem?_eq_getElem hj];simp only [Option.bind_some];cases hg : kE l e.fB[j] with
     | none=>rw [Eo hg];rfl
     | some x=>
       rw [sW hg];simp only [cond_true,Option.toList_some];unfold nK;rw [Ci];rw [fK (by simp only [List.length_singleton];omega)];cases x.Kind == K.OX <;> cases decide (x.Key = K.SC) <;> rfl
   intro k2;unfold Jw;rw [dO]
 intro k r _;unfold Jy;rw [dO]
def Rk (c : ByteArray) : aV:=bif !(c.toList == s0.toList) then { kM with Users:= [⟨c,100⟩] } else kM
def Ep (l : List ah) : ByteArray:=match l.find? fun x=>x.Kind == 1 with | some x=>x.cZ | none=>s0
def gJ (l : List ah) : aV:=match l.find? fun x=>x.Kind == 3 with | some x=>x.Content.Levels | none=>Rk (Ep l)
theorem aaR (c : ByteArray) : ES c = some (Rk c):=by
 unfold ES Rk yL;cases c.toList == s0.toList <;> rfl
theorem TT (l : List ah) (k : Int) (hl : l.length ≤ 1000) : Ed l k = some (if l.findIdx (fun e=>e.Kind == k) < l.length then ((l.findIdx (fun e=>e.Kind == k) : Nat) : Int) else -1):=by
 unfold Ed;rw [Rf l (by omega) (fun a0=>ER a0 k) (fun e=>e.Kind == k) fun _=>rfl];rfl
theorem Rl (l : List ah) (hl : l.length ≤ 1000) (hs : gK l) : Ip l = some (gJ l,Ep l):=by
 have hj : ∀ c,zI l c = some (match l.find? fun x=>x.Kind == 3 with | some x=>x.Content.Levels | none=>Rk c,c):=by
  intro c;unfold zI;rw [TT l 3 hl,xk];simp only [Option.bind_some];by_cases h : l.findIdx (fun e=>e.Kind == 3) < l.length
  · rw [if_pos h,show decide (((l.findIdx (fun e=>e.Kind == 3) : Nat) : Int) ≥ 0) = true by simp,fA h,List.getElem?_eq_getElem h];simp only [cond_true,Option.bind_some];have hS:=hs _ (List.getElem_mem h);have h1:=hS.users;have h2:=hS.kinds;unfold mW jV;rw [fK (by simp only [List.length_nil];omega),fK (by simp only [List.length_nil];omega)];rfl
  rw [if_neg h,List.getElem?_eq_none (by omega),aaR];rfl
 unfold Ip;rw [TT l 1 hl];simp only [Option.bind_some];by_cases h : l.findIdx (fun e=>e.Kind == 1) < l.length
 · have hc : Ep l = l[l.findIdx (fun e=>e.Kind == 1)].cZ:=by unfold Ep;rw [xk,List.getElem?_eq_getElem h]
   rw [if_pos h,show decide (((l.findIdx (fun e=>e.Kind == 1) : Nat) : Int) ≥ 0) = true by simp,fA h];simp only [cond_true,Option.bind_some];rw [hj,← hc];rfl
 have hc : Ep l = s0:=by unfold Ep;rw [xk,List.getElem?_eq_none (by omega)]
 rw [if_neg h];show zI l s0 = _;rw [hj,← hc];rfl
def iq (v : aV) (u : ByteArray) : Int:=match v.Users.find? fun x=>decide (x.User = u) with | some x=>x.N | none=>v.User
theorem rP (v : aV) (u : ByteArray) (h : v.Users.length ≤ 1000) : oC v u = some (iq v u):=by
 unfold oC VJ iq;rw [Xm v.Users (fuel_lt (by omega)) (fun x=>decide (x.User = u)) (fun i=>some (match v.Users[i]? with | some x=>x.N | none=>0)) (some v.User)]
 · rw [xk];by_cases h : v.Users.findIdx (fun x=>decide (x.User = u)) < v.Users.length
   · rw [if_pos h,List.getElem?_eq_getElem h]
   rw [if_neg h,List.getElem?_eq_none (by omega)]
 · intro k i h;unfold KW;rw [dw h,Ci,List.getElem?_eq_getElem h]
 intro k;unfold KW;rw [dO]
theorem Fp {l : List ah} (h : gK l) : (gJ l).Users.length ≤ 100 ∧ (gJ l).Kinds.length ≤ 100:=by
 unfold gJ;cases hf : l.find? fun x=>x.Kind == 3 with
 | some x=>
   have:=h x (List.mem_of_find?_eq_some hf);exact ⟨this.users,this.kinds⟩
 | none=>
   simp only;unfold Rk;cases (Ep l).toList == s0.toList with
   | true=>
     show kM.Users.length ≤ 100 ∧ kM.Kinds.length ≤ 100;exact ⟨by decide,by decide⟩
   | false=>
     show 1 ≤ 100 ∧ kM.Kinds.length ≤ 100;exact ⟨by decide,by decide⟩
def ajG (l : List ah) (e : ah) : Int:=iq (gJ (VZ l e)) e.cZ
theorem gK.from {l : List ah} (h : gK l) (e : ah) : gK (VZ l e):=fun x hx=>h x (amP hx)
theorem aeI (l : List ah) (e : ah) (hl : l.length ≤ 1000) (hs : gK l) (he : e.fB.length ≤ 40) : Jz l e = some (ajG l e):=by
 have h1:=XQ l e;have h2:=(Fp (hs.from e)).1;unfold Jz;rw [TS l e hl he];simp only [Option.bind_some];rw [Rl _ (by omega) (hs.from e)];simp only [Option.bind_some];rw [rP _ _ (by omega)];rfl
end Go.Proofs.YtolgdkhlelfpoaaGreat
end
section
namespace Go.Proofs.YtolgdkhlelfpoaaGreat
open Go.RowKit
def isP (e : ah) : Bool:=bif e.Kind == 2 then (e.Content.N == 0 || e.Content.N == 4) && !(decide (e.Key = e.cZ)) else e.Kind == 3 || e.Kind == 4
theorem akX (e : ah) : Xb e = some (isP e):=by
 unfold Xb L8 isP;rw [Ci];by_cases h2 : e.Kind = 2
 · simp [h2];cases e.Content.N == 0 <;> cases e.Content.N == 4 <;> rfl
 have h2' : (e.Kind == 2) = false:=by simpa using h2
 rw [h2'];cases e.Kind == 3 <;> cases e.Kind == 4 <;> rfl
theorem TU (l : List Int) (x : Int) (h : l.length ≤ 1099511627776) : qQ l x = some (if l.findIdx (· == x) < l.length then ((l.findIdx (· == x) : Nat) : Int) else -1):=by
 unfold qQ GH;rw [Xm l (fuel_lt h) (· == x) (fun i=>some (i : Int)) (some (-1))]
 · split <;> rfl
 · intro k i hi;unfold yu;rw [dw hi];have : (x == l[i]) = (l[i] == x):=by rw [Bool.eq_iff_iff];simp only [beq_iff_eq];exact eq_comm
   rw [this]
 intro k;unfold yu;rw [dO]
theorem abh (l : List Int) (x : Int) : decide (l.findIdx (· == x) < l.length) = hasB l x:=by
 rw [Bool.eq_iff_iff,qZ,decide_eq_true_eq,List.findIdx_lt_length];exact ⟨fun ⟨y,h1,h2⟩=>by rw [← (by simpa using h2 : y = x)];exact h1,fun h=>⟨x,h,by simp⟩⟩
theorem sZ (l : List Int) (x : Int) (h : l.length ≤ 1099511627776) : lS l x = some (hasB l x):=by
 unfold lS;rw [TU l x h,← abh];by_cases hl : l.findIdx (· == x) < l.length
 · rw [if_pos hl,decide_eq_true hl];simp
 rw [if_neg hl,decide_eq_false hl];rfl
theorem aeJ (l : List Int) (x : Int) (h : l.length ≤ 1099511627776) : Pz l x = some (hasB l x):=by
 unfold Pz;rw [sZ l x h];rfl
def ev (l : List ah) (id : Int) : ah:=(sV l id).1
def pI (l : List ah) (id : Int) : Bool:=gG l id && isP (ev l id)
def JQ (l : List ah) (full : List Int) : List Int:=full.filter (pI l)
def agA (l : List ah) (full : List Int) : List Int:=kC (JQ l full ++ full.filter (hasB (chainOf l (JQ l full))))
theorem ajH {l : List ah} {full : List Int} {x : Int} : x ∈ agA l full ↔ x ∈ full ∧ (pI l x = true ∨ Ch l (JQ l full) x):=by
 unfold agA;rw [nU,List.mem_append,List.mem_filter,qZ,abe];unfold JQ;rw [List.mem_filter];exact ⟨fun h=>h.elim (fun h=>⟨h.1,.inl h.2⟩) fun h=>⟨h.1,.inr h.2⟩,fun ⟨h,k⟩=>k.elim (fun k=>.inl ⟨h,k⟩) fun k=>.inr ⟨h,k⟩⟩
theorem aqI (l : List ah) (full : List Int) : Inc (agA l full):=nV _
theorem UW (p : Int → Bool) : ∀ (S r : List Int),S.foldl (fun r x=>bif p x then r ++ [x] else r) r = r ++ S.filter p
 | [],r=>by simp
 | x :: S,r=>by
   rw [List.foldl_cons,UW p S,List.filter_cons];cases p x <;> simp
theorem ajI (l : List ah) (full : List Int) (hl : l.length ≤ 1000) (hs : gK l) (hf : full.length ≤ 120000) (hfl : (JQ l full).length ≤ 100000) : SX l full = some (agA l full):=by
 unfold SX YV;rw [Hg (a0:= []) full (by omega) (fun r x=>bif pI l x then r ++ [x] else r) (fun i r=>r.length ≤ i) (fun r=>(vw l r).bind fun x14=>QB full x14 r 0) (Nat.le_refl _)]
 · have e0 : full.foldl (fun r x=>bif pI l x then r ++ [x] else r) [] = JQ l full:=by rw [UW];rfl
   have hc:=Fj l (JQ l full);rw [e0,LC l _ hl hs.amN hfl];simp only [Option.bind_some];unfold QB;rw [Hg full (by omega) (fun r x=>bif hasB (chainOf l (JQ l full)) x then r ++ [x] else r) (fun i r=>r.length ≤ (JQ l full).length + i) (fun r=>some (kC r)) (Nat.le_refl _)]
   · rw [UW];rfl
   · intro k r i h hI;refine ⟨?_,?_⟩
     · cases hasB (chainOf l (JQ l full)) full[i] with
       | false=>show r.length ≤ (JQ l full).length + (i + 1);omega
       | true=>show (r ++ [full[i]]).length ≤ (JQ l full).length + (i + 1);simp;omega
     unfold QA Jl;rw [dw h,aeJ _ _ (by omega)];simp only [Option.bind_some];rw [fK (by simp only [List.length_singleton];omega)];cases hasB (chainOf l (JQ l full)) full[i] <;> rfl
   intro k r hI;unfold QA;rw [dO,qK _ (by omega)];rfl
 · intro k r i h hI;refine ⟨?_,?_⟩
   · cases pI l full[i] with
     | false=>show r.length ≤ i + 1;omega
     | true=>show (r ++ [full[i]]).length ≤ i + 1;simp;omega
   unfold QC Jk;rw [dw h,jv l _ (by omega)];simp only [Option.bind_some];rw [fK (by simp only [List.length_singleton];omega)];unfold pI gG ev;rw [akX,Np];cases (kE l full[i]).isSome <;> cases isP (sV l full[i]).1 <;> rfl
 intro k r _;unfold QC;rw [dO]
theorem Ch.avT {l : List ah} {ids : List Int} {i x : Int} (hi : i ∈ ids) (h : Ch l [i] x) : Ch l ids x:=by
 induction h with
 | one h hx hk=>rw [List.mem_singleton.1 h] at hx;exact .one hi hx hk
 | more h hx hk ih=>exact .more ih hx hk
theorem Ch.split {l : List ah} {ids : List Int} {x : Int} : Ch l ids x ↔ ∃ i ∈ ids,Ch l [i] x:=by
 constructor
 · intro h
   induction h with
   | one h hx hk=>exact ⟨_,h,.one (List.mem_singleton.2 rfl) hx hk⟩
   | more h hx hk ih=>obtain ⟨i,h1,h2⟩:=ih;exact ⟨i,h1,.more h2 hx hk⟩
 rintro ⟨i,h1,h2⟩;exact .avT h1 h2
theorem Ch.gG {l : List ah} {ids : List Int} {x : Int} (h : Ch l ids x) : gG l x = true:=by cases h <;> assumption
theorem abj (l : List ah) (full : List Int) : (agA l full).length ≤ l.length:=
 vK (aqI l full) fun x hx=>by
  rcases (ajH.1 hx).2 with h | h
  · unfold pI at h;rw [Bool.and_eq_true] at h;exact h.1
  exact h.gG
end Go.Proofs.YtolgdkhlelfpoaaGreat
end
section
namespace Go.Proofs.YtolgdkhlelfpoaaGreat
open Go.RowKit
def iY (l : List ah) (id : Int) : eX:=⟨id,ajG l (ev l id),(ev l id).Time,chainOf l [id]⟩
def amQ (l : List ah) (left : List Int) (x : Int) : Bool:=!left.any fun y=>hasB (chainOf l [x]) y
def aeK (a b : eX) : Bool:=bif a.DT != b.DT then decide (a.DT > b.DT) else decide (a.wH < b.wH)
def uf (l : List ah) (left : List Int) (b : Option Int) (x : Int) : Option Int:=bif amQ l left x && (match b with | none=>true | some y=>aeK (iY l x) (iY l y)) then some x else b
def Rn (l : List ah) (left : List Int) : Option Int:=left.foldl (uf l left) none
def Et (l : List ah) : Nat → List Int → List Int
 | 0,_=> []
 | n + 1,left=>match Rn l left with
   | none=> []
   | some b=>b :: Et l n (left.filter (· != b))
theorem abk (l : List ah) : ∀ ids : List Int,ids.flatMap (fun id=>bif gG l id then [iY l id] else []) = (ids.filter (gG l)).map (iY l)
 | []=>rfl
 | i :: ids=>by
   rw [List.flatMap_cons,abk l ids,List.filter_cons];cases gG l i <;> simp
theorem agB (l : List ah) (ids : List Int) (hl : l.length ≤ 1000) (hs : gK l) (hi : ids.length ≤ 100000) : MC l ids = some ((uN l ids).map (iY l)):=by
 unfold MC;rw [qK ids (by omega)];simp only [Option.bind_some];have hsl:=lJ ids;unfold VN;rw [Hg (a0:= []) (kC ids) (by omega) (fun r id=>r ++ bif gG l id then [iY l id] else []) (fun i r=>r.length ≤ i) (fun r=>some r) (Nat.le_refl _)]
 · rw [foldl_append (fun id=>bif gG l id then [iY l id] else []),List.nil_append,abk];rfl
 · intro k r i h hI;refine ⟨?_,?_⟩
   · cases gG l (kC ids)[i] <;> simp <;> omega
   unfold KY EX;rw [dw h,jv l _ (by omega)];simp only [Option.bind_some];unfold gG;cases hg : kE l (kC ids)[i] with
   | none=>rw [Eo hg];simp
   | some e=>
     have he:=hs e (yx hg);have hev : ev l (kC ids)[i] = e:=by unfold ev;rw [sW hg]
     rw [sW hg];simp only [cond_true,Option.isSome_some];rw [aeI l e hl hs he.auth,LC l _ hl hs.amN (by simp)];simp only [Option.bind_some];rw [fK (by simp only [List.length_singleton];omega)];unfold iY;rw [hev];rfl
 intro k r _;unfold KY;rw [dO]
theorem ajJ (l : List ah) (left : List Int) : ∀ (c : List Int) (b : Option Int) {x : Int},c.foldl (uf l left) b = some x → b = some x ∨ x ∈ c
 | [],b,x,h=>.inl h
 | y :: c,b,x,h=>by
   rw [List.foldl_cons] at h;rcases ajJ l left c _ h with h1 | h1
   · have key : ∀ c : Bool,(bif c then some y else b) = some x → b = some x ∨ x = y:=fun c hc=>by
      cases c with
      | true=>simp only [cond_true,Option.some.injEq] at hc;exact .inr hc.symm
      | false=>exact .inl hc
     rcases key _ h1 with h2 | h2
     · exact .inl h2
     exact .inr (h2 ▸ List.mem_cons_self ..)
   exact .inr (List.mem_cons_of_mem _ h1)
theorem amR {l : List ah} {left : List Int} {x : Int} (h : Rn l left = some x) : x ∈ left:=by
 rcases ajJ l left left none h with h | h
 · cases h
 exact h
theorem aeL {left : List Int} (hn : left.Nodup) {j : Nat} (hj : j < left.length) : left.take j ++ left.drop (j + 1) = left.filter (· != left[j]):=by
 have e : left = left.take j ++ left[j] :: left.drop (j + 1):=by rw [← List.drop_eq_getElem_cons hj,List.take_append_drop]
 have hn2 : (left.take j ++ left[j] :: left.drop (j + 1)).Nodup:=by rw [← e];exact hn
 have h1:=List.nodup_append.1 hn2;have h2:=List.nodup_cons.1 h1.2.1
 have g1 : (left.take j).filter (· != left[j]) = left.take j:=List.filter_eq_self.2 fun x hx=>by
  have:=h1.2.2 x hx left[j] (List.mem_cons_self ..);simpa using this
 have g2 : (left.drop (j + 1)).filter (· != left[j]) = left.drop (j + 1):=List.filter_eq_self.2 fun x hx=>by
  have : x ≠ left[j]:=fun e=>h2.1 (e ▸ hx);simpa using this
 have : (left.take j ++ left[j] :: left.drop (j + 1)).filter (· != left[j]) = left.take j ++ left.drop (j + 1):=by
  rw [List.filter_append,List.filter_cons,g1,g2];simp
 rw [← e] at this;exact this.symm
theorem agC {left : List Int} (hn : left.Nodup) {b : Int} (hb : b ∈ left) : (left.filter (· != b)).length + 1 = left.length:=by
 obtain ⟨j,hj,rfl⟩:=List.getElem_of_mem hb;rw [← aeL hn hj,List.length_append,List.length_take,List.length_drop];omega
theorem aeM (l : List ah) (hl : l.length ≤ 1000) : ∀ (m : Nat) (left acc : List Int) (N : Nat),left.length = m → Inc left → (∀ x ∈ left,gG l x = true) → acc.length + left.length ≤ 1000000 → m < N → bg o8 N (left.map (iY l)) acc = some (acc ++ Et l m left):=by
 intro m
 induction m with
 | zero=>
   intro left acc N hm hi hk hacc hN;obtain ⟨N,rfl⟩ : ∃ N',N = N' + 1:=⟨N - 1,by omega⟩
   have : left = []:=List.eq_nil_of_length_eq_zero hm;subst this;show o8 _ _ _ = _;unfold o8 Et;simp
 | succ m ih=>
   intro left acc N hm hi hk hacc hN;obtain ⟨N,rfl⟩ : ∃ N',N = N' + 1:=⟨N - 1,by omega⟩
   have hll:=vK hi hk;refine dG.eq ?_;show dG (o8 (bg o8 N) _ _) _;have ih':=fun left' acc' h1 h2 h3 h4=>ih left' acc' N h1 h2 h3 h4 (by omega);generalize bg o8 N = K at ih';unfold o8;rw [show decide (((left.map (iY l)).length : Int) > 0) = true by rw [List.length_map];simp;omega];simp only [cond_true];unfold VP;refine Iq (body:=KZ (left.map (iY l)) K) (fun m2 a b c=>∃ i : Nat,b = i ∧ i + m2 = left.length ∧ c = acc ∧ ((a = -1 ∧ (left.take i).foldl (uf l left) none = none) ∨ ∃ (j : Nat) (hj : j < left.length),a = (j : Int) ∧ (left.take i).foldl (uf l left) none = some left[j])) ?_ fuel left.length (-1) 0 acc (fuel_lt (by omega)) ⟨0,rfl,by omega,rfl,.inl ⟨rfl,rfl⟩⟩;rintro m2 a b c k ⟨i,rfl,hm2,rfl,hI⟩ hk2;unfold KZ;by_cases hlt : i < left.length
   · have hlt' : i < (left.map (iY l)).length:=by rw [List.length_map];exact hlt
     rw [dec_lt hlt',fA hlt',List.getElem_map];simp only [cond_true,Option.bind_some]
     have hst : (left.take (i + 1)).foldl (uf l left) none = uf l left ((left.take i).foldl (uf l left) none) left[i]:=by
      rw [List.take_succ_eq_append_getElem hlt,List.foldl_append];rfl
     unfold VO;have hc:=Fj l [left[i]]
     have hin : ∀ (k2 : Int → Int → List Int → Option (List Int)),bg (o7 (left.map (iY l)) (iY l left[i]) k2 (i : Int) a) fuel 0 c = bif amQ l left left[i] then (bif decide (a < 0) then oZ k2 (i : Int) a true c else (aX (left.map (iY l)) a).bind fun x27=>(uz (iY l left[i]) x27).bind fun x28=>oZ k2 (i : Int) a x28 c) else rJ k2 (i : Int) a c:=by
      intro k2
      have key : ∀ n (j : Nat),j + n = left.length → ∀ m,n < m → bg (o7 (left.map (iY l)) (iY l left[i]) k2 (i : Int) a) m (j : Int) c = bif !(left.drop j).any (fun y=>hasB (chainOf l [left[i]]) y) then (bif decide (a < 0) then oZ k2 (i : Int) a true c else (aX (left.map (iY l)) a).bind fun x27=>(uz (iY l left[i]) x27).bind fun x28=>oZ k2 (i : Int) a x28 c) else rJ k2 (i : Int) a c:=by
       intro n
       induction n with
       | zero=>
         intro j hj m hm;obtain ⟨m,rfl⟩ : ∃ m',m = m' + 1:=⟨m - 1,by omega⟩
         have : j = left.length:=by omega
         subst this;show o7 _ _ _ _ _ _ _ _ = _;unfold o7;rw [show decide ((left.length : Int) < ((left.map (iY l)).length : Int)) = false by rw [List.length_map];exact lg _,List.drop_length];rfl
       | succ n ihn=>
         intro j hj m hm;obtain ⟨m,rfl⟩ : ∃ m',m = m' + 1:=⟨m - 1,by omega⟩
         have hjl : j < left.length:=by omega
         have axS : j < (left.map (iY l)).length:=by rw [List.length_map];exact hjl
         have ihn':=ihn (j + 1) (by omega) m (by omega);show o7 _ _ _ _ _ (bg _ m) _ _ = _;generalize bg (o7 (left.map (iY l)) (iY l left[i]) k2 (i : Int) a) m = L at ihn';unfold o7;rw [dw axS,List.getElem_map];show ((Pz (chainOf l [left[i]]) left[j]).bind _) = _;rw [aeJ _ _ (by omega),wrap_succ j (by omega),List.drop_eq_getElem_cons hjl,List.any_cons];simp only [Option.bind_some];cases hasB (chainOf l [left[i]]) left[j] with
         | true=>rfl
         | false=>
           simp only [cond_false,Bool.false_or];exact ihn'
      exact key left.length 0 (by omega) fuel (fuel_lt (by omega))
     rw [hin];have hw:=wrap_succ i (by omega);unfold oZ rJ;rw [hw];cases hfr : amQ l left left[i] with
     | false=>
       simp only [cond_false];refine hk2 (m2 - 1) _ _ _ (by omega) ⟨i + 1,rfl,by omega,rfl,?_⟩;have e : uf l left ((left.take i).foldl (uf l left) none) left[i] = (left.take i).foldl (uf l left) none:=by unfold uf;rw [hfr];rfl
       rw [hst,e];exact hI
     | true=>
       simp only [cond_true];rcases hI with ⟨rfl,h0⟩ | ⟨j,hj,rfl,h0⟩
       · rw [show decide ((-1 : Int) < 0) = true by decide];simp only [cond_true];refine hk2 (m2 - 1) _ _ _ (by omega) ⟨i + 1,rfl,by omega,rfl,.inr ⟨i,hlt,rfl,?_⟩⟩;rw [hst,h0];unfold uf;rw [hfr];rfl
       have hj' : j < (left.map (iY l)).length:=by rw [List.length_map];exact hj
       rw [show decide ((j : Int) < 0) = false by simp,fA hj',List.getElem_map];simp only [cond_false,Option.bind_some]
       have e1 : uz (iY l left[i]) (iY l left[j]) = some (aeK (iY l left[i]) (iY l left[j])):=by
        unfold uz aeK;cases (iY l left[i]).DT != (iY l left[j]).DT <;> rfl
       rw [e1];simp only [Option.bind_some];cases ha : aeK (iY l left[i]) (iY l left[j]) with
       | true=>
         simp only [cond_true];refine hk2 (m2 - 1) _ _ _ (by omega) ⟨i + 1,rfl,by omega,rfl,.inr ⟨i,hlt,rfl,?_⟩⟩;rw [hst,h0];unfold uf;rw [hfr];simp only [ha];rfl
       | false=>
         simp only [cond_false];refine hk2 (m2 - 1) _ _ _ (by omega) ⟨i + 1,rfl,by omega,rfl,.inr ⟨j,hj,rfl,?_⟩⟩;rw [hst,h0];unfold uf;rw [hfr];simp only [ha];rfl
   have hie : i = left.length:=by omega
   subst hie;rw [show decide ((left.length : Int) < ((left.map (iY l)).length : Int)) = false by rw [List.length_map];exact lg _];simp only [cond_false];rw [List.take_length] at hI;have hgoal : Et l (m + 1) left = match Rn l left with | none=> [] | some b=>b :: Et l m (left.filter (· != b)):=rfl
   rcases hI with ⟨rfl,h0⟩ | ⟨j,hj,rfl,h0⟩
   · rw [show decide ((-1 : Int) < 0) = true by decide];refine .ret ?_;have h1 : Rn l left = none:=h0;rw [hgoal,h1];simp
   have hj' : j < (left.map (iY l)).length:=by rw [List.length_map];exact hj
   rw [show decide ((j : Int) < 0) = false by simp,fA hj',List.getElem_map];simp only [cond_false,Option.bind_some];have h1 : Rn l left = some left[j]:=h0;rw [fK (by simp only [List.length_singleton];omega)];simp only [Option.bind_some];rw [ag9 (Nat.le_of_lt hj'),wrap_succ j (by omega),Zg hj'];simp only [Option.bind_some];rw [fK (by rw [List.length_take,List.length_drop,List.length_map];omega)];simp only [Option.bind_some]
   have e2 : (left.map (iY l)).take j ++ (left.map (iY l)).drop (j + 1) = (left.filter (· != left[j])).map (iY l):=by
    rw [← aeL (Nq hi) hj,List.map_append,List.map_take,List.map_drop]
   rw [e2];have hwl:=agC (Nq hi) (List.getElem_mem hj);rw [ih' (left.filter (· != left[j])) (c ++ [(iY l left[j]).ou]) (by omega) (hi.sublist List.filter_sublist) (fun x hx=>hk x ((List.mem_filter.1 hx).1)) (by simp only [List.length_append,List.length_singleton];omega)];refine .ret ?_;rw [hgoal,h1,List.append_assoc];rfl
theorem agD (l : List ah) (ids : List Int) (hl : l.length ≤ 1000) (hs : gK l) (hi : ids.length ≤ 100000) : MF l ids = some (Et l (uN l ids).length (uN l ids)):=by
 have hkl : (uN l ids).length ≤ l.length:=vK (Xn l ids) fun x hx=>(Fg.1 hx).2;unfold MF;rw [agB l ids hl hs hi];simp only [Option.bind_some];unfold VQ;rw [aeM l hl _ (uN l ids) [] fuel rfl (Xn l ids) (fun x hx=>(Fg.1 hx).2) (by simp only [List.length_nil];omega) (fuel_lt (by omega))];rfl
theorem ahc {R A B C D : Type} {Q : R → Prop} {body : (A → B → C → D → Option R) → A → B → C → D → Option R} (I : Nat → A → B → C → D → Prop) (hs : ∀ m a b c d k,I m a b c d → (∀ m' a' b' c' d',m' < m → I m' a' b' c' d' → dG (k a' b' c' d') Q) → dG (body k a b c d) Q) :
 ∀ n m a b c d,m < n → I m a b c d → dG (RU body n a b c d) Q
 | 0,m,_,_,_,_,h,_=>by omega
 | n + 1,m,a,b,c,d,h,hi=>hs m a b c d _ hi fun m' a' b' c' d' h' hi'=>ahc I hs n m' a' b' c' d' (by omega) hi'
theorem Xr {l : List ah} {x : Int} (h : gG l x = true) : kE l x = some (ev l x) ∧ (ev l x).Id = x:=by
 unfold gG at h;obtain ⟨e,he⟩:=Option.isSome_iff_exists.1 h;have : ev l x = e:=by unfold ev;rw [sW he]
 rw [this];exact ⟨he,agw he⟩
theorem aeN (l : List ah) : ∀ (n : Nat) (left : List Int) {x : Int},x ∈ Et l n left → x ∈ left
 | 0,_,_,h=>absurd h List.not_mem_nil
 | n + 1,left,x,h=>by
   unfold Et at h;cases hb : Rn l left with
   | none=>rw [hb] at h;exact absurd h List.not_mem_nil
   | some b=>
     rw [hb] at h;rcases List.mem_cons.1 h with rfl | h
     · exact amR hb
     exact (List.mem_filter.1 (aeN l n _ h)).1
theorem XR (l : List ah) : ∀ (n : Nat) (left : List Int),(Et l n left).length ≤ n
 | 0,_=>Nat.le_refl _
 | n + 1,left=>by
   unfold Et;cases Rn l left with
   | none=>exact Nat.zero_le _
   | some b=>have:=XR l n (left.filter (· != b));simp only [List.length_cons];omega
end Go.Proofs.YtolgdkhlelfpoaaGreat
end
section
namespace Go.Proofs.YtolgdkhlelfpoaaGreat
open Go.RowKit
def Cj (l : List ah) (e : ah) : Option Int:=e.fB.find? fun id=>gG l id && (ev l id).Kind == 3
def aeO (l : List ah) (e : ah) : Int × Bool:=match Cj l e with | some x=>(x,true) | none=>(0,false)
theorem OI (l : List ah) (e : ah) (hl : l.length ≤ 1000) (he : e.fB.length ≤ 40) : zM l e = some (aeO l e):=by
 unfold zM Ov;rw [Xm e.fB (fuel_lt (by omega)) (fun id=>gG l id && (ev l id).Kind == 3) (fun i=>some (match e.fB[i]? with | some x=>(x,true) | none=>(0,false))) (some (0,false))]
 · unfold aeO Cj;rw [xk];by_cases h : e.fB.findIdx (fun id=>gG l id && (ev l id).Kind == 3) < e.fB.length
   · rw [if_pos h]
   rw [if_neg h,List.getElem?_eq_none (by omega)]
 · intro k i h;unfold F5;rw [dw h,jv l _ (by omega),List.getElem?_eq_getElem h];simp only [Option.bind_some];unfold gG ev;rw [Np];cases (kE l e.fB[i]).isSome <;> rfl
 intro k;unfold F5;rw [dO]
def JR (l : List ah) : Nat → List Int → Int → List Int
 | 0,seen,_=>seen
 | n + 1,seen,id=>bif hasB seen id || !gG l id then seen else match Cj l (ev l id) with
   | none=>seen ++ [id]
   | some x=>JR l n (seen ++ [id]) x
def aie (l : List ah) (id : Int) : List Int:=JR l l.length [] id
structure MJ (l : List ah) (seen : List Int) : Prop where
 nodup : seen.Nodup
 known : ∀ x ∈ seen,gG l x = true
theorem MJ.length {l : List ah} {seen : List Int} (h : MJ l seen) : seen.length ≤ l.length:=by
 rw [← (uO seen).length_eq,aha h.nodup];exact vK (nV _) fun x hx=>h.known x (nU.1 hx)
theorem MJ.snoc {l : List ah} {seen : List Int} (h : MJ l seen) {id : Int} (h1 : id ∉ seen) (h2 : gG l id = true) : MJ l (seen ++ [id]):=by
 refine ⟨List.nodup_append.2 ⟨h.nodup,by simp,fun a ha b hb=>?_⟩,fun x hx=>?_⟩
 · rw [List.mem_singleton.1 hb];exact fun e=>h1 (e ▸ ha)
 rcases List.mem_append.1 hx with hx | hx
 · exact h.known x hx
 rw [List.mem_singleton.1 hx];exact h2
theorem alF (l : List ah) : ∀ (n : Nat) (seen : List Int) (id : Int),MJ l seen → MJ l (JR l n seen id)
 | 0,_,_,h=>h
 | n + 1,seen,id,h=>by
   unfold JR;cases hc : hasB seen id || !gG l id with
   | true=>exact h
   | false=>
     rw [Bool.or_eq_false_iff,ql] at hc;have h2:=h.snoc hc.1 (by simpa using hc.2);simp only [cond_false];cases Cj l (ev l id) with
     | none=>exact h2
     | some x=>exact alF l n _ x h2
theorem abl (l : List ah) : ∀ (n : Nat) (seen : List Int) (id : Int),∃ t,JR l n seen id = seen ++ t
 | 0,seen,_=>⟨[],by simp [JR]⟩
 | n + 1,seen,id=>by
   unfold JR;cases hasB seen id || !gG l id with
   | true=>exact ⟨[],by simp⟩
   | false=>
     simp only [cond_false];cases Cj l (ev l id) with
     | none=>exact ⟨[id],rfl⟩
     | some x=>
       obtain ⟨t,ht⟩:=abl l n (seen ++ [id]) x;exact ⟨id :: t,by simp only [ht,List.append_assoc];rfl⟩
theorem ajK (l : List ah) (id : Int) : (aie l id).length ≤ l.length:=(alF l _ [] id ⟨List.nodup_nil,fun x hx=>absurd hx List.not_mem_nil⟩).length
theorem aqJ (l : List ah) (hl : l.length ≤ 1000) (hs : gK l) (v8 v9 : List Int) : ∀ (m : Nat) (seen : List Int) (id : Int) (N : Nat),seen.length + m = l.length → MJ l seen → m < N → Ag oW N seen seen v8 v9 id l = some (JR l m seen id):=by
 intro m
 induction m with
 | zero=>
   intro seen id N hm hw hN;obtain ⟨N,rfl⟩ : ∃ N',N = N' + 1:=⟨N - 1,by omega⟩
   have hwl:=hw.length;show oW _ _ _ _ _ _ _ = _;unfold oW;rw [sZ _ _ (by omega),jv l _ (by omega)];simp only [Option.bind_some];rw [Np];cases hh : hasB seen id with
   | true=>rfl
   | false=>
     cases hk : (kE l id).isSome with
     | false=>rfl
     | true=>
       have h2:=(hw.snoc (ql.1 hh) hk).length;simp only [List.length_append,List.length_singleton] at h2;omega
 | succ m ih=>
   intro seen id N hm hw hN;obtain ⟨N,rfl⟩ : ∃ N',N = N' + 1:=⟨N - 1,by omega⟩
   have hwl:=hw.length;show oW (Ag oW N) _ _ _ _ _ _ = _;have ih':=fun seen' id' h1 h2=>ih seen' id' N h1 h2 (by omega);generalize Ag oW N = K at ih';unfold oW JR;rw [sZ _ _ (by omega),jv l _ (by omega)];simp only [Option.bind_some];rw [Np];cases hh : hasB seen id with
   | true=>rfl
   | false=>
     cases hk : (kE l id).isSome with
     | false=>rw [show gG l id = false from hk];rfl
     | true=>
       obtain ⟨e,he⟩:=Option.isSome_iff_exists.1 hk;rw [show gG l id = true from hk];simp only [Bool.not_false,Bool.not_true,Bool.or_false,cond_true,cond_false];rw [fK (by simp only [List.length_singleton];omega)];simp only [Option.bind_some];unfold EW;simp only [cond_false];rw [fK (by simp only [List.length_singleton];omega)];simp only [Option.bind_some];have hev : (sV l id).1 = ev l id:=rfl
       have hea : (ev l id).fB.length ≤ 40:=by
        have : ev l id = e:=by unfold ev;rw [sW he]
        rw [this];exact (hs e (yx he)).auth
       rw [hev,OI l _ hl hea];simp only [Option.bind_some];unfold aeO;cases Cj l (ev l id) with
       | none=>rfl
       | some x=>exact ih' (seen ++ [id]) x (by simp only [List.length_append,List.length_singleton];omega) (hw.snoc (ql.1 hh) hk)
theorem agE (l : List ah) (id : Int) (hl : l.length ≤ 1000) (hs : gK l) : MB l id = some (aie l id):=by
 unfold MB Ef VL;exact aqJ l hl hs [] [] l.length [] id fuel (by simp) ⟨List.nodup_nil,fun x hx=>absurd hx List.not_mem_nil⟩ (fuel_lt (by omega))
def V3 (main way : List Int) : Int:=match way.find? (hasB main) with | some x=>((main.findIdx (· == x) : Nat) : Int) | none=>(main.length : Int)
def ahd (l : List ah) (main : List Int) (id : Int) : Int:=V3 main (aie l id)
theorem aqK (l : List ah) (main : List Int) (hl : l.length ≤ 1000) (hs : gK l) (hm : main.length ≤ 100000) : ∀ (m : Nat) (seen : List Int) (z id : Int) (N : Nat),seen.length + m = l.length → MJ l seen → seen.find? (hasB main) = none → m < N → Af kK N seen main z id l = some (V3 main (JR l m seen id)):=by
 have hnone : ∀ seen : List Int,seen.find? (hasB main) = none → V3 main seen = (main.length : Int):=fun seen h=>by unfold V3;rw [h]
 intro m
 induction m with
 | zero=>
   intro seen z id N hm hw hf hN;obtain ⟨N,rfl⟩ : ∃ N',N = N' + 1:=⟨N - 1,by omega⟩
   have hwl:=hw.length;show kK _ _ _ _ _ _ = _;unfold kK;rw [sZ _ _ (by omega),jv l _ (by omega)];simp only [Option.bind_some];rw [Np];have he : V3 main (JR l 0 seen id) = (main.length : Int):=hnone seen hf;rw [he];cases hh : hasB seen id with
   | true=>rfl
   | false=>
     cases hk : (kE l id).isSome with
     | false=>rfl
     | true=>
       have h2:=(hw.snoc (ql.1 hh) hk).length;simp only [List.length_append,List.length_singleton] at h2;omega
 | succ m ih=>
   intro seen z id N hm hw hf hN;obtain ⟨N,rfl⟩ : ∃ N',N = N' + 1:=⟨N - 1,by omega⟩
   have hwl:=hw.length;show kK (Af kK N) _ _ _ _ _ = _;have ih':=fun seen' z' id' h1 h2 h3=>ih seen' z' id' N h1 h2 h3 (by omega);generalize Af kK N = K at ih';unfold kK qR;rw [sZ _ _ (by omega),jv l _ (by omega),TU _ _ (by omega)];simp only [Option.bind_some];rw [Np];have hun : JR l (m + 1) seen id = bif hasB seen id || !gG l id then seen else match Cj l (ev l id) with | none=>seen ++ [id] | some x=>JR l m (seen ++ [id]) x:=rfl
   cases hh : hasB seen id with
   | true=>rw [hun,hh];simp only [Bool.true_or,cond_true,Bool.not_true,cond_false];rw [hnone seen hf]
   | false=>
     cases hk : (kE l id).isSome with
     | false=>rw [hun,hh,show gG l id = false from hk];simp only [Bool.false_or,Bool.not_false,cond_true];rw [hnone seen hf]
     | true=>
       obtain ⟨e,he⟩:=Option.isSome_iff_exists.1 hk;rw [hun,hh,show gG l id = true from hk];simp only [Bool.not_false,Bool.not_true,Bool.or_false,cond_true,cond_false];have hfx:=abh main id;by_cases hlt : main.findIdx (· == id) < main.length
       · rw [if_pos hlt,show decide (((main.findIdx (· == id) : Nat) : Int) ≥ 0) = true by simp];simp only [cond_true];rw [decide_eq_true hlt] at hfx
         have hex : ∃ t,(match Cj l (ev l id) with | none=>seen ++ [id] | some x=>JR l m (seen ++ [id]) x) = seen ++ [id] ++ t:=by
          cases Cj l (ev l id) with
          | none=>exact ⟨[],by simp⟩
          | some x=>exact abl l m (seen ++ [id]) x
         obtain ⟨t,ht⟩:=hex;rw [ht];unfold V3;rw [List.find?_append,List.find?_append,hf];simp [← hfx]
       rw [if_neg hlt,show decide ((-1 : Int) ≥ 0) = false by decide];simp only [cond_false];rw [decide_eq_false hlt] at hfx;rw [fK (by simp only [List.length_singleton];omega)];simp only [Option.bind_some];have hev : (sV l id).1 = ev l id:=rfl
       have hea : (ev l id).fB.length ≤ 40:=by
        have : ev l id = e:=by unfold ev;rw [sW he]
        rw [this];exact (hs e (yx he)).auth
       have hf2 : (seen ++ [id]).find? (hasB main) = none:=by rw [List.find?_append,hf];simp [← hfx]
       rw [hev,OI l _ hl hea];simp only [Option.bind_some];unfold aeO;cases Cj l (ev l id) with
       | none=>simp only [Bool.not_false,cond_true];rw [hnone _ hf2]
       | some x=>exact ih' (seen ++ [id]) z x (by simp only [List.length_append,List.length_singleton];omega) (hw.snoc (ql.1 hh) hk) hf2
theorem Yh (l : List ah) (main : List Int) (id : Int) (hl : l.length ≤ 1000) (hs : gK l) (hm : main.length ≤ 100000) : Bg l main id = some (ahd l main id):=by
 unfold Bg Ef Kw;exact aqK l main hl hs hm l.length [] 0 id fuel (by simp) ⟨List.nodup_nil,fun x hx=>absurd hx List.not_mem_nil⟩ rfl (fuel_lt (by omega))
def xX (l : List ah) (main : List Int) (id : Int) : dQ:=⟨id,ahd l main id,(ev l id).Time⟩
def arR (x : dQ) : Int × Int × Int:=(x.ou,x.um,x.wH)
def leI (x y : dQ) : Bool:=Gs (arR x) (arR y)
def Ro (l : List ah) (main ids : List Int) : List Int:=(Bq leI ((ids.filter (gG l)).map (xX l main))).map (·.ou)
theorem abm (l : List ah) (main : List Int) : ∀ ids : List Int,ids.flatMap (fun id=>bif gG l id then [xX l main id] else []) = (ids.filter (gG l)).map (xX l main)
 | []=>rfl
 | i :: ids=>by
   rw [List.flatMap_cons,abm l main ids,List.filter_cons];cases gG l i <;> simp
theorem acU (s : List dQ) (hs : s.length ≤ 1000000) (hn : (s.map (·.ou)).Nodup) : iD s = some s:=by
 unfold iD;by_cases h2 : s.length < 2
 · rw [show decide ((s.length : Int) < 2) = true by simp;omega];rfl
 rw [show decide ((s.length : Int) < 2) = false by simp;omega];simp only [cond_false];unfold o9;refine dG.eq ?_;refine uZ (body:=jy) (fun m a b=>∃ i : Nat,a = i ∧ i + m = s.length ∧ 0 < i ∧ b = s) ?_ fuel (s.length - 1) 1 s (fuel_lt (by omega)) ⟨1,rfl,by omega,by omega,rfl⟩;rintro m a b k ⟨i,rfl,hm,hi,rfl⟩ hk;unfold jy;by_cases hlt : i < b.length
 · rw [dec_lt hlt,fA hlt];simp only [cond_true,Option.bind_some];have w : IntKind.i64.wrap ((i : Int) - 1) = ((i - 1 : Nat) : Int):=by rw [IntKind.wrap_i64];omega
   have hlt1 : i - 1 < b.length:=by omega
   rw [w,fA hlt1];simp only [Option.bind_some]
   have hne : b[i].ou ≠ b[i - 1].ou:=by
    have:=List.pairwise_iff_getElem.1 hn (i - 1) i (by rw [List.length_map];omega) (by rw [List.length_map];omega) (by omega);simp only [List.getElem_map] at this;exact fun e=>this e.symm
   have hq : Bz b[i] b[i - 1] = false:=by
    unfold Bz;rw [show (b[i].ou == b[i - 1].ou) = false by simpa using hne];rfl
   rw [hq,wrap_succ i (by omega)];exact hk (m - 1) _ _ (by omega) ⟨i + 1,rfl,by omega,by omega,rfl⟩
 have : i = b.length:=by omega
 subst this;rw [lg];exact .ret rfl
theorem ahe (l : List ah) (main : List Int) (ids : List Int) : (ids.map (xX l main)).map (·.ou) = ids:=by
 rw [List.map_map];exact List.map_id' ids
theorem aaS (l : List ah) (main ids : List Int) (hl : l.length ≤ 1000) (hs : gK l) (hm : main.length ≤ 100000) (hi : ids.length ≤ 100000) (hn : ids.Nodup) : EZ l main ids = some (Ro l main ids):=by
 unfold EZ Oz;rw [Hg (a0:= []) ids (by omega) (fun r id=>r ++ bif gG l id then [xX l main id] else []) (fun i r=>r.length ≤ i) (fun v1=>(jh v1).bind fun x12=>(iD x12).bind fun fD=>F7 fD [] 0) (Nat.le_refl _)]
 · rw [foldl_append (fun id=>bif gG l id then [xX l main id] else []),List.nil_append,abm];have hfl:=List.length_filter_le (gG l) ids;have hil : ((ids.filter (gG l)).map (xX l main)).length ≤ 100000:=by rw [List.length_map];omega
   unfold jh SB;rw [if_pos (by omega)];simp only [Option.bind_some];have e : (Bq (fun x y : dQ=>Gs (x.ou,x.um,x.wH) (y.ou,y.um,y.wH)) ((ids.filter (gG l)).map (xX l main))) = Bq leI ((ids.filter (gG l)).map (xX l main)):=rfl;rw [e];unfold Ro;have hp:=BZ leI ((ids.filter (gG l)).map (xX l main))
   have hnd : ((Bq leI ((ids.filter (gG l)).map (xX l main))).map (·.ou)).Nodup:=by
    rw [(hp.map (·.ou)).nodup_iff,ahe];exact hn.sublist List.filter_sublist
   have hsl : (Bq leI ((ids.filter (gG l)).map (xX l main))).length ≤ 100000:=by rw [hp.length_eq];exact hil
   generalize Bq leI ((ids.filter (gG l)).map (xX l main)) = S at hnd hsl;rw [acU S (by omega) hnd];simp only [Option.bind_some];unfold F7;rw [Hg (a0:= []) S (by omega) (fun r x=>r ++ [x.ou]) (fun i r=>r.length ≤ i) (fun r=>some r) (Nat.le_refl _)]
   · rw [foldl_append (fun x : dQ=> [x.ou]),List.nil_append];congr 1;clear hnd hsl
     induction S with
     | nil=>rfl
     | cons x S ih=>rw [List.flatMap_cons,ih];rfl
   · intro k r i h hI;refine ⟨by rw [List.length_append];simp only [List.length_singleton];omega,?_⟩;unfold F6;rw [dw h,fK (by simp only [List.length_singleton];omega)];rfl
   intro k r _;unfold F6;rw [dO]
 · intro k r i h hI;refine ⟨?_,?_⟩
   · cases gG l ids[i] <;> simp <;> omega
   unfold F8 yP;rw [dw h,jv l _ (by omega)];simp only [Option.bind_some];rw [Np,Yh l main _ hl hs hm];simp only [Option.bind_some];rw [fK (by simp only [List.length_singleton];omega)];unfold gG;cases (kE l ids[i]).isSome with
   | true=>rfl
   | false=>simp
 intro k r _;unfold F8;rw [dO]
theorem amS {l : List ah} {main ids : List Int} {x : Int} : x ∈ Ro l main ids ↔ x ∈ ids ∧ gG l x = true:=by
 unfold Ro;rw [((BZ leI ((ids.filter (gG l)).map (xX l main))).map (·.ou)).mem_iff,ahe,List.mem_filter]
theorem ahT (l : List ah) (main ids : List Int) : (Ro l main ids).length ≤ ids.length:=by
 unfold Ro;rw [List.length_map,(BZ _ _).length_eq,List.length_map];exact List.length_filter_le _ _
end Go.Proofs.YtolgdkhlelfpoaaGreat
end
section
namespace Go.Proofs.YtolgdkhlelfpoaaGreat
open Go.RowKit
def kF (c : Int) : Bool:=(decide (c ≥ 97) && decide (c ≤ 122)) || (decide (c ≥ 48) && decide (c ≤ 57))
theorem XT (c : Int) : EG c = some (kF c):=by
 unfold EG kF;cases decide (c ≥ 97) <;> cases decide (c ≤ 122) <;> cases decide (c ≥ 48) <;> cases decide (c ≤ 57) <;> rfl
theorem NZ (c : Int) : Fb c = some (kF c):=by
 unfold Fb kF;cases decide (c ≥ 97) <;> cases decide (c ≤ 122) <;> cases decide (c ≥ 48) <;> cases decide (c ≤ 57) <;> rfl
def JU (l : List Int) (p : Int → Bool) : Bool:=decide ((l.length : Int) ≥ 1) && decide ((l.length : Int) ≤ 32) && l.all fun c=>kF c || p c
def isLocal (c : Int) : Bool:=c == 95 || c == 46 || c == 45 || c == 61
def yA (c : Int) : Bool:=c == 46 || c == 45
def Rq (l : List Int) : Bool:=JU l isLocal
def LD (l : List Int) : Bool:=JU l yA && kF (l.getD 0 0) && kF (l.getD (l.length - 1) 0)
theorem Z9 {n : Nat} (h : n ≤ 9223372036854775807) : n < fuel:=by have : fuel = 9223372036854775808:=rfl;omega
theorem Zl {s : ByteArray} (hs : s.size ≤ 9223372036854775807) (f : Int → Option Bool) (p : Int → Bool) (hf : ∀ c,f c = some (p c)) : DZ s f = some (JU (aZ s) p):=by
 have hl : Ql s f 0 = some ((aZ s).all fun c=>kF c || p c):=by
  unfold Ql;rw [scan (aZ s) (by rw [dR];exact Z9 hs) (fun c=>!(kF c || p c)) false (some true) ?_ ?_,Lr,Pm]
  · intro k i h;have h' : i < s.size:=by rw [dR] at h;exact h
    simp only [Qk,dec_lt h',cond_true,Ia h,XT,hf,Option.bind_some];cases kF (aZ s)[i] <;> cases p (aZ s)[i] <;> rfl
  intro k;simp only [Qk,dR,lg,cond_false]
 unfold DZ JU;rw [hl,dR];have e1 : decide ((s.size : Int) ≥ 1) = !decide ((s.size : Int) < 1):=by by_cases h : (s.size : Int) < 1 <;> simp [h] <;> omega
 have e2 : decide ((s.size : Int) ≤ 32) = !decide ((s.size : Int) > 32):=by by_cases h : (s.size : Int) > 32 <;> simp [h] <;> omega
 rw [e1,e2];cases decide ((s.size : Int) < 1) <;> cases decide ((s.size : Int) > 32) <;> rfl
theorem Zm {s : ByteArray} (hs : s.size ≤ 9223372036854775807) : DZ s (fun a0=>Gv a0) = some (JU (aZ s) isLocal):=Zl hs _ isLocal (fun c=>by unfold Gv isLocal;cases c == 95 <;> cases c == 46 <;> cases c == 45 <;> cases c == 61 <;> rfl)
theorem Yi {s : ByteArray} (hs : s.size ≤ 9223372036854775807) : DZ s (fun a0=>D5 a0) = some (JU (aZ s) yA):=Zl hs _ yA (fun c=>by unfold D5 yA;cases c == 46 <;> cases c == 45 <;> rfl)
theorem ajL {s : ByteArray} (hs : s.size ≤ 9223372036854775807) : SN s = some (Rq (aZ s)):=by
 unfold SN Rq;rw [Zm hs];rfl
theorem TV {s : ByteArray} (h : 0 < s.size) : lK s 0 = some ((aZ s).getD 0 0):=by
 have h' : 0 < (aZ s).length:=by rw [dR];exact h
 rw [amC h'];simp [List.getD,h']
theorem ahf {s : ByteArray} (h : 0 < s.size) (hs : s.size ≤ 9223372036854775807) : lK s (IntKind.i64.wrap ((s.size : Int) - 1)) = some ((aZ s).getD ((aZ s).length - 1) 0):=by
 have h' : s.size - 1 < (aZ s).length:=by rw [dR];omega
 rw [BX (by omega) (by omega),show (s.size : Int) - 1 = ((s.size - 1 : Nat) : Int) by omega,Ia h'];have h2 : (aZ s).length - 1 = s.size - 1:=by rw [dR]
 rw [h2];simp [List.getD,h']
theorem aoR {l : List Int} {p : Int → Bool} (h : JU l p = true) : 0 < l.length ∧ l.length ≤ 32:=by
 unfold JU at h;simp only [Bool.and_eq_true,decide_eq_true_eq] at h;omega
theorem ahU {s : ByteArray} (hs : s.size ≤ 9223372036854775807) : O5 s = some (LD (aZ s)):=by
 unfold O5 LD;rw [Yi hs];simp only [Option.bind_some];cases hn : JU (aZ s) yA with
 | false=>rfl
 | true=>
   have hp : 0 < s.size:=by have:=(aoR hn).1;rwa [dR] at this
   simp only [cond_true,TV hp,ahf hp hs,XT,Option.bind_some];cases kF ((aZ s).getD 0 0) <;> simp
theorem ahV {s : ByteArray} (hs : s.size ≤ 9223372036854775807) : Xh s = some (bif LD (aZ s) then 0 else 3):=by
 have hl : NV s 0 = some (bif (aZ s).all fun c=>kF c || yA c then 0 else 3):=by
  unfold NV;rw [scan (aZ s) (by rw [dR];exact Z9 hs) (fun c=>!(kF c || yA c)) 3 (some 0) ?_ ?_,Lr,← Pm]
  · cases ((aZ s).any fun c=>!(kF c || yA c)) <;> rfl
  · intro k i h;have h' : i < s.size:=by rw [dR] at h;exact h
    simp only [NU,dec_lt h',cond_true,Ia h,NZ,Option.bind_some,yA,bne];cases kF (aZ s)[i] <;> cases (aZ s)[i] == 46 <;> cases (aZ s)[i] == 45 <;> rfl
  intro k;simp only [NU,dR,lg,cond_false]
 have e1 : decide ((s.size : Int) ≥ 1) = !decide ((s.size : Int) < 1):=by by_cases h : (s.size : Int) < 1 <;> simp [h] <;> omega
 have e2 : decide ((s.size : Int) ≤ 32) = !decide ((s.size : Int) > 32):=by by_cases h : (s.size : Int) > 32 <;> simp [h] <;> omega
 unfold Xh LD JU;rw [hl];rw [show ((aZ s).length : Int) = (s.size : Int) by rw [dR],e1,e2];by_cases h1 : (s.size : Int) < 1
 · simp [h1]
 have hp : 0 < s.size:=by omega
 simp only [TV hp,ahf hp hs,NZ,Option.bind_some];cases decide ((s.size : Int) < 1) <;> cases decide ((s.size : Int) > 32) <;> cases kF ((aZ s).getD 0 0) <;> cases kF ((aZ s).getD ((aZ s).length - 1) 0) <;> cases ((aZ s).all fun c=>kF c || yA c) <;> rfl
end Go.Proofs.YtolgdkhlelfpoaaGreat
end
section
namespace Go.Proofs.YtolgdkhlelfpoaaGreat
open Go.RowKit
theorem ajM {s : ByteArray} (hs : s.size ≤ 9223372036854775807) : Y4 s = some (Rq (aZ s)):=by
 unfold Y4 Y3;rw [scan (aZ s) (by rw [dR];exact Z9 hs) (fun c=>!(kF c || isLocal c)) false (some (decide ((s.size : Int) ≥ 1) && decide ((s.size : Int) ≤ 32))) ?_ ?_]
 · unfold Rq JU;rw [← Pm,dR];cases ((aZ s).any fun c=>!(kF c || isLocal c)) <;> cases decide ((s.size : Int) ≥ 1) <;> cases decide ((s.size : Int) ≤ 32) <;> rfl
 · intro k i h;have h' : i < s.size:=by rw [dR] at h;exact h
   simp only [QO,dec_lt h',cond_true,Ia h,NZ,Option.bind_some,isLocal,bne];cases kF (aZ s)[i] <;> cases (aZ s)[i] == 95 <;> cases (aZ s)[i] == 46 <;> cases (aZ s)[i] == 45 <;> cases (aZ s)[i] == 61 <;> rfl
 intro k;simp only [QO,dR,lg,cond_false];cases decide ((s.size : Int) ≥ 1) <;> cases decide ((s.size : Int) ≤ 32) <;> rfl
theorem V4 (s : ByteArray) : (aZ s).length = s.data.toList.length:=by simp [aZ]
def kG (s : ByteArray) : Nat:=(aZ s).findIdx (· == 58)
theorem agF (s : ByteArray) : kG s ≤ s.size:=by unfold kG;rw [← dR];exact List.findIdx_le_length
theorem Zn {s : ByteArray} (hs : s.size ≤ 9223372036854775807) : TG s = some (kG s : Int):=by
 unfold TG Y2;rw [Xm (aZ s) (by rw [dR];exact Z9 hs) (· == 58) (fun i=>some (i : Int)) (some (s.size : Int)) ?_ ?_]
 · have:=agF s;by_cases h : (aZ s).findIdx (· == 58) < (aZ s).length
   · rw [if_pos h];rfl
   rw [if_neg h];congr 2;unfold kG at this ⊢;rw [dR] at h;omega
 · intro k i h;have h' : i < s.size:=by rw [dR] at h;exact h
   simp only [QN,dec_lt h',cond_true,Ia h,Option.bind_some,bne];cases (aZ s)[i] == 58 <;> rfl
 intro k;simp only [QN,dR,lg,cond_false,Option.bind_some]
def Xt (s : ByteArray) : ByteArray:=s.extract 1 (kG s)
def MK (s : ByteArray) : ByteArray:=s.extract (kG s + 1) s.size
def Xu (s : ByteArray) : Bool:=decide (kG s < s.size) && Rq (aZ (Xt s)) && LD (aZ (MK s))
def vM (s : ByteArray) (m : Int) : Bool:=decide (0 < s.size) && (aZ s).getD 0 0 == m && Xu s
theorem extract_size (s : ByteArray) (a b : Nat) : (s.extract a b).size ≤ s.size:=by rw [ByteArray.size_extract];omega
theorem ajN {s : ByteArray} (h : 0 < s.size) (hm : (aZ s).getD 0 0 ≠ 58) : 1 ≤ kG s:=by
 unfold kG;have hl : 0 < (aZ s).length:=by rw [dR];exact h
 match he : aZ s with
 | []=>rw [he] at hl;simp at hl
 | c :: l=>
   rw [he] at hm;simp only [List.getD_cons_zero] at hm;rw [List.findIdx_cons,show (c == 58) = false from by simpa using hm];simp
theorem XU {s : ByteArray} (hs : s.size ≤ 9223372036854775807) {m : Int} (hm : m ≠ 58) : Pj s m = some (vM s m):=by
 unfold Pj vM;by_cases h0 : 0 < s.size
 · rw [show decide ((s.size : Int) < 1) = false from by simp;omega,show decide (0 < s.size) = true by simpa using h0];simp only [cond_false,TV h0,Option.bind_some,bne];cases hh : (aZ s).getD 0 0 == m with
   | false=>rfl
   | true=>
     have hh' : (aZ s).getD 0 0 = m:=by simpa using hh
     have h1:=ajN h0 (by rw [hh'];exact hm);have h2:=agF s;simp only [Bool.not_true,cond_false,Zn hs,Option.bind_some,Bool.true_and];unfold Xu;by_cases h3 : kG s < s.size
     · have e1 : DI s 1 (kG s : Int) = some (Xt s):=PE (lo:=1) h1 h2
       have e2 : DI s (IntKind.i64.wrap ((kG s : Int) + 1)) (s.size : Int) = some (MK s):=by
        rw [BX (by omega) (by omega),show (kG s : Int) + 1 = ((kG s + 1 : Nat) : Int) by omega];exact PE (by omega) (Nat.le_refl _)
       rw [show decide ((kG s : Int) < (s.size : Int)) = true from by simpa using h3,show decide (kG s < s.size) = true by simpa using h3];have g1 : (Xt s).size ≤ 9223372036854775807:=Nat.le_trans (extract_size _ _ _) hs;have g2 : (MK s).size ≤ 9223372036854775807:=Nat.le_trans (extract_size _ _ _) hs;simp only [cond_true,e1,e2,ajM g1,ahV g2,Option.bind_some];cases Rq (aZ (Xt s)) <;> cases LD (aZ (MK s)) <;> rfl
     rw [show decide ((kG s : Int) < (s.size : Int)) = false from by simpa using h3,show decide (kG s < s.size) = false by simpa using h3];rfl
 rw [show decide ((s.size : Int) < 1) = true from by simp;omega,show decide (0 < s.size) = false by simpa using h0];rfl
def splitB (s : ByteArray) (b : Bool) : ByteArray × ByteArray × Bool:=bif b then (Xt s,MK s,true) else (s0,s0,false)
theorem atl (b c : UInt8) : (b == c) = (((b.toNat : Nat) : Int) == ((c.toNat : Nat) : Int)):=by
 by_cases h : b = c
 · subst h;simp
 have : ¬ b.toNat = c.toNat:=fun e=>h (UInt8.toNat_inj.1 e);have h1 : (b == c) = false:=by simpa using h
 rw [h1];symm;simp;omega
theorem XV (s : ByteArray) (c : UInt8) : s.data.toList.findIdx (· == c) = (aZ s).findIdx (· == ((c.toNat : Nat) : Int)):=by
 unfold aZ;rw [List.findIdx_map];congr 1;funext b;exact atl b c
theorem aoS (s : ByteArray) : ∀ x ∈ aZ s,0 ≤ x ∧ x < 256:=by
 intro x hx;unfold aZ at hx;rw [List.mem_map] at hx;obtain ⟨c,_,rfl⟩:=hx;have:=c.toNat_lt;omega
theorem getD_mem {s : ByteArray} (h : 0 < s.size) : (aZ s).getD 0 0 ∈ aZ s:=by
 have hl : 0 < (aZ s).length:=by rw [dR];exact h
 have e : (aZ s).getD 0 0 = (aZ s)[0]:=by simp [List.getD,hl]
 rw [e];exact List.getElem_mem hl
theorem aoT (marks : ByteArray) {c : Int} (h0 : 0 ≤ c) (h1 : c < 256) : decide (Lib.indexByte marks.data.toList c.toNat.toUInt8 < 0) = !(aZ marks).contains c:=by
 have e : (((c.toNat.toUInt8).toNat : Nat) : Int) = c:=by
  rw [Nat.toUInt8,UInt8.toNat_ofNat'];omega
 rw [Ls,XV,e,← V4 marks];by_cases hm : c ∈ aZ marks
 · have hlt : (aZ marks).findIdx (· == c) < (aZ marks).length:=List.findIdx_lt_length_of_exists ⟨c,hm,by simp⟩;rw [if_pos hlt,show (aZ marks).contains c = true by simpa using hm];simp
 have hnl : ¬ (aZ marks).findIdx (· == c) < (aZ marks).length:=fun h=>by
  have:=List.findIdx_getElem (w:=h);simp only [beq_iff_eq] at this;exact hm (this ▸ List.getElem_mem h)
 rw [if_neg hnl,show (aZ marks).contains c = false by simpa using hm];rfl
theorem Rt (s : ByteArray) (a b : Nat) : (s.extract 1 s.size).extract a b = s.extract (1 + a) (min (1 + b) s.size):=by
 refine bytes_inj ?_;simp only [VX];have : (aZ s).take s.size = aZ s:=List.take_of_length_le (by rw [dR];omega);rw [this,List.take_drop,List.drop_drop];congr 1;have : min (1 + b) s.size = min (1 + b) (aZ s).length:=by rw [dR]
 rw [this,List.take_eq_take_min]
theorem ahW {s : ByteArray} (h : 0 < s.size) (hm : (aZ s).getD 0 0 ≠ 58) : (aZ (s.extract 1 s.size)).findIdx (· == 58) + 1 = kG s:=by
 unfold kG;rw [VX];have : (aZ s).take s.size = aZ s:=List.take_of_length_le (by rw [dR];omega);rw [this];have hl : 0 < (aZ s).length:=by rw [dR];exact h
 match he : aZ s with
 | []=>rw [he] at hl;simp at hl
 | c :: l=>
   rw [he] at hm;simp only [List.getD_cons_zero] at hm;rw [List.findIdx_cons,show (c == 58) = false from by simpa using hm];rfl
theorem avU {s : ByteArray} (hs : s.size ≤ 9223372036854775807) (h : 0 < s.size) (hm : (aZ s).getD 0 0 ≠ 58) : ∃ a b,strings_Cut (s.extract 1 s.size) ZR = some (a,b,decide (kG s < s.size)) ∧ (kG s < s.size → a = Xt s ∧ b = MK s):=by
 have h1:=ajN h hm;have h2:=agF s;have hj:=ahW h hm;have hsz : (s.extract 1 s.size).size = s.size - 1:=by rw [ByteArray.size_extract];omega
 have hI : oD (s.extract 1 s.size) ZR = some (if kG s < s.size then ((kG s - 1 : Nat) : Int) else -1):=by
  show some (Lib.indexByte (s.extract 1 s.size).data.toList 58) = _;rw [Ls,XV,← V4 (s.extract 1 s.size)];show some (if (aZ (s.extract 1 s.size)).findIdx (· == 58) < _ then (((aZ (s.extract 1 s.size)).findIdx (· == 58) : Nat) : Int) else -1) = _;rw [dR,hsz];have e : (aZ (s.extract 1 s.size)).findIdx (· == 58) = kG s - 1:=by omega
  rw [e];congr 1;by_cases h3 : kG s < s.size
  · rw [if_pos h3,if_pos (by omega)]
  rw [if_neg h3,if_neg (by omega)]
 unfold strings_Cut vX;rw [hI,Option.bind_some];by_cases h3 : kG s < s.size
 · rw [if_pos h3,show decide (((kG s - 1 : Nat) : Int) ≥ 0) = true from by simp,show decide (kG s < s.size) = true by simpa using h3];have e1 : DI (s.extract 1 s.size) 0 ((kG s - 1 : Nat) : Int) = some ((s.extract 1 s.size).extract 0 (kG s - 1)):=PE (lo:=0) (by omega) (by omega)
   have e2 : DI (s.extract 1 s.size) (IntKind.i64.wrap (((kG s - 1 : Nat) : Int) + (ZR.size : Int))) ((s.extract 1 s.size).size : Int) = some ((s.extract 1 s.size).extract (kG s) (s.size - 1)):=by
    rw [show (ZR.size : Int) = 1 from rfl,BX (by omega) (by omega),show ((kG s - 1 : Nat) : Int) + 1 = ((kG s : Nat) : Int) by omega,hsz];exact PE (by omega) (by omega)
   simp only [cond_true,e1,e2,Option.bind_some];refine ⟨_,_,rfl,fun _=>⟨?_,?_⟩⟩
   · rw [Rt];unfold Xt;congr 1;omega
   rw [Rt];unfold MK;rw [Nat.add_comm 1 (kG s)];congr 1;omega
 rw [if_neg h3,show decide ((-1 : Int) ≥ 0) = false from rfl,show decide (kG s < s.size) = false by simpa using h3];exact ⟨_,_,rfl,fun h=>absurd h h3⟩
theorem acV {s : ByteArray} (hs : s.size ≤ 9223372036854775807) {marks : ByteArray} (hmk : ∀ m ∈ aZ marks,m ≠ 58) : Il s marks = some (splitB s ((aZ marks).any fun m=>vM s m)):=by
 unfold Il;by_cases h0 : 0 < s.size
 · have hne : (s.toList == s0.toList) = false:=by
    rw [Ci];simp only [decide_eq_false_iff_not];intro e;rw [e] at h0;exact absurd h0 (by decide)
   have hc:=aoS s _ (getD_mem h0)
   have hany : ((aZ marks).any fun m=>vM s m) = ((aZ marks).contains ((aZ s).getD 0 0) && Xu s):=by
    unfold vM;rw [show decide (0 < s.size) = true by simpa using h0]
    induction aZ marks with
    | nil=>rfl
    | cons m l ih=>rw [List.any_cons,ih,List.contains_cons];cases (aZ s).getD 0 0 == m <;> cases Xu s <;> simp
   rw [hne,hany];simp only [cond_false,TV h0,Option.bind_some,strings_IndexByte,aoT marks hc.1 hc.2];cases hk : (aZ marks).contains ((aZ s).getD 0 0) with
   | false=>rfl
   | true=>
     have hm : (aZ s).getD 0 0 ≠ 58:=hmk _ (by simpa using hk);obtain ⟨a,b,e1,e2⟩:=avU hs h0 hm;have eg : DI s 1 (s.size : Int) = some (s.extract 1 s.size):=PE (lo:=1) (by omega) (Nat.le_refl _);simp only [Bool.not_true,cond_false,eg,e1,Option.bind_some,Bool.true_and];unfold Xu;cases h3 : decide (kG s < s.size) with
     | false=>rfl
     | true=>
       obtain ⟨rfl,rfl⟩:=e2 (of_decide_eq_true h3);have g1 : (Xt s).size ≤ 9223372036854775807:=Nat.le_trans (extract_size _ _ _) hs;have g2 : (MK s).size ≤ 9223372036854775807:=Nat.le_trans (extract_size _ _ _) hs;simp only [Bool.not_true,cond_false,ajL g1,ahU g2,Option.bind_some];cases Rq (aZ (Xt s)) <;> cases LD (aZ (MK s)) <;> rfl
 have hz : s.size = 0:=by omega
 have he : s = s0:=bytes_inj (by
  have h1 : aZ s = []:=List.eq_nil_of_length_eq_zero (by rw [dR];exact hz)
  rw [h1];rfl)
 have hany : ((aZ marks).any fun m=>vM s m) = false:=by
  rw [List.any_eq_false];intro m _;unfold vM;rw [show decide (0 < s.size) = false by simpa using h0];simp
 rw [hany,he,show (s0.toList == s0.toList) = true from by simp];rfl
def idB (s : ByteArray) : Bool:=vM s 64 || (vM s 33 || false)
theorem amT {s : ByteArray} (hs : s.size ≤ 9223372036854775807) : Il s Qb = some (splitB s (idB s)):=
 acV hs (marks:=Qb) (by rw [show aZ Qb = [64,33] from rfl];intro m hm;simp only [List.mem_cons,List.not_mem_nil,or_false] at hm;omega)
theorem ajO {s : ByteArray} (h : Xu s = true) : kG s < s.size:=by unfold Xu at h;simp only [Bool.and_eq_true,decide_eq_true_eq] at h;exact h.1.1
theorem UY {s : ByteArray} (hs : s.size ≤ 9223372036854775807) : zB s = some (splitB s (idB s)).2.1 ∧ Y5 s = some (splitB s (idB s)).2.1:=by
 have eh : kG s < s.size → DI s (IntKind.i64.wrap ((kG s : Int) + 1)) (s.size : Int) = some (MK s):=fun h3=>by
  rw [BX (by omega) (by omega),show (kG s : Int) + 1 = ((kG s + 1 : Nat) : Int) by omega];exact PE (by omega) (Nat.le_refl _)
 unfold zB Y5;rw [amT hs,XU hs (by decide),XU hs (by decide),Zn hs];refine ⟨rfl,?_⟩;unfold idB;cases h64 : vM s 64 with
 | true=>
   have h0:=ajO (s:=s) (by unfold vM at h64;simp only [Bool.and_eq_true] at h64;exact h64.2);simp only [Option.bind_some,Bool.not_true,cond_false,eh h0,Bool.true_or];rfl
 | false=>
   cases h33 : vM s 33 with
   | true=>
     have h0:=ajO (s:=s) (by unfold vM at h33;simp only [Bool.and_eq_true] at h33;exact h33.2);simp only [Option.bind_some,Bool.not_true,Bool.not_false,cond_false,cond_true,eh h0,Bool.false_or,Bool.true_or];rfl
   | false=>rfl
end Go.Proofs.YtolgdkhlelfpoaaGreat
end
section
namespace Go.Proofs.YtolgdkhlelfpoaaGreat
open Go.RowKit
theorem avV {R A α : Type} {body : (Int → A → Option R) → Int → A → Option R} (l : List α) (hl : l.length < fuel) (p : α → Bool) (g : Nat → Option R) (rest : Option R) (a0 : A)
 (hb : ∀ k (i : Nat) (h : i < l.length),body k (i : Int) a0 = bif p l[i] then g i else k (IntKind.i64.wrap ((i : Int) + 1)) a0) (he : ∀ k,body k (l.length : Int) a0 = rest) :
 bg body fuel 0 a0 = if l.findIdx p < l.length then g (l.findIdx p) else rest:=by
 have hf : fuel = 9223372036854775808:=rfl
 have key : ∀ n (i : Nat),i + n = l.length → ∀ m,n < m → bg body m (i : Int) a0 = if (l.drop i).findIdx p + i < l.length then g ((l.drop i).findIdx p + i) else rest:=by
  intro n
  induction n with
  | zero=>
    intro i hi m hm;obtain ⟨m,rfl⟩ : ∃ m',m = m' + 1:=⟨m - 1,by omega⟩
    have : i = l.length:=by omega
    subst this;show body (bg body m) _ _ = _;rw [he,List.drop_length,if_neg (by simp)]
  | succ n ih=>
    intro i hi m hm;obtain ⟨m,rfl⟩ : ∃ m',m = m' + 1:=⟨m - 1,by omega⟩
    have hlt : i < l.length:=by omega
    show body (bg body m) _ _ = _;rw [hb _ i hlt,wrap_succ i (by omega),ih (i + 1) (by omega) m (by omega),List.drop_eq_getElem_cons hlt,List.findIdx_cons];cases p l[i] with
    | true=>simp only [cond_true,Nat.zero_add];rw [if_pos hlt]
    | false=>
      simp only [cond_false];rw [show (l.drop (i + 1)).findIdx p + (i + 1) = (l.drop (i + 1)).findIdx p + 1 + i by omega]
 have:=key l.length 0 (by omega) fuel hl;simpa using this
def ug (l : List ah) : ah × Bool:=match l.find? fun x=>x.Kind == 1 with | some x=>(x,true) | none=>(gX,false)
theorem amU (l : List ah) (p : ah → Bool) : (if l.findIdx p < l.length then (some (match l[l.findIdx p]? with | some x=>(x,true) | none=>(gX,false))) else some (gX,false)) = some (match l.find? p with | some x=>(x,true) | none=>(gX,false)):=by
 rw [xk];by_cases h : l.findIdx p < l.length
 · rw [if_pos h]
 rw [if_neg h,List.getElem?_eq_none (by omega)]
theorem TW (l : List ah) (hl : l.length ≤ 1000) : Ec l = some (ug l):=by
 unfold Ec Tc;rw [avV l (fuel_lt (by omega)) (fun x=>x.Kind == 1) (fun i=>some (match l[i]? with | some x=>(x,true) | none=>(gX,false))) (some (gX,false))]
 · exact amU l _
 · intro k i h;unfold Jp;rw [dw h,List.getElem?_eq_getElem h]
 intro k;unfold Jp;rw [dO]
def isM (u : ByteArray) (x : ah) : Bool:=x.Kind == 2 && decide (x.Key = u)
def nC (l : List ah) (u : ByteArray) : Int:=match l.find? (isM u) with | some x=>x.Content.N | none=>0
theorem aoU (u : ByteArray) (x : ah) : (bif (x.Kind == 2) then some (x.Key.toList == u.toList) else some false) = some (isM u x):=by
 unfold isM;rw [Ci];cases x.Kind == 2 <;> rfl
theorem N7 (l : List ah) (u : ByteArray) (hl : l.length ≤ 1000) : EN l u = some (nC l u):=by
 unfold EN XH nC;rw [Xm l (fuel_lt (by omega)) (isM u) (fun i=>some (match l[i]? with | some x=>x.Content.N | none=>0)) (some 0)]
 · rw [xk];by_cases h : l.findIdx (isM u) < l.length
   · rw [if_pos h]
   rw [if_neg h,List.getElem?_eq_none (by omega)]
 · intro k i h;unfold NM;rw [dw h,fA h,List.getElem?_eq_getElem h];simp only [Option.bind_some];rw [aoU];rfl
 intro k;unfold NM;rw [dO]
def aeP (e : ah) (l : List ah) : Bool:=
 (ug l).2 && (e.gy.length == 1 && (e.gy.getD 0 0 == (ug l).1.Id && (decide (e.cZ = (ug l).1.cZ) && (decide (e.Key = (ug l).1.cZ) && (e.Content.N == 3 && !l.any (isM e.Key))))))
theorem ahX (e : ah) (l : List ah) (hl : l.length ≤ 1000) : O9 e l = some (aeP e l):=by
 have hL : NK l e 0 = some (!l.any (isM e.Key)):=by
  unfold NK;rw [scan l (fuel_lt (by omega)) (isM e.Key) false (some true)]
  · cases l.any (isM e.Key) <;> rfl
  · intro k i h;unfold NJ;rw [dw h,aoU];rfl
  intro k;unfold NJ;rw [dO]
 unfold O9 aeP qJ;rw [TW l hl];simp only [Option.bind_some];rw [hL,Ci,Ci];cases (ug l).2 with
 | false=>rfl
 | true=>
   by_cases hp : e.gy.length = 1
   · have h0 : 0 < e.gy.length:=by omega
     have e1 : ((e.gy.length : Int) != 1) = false:=by rw [hp];rfl
     have e2 : (e.gy.length == 1) = true:=by simpa using hp
     have e3 : aX e.gy 0 = some (e.gy.getD 0 0):=by
      have : aX e.gy ((0 : Nat) : Int) = some e.gy[0]:=fA h0;rw [show ((0 : Nat) : Int) = 0 from rfl] at this;rw [this];simp [List.getD,h0]
     rw [e1,e2,e3];simp only [Option.bind_some,bne];cases e.gy.getD 0 0 == (ug l).1.Id <;> cases decide (e.cZ = (ug l).1.cZ) <;> cases decide (e.Key = (ug l).1.cZ) <;> cases e.Content.N == 3 <;> rfl
   have e1 : ((e.gy.length : Int) != 1) = true:=by simp;omega
   have e2 : (e.gy.length == 1) = false:=by simpa using hp
   rw [e1,e2];rfl
def moveB (f t : Int) (s : Bool) : Bool:=
 bif decide (f < 0) || decide (f > 4) then false else bif t == 3 then s && f != 4 else bif t == 0 then f == 1 || f == 2 || f == 3 || (f == 4 && !s) else bif t == 2 then s && (f == 0 || f == 2) else bif t == 1 then !s && (f == 0 || f == 2 || f == 1) else bif t == 4 then !s else false
theorem akY (f t : Int) (s : Bool) : Lh f t s = some (moveB f t s):=by
 unfold Lh moveB;simp only [Lr,Option.bind_some,aoM,atj]
theorem aeQ (f t : Int) (s : Bool) : wC f t s = some (moveB f t s):=by
 rw [← akY];by_cases hf0 : f < 0
 · unfold wC Lh;rw [decide_eq_true hf0];rfl
 by_cases hf4 : f > 4
 · unfold wC Lh;rw [decide_eq_true hf4];cases decide (f < 0) <;> rfl
 by_cases ht0 : t < 0
 · unfold wC Lh;rw [decide_eq_true ht0,decide_eq_false hf0,decide_eq_false hf4,show (t == 3) = false by simp;omega,show (t == 0) = false by simp;omega,show (t == 2) = false by simp;omega,show (t == 1) = false by simp;omega,show (t == 4) = false by simp;omega];rfl
 by_cases ht4 : t > 4
 · unfold wC Lh;rw [decide_eq_true ht4,decide_eq_false ht0,decide_eq_false hf0,decide_eq_false hf4,show (t == 3) = false by simp;omega,show (t == 0) = false by simp;omega,show (t == 2) = false by simp;omega,show (t == 1) = false by simp;omega,show (t == 4) = false by simp;omega];rfl
 have hf : f = 0 ∨ f = 1 ∨ f = 2 ∨ f = 3 ∨ f = 4:=by omega
 have ht : t = 0 ∨ t = 1 ∨ t = 2 ∨ t = 3 ∨ t = 4:=by omega
 rcases hf with rfl | rfl | rfl | rfl | rfl <;> rcases ht with rfl | rfl | rfl | rfl | rfl <;> cases s <;> decide
def aeR (l : List ah) : Int × List ByteArray:=match l.find? fun x=>x.Kind == 4 with | some x=>(x.Content.N,x.Content.Allow) | none=>(0, [])
theorem akZ (l : List ah) (hl : l.length ≤ 1000) (hs : gK l) : Xd l = some (aeR l):=by
 unfold Xd aa3 aeR;rw [Xm l (fuel_lt (by omega)) (fun x=>x.Kind == 4) (fun i=>some (match l[i]? with | some x=>(x.Content.N,x.Content.Allow) | none=>(0, []))) (some (0, []))]
 · rw [xk];by_cases h : l.findIdx (fun x=>x.Kind == 4) < l.length
   · rw [if_pos h]
   rw [if_neg h,List.getElem?_eq_none (by omega)]
 · intro k i h;have ha:=(hs _ (List.getElem_mem h)).allow;unfold UC;rw [dw h,List.getElem?_eq_getElem h,fK (by simp only [List.length_nil];omega)];rfl
 intro k;unfold UC;rw [dO]
def amV (rule now : Int) : Int:=bif now == 3 || rule == 1 then 0 else bif now == 1 && (rule == 0 || rule == 2 || rule == 3) then 0 else 21
def ajP (rule now : Int) : Int:=bif rule == 2 && (now == 0 || now == 2) then 0 else 21
theorem ahY (r n : Int) : Pe r n = some (amV r n):=by
 unfold Pe BP He amV;cases n == 3 <;> cases r == 1 <;> cases r == 2 <;> cases r == 3 <;> cases r == 0 <;> cases n == 1 <;> rfl
theorem agG (r n : Int) : Md r n = some (ajP r n):=by
 unfold Md EP ajP bne;cases r == 2 <;> cases n == 0 <;> cases n == 2 <;> rfl
def aqL (m now : Int) (l : List ah) : Int:=bif m == 3 then amV (aeR l).1 now else bif m == 2 then ajP (aeR l).1 now else 0
theorem ak0 (m now : Int) (l : List ah) (hl : l.length ≤ 1000) (hs : gK l) : Xe m now l = some (aqL m now l):=by
 unfold Xe aqL;rw [akZ l hl hs];simp only [Option.bind_some];rw [ahY,agG];cases m == 3 <;> cases m == 2 <;> rfl
def xY (k : Int) : Bool:=decide (k ≥ 1) && decide (k ≤ 10)
theorem Ru (k : Int) : uw k = some (xY k):=by
 unfold uw xY;cases decide (k ≥ 1) <;> rfl
def PG (v : aV) (k : Int) : Int:=match v.Kinds.find? fun x=>x.Kind == k with | some x=>x.N | none=>bif xY k then v.State else v.Message
theorem JV (v : aV) (k : Int) (h : v.Kinds.length ≤ 1000) : zJ v k = some (PG v k):=by
 unfold zJ Tj PG;rw [Xm v.Kinds (fuel_lt (by omega)) (fun x=>x.Kind == k) (fun i=>some (match v.Kinds[i]? with | some x=>x.N | none=>0)) (some (bif xY k then v.State else v.Message))]
 · rw [xk];by_cases h : v.Kinds.findIdx (fun x=>x.Kind == k) < v.Kinds.length
   · rw [if_pos h,List.getElem?_eq_getElem h]
   rw [if_neg h,List.getElem?_eq_none (by omega)]
 · intro k2 i h;unfold Jq;rw [dw h,List.getElem?_eq_getElem h]
 intro k2;unfold Jq;rw [dO,Ru];cases xY k <;> rfl
def agH (own was XW : Int) : Bool:=was == XW || (decide (was ≤ own) && decide (XW ≤ own))
def numsOf (v : aV) : List Int:= [v.User,v.Message,v.State,v.iU,v.lH,v.pK,v.jq]
def aqM (own : Int) (p : Int × Int) : Bool:=!agH own p.1 p.2
def acW (own : Int) (old new : aV) (x : dM) : Bool:=!agH own (PG old x.Kind) (PG new x.Kind)
def badU (own : Int) (old new : aV) (user : ByteArray) (x : fH) : Bool:=!(agH own (iq old x.User) (iq new x.User) && (iq old x.User == iq new x.User || decide (x.User = user) || decide (iq old x.User < own)))
def agI (old new : aV) (user : ByteArray) : Int:=
 bif ((numsOf old).zip (numsOf new)).any (aqM (iq old user)) then 20 else bif (old.Kinds ++ new.Kinds).any (acW (iq old user) old new) then 20 else bif (old.Users ++ new.Users).any (badU (iq old user) old new user) then 20 else 0
theorem Zo (own was XW : Int) : mF was XW own = some (!agH own was XW):=by
 unfold mF agH;have h1 : (was != XW) = !(was == XW):=rfl;have h2 : decide (was > own) = !decide (was ≤ own):=by by_cases h : was ≤ own <;> simp [h] <;> omega
 have h3 : decide (XW > own) = !decide (XW ≤ own):=by by_cases h : XW ≤ own <;> simp [h] <;> omega
 rw [h1,h2,h3];cases was == XW <;> cases decide (was ≤ own) <;> cases decide (XW ≤ own) <;> rfl
structure aeS (v : aV) : Prop where
 users : v.Users.length ≤ 100
 kinds : v.Kinds.length ≤ 100
theorem agJ (a b : aV) : ((numsOf a).zip (numsOf b)).length = 7:=rfl
theorem acX (old new : aV) (user : ByteArray) (ho : aeS old) (hn : aeS new) : BQ old new user = some (agI old new user):=by
 have o1:=ho.users;have o2:=ho.kinds;have n1:=hn.users;have n2:=hn.kinds;unfold BQ;rw [rP old user (by omega)];unfold ET;simp only [Option.bind_some];unfold agI;generalize hown : iq old user = own
 have hU : AZ old new own user false 0 = some (bif (old.Users ++ new.Users).any (badU own old new user) then 20 else 0):=by
  unfold AZ;rw [amO ([old.Users,new.Users] : List (List fH)) (fuel_lt (by simp)) (fun us=>us.any (badU own old new user)) (fun _=>some 20) (some 0) false]
  · have e : (old.Users ++ new.Users).any (badU own old new user) = ([old.Users,new.Users] : List (List fH)).any (fun us=>us.any (badU own old new user)):=by simp
    rw [e]
    have hf : ∀ L : List (List fH),(if L.findIdx (fun us=>us.any (badU own old new user)) < L.length then some (20 : Int) else some 0) = some (bif L.any (fun us=>us.any (badU own old new user)) then 20 else 0):=fun L=>by
     by_cases h : L.findIdx (fun us=>us.any (badU own old new user)) < L.length
     · rw [if_pos h];have : L.any (fun us=>us.any (badU own old new user)) = true:=List.any_eq_true.2 ((List.findIdx_lt_length).1 h);rw [this];rfl
     rw [if_neg h]
     have : L.any (fun us=>us.any (badU own old new user)) = false:=by
      rw [Bool.eq_false_iff];exact fun k=>h (List.findIdx_lt_length.2 (List.any_eq_true.1 k))
     rw [this];rfl
    exact hf _
  · intro k i h
    have hus : ([old.Users,new.Users] : List (List fH))[i].length ≤ 100:=by
     have : ([old.Users,new.Users] : List (List fH))[i] ∈ [old.Users,new.Users]:=List.getElem_mem h;simp only [List.mem_cons,List.not_mem_nil,or_false] at this;rcases this with e | e <;> rw [e] <;> assumption
    unfold AY;rw [show decide ((i : Int) < 2) = true by simp only [List.length_cons,List.length_nil] at h;simp;omega,fA h];simp only [cond_true,Option.bind_some];generalize ([old.Users,new.Users] : List (List fH))[i] = us at hus;unfold QF;rw [amO us (fuel_lt (by omega)) (badU own old new user) (fun _=>some 20) (k false (IntKind.i64.wrap ((i : Int) + 1))) false]
    · by_cases h2 : us.findIdx (badU own old new user) < us.length
      · rw [if_pos h2];have : us.any (badU own old new user) = true:=List.any_eq_true.2 ((List.findIdx_lt_length).1 h2);rw [this];rfl
      rw [if_neg h2]
      have : us.any (badU own old new user) = false:=by
       rw [Bool.eq_false_iff];exact fun k=>h2 (List.findIdx_lt_length.2 (List.any_eq_true.1 k))
      rw [this];rfl
    · intro k2 j hj;unfold AX rH;rw [dw hj,rP old _ (by omega),rP new _ (by omega)];simp only [Option.bind_some];rw [Zo,Ci];unfold badU;have h2 : decide (iq old us[j].User ≥ own) = !decide (iq old us[j].User < own):=by by_cases h : iq old us[j].User < own <;> simp [h] <;> omega
      have h3 : (iq old us[j].User != iq new us[j].User) = !(iq old us[j].User == iq new us[j].User):=rfl;simp only [Option.bind_some];rw [h2,h3];cases agH own (iq old us[j].User) (iq new us[j].User) <;> cases iq old us[j].User == iq new us[j].User <;> cases decide (us[j].User = user) <;> cases decide (iq old us[j].User < own) <;> rfl
    intro k2;unfold AX;rw [dO]
  intro k;unfold AY rH;rw [show decide (((([old.Users,new.Users] : List (List fH)).length : Nat) : Int) < 2) = false from rfl];rfl
 have hK : Ba old new own user 0 = some (bif (old.Kinds ++ new.Kinds).any (acW own old new) then 20 else bif (old.Users ++ new.Users).any (badU own old new user) then 20 else 0):=by
  unfold Ba;rw [scan ([old.Kinds,new.Kinds] : List (List dM)) (fuel_lt (by simp)) (fun ks=>ks.any (acW own old new)) 20 (AZ old new own user false 0)]
  · rw [hU];have e : (old.Kinds ++ new.Kinds).any (acW own old new) = ([old.Kinds,new.Kinds] : List (List dM)).any (fun ks=>ks.any (acW own old new)):=by simp
    rw [e];cases ([old.Kinds,new.Kinds] : List (List dM)).any (fun ks=>ks.any (acW own old new)) <;> rfl
  · intro k i h
    have hks : ([old.Kinds,new.Kinds] : List (List dM))[i].length ≤ 100:=by
     have : ([old.Kinds,new.Kinds] : List (List dM))[i] ∈ [old.Kinds,new.Kinds]:=List.getElem_mem h;simp only [List.mem_cons,List.not_mem_nil,or_false] at this;rcases this with e | e <;> rw [e] <;> assumption
    unfold A8;rw [show decide ((i : Int) < 2) = true by simp only [List.length_cons,List.length_nil] at h;simp;omega,fA h];simp only [cond_true,Option.bind_some];generalize ([old.Kinds,new.Kinds] : List (List dM))[i] = ks at hks;unfold QE;rw [scan ks (fuel_lt (by omega)) (acW own old new) 20 (k (IntKind.i64.wrap ((i : Int) + 1)))]
    · intro k2 j hj;unfold AU;rw [dw hj,JV old _ (by omega),JV new _ (by omega)];simp only [Option.bind_some];rw [Zo];rfl
    intro k2;unfold AU;rw [dO]
  intro k;unfold A8;rw [show decide (((([old.Kinds,new.Kinds] : List (List dM)).length : Nat) : Int) < 2) = false from rfl];rfl
 unfold QG;rw [scan ((numsOf old).zip (numsOf new)) (by rw [agJ];exact fuel_lt (by decide)) (aqM own) 20 (Ba old new own user 0)]
 · rw [hK];cases ((numsOf old).zip (numsOf new)).any (aqM own) <;> rfl
 · intro k i h;have h7 : i < 7:=by rw [agJ] at h;exact h
   have e1 : aX [old.User,old.Message,old.State,old.iU,old.lH,old.pK,old.jq] (i : Int) = some ((numsOf old)[i]'h7):=fA (l:=numsOf old) h7;have e2 : aX [new.User,new.Message,new.State,new.iU,new.lH,new.pK,new.jq] (i : Int) = some ((numsOf new)[i]'h7):=fA (l:=numsOf new) h7;unfold Bc;rw [show decide ((i : Int) < 7) = true by simp;omega,e1,e2];simp only [cond_true,Option.bind_some];rw [Zo,List.getElem_zip];rfl
 intro k;unfold Bc;rw [agJ,show decide (((7 : Nat) : Int) < 7) = false from rfl];rfl
end Go.Proofs.YtolgdkhlelfpoaaGreat
end
section
namespace Go.Proofs.YtolgdkhlelfpoaaGreat
open Go.RowKit
def ajQ (e : ah) (l : List ah) (now : Int) : Int:=
 bif !(nC l e.cZ == 3) then 18 else
 bif e.Content.N == 1 && decide (iq (gJ l) e.cZ < (gJ l).iU) then 20 else
 bif e.Content.N == 0 && ((now == 4 && decide (iq (gJ l) e.cZ < (gJ l).pK)) || decide (iq (gJ l) e.cZ < (gJ l).lH) || decide (iq (gJ l) e.Key ≥ iq (gJ l) e.cZ)) then 20 else
 bif e.Content.N == 4 && (decide (iq (gJ l) e.cZ < (gJ l).pK) || decide (iq (gJ l) e.Key ≥ iq (gJ l) e.cZ)) then 20 else 0
def agK (e : ah) (l : List ah) : Int:=
 bif aeP e l then 0 else
 bif decide (e.Key = e.cZ) && nC l e.Key == 4 then 19 else
 bif !moveB (nC l e.Key) e.Content.N (decide (e.Key = e.cZ)) then 18 else
 bif decide (e.Key = e.cZ) then aqL e.Content.N (nC l e.Key) l else ajQ e l (nC l e.Key)
def ajR (e : ah) (l : List ah) : Int:=
 bif decide (iq (gJ l) e.cZ < PG (gJ l) e.Kind) then 20 else bif e.Kind == 3 then agI (gJ l) e.Content.Levels e.cZ else 0
def alG (s : ByteArray) : ByteArray:=(splitB s (idB s)).2.1
def Xv (e : ah) (l : List ah) : Int:=
 bif e.Kind == 1 then (bif !(ug l).2 && (alG e.cZ).toList == (alG e.Room).toList then 0 else 17) else
 bif !(ug l).2 then 17 else bif e.Kind == 2 then agK e l else bif !(nC l e.cZ == 3) then 18 else ajR e l
theorem aeT {l : List ah} (h : gK l) : aeS (gJ l):=⟨(Fp h).1,(Fp h).2⟩
theorem jG.levels {e : ah} (h : jG e) : aeS e.Content.Levels:=⟨h.users,h.kinds⟩
theorem ahZ (e : ah) (l : List ah) (hl : l.length ≤ 1000) (hs : gK l) (he : jG e) : Pg e l = some (ajR e l):=by
 have hS:=aeT hs;have h1:=hS.users;have h2:=hS.kinds;unfold Pg ajR;rw [Rl l hl hs];simp only [Option.bind_some];rw [rP _ _ (by omega),JV _ _ (by omega)];simp only [Option.bind_some];rw [acX _ _ _ hS he.levels];cases decide (iq (gJ l) e.cZ < PG (gJ l) e.Kind) <;> cases e.Kind == 3 <;> rfl
def er (x : Int) : Except Value Unit:=.error (.iface 150 (.agg #[.int .i64 x]))
theorem ahg (x : Int) : yw x = some (er x):=rfl
theorem agL (b : Bool) (x : Int) : oU b x = some (bif b then .ok () else er x):=by cases b <;> rfl
theorem acY (b : Bool) (x : Int) (f : Unit → Option (Except Value Unit)) : yX (bif b then .ok () else er x) f = bif b then f () else some (er x):=by cases b <;> rfl
theorem alH (x : Int) (f : Unit → Option (Except Value Unit)) : yX (er x) f = some (er x):=rfl
theorem avW (a b : Int) : decide (a ≥ b) = !decide (a < b):=by by_cases h : a < b <;> simp [h] <;> omega
theorem amW (e : ah) (l : List ah) (now : Int) (hl : l.length ≤ 1000) (hs : gK l) : (rG l e now).bind mY = some (ajQ e l now):=by
 have h1:=(Fp hs).1;unfold rG ajQ;rw [N7 l _ hl,Rl l hl hs];simp only [Option.bind_some];rw [rP _ _ (by omega),rP _ _ (by omega)];simp only [agL,Option.bind_some,acY,avW]
 have h2 : decide (iq (gJ l) e.Key < iq (gJ l) e.cZ) = !decide (iq (gJ l) e.cZ ≤ iq (gJ l) e.Key):=by
  by_cases h : iq (gJ l) e.Key < iq (gJ l) e.cZ <;> simp [h] <;> omega
 have h3 : (now != 4) = !(now == 4):=rfl;rw [h3];generalize decide (iq (gJ l) e.Key < iq (gJ l) e.cZ) = t;generalize decide (iq (gJ l) e.cZ < (gJ l).iU) = i;generalize decide (iq (gJ l) e.cZ < (gJ l).pK) = b;generalize decide (iq (gJ l) e.cZ < (gJ l).lH) = k;generalize (now == 4) = n;cases nC l e.cZ == 3 with
 | false=>rfl
 | true=>
   by_cases n1 : e.Content.N = 1
   · rw [n1];cases i <;> rfl
   rw [show (e.Content.N == 1) = false by simpa using n1];by_cases n0 : e.Content.N = 0
   · rw [n0];cases n <;> cases b <;> cases k <;> cases t <;> rfl
   rw [show (e.Content.N == 0) = false by simpa using n0];cases e.Content.N == 4 <;> cases b <;> cases t <;> rfl
theorem agM (e : ah) (l : List ah) (hl : l.length ≤ 1000) (hs : gK l) : Me e l = some (agK e l):=by
 unfold Me agK;rw [ahX e l hl];simp only [Option.bind_some];cases aeP e l with
 | true=>rfl
 | false=>
   simp only [cond_false]
   have hb : ∀ o : Option (Except Value Unit),(o.bind fun x3=>(mY x3).bind fun x4=>some x4) = o.bind mY:=fun o=>by
    cases o with
    | none=>rfl
    | some x=>cases h : mY x <;> simp [h]
   rw [hb];have ho:=amW e l (nC l e.Key) hl hs;unfold NP;rw [N7 l _ hl,Ci];simp only [Option.bind_some];rw [aeQ,ak0 _ _ _ hl hs];simp only [Option.bind_some,agL,ahg,acY,alH,Lr];have h3 : (nC l e.Key != 4) = !(nC l e.Key == 4):=rfl;rw [h3];generalize rG l e (nC l e.Key) = J at ho;generalize decide (e.Key = e.cZ) = s;cases s with
   | true=>
     cases nC l e.Key == 4 with
     | true=>rfl
     | false=>cases moveB (nC l e.Key) e.Content.N true <;> rfl
   | false=>
     cases moveB (nC l e.Key) e.Content.N false with
     | false=>rfl
     | true=>exact ho
theorem JW (e : ah) (l : List ah) (hl : l.length ≤ 1000) (hs : gK l) (he : jG e) : zK e l = some (Xv e l):=by
 have h1:=he.sender;have h2:=he.room;unfold zK Xv
 have hb : ∀ o : Option (Except Value Unit),(o.bind fun x3=>(mY x3).bind fun x4=>some x4) = o.bind mY:=fun o=>by
  cases o with
  | none=>rfl
  | some x=>cases h : mY x <;> simp [h]
 rw [hb];unfold KX yO yN yM;rw [TW l hl,(UY (s:=e.cZ) (by omega)).1,(UY (s:=e.Room) (by omega)).1,N7 l _ hl,ahZ e l hl hs he,agM e l hl hs];simp only [Option.bind_some,agL,ahg,acY,alH];show _ = some (bif e.Kind == 1 then (bif !(ug l).2 && (splitB e.cZ (idB e.cZ)).2.1.toList == (splitB e.Room (idB e.Room)).2.1.toList then 0 else 17) else _);cases e.Kind == 1 with
 | true=>
   cases (ug l).2 with
   | true=>rfl
   | false=>cases (splitB e.cZ (idB e.cZ)).2.1.toList == (splitB e.Room (idB e.Room)).2.1.toList <;> rfl
 | false=>
   cases (ug l).2 with
   | false=>rfl
   | true=>
     cases e.Kind == 2 with
     | true=>rfl
     | false=>cases nC l e.cZ == 3 <;> rfl
end Go.Proofs.YtolgdkhlelfpoaaGreat
end
section
namespace Go.Proofs.YtolgdkhlelfpoaaGreat
open Go.RowKit
def amX (named : List ah) (k : au) : ah × Bool:=match named.find? (Nr k) with | some x=>(x,true) | none=>(gX,false)
def aeU (l : List ah) (s : List au) (e : ah) (k : au) : ah × Bool:=bif (uV s k.Kind k.Key).2 then sV l (uV s k.Kind k.Key).1 else amX (ofIds l e.fB) k
def TY (l : List ah) (s : List au) (e : ah) (k : au) : List ah:=bif (aeU l s e k).2 then [(aeU l s e k).1] else []
def Rw (l : List ah) (s : List au) (e : ah) : List ah:=(keysOf e).flatMap (TY l s e)
theorem Zp (l : List ah) (s : List au) (e : ah) (k : au) : (TY l s e k).length ≤ 1:=by
 unfold TY;cases (aeU l s e k).2 <;> simp
theorem ah0 (l : List ah) (s : List au) (e : ah) : (Rw l s e).length ≤ 5:=by
 have h1:=flat_length (f:=TY l s e) (n:=1) (Zp l s e) (keysOf e);have h2:=xq e;unfold Rw;omega
theorem amY {l : List ah} {s : List au} {e x : ah} (h : x ∈ Rw l s e) : x ∈ l:=by
 obtain ⟨k,_,h⟩:=List.mem_flatMap.1 h;unfold TY aeU amX at h;cases hg : (uV s k.Kind k.Key).2 with
 | true=>
   rw [hg] at h;simp only [cond_true] at h;cases hp : kE l (uV s k.Kind k.Key).1 with
   | none=>rw [Eo hp] at h;exact absurd h List.not_mem_nil
   | some y=>rw [sW hp] at h;rw [List.mem_singleton.1 h];exact yx hp
 | false=>
   rw [hg] at h;simp only [cond_false] at h;cases hf : (ofIds l e.fB).find? (Nr k) with
   | none=>rw [hf] at h;exact absurd h List.not_mem_nil
   | some y=>rw [hf] at h;rw [List.mem_singleton.1 h];exact ahb (List.mem_of_find?_eq_some hf)
theorem gK.base {l : List ah} (h : gK l) (s : List au) (e : ah) : gK (Rw l s e):=fun x hx=>h x (amY hx)
theorem agN (named : List ah) (k : au) (hn : named.length ≤ 1000) : Mc named k = some (amX named k):=by
 unfold Mc;rw [Rf named (by omega) (fun a0=>BN a0 k) (Nr k) fun e=>by unfold BN Nr;rw [Ci];cases e.Kind == k.Kind <;> rfl];exact found_eq named (Nr k) rfl
theorem aeV (l : List ah) (s : List au) (e : ah) (hl : l.length ≤ 1000) (he : e.fB.length ≤ 40) (hs : kQ s) (hsl : s.length ≤ 1000000) : Jo l s e = some (Rw l s e):=by
 unfold Jo;have ho:=ajC l e.fB;have hk:=xq e;have hm : pF 376 gX 0 5 = some []:=by unfold pF;rw [if_pos (by constructor <;> omega)];rfl
 rw [akP l _ hl (by omega),hm,TQ];simp only [Option.bind_some];unfold S9;rw [Hg (keysOf e) (by omega) (fun r k=>r ++ TY l s e k) (fun i r=>r.length ≤ i) (fun r=>some r) (Nat.le_refl _)]
 · rw [foldl_append (TY l s e),List.nil_append];rfl
 · intro k r i h hI;have hp:=Zp l s e (keysOf e)[i];refine ⟨by rw [List.length_append];omega,?_⟩;unfold Jm Dk Dj;rw [dw h,agN _ _ (by omega),Du s _ _ hsl hs];simp only [Option.bind_some];rw [jv l _ (by omega),fK (by simp only [List.length_singleton];omega)];simp only [Option.bind_some];rw [fK (by simp only [List.length_singleton];omega)];unfold TY aeU;cases (uV s (keysOf e)[i].Kind (keysOf e)[i].Key).2 with
   | true=>
     simp only [cond_true];cases (sV l (uV s (keysOf e)[i].Kind (keysOf e)[i].Key).1).2 with
     | true=>rfl
     | false=>simp
   | false=>
     simp only [cond_false];cases (amX (ofIds l e.fB) (keysOf e)[i]).2 with
     | true=>rfl
     | false=>simp
 intro k r _;unfold Jm;rw [dO]
def acZ (l : List ah) (s : List au) (id : Int) : Bool:=gG l id && (xY (ev l id).Kind && Xv (ev l id) (Rw l s (ev l id)) == 0)
def GN (l : List ah) (s : List au) (id : Int) : List au:=bif acZ l s id then rO s (ev l id).Kind (ev l id).Key (ev l id).Id else s
def Fq (l : List ah) (s : List au) (ids : List Int) : List au:=ids.foldl (GN l) s
theorem XY {l : List ah} {s : List au} (h : kQ s) (id : Int) : kQ (GN l s id):=by
 unfold GN;cases acZ l s id with
 | true=>exact UR h _ _ _
 | false=>exact h
theorem LG {l : List ah} : ∀ {ids : List Int} {s : List au},kQ s → kQ (Fq l s ids)
 | [],_,h=>h
 | id :: ids,s,h=>LG (ids:=ids) (XY h id)
theorem XZ (l : List ah) (s : List au) (id : Int) : (GN l s id).length ≤ s.length + 1:=by
 unfold GN;cases acZ l s id with
 | true=>exact pX _ _ _ _
 | false=>exact Nat.le_succ _
theorem LH (l : List ah) : ∀ (ids : List Int) (s : List au),(Fq l s ids).length ≤ s.length + ids.length
 | [],s=>Nat.le_refl _
 | id :: ids,s=>by
   have h1:=LH l ids (GN l s id);have h2:=XZ l s id;show (Fq l (GN l s id) ids).length ≤ _;rw [List.length_cons];omega
theorem aqN {l : List ah} (hs : gK l) {id : Int} (h : gG l id = true) : jG (ev l id):=hs _ (yx (Xr h).1)
theorem aeW (l : List ah) (s : List au) (id : Int) (hl : l.length ≤ 1000) (hs : gK l) (hso : kQ s) (hsl : s.length ≤ 1000000) : Jt l s id = some (GN l s id):=by
 unfold Jt UD zL GN acZ;have amZ : GY s (.error (.iface 317 (.agg #[])) : Except Value (List au)) = some s:=rfl;rw [jv l _ (by omega)];simp only [Option.bind_some];rw [Np];cases hk : (kE l id).isSome with
 | false=>rw [show gG l id = false from hk];exact amZ
 | true=>
   have hks : gG l id = true:=hk;have he:=aqN hs hks;have hev : (sV l id).1 = ev l id:=rfl;rw [hks,hev,Ru];simp only [Option.bind_some,Bool.not_true,cond_false,Bool.true_and];cases xY (ev l id).Kind with
   | false=>exact amZ
   | true=>
     have hb:=ah0 l s (ev l id);rw [aeV l s _ hl he.auth hso hsl];simp only [Option.bind_some,Bool.not_true,cond_false,Bool.true_and];rw [JW _ _ (by omega) (hs.base s _) he];simp only [Option.bind_some];rw [oh s _ _ _ hsl];unfold bne;cases Xv (ev l id) (Rw l s (ev l id)) == 0 with
     | true=>rfl
     | false=>exact amZ
theorem Rx (l : List ah) (s : List au) (ids : List Int) (hl : l.length ≤ 1000) (hs : gK l) (hso : kQ s) (hsl : s.length + ids.length ≤ 1000000) : uy l s ids = some (Fq l s ids):=by
 unfold uy mV;rw [fK (by simp only [List.length_nil];omega)];simp only [Option.bind_some,List.nil_append];unfold QH;rw [Hg ids (by omega) (GN l) (fun i r=>kQ r ∧ r.length ≤ s.length + i) (fun r=>some r) ⟨hso,Nat.le_refl _⟩]
 · rfl
 · intro k r i h hI;have h1:=XZ l r ids[i];refine ⟨⟨XY hI.1 _,by omega⟩,?_⟩;unfold Hz;rw [dw h,aeW l r _ hl hs hI.1 (by omega)];rfl
 intro k r _;unfold Hz;rw [dO]
def Fv (l : List ah) (bf : List (List au)) : List Int:=agA l (wG l bf)
def UZ (l : List ah) (bf : List (List au)) : List Int:=Et l (uN l (Fv l bf)).length (uN l (Fv l bf))
def qF (l : List ah) (bf : List (List au)) : List au:=Fq l (uX bf) (UZ l bf)
def V5 (l : List ah) (bf : List (List au)) : List Int:=bif (uV (qF l bf) 3 s0).2 then aie l (uV (qF l bf) 3 s0).1 else []
def yB (l : List ah) (bf : List (List au)) : List Int:=Ro l (V5 l bf) (Gp (wG l bf) (Fv l bf))
def aeX (s a : List au) : List au:=a.foldl (fun s x=>rO s x.Kind x.Key x.Id) s
def lastOf (l : List ah) (bf : List (List au)) : List au:=aeX (Fq l (qF l bf) (yB l bf)) (uX bf)
structure Eu (l : List ah) (bf : List (List au)) : Prop where
 len : l.length ≤ 100
 small : gK l
 states : uF bf
theorem Pq {l : List ah} {bf : List (List au)} (h : Eu l bf) : (wG l bf).length ≤ 40000:=by
 have h0:=h.len;have g1:=Ri h.states;have g2:=lJ (Pn bf);have h1:=JO l bf [] fun s hs=>(h.states.2 s hs).1;have h2:=h.states.1;have h3:=List.length_filter_le (fun x=>decide (Dv l bf x < bf.length)) (allOf l bf);have h4 : bf.length * (100 + l.length) ≤ 100 * 200:=Nat.mul_le_mul h2 (by omega);have h5:=NW (kC (Pn bf)) (JM l bf)
 have h6 : (JM l bf).length ≤ 20000:=by
  unfold JM;unfold allOf at h3 ⊢;simp only [List.length_nil] at h1;omega
 unfold wG;omega
theorem am0 {l : List ah} {bf : List (List au)} (h : Eu l bf) : (JQ l (wG l bf)).length ≤ 40000:=Nat.le_trans (List.length_filter_le _ _) (Pq h)
theorem ajS {l : List ah} {bf : List (List au)} (h : Eu l bf) : (UZ l bf).length ≤ 100:=by
 have h1:=XR l (uN l (Fv l bf)).length (uN l (Fv l bf));have h2 : (uN l (Fv l bf)).length ≤ l.length:=vK (Xn _ _) fun x hx=>(Fg.1 hx).2;have h3:=h.len;unfold UZ;omega
theorem abn {l : List ah} {bf : List (List au)} (h : Eu l bf) : (qF l bf).length ≤ 200:=by
 have h1:=LH l (UZ l bf) (uX bf);have h2:=ajS h;have h3:=JL h.states;unfold qF;omega
theorem Ry {l : List ah} {bf : List (List au)} (h : Eu l bf) : kQ (qF l bf):=LG (Zh h.states)
theorem am1 {l : List ah} {bf : List (List au)} (h : Eu l bf) : (V5 l bf).length ≤ 100:=by
 have h1:=ajK l (uV (qF l bf) 3 s0).1;have h2:=h.len;unfold V5;cases (uV (qF l bf) 3 s0).2 with
 | true=>simp only [cond_true];omega
 | false=>exact Nat.zero_le _
theorem ajT {l : List ah} {bf : List (List au)} (h : Eu l bf) : (yB l bf).length ≤ 40000:=by
 have h1:=ahT l (V5 l bf) (Gp (wG l bf) (Fv l bf));have h2:=XM (wG l bf) (Fv l bf);have h3:=Pq h;unfold yB;omega
theorem ak1 {l : List ah} {bf : List (List au)} (h : Eu l bf) : uM (wG l bf) (Fv l bf) l (qF l bf,UZ l bf) (uX bf,kC (Pn bf)) (V5 l bf) = some ⟨lastOf l bf,UZ l bf,yB l bf⟩:=by
 have h0:=h.len;have h1:=Pq h;have h2:=abj l (wG l bf);have h3:=am1 h;have h4:=XM (wG l bf) (Fv l bf);have h5:=abn h;have h6:=ajT h;have h7:=JL h.states;unfold uM qA wV;rw [ajz _ _ (by omega) (by unfold Fv;omega)];simp only [Option.bind_some];rw [aaS l _ _ (by omega) h.small (by omega) (by omega) (Nq (al4 _ _))];simp only [Option.bind_some];show ((uy l (qF l bf) (yB l bf)).bind _).bind _ = _;rw [Rx l _ _ (by omega) h.small (Ry h) (by omega)];simp only [Option.bind_some];unfold OA;have hb:=LH l (yB l bf) (qF l bf);show bg _ fuel 0 (⟨Fq l (qF l bf) (yB l bf),UZ l bf,yB l bf⟩ : iM) = _;rw [Zb (uX bf) (by omega) (fun v x=>({ v with yY:=rO v.yY x.Kind x.Key x.Id } : iM)) (fun i v=>v.yY.length ≤ (Fq l (qF l bf) (yB l bf)).length + i) (fun v=>some v) (Nat.le_refl _)]
 · congr 1;unfold lastOf aeX
   have key : ∀ (a : List au) (v : iM),a.foldl (fun v x=>({ v with yY:=rO v.yY x.Kind x.Key x.Id } : iM)) v = ⟨a.foldl (fun s x=>rO s x.Kind x.Key x.Id) v.yY,v.Vl,v.aiV⟩:=by
    intro a
    induction a with
    | nil=>intro v;rfl
    | cons x a ih=>intro v;rw [List.foldl_cons,ih];rfl
   rw [key]
 · intro k v i hi hI;have hl2:=pX v.yY (uX bf)[i].Kind (uX bf)[i].Key (uX bf)[i].Id;refine ⟨by show (rO _ _ _ _).length ≤ _;omega,?_⟩;unfold F9;rw [dw hi,oh _ _ _ _ (by omega)];rfl
 intro k v _;unfold F9;rw [dO]
theorem aoV {l : List ah} {bf : List (List au)} (h : Eu l bf) : E5 l bf = some ⟨lastOf l bf,UZ l bf,yB l bf⟩:=by
 have h0:=h.len;have h1:=Pq h;have h2:=abj l (wG l bf);have h3:=am0 h;have h5:=abn h;have h6:=ajS h;have h7:=JL h.states;have ht:=ak1 h;unfold E5;rw [OH bf h.states,acS l bf (by omega) h.small.amN h.states];simp only [Option.bind_some];rw [ajI l _ (by omega) h.small (by omega) (by omega)];simp only [Option.bind_some];unfold sU Bf;rw [agD l _ (by omega) h.small (by omega)];simp only [Option.bind_some];have ha : uy l (uX bf) (UZ l bf) = some (qF l bf):=Rx l _ _ (by omega) h.small (Zh h.states) (by omega);unfold UZ Fv at ha;rw [ha];simp only [Option.bind_some];rw [Du _ _ _ (by omega) (Ry h)];simp only [Option.bind_some];rw [agE l _ (by omega) h.small];unfold V5 at ht;cases hg : (uV (qF l bf) 3 s0).2 with
 | true=>rw [hg] at ht;exact ht
 | false=>rw [hg] at ht;exact ht
end Go.Proofs.YtolgdkhlelfpoaaGreat
end
section
namespace Go.Proofs.YtolgdkhlelfpoaaGreat
open Go.RowKit
def Zq (l : List ah) (bf : List (List au)) : List au:=match bf with
 | []=> []
 | [s]=>s
 | _=>lastOf l bf
theorem Ns {l : List ah} {bf : List (List au)} (h : Eu l bf) : xQ l bf = some (Zq l bf):=by
 match bf,h with
 | [],_=>rfl
 | [s],h=>
   have hs:=(h.states.2 s (List.mem_cons_self ..)).1;have e0 : aX [s] 0 = some s:=rfl;show ((aX [s] 0).bind fun x3=>(gZ 32 [] x3).bind fun x4=>some x4) = some s;rw [e0];simp only [Option.bind_some];rw [fK (by simp only [List.length_nil];omega)];rfl
 | s :: t :: bf,h=>
   unfold xQ;have e0 : (((s :: t :: bf).length : Int) == 0) = false:=by simp only [List.length_cons];simp;omega
   have e1 : (((s :: t :: bf).length : Int) == 1) = false:=by simp only [List.length_cons];simp;omega
   rw [e0,e1,aoV h];rfl
theorem Eu.of {l : List ah} {bf : List (List au)} (h1 : l.length ≤ 14 ∧ gK l) (h2 : bf.length ≤ 100 ∧ ∀ s ∈ bf,s.length ≤ 20 ∧ kQ s) : Eu l bf:=
 ⟨by have:=h1.1;omega,h1.2,⟨h2.1,fun s hs=>⟨by have:=(h2.2 s hs).1;omega,(h2.2 s hs).2⟩⟩⟩
end Go.Proofs.YtolgdkhlelfpoaaGreat
end
section
namespace Go.Proofs.YtolgdkhlelfpoaaGreat
open Go.RowKit
theorem X0 {x : au} : ∀ (a s : List au),x ∈ aeX s a → x ∈ a ∨ x ∈ s
 | [],_,h=>.inr h
 | y :: a,s,h=>by
   rcases X0 a _ h with h | h
   · exact .inl (List.mem_cons_of_mem _ h)
   rcases acT h with h | h
   · left;rw [h];cases y;exact List.mem_cons_self ..
   exact .inr h
def alI (l : List ah) (ids : List Int) (x : au) : Prop:=∃ id ∈ ids,gG l id = true ∧ xY (ev l id).Kind = true ∧ x = ⟨(ev l id).Kind,(ev l id).Key,(ev l id).Id⟩
theorem U0 {l : List ah} {x : au} : ∀ (ids : List Int) (s : List au),x ∈ Fq l s ids → x ∈ s ∨ alI l ids x
 | [],_,h=>.inl h
 | id :: ids,s,h=>by
   rcases U0 ids _ h with h | ⟨j,hj,h⟩
   · have h2 : x ∈ bif acZ l s id then rO s (ev l id).Kind (ev l id).Key (ev l id).Id else s:=h
     cases hm : acZ l s id with
     | false=>rw [hm] at h2;exact .inl h2
     | true=>
       rw [hm] at h2;rcases acT h2 with h2 | h2
       · unfold acZ at hm;simp only [Bool.and_eq_true] at hm;exact .inr ⟨id,List.mem_cons_self ..,hm.1,hm.2.1,h2⟩
       exact .inl h2
   exact .inr ⟨j,List.mem_cons_of_mem _ hj,h⟩
theorem aqO {l : List ah} {bf : List (List au)} {x : Int} (h : x ∈ Fv l bf) : x ∈ wG l bf:=(ajH.1 h).1
theorem am2 {l : List ah} {bf : List (List au)} {x : au} (h : x ∈ lastOf l bf) : x ∈ uX bf ∨ alI l (wG l bf) x:=by
 unfold lastOf at h;rcases X0 _ _ h with h | h
 · exact .inl h
 rcases U0 _ _ h with h | ⟨j,hj,h⟩
 · unfold qF at h;rcases U0 _ _ h with h | ⟨j,hj,h⟩
   · exact .inl h
   exact .inr ⟨j,aqO (Fg.1 (aeN _ _ _ hj)).1,h⟩
 exact .inr ⟨j,(al3.1 (amS.1 hj).1).1,h⟩
theorem X3 : ∀ (a s : List au),kQ s → kQ (aeX s a)
 | [],_,h=>h
 | x :: a,s,h=>X3 a _ (UR h x.Kind x.Key x.Id)
theorem ak2 {l : List ah} {bf : List (List au)} (h : Eu l bf) : kQ (lastOf l bf):=X3 _ _ (LG (Ry h))
end Go.Proofs.YtolgdkhlelfpoaaGreat
end
section
namespace Go.Proofs.YtolgdkhlelfpoaaGreat
open Go.RowKit
structure mG (l : List ah) (s : List au) : Prop where
 sorted : kQ s
 named : ∀ x ∈ s,gG l x.Id = true ∧ xY x.Kind = true ∧ (ev l x.Id).Kind = x.Kind ∧ (ev l x.Id).Key = x.Key
theorem mG.nil (l : List ah) : mG l []:=⟨List.Pairwise.nil,fun _ h=>absurd h List.not_mem_nil⟩
theorem mG.nodup {l : List ah} {s : List au} (h : mG l s) : (s.map (·.Id)).Nodup:=by
 rw [List.nodup_iff_pairwise_ne,List.pairwise_map];refine List.Pairwise.imp_of_mem ?_ h.sorted;intro a b ha hb hp e;obtain ⟨_,_,k1,k2⟩:=h.named a ha;obtain ⟨_,_,k3,k4⟩:=h.named b hb;have e1 : a.Kind = b.Kind:=by rw [← k1,← k3,e]
 have e2 : a.Key = b.Key:=by rw [← k2,← k4,e]
 rw [TP (zW.2 ⟨e1,e2⟩)] at hp;cases hp
theorem mG.length {l : List ah} {s : List au} (h : mG l s) : s.length ≤ l.length:=by
 have : MJ l (s.map (·.Id)):=⟨h.nodup,fun x hx=>by
  obtain ⟨y,hy,rfl⟩:=List.mem_map.1 hx
  exact (h.named y hy).1⟩
 have:=this.length
 rwa [List.length_map] at this
theorem mG.okay {l : List ah} {bf : List (List au)} (hl : l.length ≤ 100) (hs : gK l) (hn : bf.length ≤ 100) (h : ∀ s ∈ bf,mG l s) : Eu l bf:=
 ⟨hl,hs,hn,fun s hm=>⟨Nat.le_trans (h s hm).length hl,(h s hm).sorted⟩⟩
theorem mG.resolve {l : List ah} {bf : List (List au)} (ho : Eu l bf) (h : ∀ s ∈ bf,mG l s) : mG l (Zq l bf):=by
 match bf,ho,h with
 | [],_,_=>exact .nil l
 | [s],_,h=>exact h s (List.mem_cons_self ..)
 | s :: t :: bf,ho,h=>
   refine ⟨ak2 ho,fun x hx=>?_⟩;rcases am2 hx with hm | ⟨id,_,hk,hst,he⟩
   · exact (h s (List.mem_cons_self ..)).named x ((aoP ho.states (List.cons_ne_nil _ _)).1 hm s (List.mem_cons_self ..))
   have hev:=Xr hk;have e3 : x.Id = id:=by rw [he];exact hev.2
   rw [e3];exact ⟨hk,by rw [he];exact hst,by rw [he],by rw [he]⟩
theorem mG.set {l : List ah} {s : List au} (h : mG l s) {e : ah} (hk : gG l e.Id = true) (he : ev l e.Id = e) (hst : xY e.Kind = true) : mG l (rO s e.Kind e.Key e.Id):=
 ⟨UR h.sorted _ _ _,fun x hx=>by
  rcases acT hx with rfl | hx
  · exact ⟨hk,hst,by rw [he],by rw [he]⟩
  exact h.named x hx⟩
end Go.Proofs.YtolgdkhlelfpoaaGreat
end
section
namespace Go.Proofs.YtolgdkhlelfpoaaGreat
open Go.RowKit
def aeY (l : List ah) (e : ah) : Prop:=(∀ x ∈ e.gy,gG l x = true) ∧ ∀ x ∈ e.fB,gG l x = true
theorem ahh (refs : List Int) (l : List ah) (m : List (Int × Int)) (h : TN l m) (hr : refs.length ≤ 1000) : zF refs m = some (refs.all (gG l)):=by
 unfold zF Ol;rw [scan refs (fuel_lt (by omega)) (fun x=>!gG l x) false (some true)]
 · rw [List.all_eq_not_any_not];cases (refs.any fun x=>!gG l x) <;> rfl
 · intro k i hi;unfold FX;rw [dw hi,h.isSome]
 intro k;unfold FX;rw [dO]
theorem am3 (l : List ah) (hl : l.length ≤ 100) (hs : gK l) : dG (Je l) (fun b=>b = true → ∀ e ∈ l,aeY l e):=by
 unfold Je;refine (xW l (by omega)).bind fun m hm=>?_;unfold SQ;refine uZ (body:=Jd l) (Q:=fun b=>b = true → ∀ e ∈ l,aeY l e) (fun n a b=>∃ i : Nat,a = i ∧ i + n = l.length ∧ b = m ∧ ∀ j,(hj : j < i) → (hl : j < l.length) → aeY l l[j]) ?_ fuel l.length 0 m (fuel_lt (by omega)) ⟨0,rfl,by omega,rfl,fun j hj=>by omega⟩;rintro n a b k ⟨i,rfl,hn,rfl,hI⟩ hk;unfold Jd;by_cases hi : i < l.length
 · have he:=hs l[i] (List.getElem_mem hi);have h1:=he.prev;have h2:=he.auth;rw [dw hi,ahh _ l b hm (by omega),Option.bind_some,fA hi,Option.bind_some,ahh _ l b hm (by omega)];cases hp : l[i].gy.all (gG l) with
   | false=>exact .ret fun h=>by cases h
   | true=>
     cases ha : l[i].fB.all (gG l) with
     | false=>exact .ret fun h=>by cases h
     | true=>
       refine hk (n - 1) _ _ (by omega) ⟨i + 1,wrap_succ i (by omega),by omega,rfl,fun j hj hl'=>?_⟩;by_cases e : j = i
       · subst e;exact ⟨List.all_eq_true.1 hp,List.all_eq_true.1 ha⟩
       exact hI j (by omega) hl'
 have : i = l.length:=by omega
 subst this;rw [dO];exact .ret fun _=>Za fun j hj=>hI j hj hj
theorem Zr {l : List ah} {m : List (Int × Int)} (h : TN l m) {x : Int} (hk : gG l x = true) : ∃ e,aX l ((dD m x).getD 0) = some e:=⟨_,h.get (Xr hk).1⟩
theorem aqP (l : List ah) (m : List (Int × Int)) (e : ah) (hm : TN l m) (he : jG e) (hr : aeY l e) : dG (O8 l m e) (fun r=>r.2 = m):=by
 have h1:=he.prev;have h2:=he.auth;unfold O8 XG;refine lu e.fB.length (fuel_lt (by omega)) (fun _=>True) trivial (fun i k hi _ hk=>?_) fun k _=>?_
 · unfold NG;obtain ⟨x,hx⟩:=Zr hm (hr.2 _ (List.getElem_mem hi));rw [dw hi,hx,Option.bind_some,wrap_succ i (by omega)];exact dG.bif (fun _=>.ret rfl) fun _=>hk trivial
 unfold NG;rw [dO];refine dG.bif (fun _=>.ret rfl) fun h0=>?_
 have hp : 0 < e.gy.length:=by
  rcases Nat.eq_zero_or_pos e.gy.length with h | h
  · rw [h] at h0;cases h0
  exact h
 obtain ⟨x,hx⟩:=Zr hm (hr.1 _ (List.getElem_mem hp));have g0 : aX e.gy 0 = some e.gy[0]:=fA (i:=0) hp;rw [g0,Option.bind_some,hx,Option.bind_some];unfold XF;refine ru e.gy.length (fuel_lt (by omega)) (fun _ _=>True) trivial (fun i a k2 hi _ hk=>?_) fun a k2 _=>?_
 · unfold ND;obtain ⟨y,hy⟩:=Zr hm (hr.1 _ (List.getElem_mem hi));rw [dw hi,hy,Option.bind_some,wrap_succ i (by omega)];exact hk _ trivial
 unfold ND;rw [dO];cases decide (e.Depth > a) <;> exact .ret rfl
theorem am4 (l : List ah) (hl : l.length ≤ 100) (hs : gK l) : dG (Jg l) (fun _=>True):=by
 unfold Jg;refine (am3 l hl hs).bind fun b hb=>dG.bif (fun _=>.ret trivial) fun h=>?_;have hb:=hb (by simpa using h);refine (xW l (by omega)).bind fun m hm=>?_;unfold SS;refine uZ (body:=Jf l) (Q:=fun _=>True) (fun n a b=>∃ i : Nat,a = i ∧ i + n = l.length ∧ b = m) ?_ fuel l.length 0 m (fuel_lt (by omega)) ⟨0,rfl,by omega,rfl⟩;rintro n a b k ⟨i,rfl,hn,rfl⟩ hk;unfold Jf;by_cases hi : i < l.length
 · rw [dw hi];refine (aqP l b l[i] hm (hs _ (List.getElem_mem hi)) (hb _ (List.getElem_mem hi))).bind fun r hr=>dG.bif (fun _=>.ret trivial) fun _=>?_;exact hk (n - 1) _ _ (by omega) ⟨i + 1,wrap_succ i (by omega),by omega,hr⟩
 have : i = l.length:=by omega
 subst this;rw [dO];exact .ret trivial
theorem aoW (l : List ah) (hl : l.length ≤ 100) : dG (L6 l) (fun r=>r.length ≤ 100):=by
 have e0 : pF 16 LQ 0 (l.length : Int) = some []:=by unfold pF;rw [if_pos ⟨Int.le_refl _,by omega,by omega⟩];rfl
 unfold L6;rw [e0,Option.bind_some];unfold VE;refine ru l.length (fuel_lt (by omega)) (fun i a=>a.length = i) rfl (fun i a k hi ha hk=>?_) fun a k ha=>?_
 · unfold KQ;rw [dw hi,fA hi,Option.bind_some,fK (by simp only [List.length_singleton];omega),Option.bind_some];have hlen : (a ++ [(⟨l[i].Depth,l[i].Id⟩ : fP)]).length = i + 1:=by simp [ha]
   generalize a ++ [(⟨l[i].Depth,l[i].Id⟩ : fP)] = b at hlen;rw [hlen];have hj : ∀ v6 : List fP,v6.length = i + 1 → dG (zG k (i : Int) v6) (fun r=>r.length ≤ 100):=fun v6 h=>by unfold zG;rw [wrap_succ i (by omega)];exact hk v6 h
   unfold VB;refine uZ (body:=KO k (i : Int)) (Q:=fun r=>r.length ≤ 100) (fun n x v=>∃ q : Nat,x = q ∧ n = q ∧ q ≤ i ∧ v.length = i + 1) ?_ fuel i (IntKind.i64.wrap (((i + 1 : Nat) : Int) - 1)) b (fuel_lt (by omega)) ⟨i,by rw [IntKind.wrap_i64];omega,rfl,Nat.le_refl _,hlen⟩;rintro n x v k2 ⟨q,rfl,hnq,hq,hv⟩ hk2;unfold KO;refine dG.bif (fun hpos=>?_) fun _=>hj v hv;have hpos : 0 < q:=by have:=of_decide_eq_true hpos;omega
   have w1 : IntKind.i64.wrap ((q : Int) - 1) = ((q - 1 : Nat) : Int):=by rw [IntKind.wrap_i64];omega
   have g1 : aX v ((q - 1 : Nat) : Int) = some v[q - 1]:=fA (by omega);have g2 : aX v (q : Int) = some v[q]:=fA (by omega);rw [w1,g1,Option.bind_some,g2,Option.bind_some];have hc : ∀ b1 b2 b3 : Bool,∃ r,(bif b1 then some true else (bif b2 then some b3 else some false).bind fun x19=>some x19) = some r:=fun b1 b2 b3=>by cases b1 <;> cases b2 <;> exact ⟨_,rfl⟩
   obtain ⟨r,hr⟩:=hc (decide (v[q - 1].IJ < v[q].IJ)) (v[q - 1].IJ == v[q].IJ) (decide (v[q - 1].ou ≤ v[q].ou));rw [hr,Option.bind_some];refine dG.bif (fun _=>hj v hv) fun _=>?_;have g3 : ∃ y,aX (v.set ((q - 1 : Nat) : Int).toNat v[q]) (q : Int) = some y:=⟨_,fA (by rw [List.length_set];omega)⟩
   obtain ⟨y,hy⟩:=g3;rw [Option.bind_some,hy,Option.bind_some];exact hk2 (q - 1) _ _ (by omega) ⟨q - 1,rfl,rfl,by omega,by simp [hv]⟩
 unfold KQ;rw [dO];have e1 : pF 8 0 (a.length : Int) (a.length : Int) = some (List.replicate a.length (0 : Int)):=by unfold pF;rw [if_pos ⟨by omega,Int.le_refl _,by omega⟩];simp
 rw [e1,Option.bind_some];unfold VD;refine Iq (body:=KP a) (Q:=fun r=>r.length ≤ 100) (fun n (x : Int) (o : List Int) (p : List fP)=>∃ i : Nat,x = i ∧ i + n = a.length ∧ o.length = a.length ∧ p = a) ?_ fuel a.length 0 (List.replicate a.length 0) a (fuel_lt (by omega)) ⟨0,rfl,by omega,by simp,rfl⟩;rintro n x o p k2 ⟨i,rfl,hn,ho,rfl⟩ hk2;unfold KP;by_cases hi : i < p.length
 · have g2 : aX o (i : Int) = some o[i]:=fA (by omega);rw [dw hi,g2,Option.bind_some];exact hk2 (n - 1) _ _ _ (by omega) ⟨i + 1,wrap_succ i (by omega),by omega,by simp [ho],rfl⟩
 have : i = p.length:=by omega
 subst this;rw [dO];exact .ret (by omega)
theorem aqQ (l : List ah) (hl : l.length ≤ 100) (m1 m2 : List (Int × List au)) (m3 : List (Int × Int)) : dG (pq m1 m2 m3 l) (fun r=>r.length ≤ 100):=by
 unfold pq;refine dG.bind (P:=fun r=>r.length ≤ 100) ?_ fun r h=>.ret h;unfold nM qU;refine ru l.length (fuel_lt (by omega)) (fun i a=>a.length ≤ i) (Nat.le_refl _) (fun i a k hi ha hk=>?_) fun a k ha=>?_
 · unfold lW wX;rw [dw hi,Option.bind_some];refine dG.bif (fun _=>?_) fun _=>?_
   · rw [fA hi,Option.bind_some,fK (by simp only [List.length_singleton];omega),Option.bind_some];unfold jg;rw [wrap_succ i (by omega)];exact hk _ (by simp;omega)
   unfold jg;rw [wrap_succ i (by omega)];exact hk _ (by omega)
 unfold lW;rw [dO];exact .ret (by omega)
theorem aoX (l : List ah) (ids : List Int) (hl : l.length ≤ 100) (hs : gK l) (hi0 : ids.length ≤ 100) : dG (MG l ids) (fun r=>r.length ≤ 100):=by
 unfold MG;refine (xW l (by omega)).bind fun m hm=>?_;unfold VU;refine Iq (body:=Le ids l) (Q:=fun r=>r.length ≤ 100) (fun n a b c=>∃ i : Nat,a = i ∧ i + n = ids.length ∧ b = m) ?_ fuel ids.length 0 m [] (fuel_lt (by omega)) ⟨0,rfl,by omega,rfl⟩;rintro n a b c k ⟨i,rfl,hn,rfl⟩ hk;unfold Le;by_cases hi : i < ids.length
 · have hj : ∀ v8,dG (E8 k (i : Int) b v8) (fun r=>r.length ≤ 100):=fun v8=>hk (n - 1) _ _ _ (by omega) ⟨i + 1,wrap_succ i (by omega),by omega,rfl⟩;rw [dw hi,hm.isSome];refine dG.bif (fun _=>hj _) fun h=>?_;have hkn : gG l ids[i] = true:=by simpa using h
   obtain ⟨hg,_⟩:=Xr hkn;rw [hm.get hg,Option.bind_some];have hp:=(hs _ (yx hg)).prev;unfold VR;refine Iq (body:=Lc (ev l ids[i]) ids[i] k (i : Int)) (Q:=fun r=>r.length ≤ 100) (fun n2 a2 b2 c2=>∃ j : Nat,a2 = j ∧ j + n2 = (ev l ids[i]).gy.length ∧ b2 = b) ?_ fuel (ev l ids[i]).gy.length 0 b c (fuel_lt (by omega)) ⟨0,rfl,by omega,rfl⟩;rintro n2 a2 b2 c2 k2 ⟨j,rfl,hn2,rfl⟩ hk2;unfold Lc;by_cases hj2 : j < (ev l ids[i]).gy.length
   · rw [dw hj2];refine dG.bif (fun _=>?_) fun _=>?_ <;> exact hk2 (n2 - 1) _ _ _ (by omega) ⟨j + 1,wrap_succ j (by omega),by omega,rfl⟩
   have : j = (ev l ids[i]).gy.length:=by omega
   subst this;rw [dO];exact hj _
 have : i = ids.length:=by omega
 subst this;rw [dO];unfold VT;refine ru ids.length (fuel_lt (by omega)) (fun i a=>a.length ≤ i) (Nat.le_refl _) (fun i a k2 hi ha hk=>?_) fun a k2 ha=>?_
 · unfold Ld E9;rw [dw hi,wrap_succ i (by omega)];refine dG.bif (fun _=>?_) fun _=>hk _ (by omega);rw [fK (by simp only [List.length_singleton];omega),Option.bind_some];exact hk _ (by simp;omega)
 unfold Ld;rw [dO,qK _ (by omega)];exact .ret (Nat.le_trans (lJ _) (by omega))
end Go.Proofs.YtolgdkhlelfpoaaGreat
end
section
namespace Go.Proofs.YtolgdkhlelfpoaaGreat
open Go.RowKit
theorem avX : jG gX:=⟨Nat.zero_le _,Nat.zero_le _,Nat.zero_le _,Nat.zero_le _,Nat.zero_le _,Nat.zero_le _,Nat.zero_le _,Nat.zero_le _,Nat.zero_le _,Nat.zero_le _,Nat.zero_le _,Nat.zero_le _,fun _ h=>absurd h List.not_mem_nil,fun _ h=>absurd h List.not_mem_nil,fun _ h=>absurd h List.not_mem_nil⟩
theorem ahi {l : List ah} (hs : gK l) (id : Int) : jG (sV l id).1:=by
 unfold sV;cases h : kE l id with
 | none=>exact avX
 | some e=>exact hs e (yx h)
theorem am5 (k : fO) (e : ah) : ∃ b,nK k e = some b:=by
 unfold nK;cases (e.Kind == k.OX) <;> exact ⟨_,rfl⟩
theorem aoY (ks : List fO) (x : ah) (h : ks.length ≤ 100) : dG (Hf ks x) (fun n=>n < 0 ∨ ∃ i : Nat,n = i ∧ i < ks.length):=by
 unfold Hf QL;refine lu ks.length (fuel_lt (by omega)) (fun _=>True) trivial (fun i k hi _ hk=>?_) fun k _=>?_
 · unfold H6;obtain ⟨b,hb⟩:=am5 ks[i] x;rw [dw hi];show dG ((nK ks[i] x).bind _) _;rw [hb,Option.bind_some,wrap_succ i (by omega)];exact dG.bif (fun _=>.ret (.inr ⟨i,rfl,hi⟩)) fun _=>hk trivial
 unfold H6;rw [dO];exact .ret (.inl (by decide))
theorem aqR (l : List ah) (e : ah) (hl : l.length ≤ 100) (he : jG e) : dG (Ej l e) (fun _=>True):=by
 have h1:=he.auth;unfold Ej TF;refine ru e.fB.length (fuel_lt (by omega)) (fun i a=>a.length ≤ i) (Nat.le_refl _) (fun i a k hi ha hk=>?_) fun a k ha=>?_
 · unfold Dp;rw [dw hi,jv l _ (by omega),Option.bind_some,wrap_succ i (by omega)];refine dG.bif (fun _=>.ret trivial) fun _=>?_;rw [fK (by simp only [List.length_singleton];omega),Option.bind_some];exact hk _ (by simp;omega)
 unfold Dp;rw [dO];unfold TD;refine lu a.length (fuel_lt (by omega)) (fun _=>True) trivial (fun i k2 hi _ hk=>?_) fun k2 _=>?_
 · unfold Dn;rw [dw hi,wrap_succ i (by omega)];exact dG.bif (fun _=>.ret trivial) fun _=>hk trivial
 unfold Dn;rw [dO,TR,Option.bind_some];have hk5:=xq e;unfold TB;refine Iq (body:=Dl a) (Q:=fun _=>True) (fun n b ks x=>∃ i : Nat,x = i ∧ i + n = a.length ∧ ks.length ≤ 5) ?_ fuel a.length (e.Kind == 1) ((keysOf e).map Zk) 0 (fuel_lt (by omega)) ⟨0,rfl,by omega,by rw [List.length_map];exact hk5⟩;rintro n b ks x k3 ⟨i,rfl,hn,hks⟩ hk3;unfold Dl;by_cases hi : i < a.length
 · rw [dw hi];refine (aoY ks a[i] (by omega)).bind fun p hp=>dG.bif (fun _=>.ret trivial) fun hneg=>?_
   obtain ⟨j,rfl,hj⟩ : ∃ j : Nat,p = j ∧ j < ks.length:=by
    rcases hp with h | h
    · simp at hneg;omega
    exact h
   have s1 : FM ks 0 (j : Int) = some ((ks.drop 0).take (j - 0)):=ZM (lo:=0) (Nat.zero_le _) (by omega);have s2 : FM ks (IntKind.i64.wrap ((j : Int) + 1)) (ks.length : Int) = some ((ks.drop (j + 1)).take (ks.length - (j + 1))):=by rw [wrap_succ j (by omega)];exact ZM (by omega) (Nat.le_refl _)
   rw [s1,Option.bind_some,s2,Option.bind_some];have hlen : ((ks.drop 0).take (j - 0) ++ (ks.drop (j + 1)).take (ks.length - (j + 1))).length ≤ 5:=by simp;omega
   rw [fK (by rw [List.length_append] at hlen;omega),Option.bind_some];have hb : ∃ r,(bif b then some true else (aX a (i : Int)).bind fun x28=>some (x28.Kind == 1)) = some r:=by rw [fA hi];cases b <;> exact ⟨_,rfl⟩
   obtain ⟨r,hr⟩:=hb;rw [hr,Option.bind_some];exact hk3 (n - 1) _ _ _ (by omega) ⟨i + 1,wrap_succ i (by omega),by omega,hlen⟩
 have : i = a.length:=by omega
 subst this;rw [dO];exact dG.bif (fun _=>.ret trivial) fun _=>.ret trivial
theorem am6 (l : List ah) (s : List au) (hl : l.length ≤ 100) (hs : gK l) (h : s.length ≤ 100) : dG (Dq l s) (fun r=>r.length ≤ 1000 ∧ gK r):=by
 unfold Dq BK;rw [Option.bind_some];unfold Nk;refine Zd (body:=Em s) (Q:=fun r=>r.length ≤ 1000 ∧ gK r) (fun n a b c _ _=>∃ i : Nat,b = i ∧ i + n = s.length ∧ c = l ∧ a.length ≤ i ∧ gK a) ?_ fuel s.length [] 0 l [] [] (fuel_lt (by omega)) ⟨0,rfl,by omega,rfl,Nat.le_refl _,fun _ h=>absurd h List.not_mem_nil⟩;rintro n a b c d f k ⟨i,rfl,hn,rfl,ha,hA⟩ hk;unfold Em;by_cases hi : i < s.length
 · rw [dw hi,jv c _ (by omega),Option.bind_some,wrap_succ i (by omega)];refine dG.bif (fun _=>?_) fun _=>hk (n - 1) _ _ _ _ _ (by omega) ⟨i + 1,rfl,by omega,rfl,by omega,hA⟩;rw [fK (by simp only [List.length_singleton];omega),Option.bind_some];refine hk (n - 1) _ _ _ _ _ (by omega) ⟨i + 1,rfl,by omega,rfl,by simp;omega,fun x hx=>?_⟩;rcases List.mem_append.1 hx with h | h
   · exact hA x h
   rw [List.mem_singleton.1 h];exact ahi hs _
 have : i = s.length:=by omega
 subst this;rw [dO];exact .ret ⟨by omega,hA⟩
theorem ak3 (m1 m2 : List (Int × List au)) (m3 : List (Int × Int)) (l : List ah) (e : ah) (s : List au) (hl : l.length ≤ 100) (hs : gK l) (he : jG e) (h : s.length ≤ 100) : dG (uU m1 m2 m3 l e s) (fun _=>True):=by
 have h1:=he.auth;unfold uU;refine (aqR l e hl he).bind fun x1 _=>dG.bif (fun _=>.ret trivial) fun _=>?_;rw [TS l e (by omega) (by omega),Option.bind_some,JW e _ (Nat.le_trans (XQ l e) (by omega)) (hs.from e) he,Option.bind_some];refine dG.bif (fun _=>.ret trivial) fun _=>?_;unfold FH;refine lu e.fB.length (fuel_lt (by omega)) (fun _=>True) trivial (fun i k hi _ hk=>?_) fun k _=>?_
 · unfold wW;rw [dw hi,wrap_succ i (by omega)];exact dG.bif (fun _=>.ret trivial) fun _=>hk trivial
 unfold wW;rw [dO];refine (am6 l s hl hs h).bind fun r hr=>?_;rw [JW e r hr.1 hr.2 he];exact .ret trivial
def Zt (l : List ah) (m : List (Int × List au)) : Prop:=∀ id,mG l ((dD m id).getD [])
theorem Zt.set {l : List ah} {m : List (Int × List au)} (h : Zt l m) {s : List au} (hp : mG l s) (id : Int) : Zt l (eY m id s):=fun id'=>by
 rw [xU];cases id' == id with
 | true=>exact hp
 | false=>exact h id'
theorem atm (m1 m2 : List (Int × List au)) (m3 : List (Int × Int)) (l : List ah) (e : ah) (hl : l.length ≤ 100) (hs : gK l) (he : jG e) (hk : xY e.Kind = true → gG l e.Id = true ∧ ev l e.Id = e) (hm : Zt l m2) :
 dG (Bh m1 m2 m3 l e) (fun r=>Zt l r.2.1):=by
 have h1:=he.prev;unfold Bh Ky;refine ru e.gy.length (fuel_lt (by omega)) (fun i a=>a.length = i ∧ ∀ s ∈ a,mG l s) ⟨rfl,fun _ h=>absurd h List.not_mem_nil⟩ (fun i a k hi ha hk=>?_) fun a k ha=>?_
 · unfold CQ;rw [dw hi,fK (by simp only [List.length_singleton];omega),Option.bind_some,wrap_succ i (by omega)];refine hk _ ⟨by simp;omega,fun s hx=>?_⟩;rcases List.mem_append.1 hx with h | h
   · exact ha.2 s h
   rw [List.mem_singleton.1 h];exact hm _
 unfold CQ;have ho : Eu l a:=mG.okay hl hs (by omega) ha.2;have hp : mG l (Zq l a):=mG.resolve ho ha.2;have hpl:=hp.length;rw [dO,Ns ho,Option.bind_some];refine (ak3 m1 m2 m3 l e _ hl hs he (by omega)).bind fun x8 _=>?_;have three : ∀ (c d f : Bool) {R : Type} (g : Bool → Option R),((bif c then some d else some false).bind fun x9=>(bif x9 then some f else some false).bind g) = g (c && (d && f)):=fun c d f R g=>by cases c <;> cases d <;> rfl
 rw [three];refine dG.bif (fun hb=>?_) fun _=>.ret (hm.set hp _);simp only [Bool.and_eq_true] at hb;have hst : xY e.Kind = true:=by unfold xY;rw [hb.2.1,hb.2.2];rfl
 obtain ⟨k1,k2⟩:=hk hst;rw [oh _ _ _ _ (by omega),Option.bind_some];exact .ret ((hm.set hp _).set (hp.set k1 k2 hst) _)
theorem aoZ {l : List ah} {id : Int} (h : xY (sV l id).1.Kind = true) : gG l (sV l id).1.Id = true ∧ ev l (sV l id).1.Id = (sV l id).1:=by
 unfold sV at h ⊢;cases hg : kE l id with
 | none=>rw [hg] at h;exact absurd h (by decide)
 | some e=>
   have hi:=agw hg;show gG l e.Id = true ∧ ev l e.Id = e;rw [hi];refine ⟨by unfold gG;rw [hg];rfl,by unfold ev sV;rw [hg]⟩
theorem atn (l : List ah) (hl : l.length ≤ 100) (hs : gK l) (hc : dG (yt l) (fun _=>True)) : dG (Ph l) (fun o=>∀ t,o = some t → Zt l t.2.1):=by
 unfold Ph;refine hc.bind fun c _=>?_;refine dG.bind (P:=fun _=>True) (dG.bif (fun _=>.ret trivial) fun _=>(am4 l hl hs).bind fun _ _=>.ret trivial) fun b _=>dG.bif (fun _=>.ret fun t h=>by cases h) fun _=>?_;refine (aoW l hl).bind fun ids avY=>?_;unfold XJ;refine ahc (body:=NS ids l) (Q:=fun o=>∀ t,o = some t → Zt l t.2.1) (fun n a _ c _=>∃ i : Nat,a = i ∧ i + n = ids.length ∧ Zt l c) ?_ fuel ids.length 0 [] [] [] (fuel_lt (by omega)) ⟨0,rfl,by omega,fun _=>.nil l⟩;rintro n a b c d k ⟨i,rfl,hn,hm⟩ hk;unfold NS;by_cases hi : i < ids.length
 · rw [dw hi,jv l _ (by omega),Option.bind_some];refine (atm b c d l _ hl hs (ahi hs _) aoZ hm).bind fun r hr=>?_;exact hk (n - 1) _ _ _ _ (by omega) ⟨i + 1,wrap_succ i (by omega),by omega,hr⟩
 have : i = ids.length:=by omega
 subst this;rw [dO];exact .ret fun t h=>by cases h;exact hm
theorem ak4 (l : List ah) (hl : l.length ≤ 100) (hs : gK l) (hc : dG (yt l) (fun _=>True)) : dG (Fa l) (mG l):=by
 unfold Fa;refine (atn l hl hs hc).bind fun o ho=>?_;cases o with
 | none=>exact .ret (.nil l)
 | some t=>
   have hm:=ho t rfl;show dG ((pq t.1 t.2.1 t.2.2 l).bind _) _;refine (aqQ l hl _ _ _).bind fun ids avY=>(aoX l ids hl hs avY).bind fun hd hhd=>?_;unfold OB;refine ru hd.length (fuel_lt (by omega)) (fun i a=>a.length = i ∧ ∀ s ∈ a,mG l s) ⟨rfl,fun _ h=>absurd h List.not_mem_nil⟩ (fun i a k hi ha hk=>?_) fun a k ha=>?_
   · unfold Gf;rw [dw hi,fK (by simp only [List.length_singleton];omega),Option.bind_some,wrap_succ i (by omega)];refine hk _ ⟨by simp;omega,fun s hx=>?_⟩;rcases List.mem_append.1 hx with h | h
     · exact ha.2 s h
     rw [List.mem_singleton.1 h];exact hm _
   unfold Gf;have ho : Eu l a:=mG.okay hl hs (by omega) ha.2;rw [dO,Ns ho];exact .ret (mG.resolve ho ha.2)
theorem ato (l : List ah) (hl : l.length ≤ 100) (hs : gK l) (hc : dG (yt l) (fun _=>True)) : ∃ a,Bj l = some a:=by
 suffices h : dG (Bj l) (fun _=>True) by obtain ⟨a,h,_⟩:=h;exact ⟨a,h⟩
 unfold Bj;refine (ak4 l hl hs hc).bind fun s h=>?_;have hlen:=h.length;rw [Du s 8 s0 (by omega) h.sorted,Option.bind_some];refine dG.bif (fun _=>.ret trivial) fun _=>?_;rw [jv l _ (by omega)];exact .ret trivial
end Go.Proofs.YtolgdkhlelfpoaaGreat
end
section
namespace Go.Proofs.YtolgdkhlelfpoaaGreat
def zig (n : Int) : Int:=if n < 0 then bits .xor .u64 IntKind.u64.max (IntKind.u64.wrap (IntKind.u64.wrap n * 2)) else IntKind.u64.wrap (IntKind.u64.wrap n * 2)
theorem aeZ (n : Int) : 0 ≤ zig n ∧ zig n < 18446744073709551616:=by
 unfold zig;have h2 : ∀ x : Int,0 ≤ IntKind.u64.wrap x ∧ IntKind.u64.wrap x < 18446744073709551616:=fun x=>by rw [IntKind.wrap_u64];omega
 split
 · obtain ⟨g1,g2⟩:=h2 (IntKind.u64.wrap n * 2);generalize IntKind.u64.wrap (IntKind.u64.wrap n * 2) = y at *;obtain ⟨k,rfl⟩:=Int.eq_ofNat_of_zero_le g1;have : (IntKind.u64.max : Int) = ((18446744073709551615 : Nat) : Int):=by decide
   rw [this,bits_xor_u64_nat _ _ (by omega) (by omega)];have : 18446744073709551615 ^^^ k < 2 ^ 64:=Nat.xor_lt_two_pow (by omega) (by omega);constructor
   · exact Int.natCast_nonneg _
   have h64 : (2 : Nat) ^ 64 = 18446744073709551616:=by decide
   omega
 exact h2 _
def N8 (u : Nat) : List Int:=if u < 128 then [(u : Int)] else ((u % 128 + 128 : Nat) : Int) :: N8 (u / 128)
termination_by u
decreasing_by omega
theorem Pv {u : Nat} (h : u < 128) : N8 u = [(u : Int)]:=by rw [N8,if_pos h]
theorem ae0 {u : Nat} (h : ¬ u < 128) : N8 u = ((u % 128 + 128 : Nat) : Int) :: N8 (u / 128):=by rw [N8,if_neg h]
theorem abo : ∀ (j u : Nat),u < 128 ^ (j + 1) → (N8 u).length ≤ j + 1
 | 0,u,h=>by rw [Pv (by simpa using h)];simp
 | j + 1,u,h=>by
   by_cases hu : u < 128
   · rw [Pv hu];simp
   rw [ae0 hu]
   have : u / 128 < 128 ^ (j + 1):=by
    rw [Nat.div_lt_iff_lt_mul (by omega)];rw [Nat.pow_succ] at h;exact h
   have:=abo j (u / 128) this;simp;omega
def enc (n : Int) : List Int:=N8 (zig n).toNat
theorem Fz (n : Int) : (enc n).length ≤ 10:=by
 have h:=(aeZ n).2;refine abo 9 _ ?_;have : (128 : Nat) ^ 10 = 1180591620717411303424:=by decide
 rw [this];have:=(aeZ n).1;omega
theorem axb (k : Nat) : bits .or .u8 ((k : Int) % 256) 128 = ((k % 128 + 128 : Nat) : Int):=by
 have h:=u8_or_nat (k % 256) 128 (by omega) (by omega);rw [show ((k : Int) % 256) = ((k % 256 : Nat) : Int) from by omega];have e128 : (128 : Int) = ((128 : Nat) : Int):=rfl;rw [e128,h];congr 1;have key : ∀ x,x < 256 → x ||| 128 = x % 128 + 128:=by decide +kernel
 rw [key _ (by omega)];omega
end Go.Proofs.YtolgdkhlelfpoaaGreat
end
section
namespace Go.Proofs.YtolgdkhlelfpoaaGreat
open Go.RowKit
theorem am7 (op : BinOp) (k : IntKind) (x y : Int) (h : op = .and ∨ op = .or ∨ op = .xor) : jc op k x y = bits op k x y:=by
 rcases h with rfl | rfl | rfl <;> rfl
theorem Rz {α : Type} {b : Nat} {l m : List α} (hb : b ≤ 100) (h : (l ++ m).length ≤ 1099511627776) : gZ b l m = some (l ++ m):=by
 refine fK ?_;rw [List.length_append] at h;have : (l.length + m.length) * b ≤ 1099511627776 * 100:=Nat.mul_le_mul h hb;omega
theorem avZ (u : Nat) : jc .or .u8 (IntKind.u8.wrap (u : Int)) 128 = ((u % 128 + 128 : Nat) : Int):=by
 rw [am7 _ _ _ _ (.inr (.inl rfl)),show IntKind.u8.wrap (u : Int) = (u : Int) % 256 from by rw [IntKind.wrap_u8],axb]
theorem axT (u : Nat) : RX .shr .u64 (u : Int) 7 = some ((u / 128 : Nat) : Int):=by
 unfold RX;rw [if_neg (by omega)];show some ((u : Int).fdiv (2 ^ 7)) = _;rw [Int.fdiv_eq_ediv_of_nonneg _ (by decide)];congr 1
theorem av1 {u n : Nat} (h : u < 128 ^ (n + 1 + 1)) : u / 128 < 128 ^ (n + 1):=by
 rw [Nat.div_lt_iff_lt_mul (by omega)];rw [Nat.pow_succ] at h;exact h
theorem aqS : ∀ (n u : Nat),u < 128 ^ (n + 1) → ∀ m b,n < m → (b ++ N8 u).length ≤ 1099511627776 → bg l9 m b (u : Int) = some (b ++ N8 u):=by
 intro n
 induction n with
 | zero=>
   intro u hu m b hm hc;obtain ⟨m,rfl⟩ : ∃ m',m = m' + 1:=⟨m - 1,by omega⟩
   have h : u < 128:=by simpa using hu
   rw [Pv h] at hc ⊢;show l9 (bg l9 m) b (u : Int) = _;simp only [l9,show decide ((u : Int) ≥ 128) = false from by simp;omega,cond_false];rw [show IntKind.u8.wrap (u : Int) = (u : Int) from by rw [IntKind.wrap_u8];omega,Rz (by omega) hc];rfl
 | succ n ih=>
   intro u hu m b hm hc;obtain ⟨m,rfl⟩ : ∃ m',m = m' + 1:=⟨m - 1,by omega⟩
   show l9 (bg l9 m) b (u : Int) = _;by_cases h : u < 128
   · rw [Pv h] at hc ⊢;simp only [l9,show decide ((u : Int) ≥ 128) = false from by simp;omega,cond_false];rw [show IntKind.u8.wrap (u : Int) = (u : Int) from by rw [IntKind.wrap_u8];omega,Rz (by omega) hc];rfl
   rw [ae0 h] at hc ⊢;have e : (b ++ ((u % 128 + 128 : Nat) : Int) :: N8 (u / 128)) = (b ++ [((u % 128 + 128 : Nat) : Int)]) ++ N8 (u / 128):=by simp
   have hc1 : (b ++ [((u % 128 + 128 : Nat) : Int)]).length ≤ 1099511627776:=by simp only [List.length_append,List.length_cons,List.length_nil] at hc ⊢;omega
   simp only [l9,show decide ((u : Int) ≥ 128) = true from by simp;omega,cond_true,avZ,Rz (show 1 ≤ 100 by omega) hc1,axT,Option.bind_some];rw [e];exact ih (u / 128) (av1 hu) m _ (by omega) (by rw [← e];exact hc)
theorem axU (x : Int) : RX .shl .u64 x 1 = some (IntKind.u64.wrap (x * 2)):=rfl
theorem axc (x : Int) : aiu .u64 x = bits .xor .u64 IntKind.u64.max x:=rfl
theorem atp (n : Int) : (zig n).toNat < 128 ^ (9 + 1):=by
 have hz:=aeZ n;have : (128 : Nat) ^ (9 + 1) = 1180591620717411303424:=by decide
 rw [this];omega
theorem ao0 : 9 < fuel:=by have : fuel = 9223372036854775808:=rfl;omega
theorem number_eq {b : List Int} {n : Int} (h : (b ++ enc n).length ≤ 1099511627776) : sN b n = some (b ++ enc n):=by
 have hz:=aeZ n
 have hL : SK b (zig n) = some (b ++ enc n):=by
  have:=aqS 9 (zig n).toNat (atp n) fuel b ao0 h
  rwa [Int.toNat_of_nonneg hz.1] at this
 unfold sN;rw [axU,Option.bind_some];unfold Dc;unfold zig at hL;by_cases hn : n < 0
 · rw [if_pos hn] at hL;rw [show decide (n < 0) = true by simpa using hn,cond_true,axc];exact hL
 rw [if_neg hn] at hL;rw [show decide (n < 0) = false by simpa using hn,cond_false];exact hL
theorem V6 {b : List Int} {m : Nat} (h : b.length + m ≤ 1099511627776) : xB b (m : Int) = some b:=by
 unfold xB;rw [BX (by omega) (by omega)];unfold pF;rw [if_pos ⟨by omega,by omega,by omega⟩];simp [gCopy]
theorem aif {a b : List Int} (h : (a ++ b).length ≤ 1099511627776) : a.length ≤ 1099511627776:=by rw [List.length_append] at h;omega
def encS (s : ByteArray) : List Int:=enc s.size ++ aZ s
theorem text_eq {b : List Int} {s : ByteArray} (h : (b ++ encS s).length ≤ 1099511627776) : IX b s = some (b ++ encS s):=by
 unfold encS at h ⊢;rw [← List.append_assoc] at h ⊢;unfold IX;rw [number_eq (aif h),Option.bind_some,Rz (by omega) h];rfl
theorem ao1 {b : List Int} {n : Int} (h : b.length + 10 ≤ 1099511627776) : kP b n = some (b ++ enc n):=by
 have:=Fz n;unfold kP;rw [show (10 : Int) = ((10 : Nat) : Int) from rfl,V6 (by omega),Option.bind_some,number_eq (by rw [List.length_append];omega)];rfl
theorem U1 (s : ByteArray) : (encS s).length ≤ s.size + 10:=by
 have:=Fz s.size;unfold encS;rw [List.length_append,dR];omega
theorem am8 {b : List Int} {s : ByteArray} (h : b.length + s.size + 10 ≤ 1099511627776) : qG b s = some (b ++ encS s):=by
 have:=U1 s;unfold qG;rw [BX (by omega) (by omega),show (s.size : Int) + 10 = ((s.size + 10 : Nat) : Int) by omega,V6 (by omega),Option.bind_some,text_eq (by rw [List.length_append];omega)];rfl
theorem am9 {b : List Int} {is : Bool} (h : b.length + 10 ≤ 1099511627776) : wZ b is = some (b ++ [bif is then 1 else 0]):=by
 unfold wZ;rw [show (1 : Int) = ((1 : Nat) : Int) from rfl,V6 (by omega),Option.bind_some];cases is <;> simp only [cond_true,cond_false] <;> rw [Rz (by omega) (by rw [List.length_append];simp;omega)] <;> rfl
theorem ajU {α : Type} {body : (List Int → Int → Option (List Int)) → List Int → Int → Option (List Int)} (l : List α) (hl : l.length < fuel) (g : α → List Int)
 (hb : ∀ k b (i : Nat) (h : i < l.length),(b ++ g l[i]).length ≤ 1099511627776 → body k b (i : Int) = k (b ++ g l[i]) (IntKind.i64.wrap ((i : Int) + 1))) (he : ∀ k b,body k b (l.length : Int) = some b) (b : List Int) (hc : (b ++ l.flatMap g).length ≤ 1099511627776) :
 bg body fuel b 0 = some (b ++ l.flatMap g):=by
 have hf : fuel = 9223372036854775808:=rfl
 have key : ∀ n (i : Nat) b,i + n = l.length → (b ++ (l.drop i).flatMap g).length ≤ 1099511627776 → ∀ m,n < m → bg body m b (i : Int) = some (b ++ (l.drop i).flatMap g):=by
  intro n
  induction n with
  | zero=>
    intro i b hi hc m hm;obtain ⟨m,rfl⟩ : ∃ m',m = m' + 1:=⟨m - 1,by omega⟩
    have : i = l.length:=by omega
    subst this;show body (bg body m) _ _ = _;rw [he,List.drop_length];simp
  | succ n ih=>
    intro i b hi hc m hm;obtain ⟨m,rfl⟩ : ∃ m',m = m' + 1:=⟨m - 1,by omega⟩
    have hlt : i < l.length:=by omega
    rw [List.drop_eq_getElem_cons hlt,List.flatMap_cons,← List.append_assoc] at hc ⊢;show body (bg body m) _ _ = _;rw [hb _ _ i hlt (aif hc),wrap_succ i (by omega)];exact ih (i + 1) _ (by omega) hc m (by omega)
 exact key l.length 0 b (by omega) hc fuel hl
def aac (l : List Int) : List Int:=enc l.length ++ l.flatMap enc
def aad (l : List ByteArray) : List Int:=enc l.length ++ l.flatMap encS
theorem ak5 {b : List Int} {l : List Int} (h : (b ++ aac l).length ≤ 1099511627776) (hl : l.length ≤ 1000) : nY b l = some (b ++ aac l):=by
 have hf : fuel = 9223372036854775808:=rfl;unfold aac at h ⊢;rw [← List.append_assoc] at h ⊢;unfold nY;rw [number_eq (aif h),Option.bind_some];unfold xG;refine ajU l (by omega) enc (fun k b i hi hc=>?_) (fun k b=>?_) _ h
 · simp only [qp,dec_lt hi,cond_true,fA hi,number_eq hc,Option.bind_some]
 simp only [qp,lg,cond_false]
theorem agO {b : List Int} {l : List ByteArray} (h : (b ++ aad l).length ≤ 1099511627776) (hl : l.length ≤ 1000) : nI b l = some (b ++ aad l):=by
 have hf : fuel = 9223372036854775808:=rfl;unfold aad at h ⊢;rw [← List.append_assoc] at h ⊢;unfold nI;rw [number_eq (aif h),Option.bind_some];unfold wO;refine ajU l (by omega) encS (fun k b i hi hc=>?_) (fun k b=>?_) _ h
 · simp only [pJ,dec_lt hi,cond_true,fA hi,text_eq hc,Option.bind_some]
 simp only [pJ,lg,cond_false]
theorem Xw {α : Type} {g : α → List Int} {m : Nat} : ∀ {l : List α},(∀ x ∈ l,(g x).length ≤ m) → (l.flatMap g).length ≤ l.length * m
 | [],_=>by simp
 | x :: l,h=>by
   rw [List.flatMap_cons,List.length_append,List.length_cons,Nat.succ_mul];have:=h x List.mem_cons_self;have:=Xw (l:=l) (fun y hy=>h y (List.mem_cons_of_mem _ hy));omega
theorem Zu (l : List Int) : (aac l).length ≤ l.length * 10 + 10:=by
 have h1:=Fz l.length;have h2:=Xw (g:=enc) (m:=10) (l:=l) (fun x _=>Fz x);unfold aac;rw [List.length_append];omega
theorem Zv {l : List ByteArray} {m : Nat} (h : ∀ s ∈ l,s.size ≤ m) : (aad l).length ≤ l.length * (m + 10) + 10:=by
 have h1:=Fz l.length;have h2:=Xw (g:=encS) (m:=m + 10) (l:=l) (fun s hs=>by have:=U1 s;have:=h s hs;omega);unfold aad;rw [List.length_append];omega
theorem ana {b : List Int} {l : List Int} (hb : b.length + 20000 ≤ 1099511627776) (hl : l.length ≤ 1000) : BG b l = some (b ++ aac l):=by
 have h1:=Zu l;unfold BG;rw [BX (x:=2 * (l.length : Int)) (by omega) (by omega),BX (by omega) (by omega),show 2 * (l.length : Int) + 10 = ((2 * l.length + 10 : Nat) : Int) by omega,V6 (by omega),Option.bind_some,ak5 (by rw [List.length_append];omega) hl];rfl
theorem ak6 {b : List Int} {l : List ByteArray} (hb : b.length + 3000000 ≤ 1099511627776) (hl : l.length ≤ 1000) (hs : ∀ s ∈ l,s.size ≤ 2000) : vG b l = some (b ++ aad l):=by
 have h1:=Zv hs;unfold vG;rw [BX (x:=8 * (l.length : Int)) (by omega) (by omega),BX (by omega) (by omega),show 8 * (l.length : Int) + 10 = ((8 * l.length + 10 : Nat) : Int) by omega,V6 (by omega),Option.bind_some,agO (by rw [List.length_append];omega) hl];rfl
end Go.Proofs.YtolgdkhlelfpoaaGreat
end
section
namespace Go.Proofs.YtolgdkhlelfpoaaGreat
open Go.RowKit
section
variable {b : List Int} {k : Nat}
theorem JX (h : b.length ≤ k) (hk : k ≤ 1000000000) (n : Int) : dG (kP b n) (fun r=>r.length ≤ k + 10):=by
 have:=Fz n;rw [ao1 (by omega)];exact .ret (by rw [List.length_append];omega)
theorem ao2 (h : b.length ≤ k) (hk : k ≤ 1000000000) (is : Bool) : dG (wZ b is) (fun r=>r.length ≤ k + 10):=by
 rw [am9 (by omega)];exact .ret (by rw [List.length_append];simp;omega)
theorem ae1 (h : b.length ≤ k) (hk : k ≤ 1000000000) {s : ByteArray} (m : Nat) (hs : s.size ≤ m) (hm : m ≤ 1000000000) : dG (qG b s) (fun r=>r.length ≤ k + m + 10):=by
 have:=U1 s;rw [am8 (by omega)];exact .ret (by rw [List.length_append];omega)
theorem atq (h : b.length ≤ k) (hk : k ≤ 1000000000) {l : List Int} (hl : l.length ≤ 100) : dG (BG b l) (fun r=>r.length ≤ k + 1010):=by
 have:=Zu l;rw [ana (by omega) (by omega)];exact .ret (by rw [List.length_append];omega)
theorem alJ (h : b.length ≤ k) (hk : k ≤ 1000000000) {l : List ByteArray} (hl : l.length ≤ 100) (hs : ∀ s ∈ l,s.size ≤ 2000) : dG (vG b l) (fun r=>r.length ≤ k + 300000):=by
 have:=Zv hs;rw [ak6 (by omega) (by omega) hs];exact .ret (by rw [List.length_append];omega)
end
theorem ak7 (c : aP) (ht : c.Text.size ≤ 2000) (hv : c.Via.size ≤ 2000) (ha : c.Allow.length ≤ 100) (hd : c.kT.length ≤ 100) (hu : c.Levels.Users.length ≤ 100) (hk : c.Levels.Kinds.length ≤ 100) (has : ∀ x ∈ c.Allow,x.size ≤ 2000) (hds : ∀ x ∈ c.kT,x.size ≤ 2000) (hns : ∀ x ∈ c.Levels.Users,x.User.size ≤ 2000) :
 dG (vH c) (fun r=>r.length ≤ 1000000):=by
 unfold vH
 refine (ae1 (b:= []) (k:=0) (Nat.le_refl _) (by omega) 2000 ht (by omega)).bind fun b1 h1=>(JX h1 (by omega) _).bind fun b2 h2=>(JX h2 (by omega) _).bind fun b3 h3=>(ao2 h3 (by omega) _).bind fun b4 h4=>(ae1 h4 (by omega) 2000 hv (by omega)).bind fun b5 h5=>
  (alJ h5 (by omega) ha has).bind fun b6 h6=>(alJ h6 (by omega) hd hds).bind fun b7 h7=>(JX h7 (by omega) _).bind fun b8 h8=>?_
 have h8 : b8.length ≤ 610000:=by omega
 unfold Oc;refine ru c.Levels.Users.length (fuel_lt (by omega)) (fun i a=>a.length ≤ 610000 + i * 2020) (by omega) (fun i a k hi hI hk2=>?_) fun a k hI=>?_
 · unfold FQ;rw [dw hi,wrap_succ i (by omega)];refine (ae1 hI (by omega) 2000 (hns _ (List.getElem_mem hi)) (by omega)).bind fun x hx=>(JX hx (by omega) _).bind fun y hy=>hk2 y (by omega)
 unfold FQ;rw [dO];refine (JX hI (by omega) _).bind fun x hx=>?_;have hx : x.length ≤ 815000:=by omega
 unfold Ob;refine ru c.Levels.Kinds.length (fuel_lt (by omega)) (fun i a=>a.length ≤ 815000 + i * 20) (by omega) (fun i a k hi hI hk2=>?_) fun a k hI=>?_
 · unfold FP;rw [dw hi,wrap_succ i (by omega)];refine (JX hI (by omega) _).bind fun x hx=>(JX hx (by omega) _).bind fun y hy=>hk2 y (by omega)
 unfold FP;rw [dO];have h0 : a.length ≤ 820000:=by omega
 unfold Oa;refine ru 7 (fuel_lt (by omega)) (fun i a=>a.length ≤ 820000 + i * 10) (by omega) (fun i a k hi hI hk2=>?_) fun a k hI=>?_
 · unfold FN;have hx : ∃ y,aX ([c.Levels.User,c.Levels.Message,c.Levels.State,c.Levels.iU,c.Levels.lH,c.Levels.pK,c.Levels.jq] : List Int) (i : Int) = some y:=⟨_,fA (l:= [c.Levels.User,c.Levels.Message,c.Levels.State,c.Levels.iU,c.Levels.lH,c.Levels.pK,c.Levels.jq]) hi⟩
   obtain ⟨y,hy⟩:=hx;rw [show decide ((i : Int) < 7) = true from by simp;omega,cond_true,hy,Option.bind_some,wrap_succ i (by omega)];exact (JX hI (by omega) _).bind fun x hx=>hk2 x (by omega)
 unfold FN;exact .ret (show a.length ≤ 1000000 by omega)
theorem jG.encodes {e : ah} (h : jG e) : dG (vH e.Content) (fun r=>r.length ≤ 1000000):=ak7 _ h.text h.via h.allow h.deny h.users h.kinds h.allows h.denies h.names
theorem alK (b : List Int) (h : b.length ≤ 100000000) : dG (Qh b) (fun _=>True):=by
 unfold Qh WV;rw [Option.bind_some];refine dG.bind (P:=fun _=>True) ?_ fun _ _=>.ret trivial;unfold YN YM;refine ru b.length (fuel_lt (by omega)) (fun _ _=>True) trivial (fun i a k hi _ hk=>?_) fun a k _=>?_
 · unfold Qg;rw [dw hi,wrap_succ i (by omega)];exact hk _ trivial
 unfold Qg;rw [dO];exact .ret trivial
theorem aqT {e : ah} (h : jG e) : dG (O1 e) (fun _=>True):=by
 unfold O1;exact h.encodes.bind fun b hb=>(alK b (by omega)).bind fun _ _=>.ret trivial
theorem ao3 {e : ah} (h : jG e) : dG (LW e) (fun _=>True):=by
 unfold LW;exact (aqT h).bind fun _ _=>.ret trivial
theorem aae {α : Type} {body : (Int → bG → Option bG) → Int → bG → Option bG} (l : List α) (hl : l.length ≤ 100) (c k : Nat) (f : bG → α → Option bG)
 (hf : ∀ w x (n : Nat),x ∈ l → n ≤ k + c * 100 → w.b_.length ≤ n → dG (f w x) (fun r=>r.b_.length ≤ n + c))
 (hb : ∀ k (i : Nat) w (h : i < l.length),body k (i : Int) w = (f w l[i]).bind fun x=>k (IntKind.i64.wrap ((i : Int) + 1)) x) (he : ∀ k w,body k (l.length : Int) w = some w)
 (w : bG) (hw : w.b_.length ≤ k) : dG (bg body fuel 0 w) (fun r=>r.b_.length ≤ k + c * l.length):=by
 refine uZ (body:=body) (Q:=fun r=>r.b_.length ≤ k + c * l.length) (fun n a v=>∃ i : Nat,a = i ∧ i + n = l.length ∧ v.b_.length ≤ k + c * i) ?_ fuel l.length 0 w (fuel_lt (by omega)) ⟨0,rfl,by omega,by omega⟩;rintro n a v kk ⟨i,rfl,hn,hv⟩ hk;by_cases hi : i < l.length
 · rw [hb kk i v hi];have : c * i ≤ c * 100:=Nat.mul_le_mul (Nat.le_refl _) (by omega);refine (hf v l[i] _ (List.getElem_mem hi) (by omega) hv).bind fun x hx=>?_;exact hk (n - 1) _ _ (by omega) ⟨i + 1,wrap_succ i (by omega),by omega,by rw [Nat.mul_succ];omega⟩
 have : i = l.length:=by omega
 subst this;rw [he];exact .ret hv
theorem wI (w : bG) (l : List Int) (k : Nat) (hl : l.length ≤ 2) (hk : k ≤ 100000000) (hw : w.b_.length ≤ k) : dG (gU w l) (fun r=>r.b_.length ≤ k + 20):=by
 unfold gU sO;refine (aae l (by omega) 10 k wJ (fun v x n _ hn hv=>?_) (fun kk i v h=>?_) (fun kk v=>?_) w hw).mono fun r hr=>?_
 · unfold wJ;exact (JX hv (by omega) x).bind fun y hy=>.ret hy
 · unfold mZ;rw [dw h]
 · unfold mZ;rw [dO]
 have : 10 * l.length ≤ 10 * 2:=Nat.mul_le_mul (Nat.le_refl _) hl;omega
theorem wIs (w : bG) (l : List (List Int)) (k : Nat) (hl : l.length ≤ 2) (hs : ∀ x ∈ l,x.length ≤ 100) (hk : k ≤ 100000000) (hw : w.b_.length ≤ k) : dG (kL w l) (fun r=>r.b_.length ≤ k + 2020):=by
 unfold kL rU;refine (aae l (by omega) 1010 k uP (fun v x n hx hn hv=>?_) (fun kk i v h=>?_) (fun kk v=>?_) w hw).mono fun r hr=>?_
 · unfold uP;exact (atq hv (by omega) (hs x hx)).bind fun y hy=>.ret hy
 · unfold mM;rw [dw h]
 · unfold mM;rw [dO]
 have : 1010 * l.length ≤ 1010 * 2:=Nat.mul_le_mul (Nat.le_refl _) hl;omega
theorem wB (w : bG) (l : List Bool) (k : Nat) (hl : l.length ≤ 2) (hk : k ≤ 100000000) (hw : w.b_.length ≤ k) : dG (lF w l) (fun r=>r.b_.length ≤ k + 20):=by
 unfold lF tK;refine (aae l (by omega) 10 k yJ (fun v x n _ hn hv=>?_) (fun kk i v h=>?_) (fun kk v=>?_) w hw).mono fun r hr=>?_
 · unfold yJ;exact (ao2 hv (by omega) x).bind fun y hy=>.ret hy
 · unfold nJ;rw [dw h]
 · unfold nJ;rw [dO]
 have : 10 * l.length ≤ 10 * 2:=Nat.mul_le_mul (Nat.le_refl _) hl;omega
theorem wS (w : bG) (l : List ByteArray) (k : Nat) (hl : l.length ≤ 2) (hs : ∀ x ∈ l,x.size ≤ 1000000) (hk : k ≤ 100000000) (hw : w.b_.length ≤ k) : dG (iE w l) (fun r=>r.b_.length ≤ k + 2000020):=by
 unfold iE rQ;refine (aae l (by omega) 1000010 k yI (fun v x n hx hn hv=>?_) (fun kk i v h=>?_) (fun kk v=>?_) w hw).mono fun r hr=>?_
 · unfold yI;exact (ae1 hv (by omega) 1000000 (hs x hx) (by omega)).bind fun y hy=>.ret (by simp only;omega)
 · unfold mJ;rw [dw h]
 · unfold mJ;rw [dO]
 have : 1000010 * l.length ≤ 1000010 * 2:=Nat.mul_le_mul (Nat.le_refl _) hl;omega
theorem aqU (l : List Int) : (Yr l).size = l.length:=by
 have key : ∀ (l : List Int) (r : ByteArray),(l.foldl (fun r n=>r.push (UInt8.ofNat n.toNat)) r).size = r.size + l.length:=by
  intro l
  induction l with
  | nil=>intro r;rfl
  | cons x l ih=>intro r;rw [List.foldl_cons,ih,ByteArray.size_push,List.length_cons];omega
 unfold Yr;rw [key];simp
theorem anb {e : ah} (h : jG e) : dG (I4 e) (fun r=>r.length ≤ 100000000):=by
 have h1:=h.room;have h2:=h.sender;have h3:=h.key;have h4:=h.server;have h5:=h.prev;have h6:=h.auth;unfold I4
 refine (wI II _ 0 (by simp) (by omega) (Nat.le_refl _)).bind fun x1 q1=>(wS x1 _ _ (by simp) (fun x hx=>?_) (by omega) q1).bind fun x2 q2=>(wI x2 _ _ (by simp) (by omega) q2).bind fun x3 q3=>(wB x3 _ _ (by simp) (by omega) q3).bind fun x4 q4=>
  (wS x4 _ _ (by simp) (fun x hx=>?_) (by omega) q4).bind fun x5 q5=>(wI x5 _ _ (by simp) (by omega) q5).bind fun x6 q6=>(wIs x6 _ _ (by simp) (fun x hx=>?_) (by omega) q6).bind fun x7 q7=>h.encodes.bind fun x8 q8=>(wS x7 _ _ (by simp) (fun x hx=>?_) (by omega) q7).bind fun x9 q9=>
  (wI x9 _ _ (by simp) (by omega) q9).bind fun x10 q10=>(wS x10 _ _ (by simp) (fun x hx=>?_) (by omega) q10).bind fun x11 q11=>(wI x11 _ _ (by simp) (by omega) q11).bind fun x12 q12=>.ret (by omega)
 · simp only [List.mem_cons,List.not_mem_nil,or_false] at hx;rcases hx with rfl | rfl <;> omega
 · simp only [List.mem_cons,List.not_mem_nil,or_false] at hx;subst hx;omega
 · simp only [List.mem_cons,List.not_mem_nil,or_false] at hx;rcases hx with rfl | rfl <;> omega
 · simp only [List.mem_cons,List.not_mem_nil,or_false] at hx;subst hx;rw [aqU];omega
 simp only [List.mem_cons,List.not_mem_nil,or_false] at hx;subst hx;omega
end Go.Proofs.YtolgdkhlelfpoaaGreat
end
section
namespace Go.Proofs.YtolgdkhlelfpoaaGreat
open Go.RowKit
abbrev Ends {α : Type} (o : Option α) : Prop:=dG o (fun _=>True)
theorem Ends.ret {α : Type} (x : α) : Ends (some x):=dG.ret trivial
theorem Ends.bind {α β : Type} {o : Option α} {f : α → Option β} (h : Ends o) (k : ∀ x,Ends (f x)) : Ends (o.bind f):=dG.bind h fun x _=>k x
theorem Ends.bif {α : Type} {b : Bool} {x y : Option α} (h1 : Ends x) (h2 : Ends y) : Ends (bif b then x else y):=dG.bif (fun _=>h1) fun _=>h2
theorem gI {α : Type} {b c d : Bool} {f : Bool → Option α} (h : ∀ x,Ends (f x)) : Ends ((bif b then some c else some d).bind f):=Ends.bind (.bif (.ret _) (.ret _)) h
theorem alL {s : ByteArray} {i : Nat} (h : i < s.size) : ∃ y,lK s (i : Int) = some y:=⟨_,Ia (by rw [dR];exact h)⟩
theorem ao4 {s : ByteArray} (hs : s.size ≤ 9223372036854775807) : Ends (Qn s):=by
 unfold Qn zi;rw [acV hs (marks:=ah7) (by rw [show aZ ah7 = [33] from rfl];intro m hm;simp only [List.mem_cons,List.not_mem_nil,or_false] at hm;omega),Option.bind_some];exact Ends.bind (.bif (.ret _) (.ret _)) fun _=>.ret _
theorem ae2 {s : ByteArray} (hs : s.size ≤ 9223372036854775807) : Ends (Hl s):=by
 unfold Hl zi;rw [acV hs (marks:=ah8) (by rw [show aZ ah8 = [64] from rfl];intro m hm;simp only [List.mem_cons,List.not_mem_nil,or_false] at hm;omega),Option.bind_some];exact Ends.bind (.bif (.ret _) (.ret _)) fun _=>.ret _
theorem ao5 {s : ByteArray} (hs : s.size ≤ 2000) : Ends (I8 s):=by
 unfold I8;refine .bif (.ret _) (.bif (.ret _) ?_);unfold XD;refine lu s.size (fuel_lt (by omega)) (fun _=>True) trivial (fun i k hi _ hk=>?_) fun k _=>?_
 · unfold Nz;obtain ⟨y,hy⟩:=alL hi;rw [dec_lt hi,cond_true,hy,Option.bind_some,Option.bind_some,wrap_succ i (by omega)];exact gI fun x=>.bif (.ret _) (hk trivial)
 unfold Nz;rw [lg,cond_false];exact Ends.ret _
theorem ae3 {l : List ByteArray} (hl : l.length ≤ 100) (hs : ∀ x ∈ l,x.size ≤ 2000) : Ends (vY l):=by
 unfold vY;refine .bif (.ret _) ?_;unfold Kr;refine lu l.length (fuel_lt (by omega)) (fun _=>True) trivial (fun i k hi _ hk=>?_) fun k _=>?_
 · unfold CJ;rw [dw hi,wrap_succ i (by omega)];exact (ao5 (hs _ (List.getElem_mem hi))).bind fun x=>.bif (.ret _) (hk trivial)
 unfold CJ;rw [dO];exact Ends.ret _
theorem ajV (n : Int) : Ends (zy n):=by
 unfold zy;exact gI fun _=>.ret _
theorem V7 {α : Type} {l : List α} {i : Nat} (hi : i < l.length) (h1 : i ≤ 1000000) (h : decide ((i : Int) > 0) = true) : ∃ y,aX l (IntKind.i64.wrap ((i : Int) - 1)) = some y:=by
 have:=of_decide_eq_true h;rw [show IntKind.i64.wrap ((i : Int) - 1) = ((i - 1 : Nat) : Int) by rw [IntKind.wrap_i64];omega];exact ⟨_,fA (by omega)⟩
theorem atr {l : List fH} (hl : l.length ≤ 100) (hs : ∀ x ∈ l,x.User.size ≤ 2000) : Ends (G6 l):=by
 unfold G6;refine .bif (.ret _) ?_;unfold Qr;refine lu l.length (fuel_lt (by omega)) (fun _=>True) trivial (fun i k hi _ hk=>?_) fun k _=>?_
 · unfold Hq;rw [dw hi];have hn:=hs _ (List.getElem_mem hi)
   have hj : ∀ b,Ends (vZ l[i] k (i : Int) b):=fun b=>by
    unfold vZ;rw [wrap_succ i (by omega)];exact .bif (.ret _) ((ajV _).bind fun _=>.bif (.ret _) (hk trivial))
   refine (ae2 (by omega)).bind fun x=>.bif (.ret _) (dG.bif (fun h=>?_) fun _=>hj _);obtain ⟨y,hy⟩:=V7 hi (by omega) h;rw [hy,Option.bind_some];exact hj _
 unfold Hq;rw [dO];exact Ends.ret _
theorem att {l : List dM} (hl : l.length ≤ 100) : Ends (G7 l):=by
 unfold G7;refine .bif (.ret _) ?_;unfold Qs;refine lu l.length (fuel_lt (by omega)) (fun _=>True) trivial (fun i k hi _ hk=>?_) fun k _=>?_
 · unfold Hr;rw [dw hi]
   have hj : ∀ b,Ends (wo l[i] k (i : Int) b):=fun b=>by
    unfold wo;rw [wrap_succ i (by omega)];exact .bif (.ret _) ((ajV _).bind fun _=>.bif (.ret _) (hk trivial))
   refine Ends.bind ?_ fun x=>.bif (.ret _) (dG.bif (fun h=>?_) fun _=>hj _)
   · unfold BJ;exact gI fun _=>.ret _
   obtain ⟨y,hy⟩:=V7 hi (by omega) h;rw [hy,Option.bind_some];exact hj _
 unfold Hr;rw [dO];exact Ends.ret _
theorem aqV {l : aV} (hu : l.Users.length ≤ 100) (hk : l.Kinds.length ≤ 100) (hs : ∀ x ∈ l.Users,x.User.size ≤ 2000) : Ends (EJ l):=by
 unfold EJ;refine (atr hu hs).bind fun _=>.bif (.ret _) ((att hk).bind fun _=>.bif (.ret _) ?_);unfold Oj;refine lu 7 (fuel_lt (by omega)) (fun _=>True) trivial (fun i k hi _ hk=>?_) fun k _=>?_
 · unfold FU;have hx : ∃ y,aX ([l.User,l.Message,l.State,l.iU,l.lH,l.pK,l.jq] : List Int) (i : Int) = some y:=⟨_,fA (l:= [l.User,l.Message,l.State,l.iU,l.lH,l.pK,l.jq]) hi⟩
   obtain ⟨y,hy⟩:=hx;rw [show decide ((i : Int) < 7) = true from by simp;omega,cond_true,hy,Option.bind_some,wrap_succ i (by omega)];exact (ajV y).bind fun _=>.bif (.ret _) (hk trivial)
 unfold FU;exact Ends.ret _
end Go.Proofs.YtolgdkhlelfpoaaGreat
end
section
namespace Go.Proofs.YtolgdkhlelfpoaaGreat
open Go.RowKit
theorem alM (k : Int) : Ends (zh k):=by
 unfold zh xF xE;have e : ∀ b,Ends (bif b then some (5 : Int) else some 0):=fun b=>.bif (.ret _) (.ret _);have j : ∀ b,Ends (bif b then some (2 : Int) else (bif (k == 6) then some 96 else (bif (k == 7) then some 1 else (bif (k == 9) then some 3 else (bif (k == 11) then some 13 else (bif (k == 12) then (bif k == 12 then some 5 else some 0) else (bif (k == 13) then (bif k == 13 then some 5 else some 0) else (bif k == 14 then some 5 else some 0)))))))):=fun b=>.bif (.ret _) (.bif (.ret _) (.bif (.ret _) (.bif (.ret _) (.bif (.ret _) (.bif (e _) (.bif (e _) (e _)))))));exact .bif (.ret _) (.bif (.ret _) (.bif (.ret _) (.bif (j _) (.bif (j _) (j _)))))
theorem ao6 (k : Int) : Ends (BD k):=by
 unfold BD rC;have j : ∀ b,Ends (bif b then (zh k).bind fun x4=>some x4 else (bif (k == 14) then some (4 : Int) else some 0)):=fun b=>.bif ((alM k).bind fun _=>.ret _) (.bif (.ret _) (.ret _));exact .bif (.ret _) (.bif (j _) (.bif (j _) (.bif (j _) (j _))))
theorem av2 (l : aV) : Ends (I7 l):=by
 unfold I7;exact gI fun _=>gI fun _=>gI fun _=>gI fun _=>gI fun _=>gI fun _=>gI fun _=>gI fun _=>.ret _
theorem arS (c : aP) : Ends (Gw c):=by
 have j7 : ∀ v,Ends (zk c v):=fun v=>by unfold zk EI;exact (av2 _).bind fun _=>.bif (.ret _) (.ret _)
 have j6 : ∀ v,Ends (zl c v):=fun v=>by unfold zl;exact .bif (j7 _) (j7 _)
 have j5 : ∀ v,Ends (zn c v):=fun v=>by unfold zn;exact .bif (j6 _) (j6 _)
 have j4 : ∀ v,Ends (zo c v):=fun v=>by unfold zo;exact .bif (j5 _) (j5 _)
 have j3 : ∀ v,Ends (zq c v):=fun v=>by unfold zq;exact .bif (j4 _) (j4 _)
 have j2 : ∀ v,Ends (zu c v):=fun v=>by unfold zu;exact .bif (j3 _) (j3 _)
 have j1 : ∀ v,Ends (zx c v):=fun v=>by unfold zx;exact .bif (j2 _) (j2 _)
 unfold Gw;exact .bif (j1 _) (j1 _)
structure FI (c : aP) : Prop where
 allow : c.Allow.length ≤ 100
 deny : c.kT.length ≤ 100
 users : c.Levels.Users.length ≤ 100
 kinds : c.Levels.Kinds.length ≤ 100
 text : c.Text.size ≤ 2000
 via : c.Via.size ≤ 2000
 allows : ∀ x ∈ c.Allow,x.size ≤ 2000
 denies : ∀ x ∈ c.kT,x.size ≤ 2000
 names : ∀ x ∈ c.Levels.Users,x.User.size ≤ 2000
theorem jG.bnd {e : ah} (h : jG e) : FI e.Content:=⟨h.allow,h.deny,h.users,h.kinds,h.text,h.via,h.allows,h.denies,h.names⟩
theorem ak8 (k : Int) {c : aP} (h : FI c) : Ends (yK k c):=by
 have j : ∀ b,Ends (qw b):=fun b=>by unfold qw;exact .bif (.ret _) (.ret _)
 unfold yK;exact gI fun _=>.bif ((ao5 h.text).bind fun _=>.ret _) (gI fun _=>.bif (.ret _) (gI fun _=>.bif (j _) (j _)))
theorem aqW (k : Int) (c : aP) : Ends (EK k c):=by
 have j : ∀ a b,Ends (nR c a b):=fun a b=>by unfold nR;exact gI fun _=>.bif (.ret _) (.ret _)
 unfold EK;exact .bif (j _ _) (.bif (j _ _) (.bif (j _ _) (.bif (gI fun _=>gI fun _=>.bif (.ret _) (.ret _)) (j _ _))))
theorem ah1 (k : Int) (c : aP) : Ends (wK k c):=by
 unfold wK;exact Ends.bind (.bif (.ret _) (gI fun _=>.ret _)) fun _=>.bif (.ret _) (.ret _)
theorem ah2 (k : Int) (c : aP) : Ends (wL k c):=by
 unfold wL;exact gI fun _=>.bif (.ret _) (.ret _)
theorem anc (k : Int) {c : aP} (h : FI c) : Ends (Az k c):=by
 have:=h.via;unfold Az;exact .bif (.ret _) (.bif (.ret _) ((ae2 (by omega)).bind fun _=>.ret _))
theorem ajW (k : Int) {c : aP} (h : FI c) : Ends (xH k c):=by
 have hl:=h.allow;unfold xH;refine .bif ((ae3 hl h.allows).bind fun _=>.ret _) (gI fun _=>.bif (.ret _) (.bif (.ret _) ?_));unfold Io;refine lu c.Allow.length (fuel_lt (by omega)) (fun _=>True) trivial (fun i k hi _ hk=>?_) fun k _=>?_
 · unfold zA;have hs:=h.allows _ (List.getElem_mem hi);rw [dw hi,wrap_succ i (by omega)];refine (ao4 (by omega)).bind fun _=>.bif (.ret _) (Ends.bind (dG.bif (fun q=>?_) fun _=>.ret trivial) fun _=>.bif (.ret _) (hk trivial));obtain ⟨y,hy⟩:=V7 hi (by omega) q;rw [hy];exact Ends.ret _
 unfold zA;rw [dO];exact Ends.ret _
theorem axd (n : Nat) (hn : n ∈ iV.map (·.adu)) (k : Int) {c : aP} (h : FI c) : Ends (oP n k c):=by
 simp only [iV,List.map_cons,List.map_nil,List.mem_cons,List.not_mem_nil,or_false] at hn;rcases hn with rfl | rfl | rfl | rfl | rfl | rfl
 · exact ak8 k h
 · exact aqW k c
 · exact ah1 k c
 · exact ah2 k c
 · exact anc k h
 exact ajW k h
theorem aqX (k : Int) {c : aP} (h : FI c) : Ends (G8 k c):=by
 unfold G8;refine (alM k).bind fun x1=>Ends.bind ?_ fun _=>Ends.bind (.bif (.ret _) ((arS c).bind fun _=>.ret _)) fun _=>.bif (.ret _) ((arS c).bind fun _=>Ends.bind (.bif ((ao6 k).bind fun _=>.ret _) (.ret _)) fun _=>.bif (.ret _) ?_)
 · unfold BJ;exact gI fun _=>.ret _
 unfold Qw;refine uZ (body:=Ht x1 k) (Q:=fun _=>True) (fun n a v=>∃ i : Nat,a = i ∧ i + n = iV.length ∧ v = c) ?_ fuel iV.length 0 c (fuel_lt (by decide)) ⟨0,rfl,by omega,rfl⟩;rintro n a v kk ⟨i,rfl,hn,rfl⟩ hk;unfold Ht;by_cases hi : i < iV.length
 · have hlen : iV.length = 6:=rfl
   have hj : Ends (wu kk (i : Int) v):=by
    unfold wu;exact hk (n - 1) _ _ (by omega) ⟨i + 1,wrap_succ i (by omega),by omega,rfl⟩
   rw [dw hi];exact Ends.bif hj (Ends.bind (axd _ (List.mem_map_of_mem (List.getElem_mem hi)) k h) fun _=>Ends.bif (Ends.ret _) hj)
 have : i = iV.length:=by omega
 subst this;rw [dO];exact Ends.bif (Ends.bind (ae3 h.deny h.denies) fun _=>Ends.ret _) (Ends.bif (Ends.bind (aqV h.users h.kinds h.names) fun _=>Ends.ret _) (Ends.ret _))
theorem aqY {s : ByteArray} (hs : s.size ≤ 2000) : Ends (EH s):=by
 unfold EH Oi;refine lu s.size (fuel_lt (by omega)) (fun _=>True) trivial (fun i k hi _ hk=>?_) fun k _=>?_
 · unfold FT;obtain ⟨y,hy⟩:=alL hi;rw [dec_lt hi,cond_true,hy,Option.bind_some,Option.bind_some,wrap_succ i (by omega)];exact gI fun x=>.bif (.ret _) (hk trivial)
 unfold FT;rw [lg,cond_false];exact gI fun _=>.ret _
theorem atu {e : ah} (h : jG e) : Ends (LY e):=by
 have h1:=h.room;have h2:=h.sender;have h3:=h.key;unfold LY;exact (ao4 (by omega)).bind fun _=>Ends.bind (.bif (.ret _) ((ae2 (by omega)).bind fun _=>.ret _)) fun _=>.bif (.ret _) (.bif ((ae2 (by omega)).bind fun _=>.ret _) (.bif ((aqY h3).bind fun _=>.ret _) (.ret _)))
theorem ahj {l : List Int} (hl : l.length ≤ 1000) : Ends (BI l):=by
 unfold BI Qo;refine lu l.length (fuel_lt (by omega)) (fun _=>True) trivial (fun i k hi _ hk=>?_) fun k _=>?_
 · unfold Ho;rw [dw hi,wrap_succ i (by omega)];refine Ends.bind (.bif (.ret _) (Ends.bind (dG.bif (fun q=>?_) fun _=>.ret trivial) fun _=>.ret _)) fun _=>.bif (.ret _) (hk trivial);obtain ⟨y,hy⟩:=V7 hi (by omega) q;rw [hy];exact Ends.ret _
 unfold Ho;rw [dO];exact Ends.ret _
theorem aqZ {e : ah} (h : jG e) : Ends (LZ e):=by
 have h1:=h.prev;have h2:=h.auth
 have j : ∀ b,Ends (oQ e b):=fun b=>by
  unfold oQ
  exact .bif (.ret _) ((atu h).bind fun _=>.bif (.ret _) (gI fun _=>gI fun _=>gI fun _=>.bif (.ret _) (gI fun _=>.bif (.ret _) ((ahj (by omega)).bind fun _=>Ends.bind (.bif (.ret _) ((ahj (by omega)).bind fun _=>.ret _)) fun _=>.bif (.ret _)
   (gI fun _=>.bif (.ret _) (gI fun _=>.bif (.ret _) ((aqX _ h.bnd).bind fun _=>.ret _)))))))
 unfold LZ;refine gI fun _=>.bif (j _) (.bif (j _) (Ends.bind ?_ fun _=>.bif (j _) (.bif (j _) (j _))));unfold uw;exact gI fun _=>.ret _
end Go.Proofs.YtolgdkhlelfpoaaGreat
end
