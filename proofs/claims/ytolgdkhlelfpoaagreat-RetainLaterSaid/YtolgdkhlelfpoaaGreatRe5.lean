/- Part 5 of what the laws' proofs lean on: states of the walk, typed functions of the program and their laws (short forms written by wip/shrink.py; no condition). -/
import Derived.Test.YtolgdkhlelfpoaaGreatRe4
set_option linter.unusedVariables false
set_option linter.unusedSimpArgs false
section
namespace Go.Proofs.YtolgdkhlelfpoaaGreat
open Go.RowKit
set_option maxRecDepth 20000
set_option maxHeartbeats 4000000
def LH (mW:Int) (EX:Int) (Cc:Bool):Option Bool:=(bif decide (mW<0)then some true else some (decide (mW>4))).bind fun x1=>(bif x1 then some false else(bif (EX==3)then(bif Cc then some (mW != 4)else some false).bind fun x5=>some x5 else(bif (EX==0)then(bif (mW==1)then some true else some (mW==2)).bind fun x8=>(bif x8 then some true else some (mW==3)).bind fun x10=>(bif x10 then some true else(bif (mW==4)then some (!Cc)else some false).bind fun x14=>some x14).bind fun x12=>some x12 else(bif (EX==2)then(bif Cc then(bif (mW==0)then some true else some (mW==2)).bind fun x19=>some x19 else some false).bind fun x17=>some x17 else(bif (EX==1)then(bif (!Cc)then(bif (mW==0)then some true else some (mW==2)).bind fun x24=>(bif x24 then some true else some (mW==1)).bind fun wL=>some wL else some false).bind fun pW=>some pW else(bif (EX==4)then some (!Cc)else some false))))))
def ak3 (dO:(List Int)) (dG:(List Int)) (v2:Int):St:=⟨bZ 26 [(0,.d ((eL eI) dO)),(1,.d ((eL eI) dG)),(5,.d (eI v2))],[],0⟩
def ak4 (dO:(List Int)) (dG:(List Int)) (k3:(Int→Option Bool)):Int→Option Bool:=fun v2=>(bif decide (v2<(dO.length:Int))then(aV dO v2).bind fun x5=>(aV dG v2).bind fun x6=>(bif (x5 != x6)then some false else k3 (IntKind.i64.wrap (v2+1)))else some true)
def ak5 (dO:(List Int)) (dG:(List Int)):Int→Option Bool:=dB (ak4 dO dG) fuel
def ac1 (dO:(List Int)) (dG:(List Int)):Option Bool:=(bif ((dO.length:Int) != (dG.length:Int))then some false else ak5 dO dG 0)
theorem aby (dO dG r) (h:ac1 dO dG=some r):Runs Tryz.prog 17 [.d ((eL eI) dO),.d ((eL eI) dG)] [] (.d (eB r)) []:=Runs.aH Tryz.func17 rfl<|SP.rg<|.aM 1<|SP.aC<|SP.rg<|.a 1<|.p (aI eI dO cO rfl)<|.a 1<|.p (aI eI dG cO rfl)<|.aM 1<|SP.cnd h (fun h=>SP.rg<|.aM 1<|by cases h;exact .ret (aG [])) fun h=>SP.skip<|SP.aC<|SP.rg<|.aM 1<|SP.block<|SP.dB (ak3 dO dG) _ _ _ (aA (mk 26 35) []) h<|fun J8 k3 hk3 v2 h=>SP.aC<|SP.rg<|.a 2<|.p (aI eI dO cO rfl)<|.aM 1<|SP.cnd h (fun h=>SP.skip<|SP.aC<|SP.block<|gy h fun x5 hx5 x6 hx6 h=>SP.qH (by kernel_rfl) (by kernel_rfl) (by kernel_rfl) (.a 2<|.p (aJ eI hx5 cO jh rfl)<|.a 3<|.p (aJ eI hx6 cO jh rfl)<|.a 2<|.nil _)<|SP.cnd h (fun h=>SP.rg<|.aM 1<|by cases h;exact .ret (aG [])) fun h=>SP.skip<|SP.bD<|.a 3<|.nil<|hk3 _ _ (aA (mk 26 35) []) h) fun h=>SP.exit<|SP.rg<|.aM 1<|by cases h;exact .ret (aG [])
def ak6 (aB:ah) (v23:Int):St:=⟨bZ 125 [(3,.ptr 0 0),(4,.d (eI v23))],[.box (dc (bW aB.Content))],0⟩
def ak7 (aB:ah) (v28:Int):St:=⟨bZ 125 [(3,.ptr 0 0),(5,.d (eI v28))],[.box (dc (bW aB.Content))],0⟩
def ak8 (aB:ah) (v33:Int):St:=⟨bZ 125 [(3,.ptr 0 0),(6,.d (eI v33))],[.box (dc (bW aB.Content))],0⟩
def U1 (aB:ah) (k34:(Int→Option Bool)):Int→Option Bool:=fun v33=>(bif decide (v33<(aB.Content.Levels.Users.length:Int))then(aV aB.Content.Levels.Users v33).bind fun V5=>(bif decide ((V5.User.size:Int)>2000)then some true else k34 (IntKind.i64.wrap (v33+1)))else some false)
def U2 (aB:ah):Int→Option Bool:=dB (U1 aB) fuel
def U3 (aB:ah) (k29:(Int→Option Bool)):Int→Option Bool:=fun v28=>(bif decide (v28<(aB.Content.lU.length:Int))then(aV aB.Content.lU v28).bind fun x31=>(bif decide ((x31.size:Int)>2000)then some true else k29 (IntKind.i64.wrap (v28+1)))else U2 aB 0)
def U4 (aB:ah):Int→Option Bool:=dB (U3 aB) fuel
def U5 (aB:ah) (k24:(Int→Option Bool)):Int→Option Bool:=fun v23=>(bif decide (v23<(aB.Content.Allow.length:Int))then(aV aB.Content.Allow v23).bind fun wL=>(bif decide ((wL.size:Int)>2000)then some true else k24 (IntKind.i64.wrap (v23+1)))else U4 aB 0)
def abz (aB:ah):Int→Option Bool:=dB (U5 aB) fuel
def XB (aB:ah):Option Bool:=(bif decide ((aB.gI.length:Int)>40)then some true else some (decide ((aB.fO.length:Int)>40))).bind fun x1=>(bif x1 then some true else some (decide ((aB.Content.Allow.length:Int)>40))).bind fun x3=>(bif x3 then some true else some (decide ((aB.Content.lU.length:Int)>40))).bind fun x5=>(bif x5 then some true else some (decide ((aB.Content.Levels.Users.length:Int)>40))).bind fun x7=>(bif x7 then some true else some (decide ((aB.Content.Levels.Kinds.length:Int)>40))).bind fun x9=>(bif x9 then some true else(bif decide ((aB.Room.size:Int)>2000)then some true else some (decide ((aB.bY.size:Int)>2000))).bind fun x12=>(bif x12 then some true else some (decide ((aB.Key.size:Int)>2000))).bind fun x14=>(bif x14 then some true else some (decide ((aB.Content.Text.size:Int)>2000))).bind fun x16=>(bif x16 then some true else some (decide ((aB.Content.Via.size:Int)>2000))).bind fun x18=>(bif x18 then some true else some (decide ((aB.DN.Server.size:Int)>2000))).bind fun mV=>(bif mV then some true else abz aB 0))
theorem ak9 (aB r) (h:XB aB=some r):Runs Tryz.prog 100 [.d (aj aB)] [] (.d (eB r)) []:=Runs.aH Tryz.func100 rfl<|SP.rg<|.aM 2<|SP.rg<|.aM 4<|SP.aC<|SP.rg<|.a 2<|.p (aI eI aB.gI cO rfl)<|.a 1<|bnd h fun x1 hx1 h=>.merge 6 [13,14,15,16,17] 18 (.d (eB x1)) (eF hx1 (fun hb2 h=>.c (congrArg some hb2)<|.aM 5<|by cases h;kernel_rfl) fun hb2 h=>.c (congrArg some hb2)<|.a 2<|.p (aI eI aB.fO cO rfl)<|.aM 2<|by cases h;kernel_rfl)<|.a 1<|bnd h fun x3 hx3 h=>.merge 5 [20,21,22,23] 24 (.d (eB x3)) (have h:=hx3;by cases x1 with |true=>exact(have h:=aW rfl h;.aM 5<|by cases h;kernel_rfl)|false=>exact(have h:=aU rfl h;.a 2<|.p (aI eS aB.Content.Allow nJ rfl)<|.aM 2<|by cases h;kernel_rfl))<|.a 1<|bnd h fun x5 hx5 h=>.merge 5 [26,27,28,29] 30 (.d (eB x5)) (have h:=hx5;by cases x3 with |true=>exact(have h:=aW rfl h;.aM 5<|by cases h;kernel_rfl)|false=>exact(have h:=aU rfl h;.a 2<|.p (aI eS aB.Content.lU nJ rfl)<|.aM 2<|by cases h;kernel_rfl))<|.a 1<|bnd h fun x7 hx7 h=>.merge 6 [32,33,34,35,36] 37 (.d (eB x7)) (have h:=hx7;by cases x5 with |true=>exact(have h:=aW rfl h;.aM 6<|by cases h;kernel_rfl)|false=>exact(have h:=aU rfl h;.a 3<|.p (aI dJ aB.Content.Levels.Users rW rfl)<|.aM 2<|by cases h;kernel_rfl))<|.a 1<|bnd h fun x9 iR h=>.merge 6 [39,40,41,42,43] 44 (.d (eB x9)) (have h:=iR;by cases x7 with |true=>exact(have h:=aW rfl h;.aM 6<|by cases h;kernel_rfl)|false=>exact(have h:=aU rfl h;.a 3<|.p (aI bg aB.Content.Levels.Kinds uI rfl)<|.aM 2<|by cases h;kernel_rfl))<|.bC<|SP.cnd h (fun h=>SP.rg<|.aM 1<|by cases h;exact .ret (aG [])) fun h=>SP.skip<|SP.aC<|SP.rg<|.a 4<|bnd h fun x12 jE h=>.merge 6 [49,50,51,52,53] 54 (.d (eB x12)) (eF jE (fun qI h=>.c (congrArg some qI)<|.aM 5<|by cases h;kernel_rfl) fun qI h=>.c (congrArg some qI)<|.aM 5<|by cases h;kernel_rfl)<|.a 1<|bnd h fun x14 lW h=>.merge 5 [56,57,58,59] 60 (.d (eB x14)) (have h:=lW;by cases x12 with |true=>exact(have h:=aW rfl h;.aM 5<|by cases h;kernel_rfl)|false=>exact(have h:=aU rfl h;.aM 5<|by cases h;kernel_rfl))<|.a 1<|bnd h fun x16 hx16 h=>.merge 5 [62,63,64,65] 66 (.d (eB x16)) (have h:=hx16;by cases x14 with |true=>exact(have h:=aW rfl h;.aM 5<|by cases h;kernel_rfl)|false=>exact(have h:=aU rfl h;.aM 5<|by cases h;kernel_rfl))<|.a 1<|bnd h fun x18 wP h=>.merge 5 [68,69,70,71] 72 (.d (eB x18)) (have h:=wP;by cases x16 with |true=>exact(have h:=aW rfl h;.aM 5<|by cases h;kernel_rfl)|false=>exact(have h:=aU rfl h;.aM 5<|by cases h;kernel_rfl))<|.a 1<|bnd h fun mV uJ h=>.merge 6 [74,75,76,77,78] 79 (.d (eB mV)) (have h:=uJ;by cases x18 with |true=>exact(have h:=aW rfl h;.aM 6<|by cases h;kernel_rfl)|false=>exact(have h:=aU rfl h;.aM 6<|by cases h;kernel_rfl))<|.bC<|SP.cnd h (fun h=>SP.rg<|.aM 1<|by cases h;exact .ret (aG [])) fun h=>SP.skip<|SP.aC<|SP.rg<|.aM 1<|SP.block<|SP.dB (ak6 aB) _ _ _ (aA (mk 125 24) [(1,true)]) h<|fun J40 k24 aq2 v23 h=>SP.aC<|SP.rg<|.a 3<|.p (aI eS aB.Content.Allow nJ rfl)<|.aM 1<|SP.cnd h (fun h=>SP.skip<|SP.aC<|SP.block<|bnd h fun wL KX h=>SP.rg<|.a 3<|.p (aJ eS KX nJ Qy rfl)<|.aM 3<|SP.cnd h (fun h=>SP.rg<|.aM 1<|by cases h;exact .ret (aG [])) fun h=>SP.skip<|SP.bD<|.a 3<|.nil<|aq2 _ _ (aA (mk 125 24) [(0,true)]) h) fun h=>SP.exit<|SP.aC<|SP.rg<|.aM 1<|SP.block<|SP.dB (ak7 aB) _ _ _ (aA (mk 125 40) [(0,true)]) h<|fun J39 k29 acG v28 h=>SP.aC<|SP.rg<|.a 3<|.p (aI eS aB.Content.lU nJ rfl)<|.aM 1<|SP.cnd h (fun h=>SP.skip<|SP.aC<|SP.block<|bnd h fun x31 hx31 h=>SP.rg<|.a 3<|.p (aJ eS hx31 nJ Qy rfl)<|.aM 3<|SP.cnd h (fun h=>SP.rg<|.aM 1<|by cases h;exact .ret (aG [])) fun h=>SP.skip<|SP.bD<|.a 3<|.nil<|acG _ _ (aA (mk 125 40) [(0,true)]) h) fun h=>SP.exit<|SP.aC<|SP.rg<|.aM 1<|SP.block<|SP.dB (ak8 aB) _ _ _ (aA (mk 125 72) [(0,true)]) h<|fun J38 k34 aq0 v33 h=>SP.aC<|SP.rg<|.a 4<|.p (aI dJ aB.Content.Levels.Users rW rfl)<|.aM 1<|SP.cnd h (fun h=>SP.skip<|SP.aC<|SP.block<|bnd h fun V5 ajK h=>SP.rg<|.a 4<|.p (aJ dJ ajK rW Po rfl)<|.aM 4<|SP.cnd h (fun h=>SP.rg<|.aM 1<|by cases h;exact .ret (aG [])) fun h=>SP.skip<|SP.bD<|.a 3<|.nil<|aq0 _ _ (aA (mk 125 72) [(0,true)]) h) fun h=>SP.exit<|SP.rg<|.aM 1<|by cases h;exact .ret (aG [])
def ajT (ak:(List ah)) (v2:Int):St:=⟨bZ 21 [(0,.d ((eL aj) ak)),(5,.d (eI v2))],[],0⟩
def Ro (ak:(List ah)) (k3:(Int→Option Bool)):Int→Option Bool:=fun v2=>(bif decide (v2<(ak.length:Int))then(aV ak v2).bind fun x5=>(XB x5).bind fun x6=>(bif x6 then some true else k3 (IntKind.i64.wrap (v2+1)))else some false)
def Zr (ak:(List ah)):Int→Option Bool:=dB (Ro ak) fuel
def NC (ak:(List ah)) (iq:Int):Option Bool:=(bif decide ((ak.length:Int)>iq)then some true else Zr ak 0)
theorem Zt (ak iq r) (h:NC ak iq=some r):Runs Tryz.prog 54 [.d ((eL aj) ak),.d (eI iq)] [] (.d (eB r)) []:=Runs.aH Tryz.func54 rfl<|SP.rg<|.aM 1<|SP.aC<|SP.rg<|.a 1<|.p (aI aj ak gG rfl)<|.aM 2<|SP.cnd h (fun h=>SP.rg<|.aM 1<|by cases h;exact .ret (aG [])) fun h=>SP.skip<|SP.aC<|SP.rg<|.aM 1<|SP.block<|SP.dB (ajT ak) _ _ _ (aA (mk 21 33) []) h<|fun J8 k3 hk3 v2 h=>SP.aC<|SP.rg<|.a 2<|.p (aI aj ak gG rfl)<|.aM 1<|SP.cnd h (fun h=>SP.skip<|SP.aC<|SP.block<|gy h fun x5 hx5 x6 hx6 h=>SP.rg<|.a 2<|.p (aJ aj hx5 gG jM rfl)<|.a 1<|.call (ak9 x5 x6 hx6) awc<|.bC<|SP.cnd h (fun h=>SP.rg<|.aM 1<|by cases h;exact .ret (aG [])) fun h=>SP.skip<|SP.bD<|.a 3<|.nil<|hk3 _ _ (aA (mk 21 33) []) h) fun h=>SP.exit<|SP.rg<|.aM 1<|by cases h;exact .ret (aG [])
def ajU (aS:cu) (v18:Int):St:=⟨bZ 100 [(2,.ptr 0 0),(5,.d (eI v18))],[.box (dc (bM aS))],0⟩
def ajV (aS:cu) (v23:Int):St:=⟨bZ 100 [(2,.ptr 0 0),(6,.d (eI v23))],[.box (dc (bM aS))],0⟩
def ajW (aS:cu) (v28:Int):St:=⟨bZ 100 [(2,.ptr 0 0),(7,.d (eI v28))],[.box (dc (bM aS))],0⟩
def Rq (aS:cu) (k29:(Int→Option Bool)):Int→Option Bool:=fun v28=>(bif decide (v28<(aS.yX.length:Int))then(aV aS.yX v28).bind fun x31=>(bif decide ((x31.User.size:Int)>2000)then some true else k29 (IntKind.i64.wrap (v28+1)))else some false)
def Rt (aS:cu):Int→Option Bool:=dB (Rq aS) fuel
def Ru (aS:cu) (k24:(Int→Option Bool)):Int→Option Bool:=fun v23=>(bif decide (v23<(aS.qW.length:Int))then(aV aS.qW v23).bind fun wL=>(bif decide ((wL.User.size:Int)>2000)then some true else k24 (IntKind.i64.wrap (v23+1)))else Rt aS 0)
def Rw (aS:cu):Int→Option Bool:=dB (Ru aS) fuel
def Rx (aS:cu) (k19:(Int→Option Bool)):Int→Option Bool:=fun v18=>(bif decide (v18<(aS.State.length:Int))then(aV aS.State v18).bind fun x21=>(bif decide ((x21.Key.size:Int)>2000)then some true else k19 (IntKind.i64.wrap (v18+1)))else Rw aS 0)
def Zu (aS:cu):Int→Option Bool:=dB (Rx aS) fuel
def ND (aS:cu) (iq:Int):Option Bool:=(NC aS.Events iq).bind fun x1=>(bif x1 then some true else(NC aS.Waiting iq).bind fun x4=>some x4).bind fun x2=>(bif x2 then some true else some (decide ((aS.Rows.length:Int)>iq))).bind fun x5=>(bif x5 then some true else some (decide ((aS.Pn.length:Int)>40))).bind fun x7=>(bif x7 then some true else some (decide ((aS.State.length:Int)>60))).bind fun x9=>(bif x9 then some true else some (decide ((aS.qW.length:Int)>40))).bind fun x11=>(bif x11 then some true else some (decide ((aS.yX.length:Int)>40))).bind fun gU=>(bif gU then some true else some (decide ((aS.Id.size:Int)>2000))).bind fun x15=>(bif x15 then some true else Zu aS 0)
theorem Zv (aS iq r) (h:ND aS iq=some r):Runs Tryz.prog 14 [.d (bM aS),.d (eI iq)] [] (.d (eB r)) []:=Runs.aH Tryz.func14 rfl<|SP.rg<|.aM 2<|SP.aC<|bnd h fun x1 hx1 h=>SP.rg<|.a 3<|.call (Zt aS.Events iq x1 hx1) ar8<|.a 1<|bnd h fun x2 hx2 h=>.merge 5 [13,14,15,16] 17 (.d (eB x2)) (have h:=hx2;by cases x1 with |true=>exact(have h:=aW rfl h;.aM 5<|by cases h;kernel_rfl)|false=>exact(have h:=aU rfl h;bnd h fun x4 hx4 h=>.a 3<|.call (Zt aS.Waiting iq x4 hx4) ar8<|.aM 1<|by cases h;kernel_rfl))<|.a 1<|bnd h fun x5 hx5 h=>.merge 6 [19,20,21,22,23] 24 (.d (eB x5)) (have h:=hx5;by cases x2 with |true=>exact(have h:=aW rfl h;.aM 6<|by cases h;kernel_rfl)|false=>exact(have h:=aU rfl h;.a 2<|.p (aI bJ aS.Rows gu rfl)<|.aM 3<|by cases h;kernel_rfl))<|.a 1<|bnd h fun x7 hx7 h=>.merge 5 [26,27,28,29] 30 (.d (eB x7)) (have h:=hx7;by cases x5 with |true=>exact(have h:=aW rfl h;.aM 5<|by cases h;kernel_rfl)|false=>exact(have h:=aU rfl h;.a 2<|.p (aI eI aS.Pn cO rfl)<|.aM 2<|by cases h;kernel_rfl))<|.a 1<|bnd h fun x9 iR h=>.merge 5 [32,33,34,35] 36 (.d (eB x9)) (have h:=iR;by cases x7 with |true=>exact(have h:=aW rfl h;.aM 5<|by cases h;kernel_rfl)|false=>exact(have h:=aU rfl h;.a 2<|.p (aI ay aS.State yG rfl)<|.aM 2<|by cases h;kernel_rfl))<|.a 1<|bnd h fun x11 gV h=>.merge 5 [38,39,40,41] 42 (.d (eB x11)) (have h:=gV;by cases x9 with |true=>exact(have h:=aW rfl h;.aM 5<|by cases h;kernel_rfl)|false=>exact(have h:=aU rfl h;.a 2<|.p (aI Cb aS.qW amP rfl)<|.aM 2<|by cases h;kernel_rfl))<|.a 1<|bnd h fun gU ni h=>.merge 5 [44,45,46,47] 48 (.d (eB gU)) (have h:=ni;by cases x11 with |true=>exact(have h:=aW rfl h;.aM 5<|by cases h;kernel_rfl)|false=>exact(have h:=aU rfl h;.a 2<|.p (aI EK aS.yX amQ rfl)<|.aM 2<|by cases h;kernel_rfl))<|.a 1<|bnd h fun x15 nM h=>.merge 5 [50,51,52,53] 54 (.d (eB x15)) (have h:=nM;by cases gU with |true=>exact(have h:=aW rfl h;.aM 5<|by cases h;kernel_rfl)|false=>exact(have h:=aU rfl h;.aM 5<|by cases h;kernel_rfl))<|.bC<|SP.cnd h (fun h=>SP.rg<|.aM 1<|by cases h;exact .ret (aG [])) fun h=>SP.skip<|SP.aC<|SP.rg<|.aM 1<|SP.block<|SP.dB (ajU aS) _ _ _ (aA (mk 100 36) [(0,true)]) h<|fun J35 k19 ace v18 h=>SP.aC<|SP.rg<|.a 3<|.p (aI ay aS.State yG rfl)<|.aM 1<|SP.cnd h (fun h=>SP.skip<|SP.aC<|SP.block<|bnd h fun x21 FZ h=>SP.rg<|.a 3<|.p (aJ ay FZ yG KT rfl)<|.aM 4<|SP.cnd h (fun h=>SP.rg<|.aM 1<|by cases h;exact .ret (aG [])) fun h=>SP.skip<|SP.bD<|.a 3<|.nil<|ace _ _ (aA (mk 100 36) [(0,true)]) h) fun h=>SP.exit<|SP.aC<|SP.rg<|.aM 1<|SP.block<|SP.dB (ajV aS) _ _ _ (aA (mk 100 68) [(0,true)]) h<|fun J34 k24 aq2 v23 h=>SP.aC<|SP.rg<|.a 3<|.p (aI Cb aS.qW amP rfl)<|.aM 1<|SP.cnd h (fun h=>SP.skip<|SP.aC<|SP.block<|bnd h fun wL KX h=>SP.rg<|.a 3<|.p (aJ Cb KX amP awd rfl)<|.aM 4<|SP.cnd h (fun h=>SP.rg<|.aM 1<|by cases h;exact .ret (aG [])) fun h=>SP.skip<|SP.bD<|.a 3<|.nil<|aq2 _ _ (aA (mk 100 68) [(0,true)]) h) fun h=>SP.exit<|SP.aC<|SP.rg<|.aM 1<|SP.block<|SP.dB (ajW aS) _ _ _ (aA (mk 100 132) [(0,true)]) h<|fun J33 k29 acG v28 h=>SP.aC<|SP.rg<|.a 3<|.p (aI EK aS.yX amQ rfl)<|.aM 1<|SP.cnd h (fun h=>SP.skip<|SP.aC<|SP.block<|bnd h fun x31 hx31 h=>SP.rg<|.a 3<|.p (aJ EK hx31 amQ awe rfl)<|.aM 4<|SP.cnd h (fun h=>SP.rg<|.aM 1<|by cases h;exact .ret (aG [])) fun h=>SP.skip<|SP.bD<|.a 3<|.nil<|acG _ _ (aA (mk 100 132) [(0,true)]) h) fun h=>SP.exit<|SP.rg<|.aM 1<|by cases h;exact .ret (aG [])
def xQ (ak:(List ah)):Option Int:=(Fq ak).bind fun x1=>(vY x1 8 s0).bind fun x2=>(bif (!x2.2)then some 0 else(kR ak x2.1).bind fun x4=>some x4.1.Content.N)
theorem X7 (ak r) (h:xQ ak=some r):Runs Tryz.prog 15 [.d ((eL aj) ak)] [] (.d (eI r)) []:=Runs.aH Tryz.func15 rfl<|SP.rg<|.aM 1<|gy h fun x1 hx1 x2 hx2 h=>SP.rg<|.a 1<|.call (abd ak x1 hx1) axh<|.call (C9 x1 8 s0 x2 hx2) aiy<|.aM 5<|SP.aC<|SP.rg<|.aM 2<|SP.cnd h (fun h=>SP.rg<|.aM 1<|by cases h;exact .ret (aG [])) fun h=>SP.skip<|bnd h fun x4 hx4 h=>SP.rg<|.a 2<|.call (jW ak x2.1 x4 hx4) Ak<|.aM 6<|SP.rg<|.aM 4<|by cases h;exact .ret (aG [])
def zQ (aB:ah):Option Bool:=(bif (aB.Kind==11)then some true else some (aB.Kind==12)).bind fun x1=>(bif x1 then some true else some (aB.Kind==13)).bind fun x3=>some x3
theorem OZ (aB r) (h:zQ aB=some r):Runs Tryz.prog 58 [.d (aj aB)] [] (.d (eB r)) []:=Runs.aH Tryz.func58 rfl<|SP.rg<|.aM 2<|SP.rg<|.a 3<|bnd h fun x1 hx1 h=>.merge 5 [6,7,8,9] 10 (.d (eB x1)) (eF hx1 (fun hb2 h=>.c (congrArg some hb2)<|.aM 4<|by cases h;kernel_rfl) fun hb2 h=>.c (congrArg some hb2)<|.aM 4<|by cases h;kernel_rfl)<|.a 1<|bnd h fun x3 hx3 h=>.merge 4 [12,13,14] 15 (.d (eB x3)) (have h:=hx3;by cases x1 with |true=>exact(have h:=aW rfl h;.aM 4<|by cases h;kernel_rfl)|false=>exact(have h:=aU rfl h;.aM 4<|by cases h;kernel_rfl))<|.aM 1<|by cases h;exact .ret (aG [])
def Ei (P9:Int) (aeN:Int) (Ws:Int):Option Bool:=(bif decide (P9≥Ws)then some false else(bif decide ((IntKind.i64.wrap (Ws-P9))<0)then some true else some (decide ((IntKind.i64.wrap (Ws-P9))>aeN))).bind fun x2=>some x2)
theorem aeO (P9 aeN Ws r) (h:Ei P9 aeN Ws=some r):Runs Tryz.prog 59 [.d (eI P9),.d (eI aeN),.d (eI Ws)] [] (.d (eB r)) []:=Runs.aH Tryz.func59 rfl<|SP.rg<|.aM 1<|SP.aC<|SP.rg<|.aM 3<|SP.cnd h (fun h=>SP.rg<|.aM 1<|by cases h;exact .ret (aG [])) fun h=>SP.skip<|SP.rg<|.aM 4<|SP.rg<|.a 2<|bnd h fun x2 hx2 h=>.merge 5 [16,17,18,19] 20 (.d (eB x2)) (eF hx2 (fun hb3 h=>.c (congrArg some hb3)<|.aM 4<|by cases h;kernel_rfl) fun hb3 h=>.c (congrArg some hb3)<|.aM 4<|by cases h;kernel_rfl)<|.aM 1<|by cases h;exact .ret (aG [])
def abe (eu:Int) (x1:Int) (aS:cu) (v3:(List Int)) (v4:Int):St:=⟨bZ 38 [(1,.d (eI eu)),(5,.d (eI x1)),(6,.aK 0),(15,.d ((eL aj) aS.Events)),(16,.d (eI (aS.Events.length:Int))),(17,.d (eI v4))],[.arr 3 1 (List.map eI v3)],0⟩
def abf (eu:Int) (x1:Int) (aS:cu) (v4:Int) (v7:(List Int)):St:=⟨bZ 38 [(1,.d (eI eu)),(5,.d (eI x1)),(6,.aK 0),(15,.d ((eL aj) aS.Events)),(16,.d (eI (aS.Events.length:Int))),(17,.d (eI v4))],[.arr 3 1 (List.map eI v7)],0⟩
def uD (k5:((List Int)→Int→Option (List Int))) (v4:Int) (v7:(List Int)):Option (List Int):=k5 v7 (IntKind.i64.wrap (v4+1))
def uF (aS:cu) (x1:Int) (eu:Int) (k5:((List Int)→Int→Option (List Int))):(List Int)→Int→Option (List Int):=fun v3 v4=>(bif decide (v4<(aS.Events.length:Int))then(aV aS.Events v4).bind fun x9=>(zQ x9).bind fun x10=>(bif x10 then(Ei x9.Time x1 eu).bind fun gU=>some gU else some false).bind fun x11=>(bif x11 then(gK 8 v3 [x9.Id]).bind fun x15=>uD k5 v4 x15 else uD k5 v4 v3)else(nO v3).bind fun x16=>some x16)
def Gn (aS:cu) (x1:Int) (eu:Int):(List Int)→Int→Option (List Int):=aY (uF aS x1 eu) fuel
def kJ (aS:cu) (eu:Int):Option (List Int):=(xQ aS.Events).bind fun x1=>(bif decide (x1≤0)then some []else Gn aS x1 eu [] 0)
theorem lT (aS eu r) (h:kJ aS eu=some r):Runs Tryz.prog 18 [.d (bM aS),.d (eI eu)] [] (.aK 0) [.arr 3 1 (List.map eI r)]:=Runs.aH Tryz.func18 rfl<|SP.rg<|.a 1<|.e [.box (dc (bM aS)),.arr 3 1 (List.map eI [])] (aP 3 1 rfl)<|.bC<|bnd h fun x1 hx1 h=>SP.rg<|.a 2<|.call (X7 aS.Events x1 hx1) ar9<|.aM 1<|SP.aC<|SP.rg<|.aM 2<|SP.cnd h (fun h=>SP.rg<|.e [.box (dc (bM aS)),.arr 3 1 (List.map eI []),.arr 3 1 (List.map eI [])] (aP 3 1 rfl)<|.bC<|by cases h;exact .ret (aG [(2,true)])) fun h=>SP.skip<|SP.rg<|.e [.box (dc (bM aS)),.arr 3 1 (List.map eI []),.arr 3 1 (List.map eI [])] (aP 3 1 rfl)<|.bC<|SP.aC<|SP.rg<|.a 2<|.p (aI aj aS.Events gG rfl)<|.aM 1<|SP.block<|SP.aY (abe eu x1 aS) _ _ _ _ (aA (mk 38 229474) [(2,true)]) h<|fun J17 k5 hk5 v3 v4 h=>SP.rg<|.aM 1<|SP.aC<|SP.cnd h (fun h=>SP.skip<|SP.join (fun s=>∃(v7:(List Int)),Sub s (abf eu x1 aS v4 v7)∧uD k5 v4 v7=some r) (by rintro s ⟨v7,hs,h⟩;exact SP.sub hs<|SP.bD<|.a 2<|.nil<|hk5 _ _ _ (aA (mk 38 229474) [(0,true)]) h)<|fun K8=>SP.block<|bnd h fun x9 iR h=>SP.rg<|.p (aJ aj iR gG jM rfl)<|.aM 3<|bnd h fun x10 iU h=>SP.rg<|.a 1<|.call (OZ x9 x10 iU) asa<|.a 1<|bnd h fun x11 gV h=>.merge 6 [24,25,26,27,28] 29 (.d (eB x11)) (have h:=gV;by cases x10 with |true=>exact(have h:=aW rfl h;bnd h fun gU ni h=>.a 4<|.call (aeO x9.Time x1 eu gU ni) axi<|.aM 1<|by cases h;kernel_rfl)|false=>exact(have h:=aU rfl h;.aM 6<|by cases h;kernel_rfl))<|.bC<|SP.cnd h (fun h=>bnd h fun x15 nM h=>SP.bD<|.a 3<|.p (fH iT zero3 [eI x9.Id] rfl)<|.e [.dead,.box (dc (aj x9)),.arr 3 1 (List.map eI x15)] (fB (k:=0) eI nM iT (by kernel_rfl) (fun _=>rfl) (by decide) rfl)<|.a 1<|.nil<|K8 _ ⟨x15,aA (mk 38 229474) [(2,true)],h⟩) fun h=>SP.skip<|K8 _ ⟨v3,aA (mk 38 229474) [(0,true)],h⟩) fun h=>SP.exit<|bnd h fun x16 hx16 h=>SP.rg<|.a 1<|.e [.arr 3 1 (List.map eI v3),.arr 3 1 (List.map eI x16)] (vK (dI:=[.aK 0]) (dK:=[.d (.sl (List.map eI v3))]) (qE v3 x16 hx16) (fun x hx=>by obtain⟨a,_,rfl⟩:=List.mem_map.1 hx;rfl) Tt ⟨⟨3,1,List.map eI v3,by kernel_rfl,rfl⟩,trivial⟩ rfl rfl)<|.aM 1<|by cases h;exact .ret (aG [(1,true)])
def GV (aB:ah):Option Bool:=(bif (aB.Kind==11)then some true else some (aB.Kind==12)).bind fun x1=>(bif x1 then some true else some (aB.Kind==13)).bind fun x3=>some x3
theorem zS (aB r) (h:GV aB=some r):Runs Tryz.prog 30 [.d (aj aB)] [] (.d (eB r)) []:=Runs.aH Tryz.func30 rfl<|SP.rg<|.aM 2<|SP.rg<|.a 3<|bnd h fun x1 hx1 h=>.merge 5 [6,7,8,9] 10 (.d (eB x1)) (eF hx1 (fun hb2 h=>.c (congrArg some hb2)<|.aM 4<|by cases h;kernel_rfl) fun hb2 h=>.c (congrArg some hb2)<|.aM 4<|by cases h;kernel_rfl)<|.a 1<|bnd h fun x3 hx3 h=>.merge 4 [12,13,14] 15 (.d (eB x3)) (have h:=hx3;by cases x1 with |true=>exact(have h:=aW rfl h;.aM 4<|by cases h;kernel_rfl)|false=>exact(have h:=aU rfl h;.aM 4<|by cases h;kernel_rfl))<|.aM 1<|by cases h;exact .ret (aG [])
def ac2 (x1:(List jL)) (aS:cu) (v2:Int) (v3:(List (Int×Bool))) (v4:(List jL)):St:=⟨bZ 31 [(1,.mp 0),(2,.ptr 1 0),(4,.ptr 2 0),(5,.aK 3),(11,.d (eI (x1.length:Int))),(12,.d (eI v2))],[.map (List.map (eM (Value.int .i64) eB) v3),.box (dc (bM aS)),.box (dc (bM lV)),.arr 60 4 (List.map bJ v4)],1⟩
def ac3 (x1:(List jL)) (v2:Int) (aS:cu) (v7:(List (Int×Bool))) (v8:(List jL)):St:=⟨bZ 31 [(1,.mp 0),(2,.ptr 1 0),(4,.ptr 2 0),(5,.aK 3),(11,.d (eI (x1.length:Int))),(12,.d (eI v2))],[.map (List.map (eM (Value.int .i64) eB) v7),.box (dc (bM aS)),.box (dc (bM lV)),.arr 60 4 (List.map bJ v8)],1⟩
def wu (k5:(Int→(List (Int×Bool))→(List jL)→Option (cu×(List (Int×Bool))))) (v2:Int) (v7:(List (Int×Bool))) (v8:(List jL)):Option (cu×(List (Int×Bool))):=k5 (IntKind.i64.wrap (v2+1)) v7 v8
def oQ (x1:(List jL)) (aS:cu) (k5:(Int→(List (Int×Bool))→(List jL)→Option (cu×(List (Int×Bool))))):Int→(List (Int×Bool))→(List jL)→Option (cu×(List (Int×Bool))):=fun v2 v3 v4=>(bif decide (v2<(x1.length:Int))then(aV v4 v2).bind fun x10=>(bif (dD v3 x10.Id).getD false then(aV v4 v2).bind fun x12=>wu k5 v2 v3 (v4.set (v2).toNat ({ x12 with Gone:=true }))else wu k5 v2 v3 v4)else some ({ aS with Rows:=v4 },[]))
def Ry (x1:(List jL)) (aS:cu):Int→(List (Int×Bool))→(List jL)→Option (cu×(List (Int×Bool))):=sS (oQ x1 aS) fuel
def uj (aS:cu) (bP:(List (Int×Bool))):Option (cu×(List (Int×Bool))):=(gK 32 [] aS.Rows).bind fun x1=>Ry x1 aS 0 bP x1
theorem Rz (aS bP r) (h:uj aS bP=some r):Runs Tryz.prog 66 [.d (bM aS),.mp 0] [.map (List.map (eM (Value.int .i64) eB) bP)] (.d (bM r.1)) [.map (List.map (eM (Value.int .i64) eB) r.2)]:=Runs.aH Tryz.func66 rfl<|SP.rg<|.aM 2<|bnd h fun x1 hx1 h=>SP.rg<|.a 2<|.e [.map (List.map (eM (Value.int .i64) eB) bP),.box (dc (bM aS)),.box (dc (bM lV)),.dead,.arr 60 4 (List.map bJ x1)] (Ql 60 4 (fB (k:=_) bJ hx1 awf (by kernel_rfl) (fun _=>rfl) (by decide) rfl))<|.aM 1<|SP.aC<|SP.rg<|.a 1<|.p (vg (k:=4) (e':=60) (s:=4) bJ x1 (by kernel_rfl) gu rfl)<|.aM 1<|SP.block<|SP.sS (ac2 x1 aS) _ _ _ _ _ (aA (mk 31 6198) [(0,true),(1,true),(2,true),(4,true)]) h<|fun J13 k5 hk5 v2 v3 v4 h=>SP.rg<|.aM 1<|SP.aC<|SP.cnd h (fun h=>SP.skip<|SP.join (fun s=>∃(v7:(List (Int×Bool))) (v8:(List jL)),Sub s (ac3 x1 v2 aS v7 v8)∧wu k5 v2 v7 v8=some r) (by rintro s ⟨v7,v8,hs,h⟩;exact SP.sub hs<|SP.bD<|.a 2<|.nil<|hk5 _ _ _ _ (aA (mk 31 6198) [(0,true),(1,true),(2,true),(3,true)]) h)<|fun K9=>SP.block<|SP.rg<|.aM 2<|bnd h fun x10 iU h=>SP.rg<|.a 3<|.p (sQ (e':=60) (kd:=.i64) bJ iU (k:=3) (by kernel_rfl) gu ji rfl)<|.a 1<|.p (x:=.d (eI x10.Id)) (oD (e:=60) (size:=4) (k:=3) (i:=(v2).toNat) (off:=1) bJ (by kernel_rfl) (by kernel_rfl) (jP iU).2 jh (Nat.le_of_ble_eq_true (by kernel_rfl)) (fun _=>rfl) rfl)<|.p (x:=.d (eB ((dD v3 x10.Id).getD false))) (Io (k:=0) (key:=x10.Id) (m:=v3) eB false DU pR aau (by kernel_rfl) (by kernel_rfl) (by kernel_rfl) rfl)<|.bC<|SP.cnd h (fun h=>bnd h fun x12 jE h=>SP.bD<|.a 2<|.p (sQ (e':=60) (kd:=.i64) bJ jE (k:=3) (by kernel_rfl) gu ji rfl)<|.a 1<|.e [.map (List.map (eM (Value.int .i64) eB) v3),.box (dc (bM aS)),.box (dc (bM lV)),.arr 60 4 (List.map bJ (v4.set (v2).toNat ({ x12 with Gone:=true })))] (G7 (e:=60) (size:=4) (v:=.d (eB true)) (k:=3) (i:=(v2).toNat) (off:=3) (a':=({ x12 with Gone:=true })) bJ (by kernel_rfl) (jP jE).2 (by kernel_rfl) (ty4).size (by kernel_rfl) (Nat.le_of_ble_eq_true (by kernel_rfl)) (by kernel_rfl) (fun _=>rfl) rfl)<|.nil<|K9 _ ⟨v3,(v4.set (v2).toNat ({ x12 with Gone:=true })),aA (mk 31 6198) [(0,true),(1,true),(2,true),(3,true)],h⟩) fun h=>SP.skip<|K9 _ ⟨v3,v4,aA (mk 31 6198) [(0,true),(1,true),(2,true),(3,true)],h⟩) fun h=>SP.exit<|SP.rg<|.aM 3<|SP.rg<|.a 1<|.e [.map (List.map (eM (Value.int .i64) eB) []),.box (setAt (dc (bM aS)) 2 [.aK 3]),.box (dc (bM lV)),.arr 60 4 (List.map bJ v4)] (ahm (k:=0) (es0:=List.map (eM (Value.int .i64) eB) v3) DU (by kernel_rfl) rfl)<|.bC<|SP.rg<|.conv _ (akO (e:=60) (s:=4) 3 1 (xs:=List.map bJ v4) (cs:=setAt (dc (bM aS)) 2 [.aK 3]) (by kernel_rfl) (by kernel_rfl) (by kernel_rfl))<|.aM 2<|SP.ret<|by rw[←bG h];exact⟨[.d (bM ({ aS with Rows:=v4 }))],[(0,true)],⟨⟨2,dc (bM ({ aS with Rows:=v4 })),true,9,by kernel_rfl,by kernel_rfl,by kernel_rfl,amR,Nat.le_of_ble_eq_true (by kernel_rfl),(by intro hh;cases hh),by kernel_rfl⟩,trivial⟩,by kernel_rfl,by kernel_rfl,by kernel_rfl⟩
def aeP (iD:ByteArray) (aS:cu) (v1:Int) (v2:(List (Int×Bool))):St:=⟨bZ 44 [(1,.d (eS iD)),(2,.ptr 0 0),(4,.ptr 1 0),(5,.mp 2),(12,.d ((eL bJ) aS.Rows)),(13,.d (eI (aS.Rows.length:Int))),(14,.d (eI v1))],[.box (dc (bM aS)),.box (dc (bM lV)),.map (List.map (eM (Value.int .i64) eB) v2)],0⟩
def aeQ (iD:ByteArray) (aS:cu) (v1:Int) (v5:(List (Int×Bool))):St:=⟨bZ 44 [(1,.d (eS iD)),(2,.ptr 0 0),(4,.ptr 1 0),(5,.mp 2),(12,.d ((eL bJ) aS.Rows)),(13,.d (eI (aS.Rows.length:Int))),(14,.d (eI v1))],[.box (dc (bM aS)),.box (dc (bM lV)),.map (List.map (eM (Value.int .i64) eB) v5)],0⟩
def Dn (k3:(Int→(List (Int×Bool))→Option cu)) (v1:Int) (v5:(List (Int×Bool))):Option cu:=k3 (IntKind.i64.wrap (v1+1)) v5
def JJ (aS:cu) (iD:ByteArray) (k3:(Int→(List (Int×Bool))→Option cu)):Int→(List (Int×Bool))→Option cu:=fun v1 v2=>(bif decide (v1<(aS.Rows.length:Int))then(aV aS.Rows v1).bind fun x7=>(kR aS.Events x7.Id).bind fun x8=>(bif x8.2 then(zQ x8.1).bind fun x11=>some x11 else some false).bind fun x9=>(bif x9 then some (x8.1.bY.toList==iD.toList)else some false).bind fun x12=>(bif x12 then Dn k3 v1 (fE v2 x7.Id true)else Dn k3 v1 v2)else(uj aS v2).bind fun x15=>some x15.1)
def Uf (aS:cu) (iD:ByteArray):Int→(List (Int×Bool))→Option cu:=aY (JJ aS iD) fuel
def Ej (aS:cu) (iD:ByteArray):Option cu:=Uf aS iD 0 []
theorem Ug (aS iD r) (h:Ej aS iD=some r):Runs Tryz.prog 22 [.d (bM aS),.d (eS iD)] [] (.d (bM r)) []:=Runs.aH Tryz.func22 rfl<|SP.rg<|.aM 2<|SP.rg<|.e (x:=.mp 2) [.box (dc (bM aS)),.box (dc (bM lV)),.map (List.map (eM (Value.int .i64) eB) [])] (EH rfl)<|.aM 1<|SP.aC<|SP.rg<|.a 2<|.p (aI bJ aS.Rows gu rfl)<|.aM 1<|SP.block<|SP.aY (aeP iD aS) _ _ _ _ (aA (mk 44 28726) [(0,true),(1,true),(2,true)]) h<|fun J16 k3 hk3 v1 v2 h=>SP.rg<|.aM 1<|SP.aC<|SP.cnd h (fun h=>SP.skip<|SP.join (fun s=>∃(v5:(List (Int×Bool))),Sub s (aeQ iD aS v1 v5)∧Dn k3 v1 v5=some r) (by rintro s ⟨v5,hs,h⟩;exact SP.sub hs<|SP.bD<|.a 2<|.nil<|hk3 _ _ _ (aA (mk 44 28726) [(0,true),(1,true),(2,true)]) h)<|fun K6=>SP.block<|bnd h fun x7 hx7 h=>SP.rg<|.p (aJ bJ hx7 gu ji rfl)<|.aM 3<|bnd h fun x8 jO h=>SP.rg<|.a 4<|.call (jW aS.Events x7.Id x8 jO) Ak<|.aM 6<|SP.rg<|.a 1<|bnd h fun x9 iR h=>.merge 4 [27,28,29] 30 (.d (eB x9)) (eF iR (fun oH h=>bnd h fun x11 gV h=>.c (congrArg some oH)<|.a 1<|.call (OZ x8.1 x11 gV) asa<|.aM 1<|by cases h;kernel_rfl) fun oH h=>.c (congrArg some oH)<|.aM 3<|by cases h;kernel_rfl)<|.a 1<|bnd h fun x12 jE h=>.merge 5 [32,33,34,35] 36 (.d (eB x12)) (have h:=jE;by cases x9 with |true=>exact(have h:=aW rfl h;.aM 5<|by cases h;kernel_rfl)|false=>exact(have h:=aU rfl h;.aM 5<|by cases h;kernel_rfl))<|.bC<|SP.cnd h (fun h=>SP.bD<|.a 3<|.e [.box (dc (bM aS)),.box (dc (bM lV)),.map (List.map (eM (Value.int .i64) eB) (fE v2 x7.Id true)),.box (dc (bJ x7)),.box (dc (aj x8.1))] (KQ (k:=2) (key:=x7.Id) (val:=true) (m:=v2) eB DU pR (by kernel_rfl) rfl)<|.nil<|K6 _ ⟨(fE v2 x7.Id true),aA (mk 44 28726) [(0,true),(1,true),(2,true)],h⟩) fun h=>SP.skip<|K6 _ ⟨v2,aA (mk 44 28726) [(0,true),(1,true),(2,true)],h⟩) fun h=>SP.exit<|bnd h fun x15 nM h=>SP.rg<|.a 2<|.e (x:=.d (bM x15.1)) [.box (dc (bM aS)),.box (dc (bM lV)),.map (List.map (eM (Value.int .i64) eB) x15.2)] (eU [.ent 2] (dI:=[.d (bM aS),.mp 2]) (dK:=[.d (bM aS),.mp 0]) (res':=.d (bM x15.1)) (Rz aS v2 x15 nM) asb (by kernel_rfl) (cZ (by kernel_rfl)<|trivial) ⟨.inl rfl,⟨0,rfl,rfl⟩,trivial⟩ rfl (by kernel_rfl) rfl)<|.aM 1<|SP.ret<|by rw[←bG h];exact⟨[.d (bM x15.1)],[],⟨⟨1,dc (bM x15.1),true,9,by kernel_rfl,by kernel_rfl,by kernel_rfl,amR,Nat.le_of_ble_eq_true (by kernel_rfl),(by intro hh;cases hh),by kernel_rfl⟩,trivial⟩,by kernel_rfl,by kernel_rfl,by kernel_rfl⟩
def agM (aS:cu) (v1:(List Int)) (v2:Int):St:=⟨bZ 23 [(3,.aK 0),(7,.d ((eL bJ) aS.Rows)),(8,.d (eI (aS.Rows.length:Int))),(9,.d (eI v2))],[.arr 3 1 (List.map eI v1)],0⟩
def agN (aS:cu) (v2:Int) (v5:(List Int)):St:=⟨bZ 23 [(3,.aK 0),(7,.d ((eL bJ) aS.Rows)),(8,.d (eI (aS.Rows.length:Int))),(9,.d (eI v2))],[.arr 3 1 (List.map eI v5)],0⟩
def LJ (k3:((List Int)→Int→Option (List Int))) (v2:Int) (v5:(List Int)):Option (List Int):=k3 v5 (IntKind.i64.wrap (v2+1))
def agO (aS:cu) (k3:((List Int)→Int→Option (List Int))):(List Int)→Int→Option (List Int):=fun v1 v2=>(bif decide (v2<(aS.Rows.length:Int))then(aV aS.Rows v2).bind fun x7=>(bif (!x7.Gone)then(gK 8 v1 [x7.Id]).bind fun x9=>LJ k3 v2 x9 else LJ k3 v2 v1)else some v1)
def agP (aS:cu):(List Int)→Int→Option (List Int):=aY (agO aS) fuel
def MV (aS:cu):Option (List Int):=agP aS [] 0
theorem LK (aS r) (h:MV aS=some r):Runs Tryz.prog 24 [.d (bM aS)] [] (.aK 0) [.arr 3 1 (List.map eI r)]:=Runs.aH Tryz.func24 rfl<|SP.rg<|.a 1<|.e [.box (dc (bM aS)),.arr 3 1 (List.map eI [])] (aP 3 1 rfl)<|.bC<|SP.rg<|.e [.box (dc (bM aS)),.arr 3 1 (List.map eI []),.arr 3 1 (List.map eI [])] (aP 3 1 rfl)<|.bC<|SP.aC<|SP.rg<|.a 2<|.p (aI bJ aS.Rows gu rfl)<|.aM 1<|SP.block<|SP.aY (agM aS) _ _ _ _ (aA (mk 23 904) [(2,true)]) h<|fun J10 k3 hk3 v1 v2 h=>SP.rg<|.aM 1<|SP.aC<|SP.cnd h (fun h=>SP.skip<|SP.join (fun s=>∃(v5:(List Int)),Sub s (agN aS v2 v5)∧LJ k3 v2 v5=some r) (by rintro s ⟨v5,hs,h⟩;exact SP.sub hs<|SP.bD<|.a 2<|.nil<|hk3 _ _ _ (aA (mk 23 904) [(0,true)]) h)<|fun K6=>SP.block<|bnd h fun x7 hx7 h=>SP.rg<|.p (aJ bJ hx7 gu ji rfl)<|.aM 3<|SP.rg<|.aM 3<|SP.cnd h (fun h=>bnd h fun x9 iR h=>SP.bD<|.a 3<|.p (fH iT zero3 [eI x7.Id] rfl)<|.e [.dead,.box (dc (bJ x7)),.arr 3 1 (List.map eI x9)] (fB (k:=0) eI iR iT (by kernel_rfl) (fun _=>rfl) (by decide) rfl)<|.a 1<|.nil<|K6 _ ⟨x9,aA (mk 23 904) [(2,true)],h⟩) fun h=>SP.skip<|K6 _ ⟨v1,aA (mk 23 904) [(0,true)],h⟩) fun h=>SP.exit<|SP.rg<|.aM 2<|by cases h;exact .ret (aG [(0,true)])
def U6 :ah:={ gB with Id:=5,bY:=Pj,Kind:=11 }
def U7 :ah:={ gB with Id:=6,bY:=Pj,Kind:=2,State:=true }
def ala :(List jL):=[(⟨0,6,0,false⟩:jL),(⟨1,5,0,true⟩:jL),(⟨2,5,0,false⟩:jL)]
def Ce :cu:={ lV with Events:=[U6,U7],Rows:=ala,Next:=3 }
def alb (v2:Bool):St:=⟨bZ 50 [(0,.d (eB v2))],[],0⟩
def su (v2:Bool):Option Bool:=some v2
def wz  :Option Bool:=(Ej Ce Pj).bind fun x1=>(MV Ce).bind fun x4=>(ac1 x4 [6,5]).bind fun x5=>(bif x5 then(MV x1).bind fun x7=>(ac1 x7 [6]).bind fun x8=>(bif x8 then(bif ((x1.Rows.length:Int)==3)then(bif (x1.Next==3)then(kJ Ce 100).bind fun x12=>(bif ((x12.length:Int)==0)then(xQ []).bind fun x14=>(bif (x14==0)then(MV lV).bind fun x16=>su ((x16.length:Int)==0)else su false)else su false)else su false)else su false)else su false)else su false)
theorem alc (h:wz=some true):Runs Tryz.prog 20 [] [] (.d (eB true)) []:=by
 refine Runs.aH Tryz.func20 rfl ?_;unfold wz at h;refine SP.rg<|.a 1<|.bC ?_;refine SP.rg<|.a 2<|.p (Vs KR Gw (by kernel_rfl) (by kernel_rfl) (Nat.le_of_ble_eq_true (by kernel_rfl)) [.d (aj U6),.d (aj U7)] [aj U6,aj U7] (by kernel_rfl) (by kernel_rfl) (by kernel_rfl) (by kernel_rfl) rfl)<|.a 3<|.p (Vs awf ajw (by kernel_rfl) (by kernel_rfl) (Nat.le_of_ble_eq_true (by kernel_rfl)) [.d (bJ (⟨0,6,0,false⟩:jL)),.d (bJ (⟨1,5,0,true⟩:jL)),.d (bJ (⟨2,5,0,false⟩:jL))] [bJ (⟨0,6,0,false⟩:jL),bJ (⟨1,5,0,true⟩:jL),bJ (⟨2,5,0,false⟩:jL)] (by kernel_rfl) (by kernel_rfl) (by kernel_rfl) (by kernel_rfl) rfl)<|.a 3<|.bC ?_;obtain⟨x1,hx1,h⟩:=ig h;refine SP.rg<|.a 1<|.call (Ug Ce Pj x1 hx1) asc<|.a 2<|.bC ?_;refine SP.join (fun s=>∃(v2:Bool),Sub s (alb v2)∧su v2=some true) ?_ ?_
 ·clear h;rintro s ⟨v2,hs,h⟩;refine SP.sub hs ?_;clear hs;unfold su at h;refine SP.ret ?_;rw[←Option.some.inj h];exact⟨[.d (eB v2)],[],⟨tV (by kernel_rfl),trivial⟩,by kernel_rfl,by kernel_rfl,by kernel_rfl⟩
 intro K3;obtain⟨x4,hx4,h⟩:=ig h;obtain⟨x5,hx5,h⟩:=ig h;refine SP.bD<|.a 1<|.call (LK Ce x4 hx4).view amS<|.p (Vs iT zero3 (by kernel_rfl) (by kernel_rfl) (Nat.le_of_ble_eq_true (by kernel_rfl)) [.d (eI 6),.d (eI 5)] [eI 6,eI 5] (by kernel_rfl) (by kernel_rfl) (by kernel_rfl) (by kernel_rfl) rfl)<|.call (aby x4 [6,5] x5 hx5) ar7<|.a 1<|?_;cases x5 with
 |true=>
  replace h:=aW rfl h;obtain⟨x7,hx7,h⟩:=ig h;obtain⟨x8,jO,h⟩:=ig h;refine .a 1<|.call (LK x1 x7 hx7).view amS<|.p (Vs iT zero3 (by kernel_rfl) (by kernel_rfl) (Nat.le_of_ble_eq_true (by kernel_rfl)) [.d (eI 6)] [eI 6] (by kernel_rfl) (by kernel_rfl) (by kernel_rfl) (by kernel_rfl) rfl)<|.call (aby x7 [6] x8 jO) ar7<|.a 2<|?_;cases x8 with
  |true=>
   replace h:=aW rfl h;refine .a 2<|.p (aI bJ x1.Rows gu rfl)<|.a 2<|?_;rcases Bool.eq_false_or_eq_true ((x1.Rows.length:Int)==3)with oH|oH
   ·replace h:=aW oH h;refine .c (congrArg some oH)<|.a 4<|?_;rcases Bool.eq_false_or_eq_true (x1.Next==3)with NV|NV
    ·replace h:=aW NV h;obtain⟨x12,jE,h⟩:=ig h;refine .c (congrArg some NV)<|.a 1<|.call (lT Ce 100 x12 jE).view Tv<|.p (aI eI x12 cO rfl)<|.a 2<|?_;rcases Bool.eq_false_or_eq_true ((x12.length:Int)==0)with qI|qI
     ·replace h:=aW qI h;obtain⟨x14,lW,h⟩:=ig h;refine .c (congrArg some qI)<|.p (x:=.d (eI x14)) (abV (dI:=[.d (.lit (.slice none 0 0))]) (dK:=[.d ((eL aj) [])]) (X7 [] x14 lW) ar9 ⟨.inr (.inr ⟨rfl,rfl⟩),trivial⟩ rfl (by kernel_rfl) rfl)<|.a 2<|?_;rcases Bool.eq_false_or_eq_true (x14==0)with NS|NS
      ·replace h:=aW NS h;obtain⟨x16,hx16,h⟩:=ig h;refine .c (congrArg some NS)<|.a 1<|.call (LK lV x16 hx16).view amS<|.p (aI eI x16 cO rfl)<|.a 3<|.nil ?_;exact K3 _ ⟨((x16.length:Int)==0),aA (mk 50 1) [],h⟩
      replace h:=aU NS h;exact absurd (Option.some.inj (show some false=some true from h)) (by decide)
     replace h:=aU qI h;exact absurd (Option.some.inj (show some false=some true from h)) (by decide)
    replace h:=aU NV h;exact absurd (Option.some.inj (show some false=some true from h)) (by decide)
   replace h:=aU oH h;exact absurd (Option.some.inj (show some false=some true from h)) (by decide)
  |false=>
   replace h:=aU rfl h;exact absurd (Option.some.inj (show some false=some true from h)) (by decide)
 |false=>
  replace h:=aU rfl h;exact absurd (Option.some.inj (show some false=some true from h)) (by decide)
theorem Zw :wz=some true:=by kernel_rfl
theorem U8 (r) (h:wz=some r):Runs Tryz.prog 20 [] [] (.d (eB r)) []:=by
 obtain rfl:=bG (h.symm.trans Zw);exact alc Zw
end Go.Proofs.YtolgdkhlelfpoaaGreat
end
section
namespace Go.Proofs.YtolgdkhlelfpoaaGreat
open Go.RowKit
theorem oO (l:List Int) (h:l.length≤1099511627776):nO l=some (iW l):=by
 unfold nO wJ iI jF;rw[eX (by simp;omega)];have h2:(G8 l).length≤1099511627776:=by rw[(uH l).length_eq];exact h
 simp[h,abZ,Qm]
theorem kX (l:List Int):(iW l).length≤l.length:=by
 rw[←Qm];exact Nat.le_trans (Lib.compact_length_le _) (by simp)
theorem X8 (a b:List Int):(xu a b).length≤a.length:=by
 unfold xu;exact Nat.le_trans (List.length_filter_le _ _) (kX a)
theorem Om (a b:List Int):(lq a b).length≤a.length+b.length:=by
 rw[Nk];exact Nat.le_trans (kX _) (by simp)
theorem ald (a b:Int):cmp_Less_int a b=some (decide (a<b)):=by
 simp[cmp_Less_int,cmp_isNaN_int]
theorem apj (l:List Int) (x:Int) (hi:Inc l) (hn:l.length≤1099511627776):dn (oN l x) (fun r=>r.2=hasB l x):=by
 unfold oN yD;refine uU (fun(m:Nat) (a b:Int)=>∃i j:Nat,a=i∧b=j∧i≤j∧j≤l.length∧m=j-i∧(∀q,(hq:q<i)→(hl:q<l.length)→l[q]<x)∧(∀q,(hq:j≤q)→(hl:q<l.length)→x≤l[q])) ?_ fuel l.length 0 (l.length:Int) (by simp[fuel];omega) ⟨0,l.length,rfl,rfl,Nat.zero_le _,Nat.le_refl _,rfl,fun q hq=>by omega,fun q hq hl=>by omega⟩;rintro m a b k ⟨i,j,rfl,rfl,hij,hj,rfl,h1,h2⟩ hk;unfold yC;refine dn.bif (fun e=>?_) fun e=>?_
 ·have hlt:i<j:=by simpa using e
  have w1:IntKind.i64.wrap ((i:Int)+(j:Int))=((i+j:Nat):Int):=by rw[IntKind.wrap_i64];omega
  have w2:IntKind.u64.wrap ((i+j:Nat):Int)=((i+j:Nat):Int):=by rw[IntKind.wrap_u64];omega
  have w3:SQ .shr .u64 ((i+j:Nat):Int) 1=some (((i+j)/2:Nat):Int):=by
   have e0:((i+j:Nat):Int).fdiv (2^(min (1:Int).toNat IntKind.u64.bits))=(((i+j)/2:Nat):Int):=by
    have :(2:Int)^(min (1:Int).toNat IntKind.u64.bits)=2:=rfl;rw[this,Int.fdiv_eq_ediv_of_nonneg _ (by omega)];omega
   unfold SQ;rw[if_neg (by omega)];exact congrArg some e0
  have w4:IntKind.i64.wrap (((i+j)/2:Nat):Int)=(((i+j)/2:Nat):Int):=by rw[IntKind.wrap_i64];omega
  have hm:(i+j)/2<l.length:=by omega
  rw[w1,w2,w3];simp only[Option.bind_some];rw[w4,fZ hm];simp only[Option.bind_some];rw[ald,wrap_succ _ (by omega)];simp only[Option.bind_some];have mono:∀p q,(hp:p<l.length)→(hq:q<l.length)→p<q→l[p]<l[q]:=fun p q hp hq hpq=>List.pairwise_iff_getElem.1 hi p q hp hq hpq;refine dn.bif (fun e2=>?_) fun e2=>?_
  ·have e3:l[(i+j)/2]<x:=by simpa using e2
   refine hk (j-((i+j)/2+1)) _ _ (by omega) ⟨(i+j)/2+1,j,rfl,rfl,by omega,hj,rfl,fun q hq hl=>?_,h2⟩;by_cases eq:q=(i+j)/2
   ·subst eq;exact e3
   have:=mono q ((i+j)/2) hl hm (by omega);omega
  have e3:¬l[(i+j)/2]<x:=by simpa using e2
  refine hk ((i+j)/2-i) _ _ (by omega) ⟨i,(i+j)/2,rfl,rfl,by omega,by omega,rfl,h1,fun q hq hl=>?_⟩;by_cases eq:q=(i+j)/2
  ·subst eq;omega
  have:=mono ((i+j)/2) q hm hl (by omega);omega
 have hlt:¬i<j:=by simpa using e
 have hij':i=j:=by omega
 subst hij';have mono:∀p q,(hp:p<l.length)→(hq:q<l.length)→p<q→l[p]<l[q]:=fun p q hp hq hpq=>List.pairwise_iff_getElem.1 hi p q hp hq hpq;by_cases hl:i<l.length
 ·rw[show decide ((i:Int)<(l.length:Int))=true by simpa using hl,fZ hl];simp only[cond_true,Option.bind_some];by_cases e3:l[i]=x
  ·have e4:(l[i]==x)=true:=by simpa using e3
   rw[e4];refine .ret ?_;exact(qj.2 (e3▸List.getElem_mem hl)).symm
  have e4:(l[i]==x)=false:=by simpa using e3
  rw[e4]
  have hno:hasB l x=false:=oJ.2 fun hm=>by
   obtain⟨q,hq,e5⟩:=List.getElem_of_mem hm;rcases Nat.lt_trichotomy q i with h5|h5|h5
   ·have:=h1 q h5 hq;omega
   ·subst h5;exact e3 e5
   have:=mono i q hl hq h5;have:=h2 i (Nat.le_refl _) hl;omega
  simp[Ba,hno,dn]
 rw[show decide ((i:Int)<(l.length:Int))=false by simpa using hl];refine .ret ?_;refine(oJ.2 fun hm=>?_).symm;obtain⟨q,hq,e4⟩:=List.getElem_of_mem hm;have:=h1 q (by omega) hq;omega
theorem ajX {l b:List Int} {i:Nat} (h:i<l.length):(l.take (i+1)).filter (fun x=>!hasB b x)=(l.take i).filter (fun x=>!hasB b x)++(if hasB b l[i]then[]else[l[i]]):=by
 rw[List.take_succ_eq_append_getElem h,List.filter_append];cases hb:hasB b l[i]<;>simp[hb]
theorem ajY (a b:List Int) (h:a.length≤274877906944) (h2:b.length≤274877906944):TS a b=some (xu a b):=by
 unfold TS;rw[oO b (by omega),oO a (by omega)];simp only[Option.bind_some];have ha:=kX a;have hb:=kX b;have hbi:=nZ b
 have hM:xu a b=((iW a).take (iW a).length).filter (fun x=>!hasB (iW b) x):=by
  rw[List.take_length];unfold xu;congr 1;funext x;congr 1;by_cases hx:x∈b
  ·rw[qj.2 hx,qj.2 (lS.2 hx)]
  rw[oJ.2 hx,oJ.2 (fun h=>hx (lS.1 h))]
 rw[hM];generalize iW a=S at *;generalize iW b=S2 at *;refine dn.eq ?_;unfold Zi;refine ql S.length (by simp[fuel];omega) (fun i v=>v=(S.take i).filter (fun x=>!hasB S2 x)) (by simp) ?_ ?_
 ·rintro i v k hi rfl hk;have hw:=wrap_succ i (by omega);have hfl:((S.take i).filter (fun x=>!hasB S2 x)).length≤i:=Nat.le_trans (List.length_filter_le _ _) (by simp;omega);have hst:=ajX (b:=S2) hi;unfold Rf JB;rw[show decide ((i:Int)<(S.length:Int))=true by simpa using hi,fZ hi];simp only[cond_true,Option.bind_some];refine(apj S2 S[i] hbi (by omega)).bind ?_;rintro r hr;rw[hr];cases hh:hasB S2 S[i]with
  |true=>
   simp only[Bool.not_true,cond_false,hw];exact hk _ (by rw[hst];simp[hh])
  |false=>
   simp only[Bool.not_false,cond_true,hw];rw[eX (by simp only[List.length_singleton];omega)];exact hk _ (by rw[hst];simp[hh])
 rintro v k rfl;unfold Rf;rw[show decide ((S.length:Int)<(S.length:Int))=false by simp];exact .ret rfl
theorem aeR (l:List Int) (x:Int) (h:l.length≤1099511627776):Wq l x=some (hasB l x):=by
 refine dn.eq ?_;unfold Wq aeK;refine kF l.length (by simp[fuel];omega) (fun i=>∀j,(hj:j<i)→(hl:j<l.length)→l[j]≠x) (fun j hj=>by omega) ?_ ?_
 ·intro i k hi hI hk;unfold Xz;rw[show decide ((i:Int)<(l.length:Int))=true by simpa using hi,fZ hi,wrap_succ i (by omega)];simp only[cond_true,Option.bind_some];refine dn.bif (fun e=>?_) fun e=>?_
  ·refine .ret ?_;have :l[i]=x:=by simpa using e
   rw[qj.2 (this▸List.getElem_mem hi)]
  refine hk fun j hj hl=>?_;by_cases ej:j=i
  ·subst ej;simpa using e
  exact hI j (by omega) hl
 intro k hI;unfold Xz;rw[show decide ((l.length:Int)<(l.length:Int))=false by simp];refine .ret ?_;rw[oJ.2];intro hm;obtain⟨j,hj,e⟩:=List.getElem_of_mem hm;exact hI j hj hj e
theorem Zx (p:Int→Bool):∀(l:List Int) (i:Nat),i≤l.length→(∀j,(h:j<i)→(hl:j<l.length)→p l[j]=true)→(∀h:i<l.length,p l[i]=false)→l.takeWhile p=l.take i∧l.dropWhile p=l.drop i
 | [],i,h,_,_=>by simp at h;subst h;simp
 |a::l,0,_,_,h2=>by
  have:=h2 (by simp);simp at this;simp[this]
 |a::l,i+1,h,h1,h2=>by
  have h0:=h1 0 (by omega) (by simp);simp at h0;have:=Zx p l i (by simpa using h) (fun j hj hl=>by have:=h1 (j+1) (by omega) (by simpa using hl);simpa using this) (fun hl=>by have:=h2 (by simpa using hl);simpa using this);simp[h0,this.1,this.2]
theorem am5 (l:List Int) (x:Int) (h:l.length≤1099511627776):aaB l x=some (put l x):=by
 unfold aaB;rw[aeR l x h];simp only[Option.bind_some];unfold put;cases hh:hasB l x with
 |true=>simp
 |false=>
  simp only[cond_false,Bool.false_eq_true,if_false];refine dn.eq ?_;unfold aeM
  have hput:∀i,i≤l.length→(∀j,(hj:j<i)→(hl:j<l.length)→l[j]<x)→(∀h:i<l.length,¬l[i]<x)→
   dn ((wM l 0 (i:Int)).bind fun x7=>(gK 8 [] x7).bind fun x8=>(gK 8 x8 [x]).bind fun x9=>(wM l (i:Int) ((l.length))).bind fun x10=>(gK 8 x9 x10).bind fun x11=>some x11) (· =l.takeWhile (decide<| · <x)++x::l.dropWhile (decide<| · <x)):=by
   intro i hi h1 h2;obtain⟨e1,e2⟩:=Zx (decide<| · <x) l i hi (fun j hj hl=>by simpa using h1 j hj hl) (fun hl=>by simpa using h2 hl)
   have e3:wM l 0 (i:Int)=some (l.take i):=by
    have:=P7 (l:=l) (lo:=0) (hi:=i) (by omega) hi;simpa using this
   have e4:wM l (i:Int) (l.length:Int)=some (l.drop i):=by
    rw[P7 (l:=l) (lo:=i) (hi:=l.length) hi (by omega)];congr 1;exact List.take_of_length_le (by simp)
   rw[e3];simp only[Option.bind_some];rw[eX (by simp;omega)];simp only[Option.bind_some,List.nil_append];rw[eX (by simp;omega)];simp only[Option.bind_some];rw[e4];simp only[Option.bind_some];rw[eX (by simp;omega)];refine .ret ?_;rw[e1,e2];simp
  refine kF l.length (by simp[fuel];omega) (fun i=>∀j,(hj:j<i)→(hl:j<l.length)→l[j]<x) (fun j hj=>by omega) ?_ ?_
  ·intro i k hi hI hk;unfold XA;rw[show decide ((i:Int)<(l.length:Int))=true by simpa using hi,fZ hi,wrap_succ i (by omega)];simp only[cond_true,Option.bind_some];refine dn.bif (fun e=>?_) fun e=>?_
   ·refine hk fun j hj hl=>?_;by_cases ej:j=i
    ·subst ej;simpa using e
    exact hI j (by omega) hl
   exact hput i (by omega) hI (fun _=>by simpa using e)
  intro k hI;unfold XA;rw[show decide ((l.length:Int)<(l.length:Int))=false by simp];exact hput l.length (by omega) hI (fun h=>by omega)
theorem aeS (l:List Int) (x:Int):(put l x).length≤l.length+1:=by
 unfold put;split
 ·omega
 rw[List.length_append,List.length_cons];have:=congrArg List.length (List.takeWhile_append_dropWhile (p:=(decide<| · <x)) (l:=l));rw[List.length_append]at this;omega
theorem abA :∀(l a:List Int),(l.foldl put a).length≤a.length+l.length
 | [],a=>by simp
 |x::l,a=>by
  have h1:=abA l (put a x);have h2:=aeS a x;simp only[List.foldl_cons,List.length_cons];omega
theorem apk {l a:List Int} {i:Nat} (h:i<l.length):(l.take (i+1)).foldl put a=put ((l.take i).foldl put a) l[i]:=by
 rw[List.take_succ_eq_append_getElem h,List.foldl_append];rfl
theorem aif (l:List Int) (h:l.length≤274877906944):PN l=some (iW l):=by
 refine dn.eq ?_;unfold PN X6;refine ql l.length (by simp[fuel];omega) (fun i v=>v=(l.take i).foldl put []) (by simp) ?_ ?_
 ·rintro i v k hi rfl hk;have hl:=abA (l.take i) [];simp only[List.length_nil,List.length_take]at hl;unfold Ol;rw[show decide ((i:Int)<(l.length:Int))=true by simpa using hi,fZ hi,wrap_succ i (by omega)];simp only[cond_true,Option.bind_some];rw[am5 _ _ (by omega)];exact hk _ (apk hi).symm
 rintro v k rfl;unfold Ol;rw[show decide ((l.length:Int)<(l.length:Int))=false by simp];exact .ret (by rw[List.take_length];rfl)
end Go.Proofs.YtolgdkhlelfpoaaGreat
end
section
namespace Go.Proofs.YtolgdkhlelfpoaaGreat
open Go.RowKit
variable {α : Type}
theorem LM {R:Type} (c:Bool) (x y:R):(bif c then some x else some y)=some (bif c then x else y):=by cases c<;>rfl
theorem apl (a b:Bool):(bif a then true else b)=(a||b):=by cases a<;>rfl
theorem atH (a b:Bool):(bif a then b else false)=(a&&b):=by cases a<;>rfl
theorem Ic {s:ByteArray} {i:Nat} (h:i<(aX s).length):lJ s (i:Int)=some (aX s)[i]:=by
 unfold lJ;rw[if_pos (Int.natCast_nonneg i)];have h':i<s.size:=by rw[dV]at h;exact h
 have e:s[i]? =some s[i]:=by simp[h']
 simp only[Int.toNat_natCast,e,Option.map_some,aX,List.getElem_map];rfl
theorem am6 {s:ByteArray} (h:0<(aX s).length):lJ s 0=some (aX s)[0]:=Ic (i:=0) h
theorem scan {R α:Type} {body:(Int→Option R)→Int→Option R} (l:List α) (hl:l.length<fuel) (p:α→Bool) (bad:R) (rest:Option R)
 (hb:∀k (i:Nat) (h:i<l.length),body k (i:Int)=bif p l[i]then some bad else k (IntKind.i64.wrap ((i:Int)+1))) (he:∀k,body k (l.length:Int)=rest):
 dB body fuel 0=bif l.any p then some bad else rest:=by
 have hf:fuel=9223372036854775808:=rfl
 have key:∀n (i:Nat),i+n=l.length→∀m,n<m→dB body m (i:Int)=bif (l.drop i).any p then some bad else rest:=by
  intro n
  induction n with
  |zero=>
   intro i hi m hm;obtain⟨m,rfl⟩:∃m',m=m'+1:=⟨m-1,by omega⟩
   have :i=l.length:=by omega
   subst this;show body (dB body m) _=_;rw[he,List.drop_length];rfl
  |succ n ih=>
   intro i hi m hm;obtain⟨m,rfl⟩:∃m',m=m'+1:=⟨m-1,by omega⟩
   have hlt:i<l.length:=by omega
   show body (dB body m) _=_;rw[hb _ i hlt,wrap_succ i (by omega),ih (i+1) (by omega) m (by omega),List.drop_eq_getElem_cons hlt,List.any_cons];cases p l[i]<;>rfl
 have:=key l.length 0 (by omega) fuel hl;simpa using this
theorem bytes_inj {s t:ByteArray} (h:aX s=aX t):s=t:=by
 have hd:s.data.toList=t.data.toList:=by
  unfold aX at h;refine List.map_inj_right (f:=fun c:UInt8=>(c.toNat:Int)) (fun a b hab=>?_) |>.1 h;exact UInt8.toNat_inj.1 (by omega)
 obtain⟨⟨a⟩⟩:=s;obtain⟨⟨b⟩⟩:=t;simp only at hd;rw[hd]
theorem toList_inj {s t:ByteArray} (h:s.toList=t.toList):s=t:=by
 rw[ByteArray.toList_eq,ByteArray.toList_eq]at h;obtain⟨⟨a⟩⟩:=s;obtain⟨⟨b⟩⟩:=t;simp only at h;rw[h]
theorem Ci {s t:ByteArray}:(s.toList==t.toList)=decide (s=t):=by
 by_cases h:s=t
 ·subst h;simp
 have :s.toList≠t.toList:=fun e=>h (toList_inj e);simp[h,this]
theorem U9 {R α:Type} {body:(Int→Option R)→Int→Option R} (l:List α) (hl:l.length<fuel) (q:α→Bool) (g:Nat→Option R) (rest:Option R)
 (hb:∀k (i:Nat) (h:i<l.length),body k (i:Int)=bif q l[i]then g i else k (IntKind.i64.wrap ((i:Int)+1))) (he:∀k,body k (l.length:Int)=rest):
 dB body fuel 0=if l.findIdx q<l.length then g (l.findIdx q)else rest:=by
 have hf:fuel=9223372036854775808:=rfl
 have key:∀n (i:Nat),i+n=l.length→∀m,n<m→dB body m (i:Int)=if(l.drop i).findIdx q+i<l.length then g ((l.drop i).findIdx q+i)else rest:=by
  intro n
  induction n with
  |zero=>
   intro i hi m hm;obtain⟨m,rfl⟩:∃m',m=m'+1:=⟨m-1,by omega⟩
   have :i=l.length:=by omega
   subst this;show body (dB body m) _=_;rw[he,List.drop_length,if_neg (by omega)]
  |succ n ih=>
   intro i hi m hm;obtain⟨m,rfl⟩:∃m',m=m'+1:=⟨m-1,by omega⟩
   have hlt:i<l.length:=by omega
   show body (dB body m) _=_;rw[hb _ i hlt,wrap_succ i (by omega),ih (i+1) (by omega) m (by omega),List.drop_eq_getElem_cons hlt,List.findIdx_cons];cases q l[i]with
   |true=>simp[hlt]
   |false=>simp only[cond_false];rw[show(l.drop (i+1)).findIdx q+(i+1)=(l.drop (i+1)).findIdx q+1+i by omega]
 have:=key l.length 0 (by omega) fuel hl;simpa using this
theorem Qa {s:ByteArray} {lo hi:Nat} (h1:lo≤hi) (h2:hi≤s.size):DC s (lo:Int) (hi:Int)=some (s.extract lo hi):=by
 unfold DC;rw[if_pos ⟨by omega,by omega,by omega⟩];simp
theorem Wu (s:ByteArray) (a b:Nat):aX (s.extract a b)=((aX s).take b).drop a:=by
 simp[aX,ByteArray.data_extract,List.map_drop,List.map_take,List.extract_eq_drop_take']
theorem PO (l:List α) (q:α→Bool):(bif l.any (fun c=>!q c)then false else true)=l.all q:=by
 have :l.any (fun c=>!q c)= !l.all q:=by simp[List.not_all_eq_any_not]
 rw[this];cases l.all q<;>rfl
theorem LQ :∀(l:List UInt8) (c:UInt8),Lib.indexByte l c=if l.findIdx (· ==c)<l.length then((l.findIdx (· ==c):Nat):Int)else -1
 | [],c=>rfl
 |b::l,c=>by
  unfold Lib.indexByte;rw[List.findIdx_cons];cases h:b==c with
  |true=>simp
  |false=>
   rw[LQ l c];simp only[Bool.false_eq_true,if_false,cond_false,List.length_cons];by_cases hl:l.findIdx (· ==c)<l.length
   ·simp only[hl,if_true,show l.findIdx (· ==c)+1<l.length+1 by omega];have :(((l.findIdx (· ==c):Nat):Int)== -1)=false:=by simp
    simp[this]
   simp[hl,show ¬l.findIdx (· ==c)+1<l.length+1 by omega]
end Go.Proofs.YtolgdkhlelfpoaaGreat
end
section
namespace Go.Proofs.YtolgdkhlelfpoaaGreat
open Go.RowKit
structure kC (e:ah):Prop where
 prev:e.gI.length≤40
 auth:e.fO.length≤40
 allow:e.Content.Allow.length≤100
 deny:e.Content.lU.length≤100
 users:e.Content.Levels.Users.length≤100
 kinds:e.Content.Levels.Kinds.length≤100
 room:e.Room.size≤2000
 sender:e.bY.size≤2000
 key:e.Key.size≤2000
 text:e.Content.Text.size≤2000
 via:e.Content.Via.size≤2000
 server:e.DN.Server.size≤2000
 allows:∀x∈e.Content.Allow,x.size≤2000
 denies:∀x∈e.Content.lU,x.size≤2000
 names:∀x∈e.Content.Levels.Users,x.User.size≤2000
theorem jI {a b:Int} (h:decide (a>b)=false):a≤b:=by have:=of_decide_eq_false h;omega
theorem Zy {α:Type} {l:List α} {P:α→Prop} (h:∀j,(hl:j<l.length)→P l[j]):∀x∈l,P x:=fun x hx=>by
 obtain⟨j,hj,rfl⟩:=List.getElem_of_mem hx;exact h j hj
theorem LU {α:Type} {body:(Int→Option Bool)→Int→Option Bool} (l:List α) (hl:l.length<fuel) (big:α→Bool) (rest:Option Bool) {P:Prop}
 (hb:∀(k:Int→Option Bool) (i:Nat) (h:i<l.length),body k (i:Int)=bif big l[i]then some true else k (IntKind.i64.wrap ((i:Int)+1))) (he:∀k,body k (l.length:Int)=rest)
 (hr:(∀x∈l,big x=false)→dn rest (fun b=>b=false→P)):dn (dB body fuel 0) (fun b=>b=false→P):=by
 refine kF l.length hl (fun i=>∀j,(hj:j<i)→(hl:j<l.length)→big l[j]=false) (fun j hj=>by omega) ?_ ?_
 ·intro i k hi hI hk;have hf:fuel=9223372036854775808:=rfl;rw[hb k i hi,wrap_succ i (by omega)];refine dn.bif (fun _=>.ret (fun h=>by cases h)) fun e=>hk fun j hj hl'=>?_;by_cases ej:j=i
  ·subst ej;exact e
  exact hI j (by omega) hl'
 intro k hI;rw[he];exact hr (Zy fun j hj=>hI j hj hj)
theorem bV {α R:Type} {l:List α} {i:Nat} (h:i<l.length) (f:α→Option R) (z:Option R):(bif decide ((i:Int)<(l.length:Int))then(aV l (i:Int)).bind f else z)=f l[i]:=by
 rw[show decide ((i:Int)<(l.length:Int))=true by simpa using h,fZ h];rfl
theorem dM {α R:Type} {l:List α} (y z:Option R):(bif decide ((l.length:Int)<(l.length:Int))then y else z)=z:=by
 rw[show decide ((l.length:Int)<(l.length:Int))=false by simp];rfl
theorem ajZ (e:ah):dn (XB e) (fun b=>b=false→kC e):=by
 have hf:fuel=9223372036854775808:=rfl;have no:∀{P:Prop},dn (some true) (fun b=>b=false→P):=.ret fun h=>by cases h
 unfold XB;simp only[LM,Option.bind_some,apl];refine dn.bif (fun _=>no) fun a=>?_;refine dn.bif (fun _=>no) fun b=>?_;simp only[Bool.or_eq_false_iff]at a b;obtain⟨⟨⟨⟨⟨a1,a2⟩,a3⟩,a4⟩,a5⟩,a6⟩:=a;obtain⟨⟨⟨⟨⟨b1,b2⟩,b3⟩,b4⟩,b5⟩,b6⟩:=b;have a1:=jI a1;have a2:=jI a2;have a3:=jI a3;have a4:=jI a4;have a5:=jI a5;have a6:=jI a6;have b1:=jI b1;have b2:=jI b2;have b3:=jI b3;have b4:=jI b4;have b5:=jI b5;have b6:=jI b6;unfold abz;refine LU e.Content.Allow (by omega) (fun x=>decide ((x.size:Int)>2000)) (U4 e 0) (fun k i h=>?_) (fun k=>?_) fun c1=>?_
 ·unfold U5;rw[bV h]
 ·unfold U5;rw[dM]
 unfold U4;refine LU e.Content.lU (by omega) (fun x=>decide ((x.size:Int)>2000)) (U2 e 0) (fun k i h=>?_) (fun k=>?_) fun c2=>?_
 ·unfold U3;rw[bV h]
 ·unfold U3;rw[dM]
 unfold U2;refine LU e.Content.Levels.Users (by omega) (fun x=>decide ((x.User.size:Int)>2000)) (some false) (fun k i h=>?_) (fun k=>?_) fun c3=>?_
 ·unfold U1;rw[bV h]
 ·unfold U1;rw[dM]
 refine .ret fun _=>⟨by omega,by omega,by omega,by omega,by omega,by omega,by omega,by omega,by omega,by omega,by omega,by omega,fun x hx=>?_,fun x hx=>?_,fun x hx=>?_⟩
 ·have:=jI (c1 x hx);omega
 ·have:=jI (c2 x hx);omega
 have:=jI (c3 x hx);omega
end Go.Proofs.YtolgdkhlelfpoaaGreat
end
section
namespace Go.Proofs.YtolgdkhlelfpoaaGreat
open Go.RowKit
theorem fuel_lt {n:Nat} (h:n≤1099511627776):n<fuel:=by have :fuel=9223372036854775808:=rfl;omega
theorem dec_lt {i n:Nat} (h:i<n):decide ((i:Int)<(n:Int))=true:=by simpa using h
theorem vF (n:Nat):decide ((n:Int)<(n:Int))=false:=by simp
theorem Bg {R A α:Type} {body:(A→Int→Option R)→A→Int→Option R} (l:List α) (hl:l.length≤1099511627776) (step:A→α→A) (I:Nat→A→Prop) (fin:A→Option R) {a0:A} (h0:I 0 a0)
 (hb:∀k a (i:Nat) (h:i<l.length),I i a→I (i+1) (step a l[i])∧body k a (i:Int)=k (step a l[i]) (IntKind.i64.wrap ((i:Int)+1)))
 (he:∀k a,I l.length a→body k a (l.length:Int)=fin a):aY body fuel a0 0=fin (l.foldl step a0):=by
 have key:∀n (i:Nat) (a:A),i+n=l.length→I i a→∀m,n<m→aY body m a (i:Int)=fin ((l.drop i).foldl step a):=by
  intro n
  induction n with
  |zero=>
   intro i a hi ha m hm;obtain⟨m,rfl⟩:∃m',m=m'+1:=⟨m-1,by omega⟩
   have :i=l.length:=by omega
   subst this;show body (aY body m) _ _=_;rw[he _ _ ha,List.drop_length];rfl
  |succ n ih=>
   intro i a hi ha m hm;obtain⟨m,rfl⟩:∃m',m=m'+1:=⟨m-1,by omega⟩
   have hlt:i<l.length:=by omega
   obtain⟨h1,h2⟩:=hb (aY body m) a i hlt ha;show body (aY body m) _ _=_;rw[h2,wrap_succ i (by omega),ih (i+1) _ (by omega) h1 m (by omega),List.drop_eq_getElem_cons hlt,List.foldl_cons]
 have:=key l.length 0 a0 (by omega) h0 fuel (fuel_lt hl);simpa using this
theorem Zz {R A α:Type} {body:(Int→A→Option R)→Int→A→Option R} (l:List α) (hl:l.length≤1099511627776) (step:A→α→A) (I:Nat→A→Prop) (fin:A→Option R) {a0:A} (h0:I 0 a0)
 (hb:∀k a (i:Nat) (h:i<l.length),I i a→I (i+1) (step a l[i])∧body k (i:Int) a=k (IntKind.i64.wrap ((i:Int)+1)) (step a l[i]))
 (he:∀k a,I l.length a→body k (l.length:Int) a=fin a):aY body fuel 0 a0=fin (l.foldl step a0):=by
 have key:∀n (i:Nat) (a:A),i+n=l.length→I i a→∀m,n<m→aY body m (i:Int) a=fin ((l.drop i).foldl step a):=by
  intro n
  induction n with
  |zero=>
   intro i a hi ha m hm;obtain⟨m,rfl⟩:∃m',m=m'+1:=⟨m-1,by omega⟩
   have :i=l.length:=by omega
   subst this;show body (aY body m) _ _=_;rw[he _ _ ha,List.drop_length];rfl
  |succ n ih=>
   intro i a hi ha m hm;obtain⟨m,rfl⟩:∃m',m=m'+1:=⟨m-1,by omega⟩
   have hlt:i<l.length:=by omega
   obtain⟨h1,h2⟩:=hb (aY body m) a i hlt ha;show body (aY body m) _ _=_;rw[h2,wrap_succ i (by omega),ih (i+1) _ (by omega) h1 m (by omega),List.drop_eq_getElem_cons hlt,List.foldl_cons]
 have:=key l.length 0 a0 (by omega) h0 fuel (fuel_lt hl);simpa using this
theorem wZ {α:Type} (p:α→Bool):∀l:List α,l.find? p=l[l.findIdx p]?
 | []=>rfl
 |x::l=>by
  rw[List.find?_cons,List.findIdx_cons];cases h:p x with
  |true=>rfl
  |false=>simp[wZ p l]
def kG (l:List ah) (id:Int):Option ah:=l.find? fun e=>e.Id==id
def nV (l:List ah) (id:Int):ah×Bool:=match kG l id with
 |some e=>(e,true)
 |none=>(gB,false)
theorem agQ {l:List ah} {id:Int} {e:ah} (h:kG l id=some e):e.Id=id:=by
 have:=List.find?_some h;simpa using this
theorem yw {l:List ah} {id:Int} {e:ah} (h:kG l id=some e):e∈l:=List.mem_of_find?_eq_some h
theorem JK (l:List ah) (id:Int):(nV l id).2=(kG l id).isSome:=by
 unfold nV;cases kG l id<;>rfl
theorem RF (l:List ah) (hl:l.length≤1099511627776) (f:ah→Option Bool) (p:ah→Bool) (hf:∀e,f e=some (p e)):
 jk l f=some (if l.findIdx p<l.length then((l.findIdx p:Nat):Int)else -1):=by
 unfold jk sH;rw[U9 l (fuel_lt hl) p (fun i=>some (i:Int)) (some (-1))]
 ·split<;>rfl
 ·intro k i h;unfold nC;rw[bV h,hf];rfl
 intro k;unfold nC;rw[dM]
theorem found_eq (l:List ah) (p:ah→Bool) {n:Int} (hn:n=if l.findIdx p<l.length then((l.findIdx p:Nat):Int)else -1):
 (bif decide (n<0)then some (gB,false)else(aV l n).bind fun x3=>some (x3,true))=some (match l.find? p with |some e=>(e,true)|none=>(gB,false)):=by
 subst hn;rw[wZ];by_cases h:l.findIdx p<l.length
 ·rw[if_pos h,List.getElem?_eq_getElem h,show decide (((l.findIdx p:Nat):Int)<0)=false by simp,fZ h];rfl
 rw[if_neg h,List.getElem?_eq_none (by omega)];rfl
theorem jD (l:List ah) (id:Int) (hl:l.length≤1099511627776):kR l id=some (nV l id):=by
 unfold kR UJ He;rw[RF l hl _ (fun e=>e.Id==id) fun _=>rfl];exact found_eq l _ rfl
theorem aj0 (l:List ah) (id:Int) (hl:l.length≤1099511627776):Ue l id=some (if l.findIdx (fun e=>e.Id==id)<l.length then((l.findIdx (fun e=>e.Id==id):Nat):Int)else -1):=by
 unfold Ue Zp;rw[U9 l (fuel_lt hl) (fun e=>e.Id==id) (fun i=>some (i:Int)) (some (-1))]
 ·split<;>rfl
 ·intro k i h;unfold Rl;rw[bV h]
 intro k;unfold Rl;rw[dM]
theorem am7 (l:List ah) (id:Int) (hl:l.length≤1099511627776):aaA l id=some (nV l id):=by
 unfold aaA;rw[aj0 l id hl];exact found_eq l _ rfl
def ofIds (l:List ah) (ids:List Int):List ah:=ids.filterMap (kG l)
theorem foldl_append {α β:Type} (f:α→List β):∀(l:List α) (a:List β),l.foldl (fun r x=>r++f x) a=a++l.flatMap f
 | [],a=>by simp
 |x::l,a=>by rw[List.foldl_cons,foldl_append f l,List.flatMap_cons,List.append_assoc]
theorem aj1 (l:List ah):∀ids,ofIds l ids=ids.flatMap fun id=>(kG l id).toList
 | []=>rfl
 |id::ids=>by
  unfold ofIds;rw[List.filterMap_cons,List.flatMap_cons,←aj1 l ids];cases kG l id<;>rfl
theorem toList_le {α:Type} (o:Option α):o.toList.length≤1:=by cases o<;>simp
end Go.Proofs.YtolgdkhlelfpoaaGreat
end
section
namespace Go.Proofs.YtolgdkhlelfpoaaGreat
open Go.RowKit
theorem sK {l:List ah} {id:Int} {e:ah} (h:kG l id=some e):nV l id=(e,true):=by unfold nV;rw[h]
theorem Em {l:List ah} {id:Int} (h:kG l id=none):nV l id=(gB,false):=by unfold nV;rw[h]
theorem aj2 (l:List ah) (ids:List Int):(ofIds l ids).length≤ids.length:=List.length_filterMap_le ..
theorem am8 (l:List ah) (ids:List Int):ids.foldl (fun r id=>r++(kG l id).toList) []=ofIds l ids:=by
 rw[foldl_append (fun id=>(kG l id).toList),aj1];rfl
theorem ale (l:List ah) (ids:List Int) (hl:l.length≤1000) (hi:ids.length≤1000000):Xt l ids=some (ofIds l ids):=by
 unfold Xt
 have hm:pO 376 gB 0 (ids.length:Int)=some []:=by
  unfold pO;rw[if_pos (by constructor<;>omega)];rfl
 rw[hm];simp only[Option.bind_some];unfold abv;rw[Bg ids (by omega) (fun r id=>r++(kG l id).toList) (fun i r=>r.length≤i) (fun r=>some r) (by simp)]
 ·rw[am8]
 ·intro k a i h hI;have ht:=toList_le (kG l ids[i]);refine⟨by rw[List.length_append];omega,?_⟩;unfold UY MK;rw[bV h,jD l _ (by omega)];cases hg:kG l ids[i]with
  |none=>simp[Em hg]
  |some e=>
   rw[sK hg];simp only[Option.bind_some,cond_true,Option.toList_some];rw[eX (by simp only[List.length_singleton];omega)];rfl
 intro k a hI;unfold UY;rw[dM]
end Go.Proofs.YtolgdkhlelfpoaaGreat
end
section
namespace Go.Proofs.YtolgdkhlelfpoaaGreat
open Go.RowKit
def gJ (l:List ah) (id:Int):Bool:=(kG l id).isSome
def uG (l:List ah) (ids:List Int):List Int:=(iW ids).filter (gJ l)
theorem Fz {l:List ah} {ids:List Int} {x:Int}:x∈uG l ids↔x∈ids∧gJ l x=true:=by unfold uG;rw[List.mem_filter,lS]
theorem XC (l:List ah) (ids:List Int):Inc (uG l ids):=(nZ ids).sublist List.filter_sublist
theorem ZA (a b:List Int) (h:a.length≤274877906944) (h2:b.length≤274877906944):Nz a b=some (xu a b):=by
 unfold Nz;rw[aif a h];simp only[Option.bind_some];have ha:=kX a;unfold Zq;rw[Bg (iW a) (by omega) (fun r x=>bif hasB b x then r else r++[x]) (fun i r=>r.length≤i) (fun r=>some r) (Nat.le_refl _)]
 ·congr 1;unfold xu;generalize iW a=S
  have key:∀(S r:List Int),S.foldl (fun r x=>bif hasB b x then r else r++[x]) r=r++S.filter (fun x=>!hasB b x):=by
   intro S
   induction S with
   |nil=>intro r;simp
   |cons x S ih=>
    intro r;rw[List.foldl_cons,ih,List.filter_cons];cases hasB b x<;>simp
  simpa using key S []
 ·intro k r i h hI;have hx:=aeR b (iW a)[i] (by omega);refine⟨?_,?_⟩
  ·cases hasB b (iW a)[i]with
   |true=>show r.length≤i+1;omega
   |false=>show(r++[(iW a)[i]]).length≤i+1;simp;omega
  unfold Rn JH;rw[bV h,hx];simp only[Option.bind_some];cases hasB b (iW a)[i]with
  |true=>rfl
  |false=>
   simp only[Bool.not_false,cond_true,cond_false];rw[fZ h];simp only[Option.bind_some];rw[eX (by simp only[List.length_singleton];omega)];rfl
 intro k r hI;unfold Rn;rw[dM]
def lD (l:List ah) (id:Int):List Int:=(nV l id).1.fO
def ac4 (l:List ah) (r:List Int) (x:Int):List Int:=bif gJ l x then put r x else r
def tC (l:List ah) (ids:List Int):List Int:=ids.foldl (fun r id=>(lD l id).foldl (ac4 l) r) []
theorem agR (l:List ah):∀(xs r:List Int),Inc r→Inc (xs.foldl (ac4 l) r)∧(∀x,x∈xs.foldl (ac4 l) r↔x∈r∨x∈xs∧gJ l x=true)∧(xs.foldl (ac4 l) r).length≤r.length+xs.length
 | [],r,h=>⟨h,fun x=>by simp,by simp⟩
 |y::xs,r,h=>by
  rw[List.foldl_cons];unfold ac4;cases hk:gJ l y with
  |true=>
   obtain⟨h1,h2,h3⟩:=agR l xs (put r y) (alK h);refine⟨h1,fun x=>(h2 x).trans ?_,?_⟩
   ·rw[alJ,List.mem_cons];constructor
    ·rintro((h|rfl)|h)
     ·exact .inl h
     ·exact .inr ⟨.inl rfl,hk⟩
     exact .inr ⟨.inr h.1,h.2⟩
    rintro(h|⟨rfl|h,h4⟩)
    ·exact .inl (.inl h)
    ·exact .inl (.inr rfl)
    exact .inr ⟨h,h4⟩
   have:=aeS r y;simp only[List.length_cons,cond_true]at h3 ⊢;exact Nat.le_trans h3 (by omega)
  |false=>
   obtain⟨h1,h2,h3⟩:=agR l xs r h;refine⟨h1,fun x=>(h2 x).trans ⟨fun h=>?_,fun h=>?_⟩,?_⟩
   ·rcases h with h|h
    ·exact .inl h
    exact .inr ⟨List.mem_cons_of_mem _ h.1,h.2⟩
   ·rcases h with h|⟨h,h4⟩
    ·exact .inl h
    rcases List.mem_cons.1 h with rfl|h
    ·rw[hk]at h4;cases h4
    exact .inr ⟨h,h4⟩
   simp only[List.length_cons,cond_false]at h3 ⊢;exact Nat.le_trans h3 (by omega)
theorem ac5 (l:List ah):∀(ids r:List Int),Inc r→Inc (ids.foldl (fun r id=>(lD l id).foldl (ac4 l) r) r)∧∀x,x∈ids.foldl (fun r id=>(lD l id).foldl (ac4 l) r) r↔x∈r∨gJ l x=true∧∃id∈ids,x∈lD l id
 | [],r,h=>⟨h,fun x=>by simp⟩
 |id::ids,r,h=>by
  rw[List.foldl_cons];obtain⟨g1,g2,_⟩:=agR l (lD l id) r h;obtain⟨h1,h2⟩:=ac5 l ids _ g1;refine⟨h1,fun x=>(h2 x).trans ?_⟩;rw[g2 x];constructor
  ·rintro((h|h)|⟨h3,i,h4,h5⟩)
   ·exact .inl h
   ·exact .inr ⟨h.2,id,List.mem_cons_self ..,h.1⟩
   exact .inr ⟨h3,i,List.mem_cons_of_mem _ h4,h5⟩
  rintro(h|⟨h3,i,h4,h5⟩)
  ·exact .inl (.inl h)
  rcases List.mem_cons.1 h4 with rfl|h4
  ·exact .inl (.inr ⟨h5,h3⟩)
  exact .inr ⟨h3,i,h4,h5⟩
theorem ZB (l:List ah) (ids:List Int):Inc (tC l ids):=(ac5 l ids [] .nil).1
theorem xR {l:List ah} {ids:List Int} {x:Int}:x∈tC l ids↔gJ l x=true∧∃id∈ids,x∈lD l id:=by
 unfold tC;rw[(ac5 l ids [] .nil).2 x];simp
def chainOf (l:List ah) (ids:List Int):List Int:=l.foldl (fun s _=>lq s (tC l s)) (tC l (uG l ids))
inductive Ch (l:List ah) (ids:List Int):Int→Prop
 |one {i x:Int} (h:i∈ids) (hx:x∈lD l i) (hk:gJ l x=true):Ch l ids x
 |more {y x:Int} (h:Ch l ids y) (hx:x∈lD l y) (hk:gJ l x=true):Ch l ids x
theorem am9 {l:List ah} {i x:Int} (h:x∈lD l i):gJ l i=true:=by
 unfold lD at h;unfold gJ;cases hg:kG l i with
 |none=>rw[Em hg]at h;cases h
 |some e=>rfl
theorem FB {s t:List Int} (hs:Inc s) (ht:Inc t) (h:∀x∈s,x∈t):s.length≤t.length∧(t.length≤s.length→s=t):=by
 have e:s=t.filter (fun x=>hasB s x):=P6 hs (ht.sublist List.filter_sublist) fun x=>by
  rw[List.mem_filter,qj];exact⟨fun hx=>⟨h x hx,hx⟩,fun hx=>hx.2⟩
 have hl:=List.length_filter_le (fun x=>hasB s x) t;refine⟨by rw[e];exact hl,fun hle=>?_⟩;have h3:(t.filter (fun x=>hasB s x)).length=t.length:=by have:=congrArg List.length e;omega
 rw[e];exact List.filter_eq_self.2 (List.length_filter_eq_length_iff.1 h3)
def Va (l:List ah):List Int:=iW (l.map (·.Id))
theorem aaC {l:List ah} {x:Int} (h:gJ l x=true):x∈Va l:=by
 unfold gJ at h;obtain⟨e,he⟩:=Option.isSome_iff_exists.1 h;exact lS.2 (List.mem_map.2 ⟨e,yw he,agQ he⟩)
theorem XD (l:List ah):∀(l':List ah) (s:List Int),Inc s→(∀x∈s,gJ l x=true)→
 Inc (l'.foldl (fun s _=>lq s (tC l s)) s)∧(∀x∈l'.foldl (fun s _=>lq s (tC l s)) s,gJ l x=true)∧(∀x∈s,x∈l'.foldl (fun s _=>lq s (tC l s)) s)∧
 ((Va l).length≤s.length+l'.length→∀x∈tC l (l'.foldl (fun s _=>lq s (tC l s)) s),x∈l'.foldl (fun s _=>lq s (tC l s)) s)
 | [],s,hs,hk=>⟨hs,hk,fun _ h=>h,fun hlen x hx=>by
     have h1:=(FB hs (nZ _) (fun x hx=>aaC (hk x hx))).2 (by show(Va l).length≤s.length;simpa using hlen);have h2:=aaC (xR.1 hx).1;unfold Va at h2
     rw[←h1]at h2;exact h2⟩
 |e::l',s,hs,hk=>by
  rw[List.foldl_cons]
  have hku:∀x∈lq s (tC l s),gJ l x=true:=fun x hx=>by
   rcases EF.1 hx with h|h
   ·exact hk x h
   exact(xR.1 h).1
  obtain⟨h1,h2,h3,h4⟩:=XD l l' (lq s (tC l s)) (Pe _ _) hku;refine⟨h1,h2,fun x hx=>h3 x (EF.2 (.inl hx)),fun hlen=>?_⟩;have hsub:=FB hs (Pe s (tC l s)) fun x hx=>EF.2 (.inl hx);by_cases hfix:s=lq s (tC l s)
  ·
   have hst:∀(l':List ah),l'.foldl (fun s _=>lq s (tC l s)) s=s:=by
    intro l'
    induction l' with
    |nil=>rfl
    |cons e l' ih=>rw[List.foldl_cons,←hfix,ih]
   rw[←hfix,hst];intro x hx;rw[hfix];exact EF.2 (.inr hx)
  ·refine h4 ?_
   have :s.length<(lq s (tC l s)).length:=by
    rcases Nat.lt_or_ge s.length (lq s (tC l s)).length with h|h
    ·exact h
    exact absurd (hsub.2 h) hfix
   simp only[List.length_cons]at hlen;omega
theorem abB (l:List ah) (ids:List Int):Inc (chainOf l ids):=(XD l l _ (ZB _ _) fun _ hx=>(xR.1 hx).1).1
theorem alf {l:List ah} {ids:List Int} {x:Int} (h:x∈chainOf l ids):gJ l x=true:=(XD l l _ (ZB _ _) fun _ hx=>(xR.1 hx).1).2.1 x h
theorem abC (l:List ah) (ids:List Int):∀(l':List ah) (s:List Int),(∀x∈s,Ch l ids x)→∀x∈l'.foldl (fun s _=>lq s (tC l s)) s,Ch l ids x
 | [],s,h=>h
 |e::l',s,h=>by
  rw[List.foldl_cons];refine abC l ids l' _ fun x hx=>?_;rcases EF.1 hx with hx|hx
  ·exact h x hx
  obtain⟨h1,y,h2,h3⟩:=xR.1 hx;exact .more (h y h2) h3 h1
theorem abD {l:List ah} {ids:List Int} {x:Int}:x∈chainOf l ids↔Ch l ids x:=by
 constructor
 ·refine abC l ids l _ (fun x hx=>?_) x;obtain⟨h1,y,h2,h3⟩:=xR.1 hx;exact .one (Fz.1 h2).1 h3 h1
 obtain⟨h1,h2,h3,h4⟩:=XD l l _ (ZB l (uG l ids)) fun _ hx=>(xR.1 hx).1
 have hlen:(Va l).length≤(tC l (uG l ids)).length+l.length:=by
  have:=kX (l.map (·.Id));unfold Va;simp only[List.length_map]at this;omega
 have h5:=h4 hlen;intro h
 induction h with
 |one h hx hk=>exact h3 _ (xR.2 ⟨hk,_,Fz.2 ⟨h,am9 hx⟩,hx⟩)
 |more h hx hk ih=>exact h5 _ (xR.2 ⟨hk,_,ih,hx⟩)
theorem FC (l:List ah) (ids:List Int):(chainOf l ids).length≤l.length:=by
 have h1:=(FB (t:=Va l) (abB l ids) (nZ _) fun x hx=>aaC (alf hx)).1;have h2:=kX (l.map fun e:ah=>e.Id);unfold Va at h1;simp only[List.length_map]at h2;omega
def XE (l:List ah):Prop:=∀e∈l,e.fO.length≤40
theorem Oo {l:List ah} (h:XE l) (id:Int):(lD l id).length≤40:=by
 unfold lD;cases hg:kG l id with
 |none=>rw[Em hg];exact Nat.zero_le _
 |some e=>rw[sK hg];exact h e (yw hg)
theorem vG {l:List ah} {r:List Int} (hi:Inc r) (h:∀x∈r,gJ l x=true):r.length≤l.length:=by
 have h1:=(FB (t:=Va l) hi (nZ _) fun x hx=>aaC (h x hx)).1;have h2:=kX (l.map fun e:ah=>e.Id);unfold Va at h1;simp only[List.length_map]at h2;omega
end Go.Proofs.YtolgdkhlelfpoaaGreat
end
section
namespace Go.Proofs.YtolgdkhlelfpoaaGreat
open Go.RowKit
section
variable {R A B C D E F G : Type} {Q : R → Prop}
theorem Iw {body:(A→B→C→Option R)→A→B→C→Option R} (I:Nat→A→B→C→Prop) (hs:∀m a b c k,I m a b c→(∀m' a' b' c',m'<m→I m' a' b' c'→dn (k a' b' c') Q)→dn (body k a b c) Q):
 ∀n m a b c,m<n→I m a b c→dn (sS body n a b c) Q
 |0,m,_,_,_,h,_=>by omega
 |n+1,m,a,b,c,h,hi=>hs m a b c _ hi fun m' a' b' c' h' hi'=>Iw I hs n m' a' b' c' (by omega) hi'
theorem ZC {body:(A→B→C→D→E→Option R)→A→B→C→D→E→Option R} (I:Nat→A→B→C→D→E→Prop) (hs:∀m a b c d e k,I m a b c d e→(∀m' a' b' c' d' e',m'<m→I m' a' b' c' d' e'→dn (k a' b' c' d' e') Q)→dn (body k a b c d e) Q):
 ∀n m a b c d e,m<n→I m a b c d e→dn (Ag body n a b c d e) Q
 |0,m,_,_,_,_,_,h,_=>by omega
 |n+1,m,a,b,c,d,e,h,hi=>hs m a b c d e _ hi fun m' a' b' c' d' e' h' hi'=>ZC I hs n m' a' b' c' d' e' (by omega) hi'
theorem ZE {body:(A→B→C→D→E→F→Option R)→A→B→C→D→E→F→Option R} (I:Nat→A→B→C→D→E→F→Prop) (hs:∀m a b c d e f k,I m a b c d e f→(∀m' a' b' c' d' e' f',m'<m→I m' a' b' c' d' e' f'→dn (k a' b' c' d' e' f') Q)→dn (body k a b c d e f) Q):
 ∀n m a b c d e f,m<n→I m a b c d e f→dn (Ah body n a b c d e f) Q
 |0,m,_,_,_,_,_,_,h,_=>by omega
 |n+1,m,a,b,c,d,e,f,h,hi=>hs m a b c d e f _ hi fun m' a' b' c' d' e' f' h' hi'=>ZE I hs n m' a' b' c' d' e' f' (by omega) hi'
theorem ahs {body:(A→B→C→D→E→F→G→Option R)→A→B→C→D→E→F→G→Option R} (I:Nat→A→B→C→D→E→F→G→Prop) (hs:∀m a b c d e f g k,I m a b c d e f g→(∀m' a' b' c' d' e' f' g',m'<m→I m' a' b' c' d' e' f' g'→dn (k a' b' c' d' e' f' g') Q)→dn (body k a b c d e f g) Q):
 ∀n m a b c d e f g,m<n→I m a b c d e f g→dn (SN body n a b c d e f g) Q
 |0,m,_,_,_,_,_,_,_,h,_=>by omega
 |n+1,m,a,b,c,d,e,f,g,h,hi=>hs m a b c d e f g _ hi fun m' a' b' c' d' e' f' g' h' hi'=>ahs I hs n m' a' b' c' d' e' f' g' (by omega) hi'
end
theorem xU {V:Type}:∀(m:List (Int×V)) (k k':Int) (v:V),dD (fE m k v) k'=bif k'==k then some v else dD m k'
 | [],k,k',v=>by
   unfold fE dD;rfl
 |p::m,k,k',v=>by
  unfold fE;cases h:k==p.1 with
  |true=>
   have h1:k=p.1:=by simpa using h
   subst h1;simp only[cond_true,dD];cases k'==p.1<;>rfl
  |false=>
   have h1:k≠p.1:=by simpa using h
   simp only[cond_false,dD,xU m k k' v];cases h2:k'==p.1 with
   |true=>
    have h3:k'=p.1:=by simpa using h2
    subst h3;have :(p.1==k)=false:=by simpa using fun e:p.1=k=>h1 e.symm
    rw[this];rfl
   |false=>rfl
def Uh (l:List ah) (m:List (Int×Int)):Prop:=∀id,(dD m id=none∧kG l id=none)∨∃(n:Nat) (e:ah),dD m id=some (n:Int)∧kG l id=some e∧l[n]? =some e
theorem Uh.isSome {l:List ah} {m:List (Int×Int)} (h:Uh l m) (id:Int):(dD m id).isSome=gJ l id:=by
 unfold gJ;rcases h id with⟨h1,h2⟩|⟨n,e,h1,h2,_⟩<;>rw[h1,h2]<;>rfl
theorem Uh.get {l:List ah} {m:List (Int×Int)} (h:Uh l m) {id:Int} {e:ah} (hg:kG l id=some e):aV l ((dD m id).getD 0)=some e:=by
 rcases h id with⟨_,h2⟩|⟨n,e',h1,h2,h3⟩
 ·rw[hg]at h2;cases h2
 rw[hg]at h2;cases h2;rw[h1];show aV l (n:Int)=_;rw[WX,h3]
theorem xW (l:List ah) (hl:l.length≤1000):dn (uX l) (Uh l):=by
 unfold uX VR
 refine uU (fun m a b=>∃i:Nat,a=(i:Int)-1∧m=i∧i≤l.length∧∀id,(dD b id=none∧(l.drop i).find? (fun e=>e.Id==id)=none)∨∃(n:Nat) (e:ah),dD b id=some (n:Int)∧(l.drop i).find? (fun e=>e.Id==id)=some e∧l[n]? =some e) ?_ fuel l.length _ _ (fuel_lt (by omega))
  ⟨l.length,by rw[IntKind.wrap_i64];omega,rfl,Nat.le_refl _,fun id=>.inl ⟨rfl,by simp⟩⟩
 rintro m a b k ⟨i,rfl,hm,hi,h⟩ hk;unfold VQ;refine dn.bif (fun e=>?_) fun e=>?_
 ·have hpos:0<i:=by have:=of_decide_eq_true e;omega
  have hlt:i-1<l.length:=by omega
  have e1:(i:Int)-1=((i-1:Nat):Int):=by omega
  rw[e1,fZ hlt];simp only[Option.bind_some];refine hk (i-1) _ _ (by omega) ⟨i-1,by rw[IntKind.wrap_i64];omega,rfl,by omega,fun id=>?_⟩;rw[xU,List.drop_eq_getElem_cons hlt,show i-1+1=i by omega,List.find?_cons];cases hid:l[i-1].Id==id with
  |true=>
   have :(id==l[i-1].Id)=true:=by have :l[i-1].Id=id:=by simpa using hid
                                  simp[this]
   rw[this];exact .inr ⟨i-1,l[i-1],rfl,rfl,by simp[hlt]⟩
  |false=>
   have :(id==l[i-1].Id)=false:=by have :l[i-1].Id≠id:=by simpa using hid
                                   simpa using fun e:id=l[i-1].Id=>this e.symm
   rw[this];exact h id
 have hz:i=0:=by have:=of_decide_eq_false e;omega
 subst hz;refine .ret fun id=>?_;have:=h id;rw[List.drop_zero]at this;exact this
inductive Rch (l:List ah) (from_:List Int):Int→Prop
 |one {x:Int} (h:x∈from_) (hk:gJ l x=true):Rch l from_ x
 |more {y x:Int} (h:Rch l from_ y) (hx:x∈lD l y) (hk:gJ l x=true):Rch l from_ x
theorem Rch.gJ {l:List ah} {f:List Int} {x:Int} (h:Rch l f x):gJ l x=true:=by cases h<;>assumption
theorem agS {r:List Int} {x:Int} (h:x∉r):(put r x).length=r.length+1:=by
 unfold put;rw[if_neg (by rw[qj];exact h),List.length_append,List.length_cons];have:=congrArg List.length (List.takeWhile_append_dropWhile (p:=(decide<| · <x)) (l:=r));rw[List.length_append]at this;omega
theorem ana (r:List Int) (x:Int):iW (r++[x])=put (iW r) x:=by unfold iW;rw[List.foldl_append];rfl
structure Mid (l:List ah) (from_ next anb:List Int) (i:Nat) (out later:List Int) (found level:List (Int×Bool)):Prop where
 found:∀x,(dD found x).getD false=true↔x∈out
 level:∀x,(dD level x).getD false=true→x∈out
 nodup:(iW out).length=out.length
 rch:∀x∈out,Rch l from_ x
 seen:∀x∈next.take i,gJ l x=true→x∈out
 sub:∀x∈anb,x∈out
 ref:∀y∈out,y∈anb∨∀x∈lD l y,x∈later
 back:∀x∈later,∃y∈out,x∈lD l y
 size:later.length+40*anb.length≤40*out.length
 same:out.length=anb.length→later=[]
theorem XF {l:List ah} {out:List Int} (h:(iW out).length=out.length) (hr:∀x∈out,gJ l x=true):out.length≤l.length:=by
 rw[←h];exact vG (nZ out) fun x hx=>hr x (lS.1 hx)
theorem ac6 (l:List ah) {x:Int} {e:ah} (h:kG l x=some e):qF e=some (lD l x):=by
 unfold qF lD;rw[sK h]
theorem aeT (l:List ah) (from_:List Int) (hl:l.length≤1000) (ha:XE l) (hf:from_.length≤10000000):
 dn (GI l from_ fun a0=>qF a0) (fun r=>Inc r∧∀x,x∈r↔Rch l from_ x):=by
 unfold GI;refine(xW l hl).bind fun at_ hat=>?_;unfold VZ
 refine ZC (fun m out next at' found level=>at'=at_∧m=2*(l.length-out.length)+(if next=[]then 0 else 1)∧next.length≤10000000∧(∀x,(dD found x).getD false=true↔x∈out)∧(iW out).length=out.length∧
  (∀x∈out,Rch l from_ x)∧(∀x∈next,gJ l x=true→Rch l from_ x)∧(∀x∈from_,gJ l x=true→x∈out∨x∈next)∧(∀y∈out,∀x∈lD l y,gJ l x=true→x∈out∨x∈next)) ?_ fuel (2*(l.length-([]:List Int).length)+(if from_=[]then 0 else 1)) _ _ _ _ _ ?_ ?_
 ·rintro m out next at2 found level k ⟨ax0,rfl,hn,h1,h2,h3,h4,h5,h6⟩ hk;subst ax0;unfold VY;have hol:=XF h2 fun x hx=>(h3 x hx).gJ;refine dn.bif (fun e=>?_) fun e=>?_
  ·have hne:next≠[]:=by
    rintro rfl;simp at e
   unfold VX;refine ZE (body:=Lh next l (fun a0=>qF a0) k) (fun(m:Nat) (o la:List Int) (c:Int) (d:List (Int×Int)) (fo le:List (Int×Bool))=>∃i:Nat,c=i∧i+m=next.length∧d=at2∧Mid l from_ next out i o la fo le) ?_ fuel next.length _ _ _ _ _ _ (by have :fuel=9223372036854775808:=rfl;omega) ?_
   ·rintro m o la c d fo le k2 ⟨i,rfl,hm,rfl,hM⟩ hk2;unfold Lh;refine dn.bif (fun e=>?_) fun e=>?_
    ·have hi:i<next.length:=by simpa using e
     have w:=wrap_succ i (by omega);have ax1:=XF hM.nodup fun x hx=>(hM.rch x hx).gJ;rw[fZ hi];simp only[Option.bind_some];rw[hat.isSome];unfold ET;have htake:next.take (i+1)=next.take i++[next[i]]:=by rw[List.take_succ_eq_append_getElem hi]
     cases hkn:gJ l next[i]with
     |false=>
      simp only[Bool.not_false,cond_true,Option.bind_some,w];refine hk2 (m-1) _ _ _ _ _ _ (by omega) ⟨i+1,rfl,by omega,rfl,{ hM with seen:=fun x hx hk=>?_ }⟩;rw[htake,List.mem_append]at hx;rcases hx with hx|hx
      ·exact hM.seen x hx hk
      rw[List.mem_singleton.1 hx,hkn]at hk;cases hk
     |true=>
      simp only[Bool.not_true,cond_false,Option.bind_some];by_cases hin:next[i]∈o
      ·rw[(hM.found next[i]).2 hin];simp only[cond_true,Option.bind_some,w];refine hk2 (m-1) _ _ _ _ _ _ (by omega) ⟨i+1,rfl,by omega,rfl,{ hM with seen:=fun x hx hk=>?_ }⟩;rw[htake,List.mem_append]at hx;rcases hx with hx|hx
       ·exact hM.seen x hx hk
       rw[List.mem_singleton.1 hx];exact hin
      have f1:(dD fo next[i]).getD false=false:=by
       cases h:(dD fo next[i]).getD false with
       |false=>rfl
       |true=>exact absurd ((hM.found _).1 h) hin
      have f2:(dD le next[i]).getD false=false:=by
       cases h:(dD le next[i]).getD false with
       |false=>rfl
       |true=>exact absurd (hM.level _ h) hin
      rw[f1,f2];simp only[cond_false,Option.bind_some];obtain⟨ev,hev⟩:=Option.isSome_iff_exists.1 (show(kG l next[i]).isSome=true from hkn);rw[eX (by simp only[List.length_singleton];omega)];simp only[Option.bind_some];rw[hat.get hev];simp only[Option.bind_some];rw[ac6 l hev];simp only[Option.bind_some];have hau:=Oo ha next[i];have hsz:=hM.size;rw[eX (by omega)];simp only[Option.bind_some,w];refine hk2 (m-1) _ _ _ _ _ _ (by omega) ⟨i+1,rfl,by omega,rfl,?_⟩;have hnx:Rch l from_ next[i]:=h4 _ (List.getElem_mem hi) hkn;refine⟨fun x=>?_,fun x hx=>?_,?_,fun x hx=>?_,fun x hx hk=>?_,fun x hx=>List.mem_append_left _ (hM.sub x hx),fun y hy=>?_,fun x hx=>?_,?_,fun h=>?_⟩
      ·rw[xU,List.mem_append,List.mem_singleton];cases hx:x==next[i]with
       |true=>simp only[cond_true,Option.getD_some,true_iff];exact .inr (by simpa using hx)
       |false=>simp only[cond_false];rw[hM.found x];exact⟨.inl,fun h=>h.elim id fun h=>by simp[h]at hx⟩
      ·rw[xU]at hx;rw[List.mem_append,List.mem_singleton];cases hxe:x==next[i]with
       |true=>exact .inr (by simpa using hxe)
       |false=>rw[hxe]at hx;exact .inl (hM.level x hx)
      ·rw[ana,agS (fun h=>hin (lS.1 h)),hM.nodup];simp
      ·rcases List.mem_append.1 hx with hx|hx
       ·exact hM.rch x hx
       rw[List.mem_singleton.1 hx];exact hnx
      ·rw[htake,List.mem_append]at hx;rcases hx with hx|hx
       ·exact List.mem_append_left _ (hM.seen x hx hk)
       exact List.mem_append_right _ hx
      ·rcases List.mem_append.1 hy with hy|hy
       ·exact(hM.ref y hy).imp id fun h x hx=>List.mem_append_left _ (h x hx)
       rw[List.mem_singleton.1 hy];exact .inr fun x hx=>List.mem_append_right _ hx
      ·rcases List.mem_append.1 hx with hx|hx
       ·obtain⟨y,hy,h⟩:=hM.back x hx;exact⟨y,List.mem_append_left _ hy,h⟩
       exact⟨next[i],List.mem_append_right _ (List.mem_singleton.2 rfl),hx⟩
      ·simp only[List.length_append,List.length_singleton];omega
      have:=hM.size;simp only[List.length_append,List.length_singleton]at h;omega
    have hi:i=next.length:=by have :¬i<next.length:=by simpa using e
                              omega
    subst hi;have ax1:=XF hM.nodup fun x hx=>(hM.rch x hx).gJ;have hsz:=hM.size;refine hk (2*(l.length-o.length)+(if la=[]then 0 else 1)) _ _ _ _ _ ?_ ⟨rfl,rfl,by omega,hM.found,hM.nodup,hM.rch,fun x hx hkx=>?_,fun x hx hkx=>?_,fun y hy x hx hkx=>?_⟩
    ·rw[if_neg hne];have hle:out.length≤o.length:=by omega
     rcases Nat.lt_or_ge out.length o.length with h|h
     ·split<;>omega
     have:=hM.same (by omega);rw[if_pos this];omega
    ·obtain⟨y,hy,h⟩:=hM.back x hx;exact .more (hM.rch y hy) h hkx
    ·rcases h5 x hx hkx with h|h
     ·exact .inl (hM.sub x h)
     exact .inl (hM.seen x (by rw[List.take_length];exact h) hkx)
    rcases hM.ref y hy with h|h
    ·rcases h6 y h x hx hkx with h|h
     ·exact .inl (hM.sub x h)
     exact .inl (hM.seen x (by rw[List.take_length];exact h) hkx)
    exact .inr (h x hx)
   exact⟨0,rfl,by omega,rfl,⟨h1,fun x hx=>by simp[dD]at hx,h2,h3,fun x hx=>by simp at hx,fun _ h=>h,fun y hy=>.inl hy,fun x hx=>(List.not_mem_nil hx).elim,by simp,fun _=>rfl⟩⟩
  have hz:next=[]:=by
   cases next with
   |nil=>rfl
   |cons a b=>simp at e
  subst hz;rw[oO out (by omega)];refine .ret ⟨nZ _,fun x=>?_⟩;rw[lS];refine⟨h3 x,fun h=>?_⟩
  induction h with
  |one h hkx=>exact(h5 _ h hkx).elim id fun h=>(List.not_mem_nil h).elim
  |more h hx hkx ih=>exact(h6 _ ih _ hx hkx).elim id fun h=>(List.not_mem_nil h).elim
 ·have :fuel=9223372036854775808:=rfl;split<;>(simp only[List.length_nil];omega)
 exact⟨rfl,rfl,hf,fun x=>by simp[dD],rfl,fun x hx=>(List.not_mem_nil hx).elim,fun x hx hk=>.one hx hk,fun x hx _=>.inr hx,fun y hy=>(List.not_mem_nil hy).elim⟩
theorem LV (l:List ah) (ids:List Int) (hl:l.length≤1000) (ha:XE l) (hi:ids.length≤100000):uY l ids=some (chainOf l ids):=by
 refine dn.eq ?_;unfold uY;refine(xW l hl).bind fun at_ hat=>?_;unfold V3;rw[Bg ids (by omega) (fun r id=>r++lD l id) (fun i r=>r.length≤40*i) (fun r=>(GI l r fun a0=>qF a0).bind fun x12=>some x12) (by simp)]
 ·rw[foldl_append (lD l),List.nil_append]
  have hlen:(ids.flatMap (lD l)).length≤40*ids.length:=by
   have key:∀ids:List Int,(ids.flatMap (lD l)).length≤40*ids.length:=by
    intro ids
    induction ids with
    |nil=>simp
    |cons x ids ih=>have:=Oo ha x;rw[List.flatMap_cons,List.length_append,List.length_cons];omega
   exact key ids
  refine(aeT l _ hl ha (by omega)).bind fun r hr=>.ret ?_;refine P6 hr.1 (abB l ids) fun x=>(hr.2 x).trans (Iff.trans ?_ abD.symm);constructor
  ·intro h
   induction h with
   |one h hk=>
    obtain⟨i,hi,h⟩:=List.mem_flatMap.1 h;exact .one hi h hk
   |more h hx hk ih=>exact .more ih hx hk
  intro h
  induction h with
  |one h hx hk=>exact .one (List.mem_flatMap.2 ⟨_,h,hx⟩) hk
  |more h hx hk ih=>exact .more ih hx hk
 ·intro k r i h hI;have hau:=Oo ha ids[i];refine⟨by simp only[List.length_append];omega,?_⟩;unfold Lj EU;rw[bV h,hat.isSome];cases hk:gJ l ids[i]with
  |false=>
   have :lD l ids[i]=[]:=by
    unfold lD;rw[Em (by unfold gJ at hk;simpa using hk)];rfl
   rw[this,List.append_nil];rfl
  |true=>
   obtain⟨ev,hev⟩:=Option.isSome_iff_exists.1 (show(kG l ids[i]).isSome=true from hk);simp only[cond_true];rw[hat.get hev];simp only[Option.bind_some];have :lD l ids[i]=ev.fO:=by unfold lD;rw[sK hev]
   rw[←this,eX (by omega)];rfl
 intro k r _;unfold Lj;rw[dM]
end Go.Proofs.YtolgdkhlelfpoaaGreat
end
section
namespace Go.Proofs.YtolgdkhlelfpoaaGreat
open Go.RowKit
theorem ZF :∀x:List UInt8,Op.bytesLess x x=false
 | []=>rfl
 |a::x=>by
  unfold Op.bytesLess;rw[ZF x];simp
theorem aj3 :∀{x y z:List UInt8},Op.bytesLess x y=true→Op.bytesLess y z=true→Op.bytesLess x z=true
 |_,_,[],_,h=>by simp[Op.bytesLess]at h
 | [],_,_::_,_,_=>rfl
 |_::_,[],_::_,h,_=>by simp[Op.bytesLess]at h
 |a::x,b::y,c::z,h,k=>by
  simp only[Op.bytesLess,Bool.or_eq_true,Bool.and_eq_true,decide_eq_true_eq,beq_iff_eq]at h k ⊢;rcases h with h|⟨rfl,h⟩<;>rcases k with k|⟨rfl,k⟩
  ·exact .inl (UInt8.lt_trans h k)
  ·exact .inl h
  ·exact .inl k
  exact .inr ⟨rfl,aj3 h k⟩
theorem aj6 :∀{x y:List UInt8},Op.bytesLess x y=false→Op.bytesLess y x=false→x=y
 | [],[],_,_=>rfl
 | [],_::_,h,_=>by simp[Op.bytesLess]at h
 |_::_,[],_,h=>by simp[Op.bytesLess]at h
 |a::x,b::y,h,k=>by
  simp only[Op.bytesLess,Bool.or_eq_false_iff,Bool.and_eq_false_iff,decide_eq_false_iff_not,beq_eq_false_iff_ne]at h k;have e:a=b:=UInt8.le_antisymm (UInt8.not_lt.1 k.1) (UInt8.not_lt.1 h.1);subst e;have h2:=h.2.resolve_left (fun h=>h rfl);have k2:=k.2.resolve_left (fun h=>h rfl);rw[aj6 h2 k2]
def jU (a b:au):Bool:=decide (a.Kind<b.Kind)||(a.Kind==b.Kind&&Op.bytesLess a.Key.toList b.Key.toList)
def oP (a b:au):Bool:=a.Kind==b.Kind&&decide (a.Key=b.Key)
theorem alg (a:au):jU a a=false:=by unfold jU;rw[ZF];simp
theorem aeU {a b c:au} (h:jU a b=true) (k:jU b c=true):jU a c=true:=by
 unfold jU at *;simp only[Bool.or_eq_true,Bool.and_eq_true,decide_eq_true_eq,beq_iff_eq]at *;rcases h with h|⟨h1,h2⟩<;>rcases k with k|⟨k1,k2⟩
 ·exact .inl (by omega)
 ·exact .inl (by omega)
 ·exact .inl (by omega)
 exact .inr ⟨by omega,aj3 h2 k2⟩
theorem zX {a b:au}:oP a b=true↔a.Kind=b.Kind∧a.Key=b.Key:=by unfold oP;simp
theorem aeV {a b:au} (h:jU a b=false) (k:jU b a=false):oP a b=true:=by
 unfold jU at *;simp only[Bool.or_eq_false_iff,Bool.and_eq_false_iff,decide_eq_false_iff_not,beq_eq_false_iff_ne]at *;have e:a.Kind=b.Kind:=by omega
 rw[zX];exact⟨e,toList_inj (aj6 (h.2.resolve_left fun n=>n e) (k.2.resolve_left fun n=>n e.symm))⟩
theorem Ui {a b:au} (h:oP a b=true):jU a b=false:=by
 obtain⟨h1,h2⟩:=zX.1 h;unfold jU;rw[h1,h2,ZF];simp
theorem JL {a b c:au} (h:oP a b=true):jU a c=jU b c∧jU c a=jU c b:=by
 obtain⟨h1,h2⟩:=zX.1 h;unfold jU;rw[h1,h2];exact⟨rfl,rfl⟩
theorem alh (a b:au):uy a b=some (jU a b):=by
 unfold uy jU;cases h1:decide (a.Kind<b.Kind)<;>cases h2:a.Kind==b.Kind<;>rfl
def rF (s:List au) (e:au):Nat:=s.findIdx fun x=>!jU x e
def Bh (s:List au) (e:au):Bool:=match s[rF s e]? with
 |some x=>oP x e
 |none=>false
theorem agT (s:List au) (e:au):rF s e≤s.length:=List.findIdx_le_length
theorem abE {s:List au} {e:au} (h:rF s e<s.length):jU s[rF s e] e=false:=by
 have:=List.findIdx_getElem (w:=h);unfold rF;simpa using this
theorem RG (s:List au) (k:Int) (key:ByteArray) (hs:s.length≤1000000):BK s k key=some (((rF s ⟨k,key,0⟩:Nat):Int),Bh s ⟨k,key,0⟩):=by
 unfold BK wR BJ;generalize he:(⟨k,key,0⟩:au)=e
 have hp:dB (oM s (fun a0=>xJ a0 e) (fun a0=>xK a0 e)) fuel 0=some (((rF s e:Nat):Int),Bh s e):=by
  rw[U9 s (fuel_lt (by omega)) (fun x=>!jU x e) (fun i=>some (((i:Nat):Int),match s[i]? with |some x=>!jU e x|none=>false)) (some (((s.length:Nat):Int),false))]
  ·split
   ·rename_i h;congr 2;unfold Bh rF;rw[List.getElem?_eq_getElem h];have h1:jU s[s.findIdx fun x=>!jU x e] e=false:=abE h;show(!jU e s[s.findIdx fun x=>!jU x e])=oP s[s.findIdx fun x=>!jU x e] e;cases h2:jU e s[s.findIdx fun x=>!jU x e]with
    |false=>rw[aeV h1 h2];rfl
    |true=>
     cases h3:oP s[s.findIdx fun x=>!jU x e] e with
     |false=>rfl
     |true=>rw[(JL h3).2,alg]at h2;cases h2
   rename_i h;have h':rF s e=s.length:=by have:=agT s e;unfold rF at *;omega
   have h2:Bh s e=false:=by unfold Bh;rw[h',List.getElem?_eq_none (Nat.le_refl _)]
   rw[h',h2]
  ·intro k2 i h;unfold oM;rw[bV h,bV h];simp only[xJ,xK,alh,Option.bind_some];rw[List.getElem?_eq_getElem h];cases jU s[i] e<;>rfl
  intro k2;unfold oM;rw[dM,dM];rfl
 rw[hp];rfl
def kY (s:List au):Prop:=s.Pairwise fun a b=>jU a b=true
def uQ (s:List au) (k:Int) (key:ByteArray):Int×Bool:=match s.find? fun x=>oP x ⟨k,key,0⟩with
 |some x=>(x.Id,true)
 |none=>(0,false)
theorem ali {s:List au} (h:kY s) (e:au):s.find? (fun x=>oP x e)=match s[rF s e]? with |some x=>if oP x e then some x else none|none=>none:=by
 induction s with
 |nil=>rfl
 |cons a s ih=>
  have h':=List.pairwise_cons.1 h;unfold rF;rw[List.find?_cons,List.findIdx_cons];cases hp:jU a e with
  |true=>
   have hs:oP a e=false:=by
    cases hs:oP a e with
    |false=>rfl
    |true=>rw[Ui hs]at hp;cases hp
   rw[hs];simp only[Bool.not_true,cond_false,List.getElem?_cons_succ];exact ih h'.2
  |false=>
   simp only[Bool.not_false,cond_true,List.getElem?_cons_zero];cases hs:oP a e with
   |true=>rfl
   |false=>
    simp only[Bool.false_eq_true,if_false];refine List.find?_eq_none.2 fun x hx hk=>?_;have h1:=h'.1 x hx;rw[(JL hk).2,hp]at h1;cases h1
theorem Dp (s:List au) (k:Int) (key:ByteArray) (hs:s.length≤1000000) (h:kY s):vY s k key=some (uQ s k key):=by
 unfold vY;rw[RG s k key hs];simp only[Option.bind_some];unfold uQ Bh;rw[ali h];by_cases hl:rF s ⟨k,key,0⟩<s.length
 ·rw[List.getElem?_eq_getElem hl];simp only;cases hk:oP s[rF s ⟨k,key,0⟩] ⟨k,key,0⟩with
  |true=>simp only[cond_true,if_true];rw[fZ hl];rfl
  |false=>rfl
 rw[List.getElem?_eq_none (by omega)];rfl
def rG (s:List au) (k:Int) (key:ByteArray) (id:Int):List au:=
 s.take (rF s ⟨k,key,0⟩)++⟨k,key,id⟩::s.drop (rF s ⟨k,key,0⟩+bif Bh s ⟨k,key,0⟩then 1 else 0)
theorem aq3 {s:List au} {e:au} (h:Bh s e=true):rF s e<s.length:=by
 unfold Bh at h;by_cases hl:rF s e<s.length
 ·exact hl
 rw[List.getElem?_eq_none (by omega)]at h;cases h
theorem aht {α:Type} {l:List α} {i:Nat} (hi:i≤l.length):wM l 0 (i:Int)=some (l.take i):=by
 have:=P7 (l:=l) (lo:=0) (hi:=i) (by omega) hi;simpa using this
theorem ZG {α:Type} {l:List α} {i:Nat} (hi:i≤l.length):wM l (i:Int) (l.length:Int)=some (l.drop i):=by
 rw[P7 (l:=l) (lo:=i) (hi:=l.length) hi (by omega)];congr 1;exact List.take_of_length_le (by simp)
theorem oz (s:List au) (k:Int) (key:ByteArray) (id:Int) (hs:s.length≤1000000):lI s k key id=some (rG s k key id):=by
 unfold lI;rw[RG s k key hs];simp only[Option.bind_some];have hp:=agT s ⟨k,key,0⟩;unfold Dc rG;rw[aht hp];simp only[Option.bind_some];rw[eX (by simp;omega)];simp only[Option.bind_some,List.nil_append];rw[eX (by simp;omega)];simp only[Option.bind_some];cases hh:Bh s ⟨k,key,0⟩with
 |true=>
  have hl:=aq3 hh;simp only[cond_true];rw[wrap_succ _ (by omega),ZG hl];simp only[Option.bind_some];rw[eX (by simp;omega)];simp
 |false=>
  simp only[cond_false];rw[ZG hp];simp only[Option.bind_some];rw[eX (by simp;omega)];simp
end Go.Proofs.YtolgdkhlelfpoaaGreat
end
section
namespace Go.Proofs.YtolgdkhlelfpoaaGreat
open Go.RowKit
theorem qc (s:List au) (k:Int) (key:ByteArray) (id:Int):(rG s k key id).length≤s.length+1:=by
 unfold rG;have:=agT s ⟨k,key,0⟩;simp only[List.length_append,List.length_cons,List.length_take,List.length_drop];omega
theorem alj {s:List au} {e x:au} (h:x∈s.take (rF s e)):jU x e=true:=by
 obtain⟨i,hi,rfl⟩:=List.getElem_of_mem h;have hi':i<rF s e:=by simp at hi;omega
 have:=List.not_of_lt_findIdx hi';rw[List.getElem_take];simpa using this
theorem aeW {s:List au} (hs:kY s) {e x:au} (h:x∈s.drop (rF s e+bif Bh s e then 1 else 0)):jU e x=true:=by
 generalize hn:(rF s e+bif Bh s e then 1 else 0)=n at h;obtain⟨i,hi,rfl⟩:=List.getElem_of_mem h;rw[List.getElem_drop];rw[List.length_drop]at hi;by_cases hl:rF s e<s.length
 ·have h1:=abE hl;cases hh:Bh s e with
  |true=>
   rw[hh]at hn;simp only[cond_true]at hn;have h2:oP s[rF s e] e=true:=by unfold Bh at hh;rw[List.getElem?_eq_getElem hl]at hh;exact hh
   rw[←(JL h2).1];exact List.pairwise_iff_getElem.1 hs _ _ hl (by omega) (by omega)
  |false=>
   rw[hh]at hn;simp only[cond_false,Nat.add_zero]at hn;subst hn;have h2:oP s[rF s e] e=false:=by unfold Bh at hh;rw[List.getElem?_eq_getElem hl]at hh;exact hh
   have h3:jU e s[rF s e]=true:=by
    cases h:jU e s[rF s e]with
    |true=>rfl
    |false=>rw[aeV h1 h]at h2;cases h2
   rcases Nat.eq_zero_or_pos i with h0|h0
   ·subst h0;simpa using h3
   exact aeU h3 (List.pairwise_iff_getElem.1 hs _ _ hl (by omega) (by omega))
 omega
theorem Vb {s:List au} (h:kY s) (k:Int) (key:ByteArray) (id:Int):kY (rG s k key id):=by
 have e0:oP ⟨k,key,id⟩ ⟨k,key,0⟩=true:=zX.2 ⟨rfl,rfl⟩;unfold rG kY;refine List.pairwise_append.2 ⟨h.sublist (List.take_sublist ..),List.pairwise_cons.2 ⟨fun x hx=>?_,h.sublist (List.drop_sublist ..)⟩,fun x hx y hy=>?_⟩
 ·rw[(JL e0).1];exact aeW h hx
 have h1:jU x ⟨k,key,0⟩=true:=alj hx;rcases List.mem_cons.1 hy with rfl|hy
 ·rw[(JL e0).2];exact h1
 exact aeU h1 (aeW h hy)
structure um (l:List (List au)):Prop where
 len:l.length≤100
 each:∀s∈l,s.length≤100∧kY s
def qQ (l:List (List au)) (x:au):Bool:=l.all fun s=>(uQ s x.Kind x.Key).2&&(uQ s x.Kind x.Key).1==x.Id
theorem aeX (l:List (List au)) (x:au) (h:um l):Jq l x=some (qQ l x):=by
 unfold Jq TG;rw[scan l (fuel_lt (by have:=h.len;omega)) (fun s=>!((uQ s x.Kind x.Key).2&&(uQ s x.Kind x.Key).1==x.Id)) false (some true)]
 ·unfold qQ;rw[LM,PO]
 ·intro k i hi;obtain⟨h1,h2⟩:=h.each l[i] (List.getElem_mem hi);unfold Jp;rw[bV hi,Dp _ _ _ (by omega) h2];simp only[Option.bind_some];cases(uQ l[i] x.Kind x.Key).2<;>simp[bne]
 intro k;unfold Jp;rw[dM]
def uS (l:List (List au)):List au:=match l with
 | []=>[]
 |s::_=>s.filter (qQ l)
def PS (l:List (List au)):List Int:=(l.flatMap fun s=>s.filter fun x=>!qQ l x).map (·.Id)
def JM (l:List (List au)) (i:Nat):List au:=if i=0 then[]else uS l
def zT (l:List (List au)) (i:Nat):List Int:=((l.take i).flatMap fun s=>s.filter fun x=>!qQ l x).map (·.Id)
theorem alk {l:List (List au)} {i:Nat} (h:i<l.length):JM l (i+1)=JM l i++(if i=0 then l[i].filter (qQ l)else[]):=by
 unfold JM uS;cases l with
 |nil=>simp at h
 |cons s l=>cases i<;>simp
theorem abG {l:List (List au)} {i:Nat} (h:i<l.length):zT l (i+1)=zT l i++(l[i].filter fun x=>!qQ l x).map (·.Id):=by
 unfold zT;rw[List.take_succ_eq_append_getElem h,List.flatMap_append,List.map_append];simp
theorem aeY (l:List (List au)):zT l l.length=PS l:=by unfold zT PS;rw[List.take_length]
theorem anc (l:List (List au)):JM l l.length=uS l:=by
 unfold JM;cases l with
 |nil=>rfl
 |cons s l=>simp
theorem X9 {l:List (List au)} (h:um l) (i:Nat):(zT l i).length≤100*i:=by
 induction i with
 |zero=>simp[zT]
 |succ i ih=>
  by_cases hi:i<l.length
  ·rw[abG hi,List.length_append,List.length_map];have:=(h.each _ (List.getElem_mem hi)).1;have:=List.length_filter_le (fun x=>!qQ l x) l[i];omega
  have :zT l (i+1)=zT l i:=by unfold zT;rw[List.take_of_length_le (by omega),List.take_of_length_le (by omega)]
  rw[this];omega
theorem RH {l:List (List au)} (h:um l):(PS l).length≤10000:=by
 have:=X9 h l.length;rw[aeY]at this;have:=h.len;omega
theorem JO {l:List (List au)} (h:um l):(uS l).length≤100:=by
 unfold uS;cases l with
 |nil=>exact Nat.zero_le _
 |cons s l=>exact Nat.le_trans (List.length_filter_le _ _) (h.each s (List.mem_cons_self ..)).1
theorem ZH {l:List (List au)} (h:um l):kY (uS l):=by
 unfold uS;cases l with
 |nil=>exact .nil
 |cons s l=>exact(h.each s (List.mem_cons_self ..)).2.sublist List.filter_sublist
theorem O1 (l:List (List au)) (h:um l):zH l=some (uS l,iW (PS l)):=by
 have hlen:=h.len;refine dn.eq ?_;unfold zH OM;refine ZE (body:=Gf l) (fun(m:Nat) (a:List au) (b:List Int) (c:Int) (d:List (List au)) (_:List au) (_:List Int)=>∃i:Nat,c=i∧i+m=l.length∧d=l∧a=JM l i∧b=zT l i) ?_ fuel l.length [] [] 0 l [] [] (fuel_lt (by omega)) ⟨0,rfl,by omega,rfl,rfl,by simp[zT]⟩;rintro m a b c d e f k ⟨i,rfl,hm,rfl,rfl,rfl⟩ hk;unfold Gf;refine dn.bif (fun hi=>?_) fun hi=>?_
 ·have hi:i<d.length:=by simpa using hi
  have hs:=(h.each d[i] (List.getElem_mem hi)).1;have hdl:=X9 h i;rw[fZ hi];simp only[Option.bind_some,BI];unfold OL
  refine ahs (body:=F9 d[i] k (i:Int)) (fun(m2:Nat) (a:List au) (b:List Int) (c:Int) (d2:List (List au)) (_:List au) (_:List Int) (g:Int)=>
   ∃j:Nat,c=j∧j+m2=d[i].length∧d2=d∧g=i∧a=JM d i++(if i=0 then(d[i].take j).filter (qQ d)else[])∧b=zT d i++((d[i].take j).filter fun x=>!qQ d x).map (·.Id)) ?_ fuel d[i].length _ _ _ _ _ _ _ (fuel_lt (by omega)) ⟨0,rfl,by omega,rfl,rfl,by simp,by simp⟩
  rintro m2 a b c d2 e2 f2 g k2 ⟨j,rfl,hm2,rfl,rfl,rfl,rfl⟩ hk2;unfold F9;refine dn.bif (fun hj=>?_) fun hj=>?_
  ·have hj:j<d2[i].length:=by simpa using hj
   have htake:d2[i].take (j+1)=d2[i].take j++[d2[i][j]]:=by rw[List.take_succ_eq_append_getElem hj]
   rw[fZ hj];simp only[Option.bind_some];rw[aeX d2 _ h];simp only[Option.bind_some];have w:=wrap_succ j (by omega);have hf1:=List.length_filter_le (fun x=>!qQ d2 x) (d2[i].take j);have hf2:=List.length_filter_le (qQ d2) (d2[i].take j)
   have hst:(JM d2 i).length≤100:=by unfold JM;split;·exact Nat.zero_le _
                                     ·exact JO h
   rw[List.length_take]at hf1 hf2;cases ha:qQ d2 d2[i][j]with
   |false=>
    simp only[Bool.not_false,cond_true];rw[eX (by simp only[List.length_append,List.length_map,List.length_singleton];omega)];simp only[Option.bind_some,w];refine hk2 (m2-1) _ _ _ _ _ _ _ (by omega) ⟨j+1,rfl,by omega,rfl,rfl,?_,?_⟩
    ·rw[htake,List.filter_append];simp[ha]
    rw[htake,List.filter_append];simp[ha]
   |true=>
    simp only[Bool.not_true,cond_false];by_cases h0:i=0
    ·subst h0;simp only[show(((0:Nat):Int)==0)=true from rfl,cond_true,if_true];rw[eX (by simp only[List.length_append,List.length_singleton];omega)];simp only[Option.bind_some,w];refine hk2 (m2-1) _ _ _ _ _ _ _ (by omega) ⟨j+1,rfl,by omega,rfl,rfl,?_,?_⟩
     ·rw[htake,List.filter_append];simp[ha]
     rw[htake,List.filter_append];simp[ha]
    have :((i:Int)==0)=false:=by simpa using h0
    rw[this];simp only[cond_false,w];refine hk2 (m2-1) _ _ _ _ _ _ _ (by omega) ⟨j+1,rfl,by omega,rfl,rfl,?_,?_⟩
    ·simp[h0]
    rw[htake,List.filter_append];simp[ha]
  have hj:j=d2[i].length:=by have :¬j<d2[i].length:=by simpa using hj
                             omega
  subst hj;rw[wrap_succ i (by omega),List.take_length];exact hk (m-1) _ _ _ _ _ _ (by omega) ⟨i+1,rfl,by omega,rfl,(alk hi).symm,(abG hi).symm⟩
 have hi:i=d.length:=by have :¬i<d.length:=by simpa using hi
                        omega
 subst hi;have:=RH h;rw[aeY,anc,oO _ (by omega)];exact .ret rfl
end Go.Proofs.YtolgdkhlelfpoaaGreat
end
section
namespace Go.Proofs.YtolgdkhlelfpoaaGreat
open Go.RowKit
def PU (s:List au):List Int:=s.map (·.Id)
def iJ (l:List ah) (s:List au):List Int:=lq (PU s) (chainOf l (PU s))
def allOf (l:List ah) (aZ:List (List au)):List Int:=aZ.foldl (fun a s=>lq a (iJ l s)) []
def Dq (l:List ah) (aZ:List (List au)) (x:Int):Nat:=aZ.countP fun s=>hasB (iJ l s) x
def JQ (l:List ah) (aZ:List (List au)):List Int:=(allOf l aZ).filter fun x=>decide (Dq l aZ x<aZ.length)
def wC (l:List ah) (aZ:List (List au)):List Int:=lq (iW (PS aZ)) (JQ l aZ)
theorem Ya (l:List ah) (s:List au):Inc (iJ l s):=Pe _ _
theorem ZI (s:List au):(PU s).length=s.length:=List.length_map _
theorem Ie (l:List ah) (s:List au):(iJ l s).length≤s.length+l.length:=by
 have h1:=Om (PU s) (chainOf l (PU s));have h2:=FC l (PU s);rw[ZI]at h1;unfold iJ;omega
theorem ac7 (l:List ah):∀(aZ:List (List au)) (a:List Int),Inc a→Inc (aZ.foldl (fun a s=>lq a (iJ l s)) a)∧∀x,x∈aZ.foldl (fun a s=>lq a (iJ l s)) a↔x∈a∨∃s∈aZ,x∈iJ l s
 | [],a,h=>⟨h,fun x=>by simp⟩
 |s::aZ,a,h=>by
  rw[List.foldl_cons];obtain⟨h1,h2⟩:=ac7 l aZ (lq a (iJ l s)) (Pe _ _);refine⟨h1,fun x=>(h2 x).trans ?_⟩;rw[EF];constructor
  ·rintro((h|h)|⟨t,h3,h4⟩)
   ·exact .inl h
   ·exact .inr ⟨s,List.mem_cons_self ..,h⟩
   exact .inr ⟨t,List.mem_cons_of_mem _ h3,h4⟩
  rintro(h|⟨t,h3,h4⟩)
  ·exact .inl (.inl h)
  rcases List.mem_cons.1 h3 with rfl|h3
  ·exact .inl (.inr h4)
  exact .inr ⟨t,h3,h4⟩
theorem apm (l:List ah) (aZ:List (List au)):Inc (allOf l aZ):=(ac7 l aZ [] .nil).1
theorem apn {l:List ah} {aZ:List (List au)} {x:Int}:x∈allOf l aZ↔∃s∈aZ,x∈iJ l s:=by
 unfold allOf;rw[(ac7 l aZ [] .nil).2 x];simp
theorem ane (l:List ah) (aZ:List (List au)):Inc (JQ l aZ):=(apm l aZ).sublist List.filter_sublist
theorem aeZ {aZ:List (List au)} {x:au}:qQ aZ x=true↔∀s∈aZ,(uQ s x.Kind x.Key).2=true∧(uQ s x.Kind x.Key).1=x.Id:=by
 unfold qQ;rw[List.all_eq_true];simp
theorem JR (l:List ah):∀(aZ:List (List au)) (a:List Int),(∀s∈aZ,s.length≤100)→(aZ.foldl (fun a s=>lq a (iJ l s)) a).length≤a.length+aZ.length*(100+l.length)
 | [],a,_=>by simp
 |s::aZ,a,h=>by
  rw[List.foldl_cons];have h1:=JR l aZ (lq a (iJ l s)) fun t ht=>h t (List.mem_cons_of_mem _ ht);have h2:=Om a (iJ l s);have h3:=Ie l s;have h4:=h s (List.mem_cons_self ..);rw[List.length_cons,Nat.succ_mul];omega
theorem aii {l:List ah} {aZ:List (List au)} (hs:um aZ) (hl:l.length≤1000):(JQ l aZ).length≤110000:=by
 have h1:=JR l aZ [] fun s h=>(hs.2 s h).1;have h2:=hs.1;have h3:=List.length_filter_le (fun x=>decide (Dq l aZ x<aZ.length)) (allOf l aZ);have h4:aZ.length*(100+l.length)≤100*1100:=Nat.mul_le_mul h2 (by omega);unfold JQ;unfold allOf at h3 ⊢;simp only[List.length_nil]at h1;omega
theorem anf {s:List au} (h:kY s) {x:au} (hx:x∈s):uQ s x.Kind x.Key=(x.Id,true):=by
 unfold uQ;cases hf:s.find? (fun y=>oP y ⟨x.Kind,x.Key,0⟩)with
 |none=>
  have:=List.find?_eq_none.1 hf x hx;unfold oP at this;simp at this
 |some y=>
  have h1:=List.find?_some hf;have hy:=List.mem_of_find?_eq_some hf;have h2:oP y x=true:=by unfold oP at h1 ⊢;exact h1
  have :y=x:=by
   obtain⟨i,hi,rfl⟩:=List.getElem_of_mem hx;obtain⟨j,hj,rfl⟩:=List.getElem_of_mem hy;rcases Nat.lt_trichotomy i j with h3|h3|h3
   ·have h4:=List.pairwise_iff_getElem.1 h i j hi hj h3;have h5:oP s[i] s[j]=true:=by obtain⟨a,b⟩:=zX.1 h2;exact zX.2 ⟨a.symm,b.symm⟩
    rw[Ui h5]at h4;cases h4
   ·subst h3;rfl
   have h4:=List.pairwise_iff_getElem.1 h j i hj hi h3;rw[Ui h2]at h4;cases h4
  rw[this]
theorem aq4 {s:List au} {k:Int} {key:ByteArray} {n:Int} (h:uQ s k key=(n,true)):(⟨k,key,n⟩:au)∈s:=by
 unfold uQ at h;cases hf:s.find? (fun y=>oP y ⟨k,key,0⟩)with
 |none=>rw[hf]at h;cases h
 |some y=>
  rw[hf]at h;have h0:oP y ⟨k,key,0⟩=true:=by have:=List.find?_some hf;exact this
  have h1:=zX.1 h0;have hy:=List.mem_of_find?_eq_some hf;obtain⟨a,b,c⟩:=y;cases h;simp only at h1;rw[←h1.1,←h1.2];exact hy
theorem ang {aZ:List (List au)} {x:au} (hx:qQ aZ x=true) {s:List au} (hs:s∈aZ):x∈s:=by
 obtain⟨h1,h2⟩:=aeZ.1 hx s hs;exact aq4 (s:=s) (k:=x.Kind) (key:=x.Key) (n:=x.Id) (by rw[←h1,←h2])
theorem anh {aZ:List (List au)} (h:um aZ) {x:au} (hx:∀s∈aZ,x∈s):qQ aZ x=true:=
 aeZ.2 fun s hs=>by rw[anf (h.2 s hs).2 (hx s hs)];exact⟨rfl,rfl⟩
theorem apo {aZ:List (List au)} (h:um aZ) (hne:aZ≠[]) {x:au}:x∈uS aZ↔∀s∈aZ,x∈s:=by
 cases aZ with
 |nil=>exact absurd rfl hne
 |cons s aZ=>
  show x∈s.filter (qQ (s::aZ))↔_;rw[List.mem_filter];exact⟨fun hx t ht=>ang hx.2 ht,fun hx=>⟨hx s (List.mem_cons_self ..),anh h hx⟩⟩
end Go.Proofs.YtolgdkhlelfpoaaGreat
end
section
namespace Go.Proofs.YtolgdkhlelfpoaaGreat
open Go.RowKit
theorem ZJ (l:List Int) (h:l.length≤1099511627776):((iI l).bind fun x=>(jF x).bind fun y=>some y)=some (iW l):=by
 unfold iI jF;have h2:(G8 l).length≤1099511627776:=by rw[(uH l).length_eq];exact h
 simp[h,abZ,Qm]
theorem aq5 (s:List au):s.foldl (fun r x=>r++[x.Id]) []=PU s:=by
 rw[foldl_append (fun x:au=>[x.Id])];unfold PU;rw[List.nil_append]
 induction s with
 |nil=>rfl
 |cons x s ih=>rw[List.flatMap_cons,ih];rfl
theorem Yy (l:List ah) (s:List au) (hl:l.length≤1000) (ha:XE l) (hs:s.length≤100):AB l s=some (iJ l s):=by
 unfold AB
 have hm:pO 8 (0:Int) 0 (s.length:Int)=some []:=by
  unfold pO;rw[if_pos (by constructor<;>omega)];rfl
 rw[hm];simp only[Option.bind_some];unfold KE;rw[Bg s (by omega) (fun r x=>r++[x.Id]) (fun i r=>r.length≤i) (fun r=>(uY l r).bind fun x8=>(gK 8 r x8).bind fun x9=>(iI x9).bind fun x10=>(jF x10).bind fun x11=>some x11) (by simp)]
 ·have h1:=FC l (PU s);have h2:=ZI s;rw[aq5,LV l _ hl ha (by omega)];simp only[Option.bind_some];rw[eX (by omega)];simp only[Option.bind_some];rw[ZJ _ (by rw[List.length_append];omega)];unfold iJ;rw[Nk]
 ·intro k a i h hI;refine⟨by rw[List.length_append];simp only[List.length_singleton];omega,?_⟩;unfold CJ;rw[bV h,eX (by simp only[List.length_singleton];omega)];rfl
 intro k a hI;unfold CJ;rw[dM]
def stepM (m:List (Int×Int)) (x:Int):List (Int×Int):=fE m x (IntKind.i64.wrap (((dD m x).getD 0)+1))
structure CM (m:List (Int×Int)) (f:Int→Nat):Prop where
 nodup:(m.map (·.1)).Nodup
 find:∀x,dD m x=if f x=0 then none else some (f x:Int)
theorem apq {m:List (Int×Int)} {k v y:Int}:y∈(fE m k v).map (·.1)↔y=k∨y∈m.map (·.1):=by
 induction m with
 |nil=>simp[fE]
 |cons p m ih=>
  unfold fE;cases h:k==p.1 with
  |true=>
   have h1:k=p.1:=by simpa using h
   simp only[cond_true,List.map_cons,List.mem_cons];rw[h1];simp
  |false=>
   simp only[cond_false,List.map_cons,List.mem_cons,ih];exact⟨fun h=>h.elim (fun e=>.inr (.inl e)) fun h=>h.elim .inl fun h=>.inr (.inr h),fun h=>h.elim (fun e=>.inr (.inl e)) fun h=>h.elim .inl fun h=>.inr (.inr h)⟩
theorem ani {m:List (Int×Int)} {k v:Int} (h:(m.map (·.1)).Nodup):((fE m k v).map (·.1)).Nodup:=by
 induction m with
 |nil=>simp[fE]
 |cons p m ih=>
  have h':=List.nodup_cons.1 h;unfold fE;cases hk:k==p.1 with
  |true=>
   have h1:k=p.1:=by simpa using hk
   simp only[cond_true,List.map_cons];rw[h1];exact h
  |false=>
   have h1:k≠p.1:=by simpa using hk
   simp only[cond_false,List.map_cons];refine List.nodup_cons.2 ⟨fun hm=>?_,ih h'.2⟩;rcases apq.1 hm with e|hm
   ·exact h1 e.symm
   exact h'.1 hm
theorem alm (m:List (Int×Int)) (k v:Int):(fE m k v).length≤m.length+1:=by
 induction m with
 |nil=>simp[fE]
 |cons p m ih=>
  unfold fE;cases k==p.1 with
  |true=>simp
  |false=>simp only[cond_false,List.length_cons];omega
theorem CM.step {m:List (Int×Int)} {f:Int→Nat} (h:CM m f) (x:Int) (hf:f x≤1000000):CM (stepM m x) (fun y=>f y+if y=x then 1 else 0):=by
 refine⟨ani h.nodup,fun y=>?_⟩;unfold stepM;rw[xU,h.find x]
 have e:IntKind.i64.wrap (((if f x=0 then none else some (f x:Int)).getD 0)+1)=((f x+1:Nat):Int):=by
  by_cases h0:f x=0
  ·rw[if_pos h0,h0];rfl
  rw[if_neg h0];show IntKind.i64.wrap ((f x:Int)+1)=_;exact wrap_succ _ (by omega)
 by_cases hy:y=x
 ·subst hy;simp only[beq_self_eq_true,cond_true,if_true];rw[e,if_neg (by omega)]
 have :(y==x)=false:=by simpa using hy
 rw[this];simp only[cond_false,if_neg hy,Nat.add_zero];exact h.find y
theorem CM.fold:∀(c:List Int) {m:List (Int×Int)} {f:Int→Nat},c.Nodup→CM m f→(∀x,f x≤1000)→CM (c.foldl stepM m) (fun y=>f y+if y∈c then 1 else 0)
 | [],m,f,_,h,_=>by
   refine⟨h.nodup,fun x=>?_⟩;simp only[List.foldl_nil,List.not_mem_nil,if_false,Nat.add_zero];exact h.find x
 |x::c,m,f,hn,h,hf=>by
  have hn':=List.nodup_cons.1 hn
  have key:∀(c:List Int) (m:List (Int×Int)) (g:Int→Nat),c.Nodup→CM m g→(∀x∈c,g x≤1000)→CM (c.foldl stepM m) (fun y=>g y+if y∈c then 1 else 0):=by
   intro c
   induction c with
   |nil=>intro m g _ h _;refine⟨h.nodup,fun x=>?_⟩;simp only[List.foldl_nil,List.not_mem_nil,if_false,Nat.add_zero];exact h.find x
   |cons z c ih=>
    intro m g hn h hg;have hn':=List.nodup_cons.1 hn
    have h1:=ih (stepM m z) (fun y=>g y+if y=z then 1 else 0) hn'.2 (h.step z (by have:=hg z (List.mem_cons_self ..);omega)) fun y hy=>by
     have hne:y≠z:=fun e=>hn'.1 (e▸hy);simp only[if_neg hne,Nat.add_zero];exact hg y (List.mem_cons_of_mem _ hy)
    refine⟨h1.nodup,fun y=>?_⟩;rw[List.foldl_cons,h1.find y]
    have :(g y+if y=z then 1 else 0)+(if y∈c then 1 else 0)=g y+if y∈z::c then 1 else 0:=by
     by_cases e:y=z
     ·subst e;simp[hn'.1]
     simp[e]
    simp only[this]
  exact key (x::c) m f hn h fun y _=>hf y
theorem RI :∀(c:List Int) (m:List (Int×Int)),(c.foldl stepM m).length≤m.length+c.length
 | [],m=>by simp
 |x::c,m=>by
  have h1:=RI c (stepM m x);have h2:=alm m x (IntKind.i64.wrap (((dD m x).getD 0)+1));rw[List.foldl_cons,List.length_cons];unfold stepM at h1 ⊢;omega
theorem NG {l:List Int} (h:Inc l):l.Nodup:=h.imp fun h=>by omega
theorem CM.mem {m:List (Int×Int)} {f:Int→Nat} (h:CM m f) {x n:Int}:(x,n)∈m↔f x≠0∧n=f x:=by
 have key:∀m:List (Int×Int),(m.map (·.1)).Nodup→((x,n)∈m↔dD m x=some n):=by
  intro m
  induction m with
  |nil=>intro _;simp[dD]
  |cons p m ih=>
   intro hn;have hn':=List.nodup_cons.1 hn;unfold dD;rw[List.mem_cons];cases hx:x==p.1 with
   |true=>
    have h1:x=p.1:=by simpa using hx
    simp only[cond_true,Option.some.injEq];constructor
    ·rintro(e|hm)
     ·rw[←e]
     exact absurd (List.mem_map.2 ⟨_,hm,h1⟩) hn'.1
    intro e;left;rw[h1,←e]
   |false=>
    have h1:x≠p.1:=by simpa using hx
    simp only[cond_false];rw[←ih hn'.2];exact⟨fun h=>h.elim (fun e=>absurd (by rw[←e]) h1) id,.inr⟩
 rw[key m h.nodup,h.find x];by_cases h0:f x=0
 ·simp[h0]
 rw[if_neg h0];simp only[Option.some.injEq,ne_eq,h0,not_false_eq_true,true_and];exact eq_comm
theorem ahu {l:List Int} (h:l.Nodup):G8 l=iW l:=by
 refine P6 ?_ (nZ l) fun x=>by rw[lS];exact(uH l).mem_iff
 have h1:=WY l;have h2:(G8 l).Nodup:=(uH l).nodup_iff.2 h;exact(h1.and h2).imp fun h=>by omega
theorem ac8 (n:Int):∀(m:List (Int×Int)) (r:List Int) (aZ:List (List au)),(aZ.length:Int)=n→r.length+m.length≤1000000→List.foldlM (iQ aZ) r m=some (r++(m.filter fun p=>decide (p.2<n)).map (·.1))
 | [],r,aZ,_,_=>by simp
 |p::m,r,aZ,hs,hr=>by
  simp only[List.length_cons]at hr;have e:iQ aZ r p=(bif decide (p.2<n)then(gK 8 r [p.1]).bind fun mV=>some mV else some r):=by unfold iQ;rw[hs]
  rw[List.foldlM_cons,e];cases hd:decide (p.2<n)with
  |true=>
   simp only[cond_true];rw[eX (by simp only[List.length_singleton];omega)];simp only[Option.bind_some];show List.foldlM (iQ aZ) (r++[p.1]) m=_;rw[ac8 n m (r++[p.1]) aZ hs (by simp only[List.length_append,List.length_singleton];omega),List.filter_cons,if_pos hd];simp
  |false=>
   simp only[cond_false];show List.foldlM (iQ aZ) r m=_;rw[ac8 n m r aZ hs (by omega),List.filter_cons,if_neg (by simp[hd])]
theorem aj7 (l:List ah) (aZ:List (List au)) (x:Int):Dq l aZ x≤aZ.length:=List.countP_le_length
theorem CM.of_eq {m:List (Int×Int)} {f g:Int→Nat} (h:CM m f) (e:∀x,f x=g x):CM m g:=⟨h.nodup,fun x=>by rw[h.find,e]⟩
theorem Vd (l:List ah) (aZ:List (List au)) (hl:l.length≤1000) (ha:XE l) (hs:um aZ):qM l aZ=some (JQ l aZ):=by
 unfold qM GL;have hsl:=hs.len;rw[Zz (a0:=[]) aZ (by omega) (fun m s=>(iJ l s).foldl stepM m) (fun i m=>CM m (Dq l (aZ.take i))∧m.length≤1100*i) (fun v2=>(pO 8 (0:Int) 0 (v2.length:Int)).bind fun gU=>(List.foldlM (iQ aZ) gU v2).bind lM) ⟨⟨List.nodup_nil,fun x=>rfl⟩,Nat.zero_le _⟩]
 ·obtain⟨hC,hlen⟩:CM (aZ.foldl (fun m s=>(iJ l s).foldl stepM m) []) (Dq l aZ)∧(aZ.foldl (fun m s=>(iJ l s).foldl stepM m) []).length≤1100*aZ.length:=by
   have key:∀(b a:List (List au)) (m:List (Int×Int)),(∀s∈b,s.length≤100)→a.length+b.length≤100→CM m (Dq l a)→m.length≤1100*a.length→CM (b.foldl (fun m s=>(iJ l s).foldl stepM m) m) (Dq l (a++b))∧(b.foldl (fun m s=>(iJ l s).foldl stepM m) m).length≤1100*(a.length+b.length):=by
    intro b
    induction b with
    |nil=>intro a m _ _ h1 h2;simpa using⟨h1,h2⟩
    |cons s b ih=>
     intro a m hb hab h1 h2;rw[List.foldl_cons,List.append_cons];have hc:=Ie l s;have asg:=hb s (List.mem_cons_self ..);have h3:=RI (iJ l s) m;simp only[List.length_cons]at hab ⊢;have:=ih (a++[s]) ((iJ l s).foldl stepM m) (fun t ht=>hb t (List.mem_cons_of_mem _ ht)) (by simp only[List.length_append,List.length_singleton];omega) ?_ (by simp only[List.length_append,List.length_singleton];omega)
     ·simpa[Nat.add_assoc,Nat.add_comm 1]using this
     refine(CM.fold (iJ l s) (NG (Ya l s)) h1 fun x=>by have:=aj7 l a x;omega).of_eq fun x=>?_;unfold Dq;rw[List.countP_append,List.countP_singleton];by_cases hx:x∈iJ l s
     ·rw[if_pos hx,if_pos (qj.2 hx)]
     rw[if_neg hx,if_neg (by rw[oJ.2 hx];simp)]
   have:=key aZ [] [] (fun s h=>(hs.each s h).1) (by simpa using hs.len) ⟨List.nodup_nil,fun x=>rfl⟩ (Nat.zero_le _);simpa using this
  generalize aZ.foldl (fun m s=>(iJ l s).foldl stepM m) []=m at hC hlen
  have hm:pO 8 (0:Int) 0 (m.length:Int)=some []:=by
   unfold pO;rw[if_pos (by constructor<;>omega)];rfl
  rw[hm];simp only[Option.bind_some];rw[ac8 (aZ.length:Int) m [] aZ rfl (by simp only[List.length_nil];omega)];simp only[Option.bind_some,List.nil_append];have hnd:((m.filter fun p=>decide (p.2<(aZ.length:Int))).map (·.1)).Nodup:=hC.nodup.sublist (List.filter_sublist.map _);have hle:((m.filter fun p=>decide (p.2<(aZ.length:Int))).map (·.1)).length≤m.length:=by rw[List.length_map];exact List.length_filter_le _ _
  unfold lM iI;rw[if_pos (by omega)];simp only[Option.bind_some];congr 1;rw[ahu hnd];refine P6 (nZ _) (ane _ _) fun x=>?_;rw[lS,List.mem_map];unfold JQ;rw[List.mem_filter,apn];constructor
  ·rintro⟨⟨y,n⟩,hp,rfl⟩;rw[List.mem_filter]at hp;obtain⟨h1,h2⟩:=hC.mem.1 hp.1;have h3:n<(aZ.length:Int):=by simpa using hp.2
   subst h2;refine⟨?_,by simp;omega⟩;have :0<Dq l aZ y:=by omega
   obtain⟨s,hs1,hs2⟩:=List.countP_pos_iff.1 this;exact⟨s,hs1,qj.1 hs2⟩
  rintro⟨⟨s,h1,h2⟩,h3⟩;have h4:0<Dq l aZ x:=List.countP_pos_iff.2 ⟨s,h1,qj.2 h2⟩;refine⟨(x,(Dq l aZ x:Int)),List.mem_filter.2 ⟨hC.mem.2 ⟨by omega,rfl⟩,?_⟩,rfl⟩;have h5:Dq l aZ x<aZ.length:=by simpa using h3
  simp;omega
 ·intro k m i h hI;have hc:=Ie l aZ[i];have asg:=(hs.each aZ[i] (List.getElem_mem h)).1;refine⟨⟨?_,?_⟩,?_⟩
  ·refine(CM.fold (iJ l aZ[i]) (NG (Ya l aZ[i])) hI.1 fun x=>by have:=aj7 l (aZ.take i) x;rw[List.length_take]at this;omega).of_eq fun x=>?_;rw[List.take_succ_eq_append_getElem h];unfold Dq;rw[List.countP_append,List.countP_singleton];by_cases hx:x∈iJ l aZ[i]
   ·rw[if_pos hx,if_pos (qj.2 hx)]
   rw[if_neg hx,if_neg (by rw[oJ.2 hx];simp)]
  ·have:=RI (iJ l aZ[i]) m;have:=hI.2;omega
  unfold rZ;rw[bV h,Yy l _ hl ha asg];simp only[Option.bind_some];unfold GK;rw[Zz (iJ l aZ[i]) (by omega) stepM (fun _ _=>True) (fun v8=>k (IntKind.i64.wrap ((i:Int)+1)) v8) trivial]
  ·intro k2 a j hj _;refine⟨trivial,?_⟩;unfold rY;rw[bV hj];rfl
  intro k2 a _;unfold rY;rw[dM]
 intro k m hI;unfold rZ;rw[dM]
theorem ac9 (l:List ah) (aZ:List (List au)) (hl:l.length≤1000) (ha:XE l) (hs:um aZ):Ho l aZ=some (wC l aZ):=by
 have h1:=RH hs;have h2:=kX (PS aZ);have h3:=aii hs hl;unfold Ho;rw[O1 aZ hs,Vd l aZ hl ha hs];simp only[Option.bind_some];rw[eX (by omega)];simp only[Option.bind_some];rw[ZJ _ (by rw[List.length_append];omega)];unfold wC;rw[Nk]
end Go.Proofs.YtolgdkhlelfpoaaGreat
end
section
namespace Go.Proofs.YtolgdkhlelfpoaaGreat
open Go.RowKit
def gZ (l:List ah):Prop:=∀e∈l,kC e
theorem gZ.anj {l:List ah} (h:gZ l):XE l:=fun e he=>(h e he).auth
theorem ank {R A α:Type} {body:(A→Int→Option R)→A→Int→Option R} (l:List α) (hl:l.length<fuel) (p:α→Bool) (g:Nat→Option R) (rest:Option R) (a0:A)
 (hb:∀k (i:Nat) (h:i<l.length),body k a0 (i:Int)=bif p l[i]then g i else k a0 (IntKind.i64.wrap ((i:Int)+1))) (he:∀k,body k a0 (l.length:Int)=rest):
 aY body fuel a0 0=if l.findIdx p<l.length then g (l.findIdx p)else rest:=by
 have hf:fuel=9223372036854775808:=rfl
 have key:∀n (i:Nat),i+n=l.length→∀m,n<m→aY body m a0 (i:Int)=if(l.drop i).findIdx p+i<l.length then g ((l.drop i).findIdx p+i)else rest:=by
  intro n
  induction n with
  |zero=>
   intro i hi m hm;obtain⟨m,rfl⟩:∃m',m=m'+1:=⟨m-1,by omega⟩
   have :i=l.length:=by omega
   subst this;show body (aY body m) _ _=_;rw[he,List.drop_length,if_neg (by simp)]
  |succ n ih=>
   intro i hi m hm;obtain⟨m,rfl⟩:∃m',m=m'+1:=⟨m-1,by omega⟩
   have hlt:i<l.length:=by omega
   show body (aY body m) _ _=_;rw[hb _ i hlt,wrap_succ i (by omega),ih (i+1) (by omega) m (by omega),List.drop_eq_getElem_cons hlt,List.findIdx_cons];cases p l[i]with
   |true=>simp only[cond_true,Nat.zero_add];rw[if_pos hlt]
   |false=>
    simp only[cond_false];rw[show(l.drop (i+1)).findIdx p+(i+1)=(l.drop (i+1)).findIdx p+1+i by omega]
 have:=key l.length 0 (by omega) fuel hl;simpa using this
theorem ada {s:List au} {k:Int} {key:ByteArray} {id:Int} {x:au} (h:x∈rG s k key id):x=⟨k,key,id⟩∨x∈s:=by
 unfold rG at h;rcases List.mem_append.1 h with h|h
 ·exact .inr (List.mem_of_mem_take h)
 rcases List.mem_cons.1 h with h|h
 ·exact .inl h
 exact .inr (List.mem_of_mem_drop h)
def zU (e:ah):List au:=rG (rG (rG [] 1 s0 0) 3 s0 0) 2 e.bY 0
def keysOf (e:ah):List au:=
 bif e.Kind==1 then[]else bif e.Kind==2 then(bif e.Content.N==3||e.Content.N==1||e.Content.N==2 then rG (rG (zU e) 2 e.Key 0) 4 s0 0 else rG (zU e) 2 e.Key 0)else zU e
theorem Wv (e:ah):(zU e).length≤3:=by
 have h1:=qc [] 1 s0 0;have h2:=qc (rG [] 1 s0 0) 3 s0 0;have h3:=qc (rG (rG [] 1 s0 0) 3 s0 0) 2 e.bY 0;unfold zU;simp only[List.length_nil]at h1;omega
theorem xg (e:ah):(keysOf e).length≤5:=by
 have h1:=Wv e;have h2:=qc (zU e) 2 e.Key 0;have h3:=qc (rG (zU e) 2 e.Key 0) 4 s0 0;unfold keysOf;cases e.Kind==1<;>cases e.Kind==2<;>cases(e.Content.N==3||e.Content.N==1||e.Content.N==2)<;>simp only[cond_true,cond_false,List.length_nil]<;>omega
theorem Uj (e:ah):D7 e=some (keysOf e):=by
 have h1:=Wv e;have h2:=qc (zU e) 2 e.Key 0;have g1:=qc [] 1 s0 0;have g2:=qc (rG [] 1 s0 0) 3 s0 0;simp only[List.length_nil]at g1;unfold D7 keysOf;rw[oz [] 1 s0 0 (by simp)];simp only[Option.bind_some];rw[oz _ 3 s0 0 (by omega)];simp only[Option.bind_some];rw[oz _ 2 e.bY 0 (by omega)];simp only[Option.bind_some];show(bif e.Kind==1 then some []else bif e.Kind==2 then(lI (zU e) 2 e.Key 0).bind _ else sZ (zU e))=_;rw[oz (zU e) 2 e.Key 0 (by omega)];simp only[Option.bind_some];rw[oz _ 4 s0 0 (by omega)];unfold sZ;cases e.Kind==1<;>cases e.Kind==2<;>cases e.Content.N==3<;>cases e.Content.N==1<;>cases e.Content.N==2<;>rfl
def NH (k:au) (x:ah):Bool:=x.Kind==k.Kind&&decide (x.Key=k.Key)
def Wx (l:List ah) (e:ah):List ah:=(keysOf e).flatMap fun k=>((ofIds l e.fO).find? (NH k)).toList
theorem flat_length {α β:Type} {f:α→List β} {n:Nat} (h:∀x,(f x).length≤n):∀l:List α,(l.flatMap f).length≤n*l.length
 | []=>by simp
 |x::l=>by
  have h1:=h x;have h2:=flat_length h l;rw[List.flatMap_cons,List.length_append,List.length_cons,Nat.mul_succ];omega
theorem Yb (l:List ah) (e:ah):(Wx l e).length≤5:=by
 have h1:=flat_length (f:=fun k=>((ofIds l e.fO).find? (NH k)).toList) (n:=1) (fun k=>toList_le _) (keysOf e);have h2:=xg e;unfold Wx;omega
theorem ahv {l:List ah} {ids:List Int} {x:ah} (h:x∈ofIds l ids):x∈l:=by
 obtain⟨i,_,h⟩:=List.mem_filterMap.1 h;exact yw h
theorem anl {l:List ah} {e x:ah} (h:x∈Wx l e):x∈l:=by
 obtain⟨k,_,h⟩:=List.mem_flatMap.1 h;have :(ofIds l e.fO).find? (NH k)=some x:=by simpa using h
 exact ahv (List.mem_of_find?_eq_some this)
def ZK (x:au):fQ:=⟨x.Kind,x.Key⟩
theorem Uk (e:ah):Ed e=some ((keysOf e).map ZK):=by
 unfold Ed;rw[Uj];simp only[Option.bind_some];have hk:=xg e;unfold TT;rw[Bg (keysOf e) (by omega) (fun r x=>r++[ZK x]) (fun i r=>r.length≤i) (fun r=>some r) (Nat.le_refl _)]
 ·rw[foldl_append (fun x=>[ZK x]),List.nil_append];congr 1
  induction keysOf e with
  |nil=>rfl
  |cons x s ih=>rw[List.flatMap_cons,ih];rfl
 ·intro k r i h hI;refine⟨by rw[List.length_append];simp only[List.length_singleton];omega,?_⟩;unfold JC;rw[bV h,eX (by simp only[List.length_singleton];omega)];rfl
 intro k r _;unfold JC;rw[dM]
theorem ae0 (l:List ah) (p:ah→Bool):∀ids:List Int,(ofIds l ids).find? p=(ids.find? fun i=>match kG l i with |some x=>p x|none=>false).bind (kG l)
 | []=>rfl
 |i::ids=>by
  have ih:=ae0 l p ids;unfold ofIds at ih ⊢;rw[List.filterMap_cons,List.find?_cons];cases hg:kG l i with
  |none=>exact ih
  |some x=>
   simp only;rw[List.find?_cons];cases p x with
   |true=>exact hg.symm
   |false=>exact ih
theorem Ul (l:List ah) (e:ah) (hl:l.length≤1000) (he:e.fO.length≤40):Ee l e=some (Wx l e):=by
 unfold Ee;rw[Uk];simp only[Option.bind_some];have hk:=xg e;unfold TW;rw[Bg (a0:=[]) ((keysOf e).map ZK) (by rw[List.length_map];omega) (fun r k=>r++((ofIds l e.fO).find? fun x=>x.Kind==k.Pm&&decide (x.Key=k.Tm)).toList) (fun i r=>r.length≤i) (fun r=>some r) (Nat.le_refl _)]
 ·congr 1;rw[foldl_append (fun k:fQ=>((ofIds l e.fO).find? fun x=>x.Kind==k.Pm&&decide (x.Key=k.Tm)).toList),List.nil_append,List.flatMap_map];rfl
 ·intro k r i h hI;have ht:=toList_le ((ofIds l e.fO).find? fun x=>x.Kind==((keysOf e).map ZK)[i].Pm&&decide (x.Key=((keysOf e).map ZK)[i].Tm));refine⟨by rw[List.length_append];omega,?_⟩;have hi:i<5:=by rw[List.length_map]at h;omega
  unfold JE;rw[bV h];generalize((keysOf e).map ZK)[i]=K;unfold TV
  rw[ank e.fO (fuel_lt (by omega)) (fun id=>match kG l id with |some x=>x.Kind==K.Pm&&decide (x.Key=K.Tm)|none=>false)
   (fun j=>xO k (i:Int) (r++(match e.fO[j]? with |some id=>(kG l id).toList|none=>[]))) (xO k (i:Int) r)]
  ·rw[ae0,wZ];by_cases hf:e.fO.findIdx (fun id=>match kG l id with |some x=>x.Kind==K.Pm&&decide (x.Key=K.Tm)|none=>false)<e.fO.length
   ·rw[if_pos hf,List.getElem?_eq_getElem hf];rfl
   rw[if_neg hf,List.getElem?_eq_none (by omega)];simp only[Option.bind_none,Option.toList_none,List.append_nil];rfl
  ·intro k2 j hj;unfold JD;rw[bV hj,jD l _ (by omega),List.getElem?_eq_getElem hj];simp only[Option.bind_some];cases hg:kG l e.fO[j]with
   |none=>rw[Em hg];rfl
   |some x=>
    rw[sK hg];simp only[cond_true,Option.toList_some];unfold nR;rw[Ci];rw[eX (by simp only[List.length_singleton];omega)];cases x.Kind==K.Pm<;>cases decide (x.Key=K.Tm)<;>rfl
  intro k2;unfold JD;rw[dM]
 intro k r _;unfold JE;rw[dM]
def RJ (c:ByteArray):bf:=bif !(c.toList==s0.toList)then{ kU with Users:=[⟨c,100⟩] }else kU
def En (l:List ah):ByteArray:=match l.find? fun x=>x.Kind==1 with |some x=>x.bY|none=>s0
def gW (l:List ah):bf:=match l.find? fun x=>x.Kind==3 with |some x=>x.Content.Levels|none=>RJ (En l)
theorem abg (c:ByteArray):E5 c=some (RJ c):=by
 unfold E5 RJ yL;cases c.toList==s0.toList<;>rfl
theorem Um (l:List ah) (k:Int) (hl:l.length≤1000):Ea l k=some (if l.findIdx (fun e=>e.Kind==k)<l.length then((l.findIdx (fun e=>e.Kind==k):Nat):Int)else -1):=by
 unfold Ea;rw[RF l (by omega) (fun a0=>EZ a0 k) (fun e=>e.Kind==k) fun _=>rfl];rfl
theorem RN (l:List ah) (hl:l.length≤1000) (hs:gZ l):Iu l=some (gW l,En l):=by
 have hj:∀c,zI l c=some (match l.find? fun x=>x.Kind==3 with |some x=>x.Content.Levels|none=>RJ c,c):=by
  intro c;unfold zI;rw[Um l 3 hl,wZ];simp only[Option.bind_some];by_cases h:l.findIdx (fun e=>e.Kind==3)<l.length
  ·rw[if_pos h,show decide (((l.findIdx (fun e=>e.Kind==3):Nat):Int)≥0)=true by simp,fZ h,List.getElem?_eq_getElem h];simp only[cond_true,Option.bind_some];have hS:=hs _ (List.getElem_mem h);have h1:=hS.users;have h2:=hS.kinds;unfold mY kE;rw[eX (by simp only[List.length_nil];omega),eX (by simp only[List.length_nil];omega)];rfl
  rw[if_neg h,List.getElem?_eq_none (by omega),abg];rfl
 unfold Iu;rw[Um l 1 hl];simp only[Option.bind_some];by_cases h:l.findIdx (fun e=>e.Kind==1)<l.length
 ·have hc:En l=l[l.findIdx (fun e=>e.Kind==1)].bY:=by unfold En;rw[wZ,List.getElem?_eq_getElem h]
  rw[if_pos h,show decide (((l.findIdx (fun e=>e.Kind==1):Nat):Int)≥0)=true by simp,fZ h];simp only[cond_true,Option.bind_some];rw[hj,←hc];rfl
 have hc:En l=s0:=by unfold En;rw[wZ,List.getElem?_eq_none (by omega)]
 rw[if_neg h];show zI l s0=_;rw[hj,←hc];rfl
def iy (v:bf) (u:ByteArray):Int:=match v.Users.find? fun x=>decide (x.User=u)with |some x=>x.N|none=>v.User
theorem rH (v:bf) (u:ByteArray) (h:v.Users.length≤1000):oI v u=some (iy v u):=by
 unfold oI V4 iy;rw[U9 v.Users (fuel_lt (by omega)) (fun x=>decide (x.User=u)) (fun i=>some (match v.Users[i]? with |some x=>x.N|none=>0)) (some v.User)]
 ·rw[wZ];by_cases h:v.Users.findIdx (fun x=>decide (x.User=u))<v.Users.length
  ·rw[if_pos h,List.getElem?_eq_getElem h]
  rw[if_neg h,List.getElem?_eq_none (by omega)]
 ·intro k i h;unfold Lm;rw[bV h,Ci,List.getElem?_eq_getElem h]
 intro k;unfold Lm;rw[dM]
theorem FD {l:List ah} (h:gZ l):(gW l).Users.length≤100∧(gW l).Kinds.length≤100:=by
 unfold gW;cases hf:l.find? fun x=>x.Kind==3 with
 |some x=>
  have:=h x (List.mem_of_find?_eq_some hf);exact⟨this.users,this.kinds⟩
 |none=>
  simp only;unfold RJ;cases(En l).toList==s0.toList with
  |true=>
   show kU.Users.length≤100∧kU.Kinds.length≤100;exact⟨by decide,by decide⟩
  |false=>
   show 1≤100∧kU.Kinds.length≤100;exact⟨by decide,by decide⟩
def aj8 (l:List ah) (e:ah):Int:=iy (gW (Wx l e)) e.bY
theorem gZ.from {l:List ah} (h:gZ l) (e:ah):gZ (Wx l e):=fun x hx=>h x (anl hx)
theorem ae1 (l:List ah) (e:ah) (hl:l.length≤1000) (hs:gZ l) (he:e.fO.length≤40):JF l e=some (aj8 l e):=by
 have h1:=Yb l e;have h2:=(FD (hs.from e)).1;unfold JF;rw[Ul l e hl he];simp only[Option.bind_some];rw[RN _ (by omega) (hs.from e)];simp only[Option.bind_some];rw[rH _ _ (by omega)];rfl
end Go.Proofs.YtolgdkhlelfpoaaGreat
end
section
namespace Go.Proofs.YtolgdkhlelfpoaaGreat
open Go.RowKit
def isP (e:ah):Bool:=bif e.Kind==2 then(e.Content.N==0||e.Content.N==4)&& !(decide (e.Key=e.bY))else e.Kind==3||e.Kind==4
theorem aln (e:ah):Xr e=some (isP e):=by
 unfold Xr MJ isP;rw[Ci];by_cases h2:e.Kind=2
 ·simp[h2];cases e.Content.N==0<;>cases e.Content.N==4<;>rfl
 have h2':(e.Kind==2)=false:=by simpa using h2
 rw[h2'];cases e.Kind==3<;>cases e.Kind==4<;>rfl
theorem Un (l:List Int) (x:Int) (h:l.length≤1099511627776):qN l x=some (if l.findIdx (· ==x)<l.length then((l.findIdx (· ==x):Nat):Int)else -1):=by
 unfold qN GN;rw[U9 l (fuel_lt h) (· ==x) (fun i=>some (i:Int)) (some (-1))]
 ·split<;>rfl
 ·intro k i hi;unfold yt;rw[bV hi];have :(x==l[i])=(l[i]==x):=by rw[Bool.eq_iff_iff];simp only[beq_iff_eq];exact eq_comm
  rw[this]
 intro k;unfold yt;rw[dM]
theorem abH (l:List Int) (x:Int):decide (l.findIdx (· ==x)<l.length)=hasB l x:=by
 rw[Bool.eq_iff_iff,qj,decide_eq_true_eq,List.findIdx_lt_length];exact⟨fun⟨y,h1,h2⟩=>by rw[←(by simpa using h2:y=x)];exact h1,fun h=>⟨x,h,by simp⟩⟩
theorem sN (l:List Int) (x:Int) (h:l.length≤1099511627776):lN l x=some (hasB l x):=by
 unfold lN;rw[Un l x h,←abH];by_cases hl:l.findIdx (· ==x)<l.length
 ·rw[if_pos hl,decide_eq_true hl];simp
 rw[if_neg hl,decide_eq_false hl];rfl
theorem ae2 (l:List Int) (x:Int) (h:l.length≤1099511627776):P8 l x=some (hasB l x):=by
 unfold P8;rw[sN l x h];rfl
def ev (l:List ah) (id:Int):ah:=(nV l id).1
def pI (l:List ah) (id:Int):Bool:=gJ l id&&isP (ev l id)
def JU (l:List ah) (full:List Int):List Int:=full.filter (pI l)
def agU (l:List ah) (full:List Int):List Int:=iW (JU l full++full.filter (hasB (chainOf l (JU l full))))
theorem aj9 {l:List ah} {full:List Int} {x:Int}:x∈agU l full↔x∈full∧(pI l x=true∨Ch l (JU l full) x):=by
 unfold agU;rw[lS,List.mem_append,List.mem_filter,qj,abD];unfold JU;rw[List.mem_filter];exact⟨fun h=>h.elim (fun h=>⟨h.1,.inl h.2⟩) fun h=>⟨h.1,.inr h.2⟩,fun⟨h,k⟩=>k.elim (fun k=>.inl ⟨h,k⟩) fun k=>.inr ⟨h,k⟩⟩
theorem aq6 (l:List ah) (full:List Int):Inc (agU l full):=nZ _
theorem Ve (p:Int→Bool):∀(S r:List Int),S.foldl (fun r x=>bif p x then r++[x]else r) r=r++S.filter p
 | [],r=>by simp
 |x::S,r=>by
  rw[List.foldl_cons,Ve p S,List.filter_cons];cases p x<;>simp
theorem akb (l:List ah) (full:List Int) (hl:l.length≤1000) (hs:gZ l) (hf:full.length≤120000) (hfl:(JU l full).length≤100000):TI l full=some (agU l full):=by
 unfold TI Zf;rw[Bg (a0:=[]) full (by omega) (fun r x=>bif pI l x then r++[x]else r) (fun i r=>r.length≤i) (fun r=>(uY l r).bind fun x14=>QV full x14 r 0) (Nat.le_refl _)]
 ·have e0:full.foldl (fun r x=>bif pI l x then r++[x]else r) []=JU l full:=by rw[Ve];rfl
  have hc:=FC l (JU l full);rw[e0,LV l _ hl hs.anj hfl];simp only[Option.bind_some];unfold QV;rw[Bg full (by omega) (fun r x=>bif hasB (chainOf l (JU l full)) x then r++[x]else r) (fun i r=>r.length≤(JU l full).length+i) (fun r=>some (iW r)) (Nat.le_refl _)]
  ·rw[Ve];rfl
  ·intro k r i h hI;refine⟨?_,?_⟩
   ·cases hasB (chainOf l (JU l full)) full[i]with
    |false=>show r.length≤(JU l full).length+(i+1);omega
    |true=>show(r++[full[i]]).length≤(JU l full).length+(i+1);simp;omega
   unfold QU Js;rw[bV h,ae2 _ _ (by omega)];simp only[Option.bind_some];rw[eX (by simp only[List.length_singleton];omega)];cases hasB (chainOf l (JU l full)) full[i]<;>rfl
  intro k r hI;unfold QU;rw[dM,oO _ (by omega)];rfl
 ·intro k r i h hI;refine⟨?_,?_⟩
  ·cases pI l full[i]with
   |false=>show r.length≤i+1;omega
   |true=>show(r++[full[i]]).length≤i+1;simp;omega
  unfold QW Jr;rw[bV h,jD l _ (by omega)];simp only[Option.bind_some];rw[eX (by simp only[List.length_singleton];omega)];unfold pI gJ ev;rw[aln,JK];cases(kG l full[i]).isSome<;>cases isP (nV l full[i]).1<;>rfl
 intro k r _;unfold QW;rw[dM]
theorem Ch.awg {l:List ah} {ids:List Int} {i x:Int} (hi:i∈ids) (h:Ch l [i] x):Ch l ids x:=by
 induction h with
 |one h hx hk=>rw[List.mem_singleton.1 h]at hx;exact .one hi hx hk
 |more h hx hk ih=>exact .more ih hx hk
theorem Ch.split {l:List ah} {ids:List Int} {x:Int}:Ch l ids x↔∃i∈ids,Ch l [i] x:=by
 constructor
 ·intro h
  induction h with
  |one h hx hk=>exact⟨_,h,.one (List.mem_singleton.2 rfl) hx hk⟩
  |more h hx hk ih=>obtain⟨i,h1,h2⟩:=ih;exact⟨i,h1,.more h2 hx hk⟩
 rintro⟨i,h1,h2⟩;exact .awg h1 h2
theorem Ch.gJ {l:List ah} {ids:List Int} {x:Int} (h:Ch l ids x):gJ l x=true:=by cases h<;>assumption
theorem abI (l:List ah) (full:List Int):(agU l full).length≤l.length:=
 vG (aq6 l full) fun x hx=>by
  rcases(aj9.1 hx).2 with h|h
  ·unfold pI at h;rw[Bool.and_eq_true]at h;exact h.1
  exact h.gJ
end Go.Proofs.YtolgdkhlelfpoaaGreat
end
section
namespace Go.Proofs.YtolgdkhlelfpoaaGreat
open Go.RowKit
def je (l:List ah) (id:Int):fD:=⟨id,aj8 l (ev l id),(ev l id).Time,chainOf l [id]⟩
def anm (l:List ah) (left:List Int) (x:Int):Bool:=!left.any fun y=>hasB (chainOf l [x]) y
def ae3 (a b:fD):Bool:=bif a.DR != b.DR then decide (a.DR>b.DR)else decide (a.wE<b.wE)
def tH (l:List ah) (left:List Int) (b:Option Int) (x:Int):Option Int:=bif anm l left x&&(match b with |none=>true|some y=>ae3 (je l x) (je l y))then some x else b
def RP (l:List ah) (left:List Int):Option Int:=left.foldl (tH l left) none
def Eo (l:List ah):Nat→List Int→List Int
 |0,_=>[]
 |n+1,left=>match RP l left with
  |none=>[]
  |some b=>b::Eo l n (left.filter (· != b))
theorem abJ (l:List ah):∀ids:List Int,ids.flatMap (fun id=>bif gJ l id then[je l id]else[])=(ids.filter (gJ l)).map (je l)
 | []=>rfl
 |i::ids=>by
  rw[List.flatMap_cons,abJ l ids,List.filter_cons];cases gJ l i<;>simp
theorem agV (l:List ah) (ids:List Int) (hl:l.length≤1000) (hs:gZ l) (hi:ids.length≤100000):MQ l ids=some ((uG l ids).map (je l)):=by
 unfold MQ;rw[oO ids (by omega)];simp only[Option.bind_some];have hsl:=kX ids;unfold V8;rw[Bg (a0:=[]) (iW ids) (by omega) (fun r id=>r++bif gJ l id then[je l id]else[]) (fun i r=>r.length≤i) (fun r=>some r) (Nat.le_refl _)]
 ·rw[foldl_append (fun id=>bif gJ l id then[je l id]else[]),List.nil_append,abJ];rfl
 ·intro k r i h hI;refine⟨?_,?_⟩
  ·cases gJ l (iW ids)[i]<;>simp <;>omega
  unfold Lr Fb;rw[bV h,jD l _ (by omega)];simp only[Option.bind_some];unfold gJ;cases hg:kG l (iW ids)[i]with
  |none=>rw[Em hg];simp
  |some e=>
   have he:=hs e (yw hg);have hev:ev l (iW ids)[i]=e:=by unfold ev;rw[sK hg]
   rw[sK hg];simp only[cond_true,Option.isSome_some];rw[ae1 l e hl hs he.auth,LV l _ hl hs.anj (by simp)];simp only[Option.bind_some];rw[eX (by simp only[List.length_singleton];omega)];unfold je;rw[hev];rfl
 intro k r _;unfold Lr;rw[dM]
theorem akc (l:List ah) (left:List Int):∀(c:List Int) (b:Option Int) {x:Int},c.foldl (tH l left) b=some x→b=some x∨x∈c
 | [],b,x,h=>.inl h
 |y::c,b,x,h=>by
  rw[List.foldl_cons]at h;rcases akc l left c _ h with h1|h1
  ·have key:∀c:Bool,(bif c then some y else b)=some x→b=some x∨x=y:=fun c hc=>by
    cases c with
    |true=>simp only[cond_true,Option.some.injEq]at hc;exact .inr hc.symm
    |false=>exact .inl hc
   rcases key _ h1 with h2|h2
   ·exact .inl h2
   exact .inr (h2▸List.mem_cons_self ..)
  exact .inr (List.mem_cons_of_mem _ h1)
theorem ano {l:List ah} {left:List Int} {x:Int} (h:RP l left=some x):x∈left:=by
 rcases akc l left left none h with h|h
 ·cases h
 exact h
theorem ae4 {left:List Int} (hn:left.Nodup) {j:Nat} (hj:j<left.length):left.take j++left.drop (j+1)=left.filter (· != left[j]):=by
 have e:left=left.take j++left[j]::left.drop (j+1):=by rw[←List.drop_eq_getElem_cons hj,List.take_append_drop]
 have hn2:(left.take j++left[j]::left.drop (j+1)).Nodup:=by rw[←e];exact hn
 have h1:=List.nodup_append.1 hn2;have h2:=List.nodup_cons.1 h1.2.1
 have g1:(left.take j).filter (· != left[j])=left.take j:=List.filter_eq_self.2 fun x hx=>by
  have:=h1.2.2 x hx left[j] (List.mem_cons_self ..);simpa using this
 have g2:(left.drop (j+1)).filter (· != left[j])=left.drop (j+1):=List.filter_eq_self.2 fun x hx=>by
  have :x≠left[j]:=fun e=>h2.1 (e▸hx);simpa using this
 have :(left.take j++left[j]::left.drop (j+1)).filter (· != left[j])=left.take j++left.drop (j+1):=by
  rw[List.filter_append,List.filter_cons,g1,g2];simp
 rw[←e]at this;exact this.symm
theorem agW {left:List Int} (hn:left.Nodup) {b:Int} (hb:b∈left):(left.filter (· != b)).length+1=left.length:=by
 obtain⟨j,hj,rfl⟩:=List.getElem_of_mem hb;rw[←ae4 hn hj,List.length_append,List.length_take,List.length_drop];omega
theorem ae5 (l:List ah) (hl:l.length≤1000):∀(m:Nat) (left acc:List Int) (N:Nat),left.length=m→Inc left→(∀x∈left,gJ l x=true)→acc.length+left.length≤1000000→m<N→aY pF N (left.map (je l)) acc=some (acc++Eo l m left):=by
 intro m
 induction m with
 |zero=>
  intro left acc N hm hi hk hacc hN;obtain⟨N,rfl⟩:∃N',N=N'+1:=⟨N-1,by omega⟩
  have :left=[]:=List.eq_nil_of_length_eq_zero hm;subst this;show pF _ _ _=_;unfold pF Eo;simp
 |succ m ih=>
  intro left acc N hm hi hk hacc hN;obtain⟨N,rfl⟩:∃N',N=N'+1:=⟨N-1,by omega⟩
  have hll:=vG hi hk;refine dn.eq ?_;show dn (pF (aY pF N) _ _) _;have ih':=fun left' acc' h1 h2 h3 h4=>ih left' acc' N h1 h2 h3 h4 (by omega);generalize aY pF N=K at ih';unfold pF;rw[show decide (((left.map (je l)).length:Int)>0)=true by rw[List.length_map];simp;omega];simp only[cond_true];unfold Wh;refine Iw (body:=Ls (left.map (je l)) K) (fun m2 a b c=>∃i:Nat,b=i∧i+m2=left.length∧c=acc∧((a= -1∧(left.take i).foldl (tH l left) none=none)∨∃(j:Nat) (hj:j<left.length),a=(j:Int)∧(left.take i).foldl (tH l left) none=some left[j])) ?_ fuel left.length (-1) 0 acc (fuel_lt (by omega)) ⟨0,rfl,by omega,rfl,.inl ⟨rfl,rfl⟩⟩;rintro m2 a b c k ⟨i,rfl,hm2,rfl,hI⟩ hk2;unfold Ls;by_cases hlt:i<left.length
  ·have hlt':i<(left.map (je l)).length:=by rw[List.length_map];exact hlt
   rw[dec_lt hlt',fZ hlt',List.getElem_map];simp only[cond_true,Option.bind_some]
   have hst:(left.take (i+1)).foldl (tH l left) none=tH l left ((left.take i).foldl (tH l left) none) left[i]:=by
    rw[List.take_succ_eq_append_getElem hlt,List.foldl_append];rfl
   unfold V9;have hc:=FC l [left[i]]
   have hin:∀(k2:Int→Int→List Int→Option (List Int)),aY (pz (left.map (je l)) (je l left[i]) k2 (i:Int) a) fuel 0 c=bif anm l left left[i]then(bif decide (a<0)then pq k2 (i:Int) a true c else(aV (left.map (je l)) a).bind fun x27=>(uh (je l left[i]) x27).bind fun x28=>pq k2 (i:Int) a x28 c)else rE k2 (i:Int) a c:=by
    intro k2
    have key:∀n (j:Nat),j+n=left.length→∀m,n<m→aY (pz (left.map (je l)) (je l left[i]) k2 (i:Int) a) m (j:Int) c=bif !(left.drop j).any (fun y=>hasB (chainOf l [left[i]]) y)then(bif decide (a<0)then pq k2 (i:Int) a true c else(aV (left.map (je l)) a).bind fun x27=>(uh (je l left[i]) x27).bind fun x28=>pq k2 (i:Int) a x28 c)else rE k2 (i:Int) a c:=by
     intro n
     induction n with
     |zero=>
      intro j hj m hm;obtain⟨m,rfl⟩:∃m',m=m'+1:=⟨m-1,by omega⟩
      have :j=left.length:=by omega
      subst this;show pz _ _ _ _ _ _ _ _=_;unfold pz;rw[show decide ((left.length:Int)<((left.map (je l)).length:Int))=false by rw[List.length_map];exact vF _,List.drop_length];rfl
     |succ n ihn=>
      intro j hj m hm;obtain⟨m,rfl⟩:∃m',m=m'+1:=⟨m-1,by omega⟩
      have hjl:j<left.length:=by omega
      have ax2:j<(left.map (je l)).length:=by rw[List.length_map];exact hjl
      have ihn':=ihn (j+1) (by omega) m (by omega);show pz _ _ _ _ _ (aY _ m) _ _=_;generalize aY (pz (left.map (je l)) (je l left[i]) k2 (i:Int) a) m=L at ihn';unfold pz;rw[bV ax2,List.getElem_map];show((P8 (chainOf l [left[i]]) left[j]).bind _)=_;rw[ae2 _ _ (by omega),wrap_succ j (by omega),List.drop_eq_getElem_cons hjl,List.any_cons];simp only[Option.bind_some];cases hasB (chainOf l [left[i]]) left[j]with
      |true=>rfl
      |false=>
       simp only[cond_false,Bool.false_or];exact ihn'
    exact key left.length 0 (by omega) fuel (fuel_lt (by omega))
   rw[hin];have hw:=wrap_succ i (by omega);unfold pq rE;rw[hw];cases hfr:anm l left left[i]with
   |false=>
    simp only[cond_false];refine hk2 (m2-1) _ _ _ (by omega) ⟨i+1,rfl,by omega,rfl,?_⟩;have e:tH l left ((left.take i).foldl (tH l left) none) left[i]=(left.take i).foldl (tH l left) none:=by unfold tH;rw[hfr];rfl
    rw[hst,e];exact hI
   |true=>
    simp only[cond_true];rcases hI with⟨rfl,h0⟩|⟨j,hj,rfl,h0⟩
    ·rw[show decide ((-1:Int)<0)=true by decide];simp only[cond_true];refine hk2 (m2-1) _ _ _ (by omega) ⟨i+1,rfl,by omega,rfl,.inr ⟨i,hlt,rfl,?_⟩⟩;rw[hst,h0];unfold tH;rw[hfr];rfl
    have hj':j<(left.map (je l)).length:=by rw[List.length_map];exact hj
    rw[show decide ((j:Int)<0)=false by simp,fZ hj',List.getElem_map];simp only[cond_false,Option.bind_some]
    have e1:uh (je l left[i]) (je l left[j])=some (ae3 (je l left[i]) (je l left[j])):=by
     unfold uh ae3;cases(je l left[i]).DR != (je l left[j]).DR<;>rfl
    rw[e1];simp only[Option.bind_some];cases ha:ae3 (je l left[i]) (je l left[j])with
    |true=>
     simp only[cond_true];refine hk2 (m2-1) _ _ _ (by omega) ⟨i+1,rfl,by omega,rfl,.inr ⟨i,hlt,rfl,?_⟩⟩;rw[hst,h0];unfold tH;rw[hfr];simp only[ha];rfl
    |false=>
     simp only[cond_false];refine hk2 (m2-1) _ _ _ (by omega) ⟨i+1,rfl,by omega,rfl,.inr ⟨j,hj,rfl,?_⟩⟩;rw[hst,h0];unfold tH;rw[hfr];simp only[ha];rfl
  have hie:i=left.length:=by omega
  subst hie;rw[show decide ((left.length:Int)<((left.map (je l)).length:Int))=false by rw[List.length_map];exact vF _];simp only[cond_false];rw[List.take_length]at hI;have hgoal:Eo l (m+1) left=match RP l left with |none=>[]|some b=>b::Eo l m (left.filter (· != b)):=rfl
  rcases hI with⟨rfl,h0⟩|⟨j,hj,rfl,h0⟩
  ·rw[show decide ((-1:Int)<0)=true by decide];refine .ret ?_;have h1:RP l left=none:=h0;rw[hgoal,h1];simp
  have hj':j<(left.map (je l)).length:=by rw[List.length_map];exact hj
  rw[show decide ((j:Int)<0)=false by simp,fZ hj',List.getElem_map];simp only[cond_false,Option.bind_some];have h1:RP l left=some left[j]:=h0;rw[eX (by simp only[List.length_singleton];omega)];simp only[Option.bind_some];rw[aht (Nat.le_of_lt hj'),wrap_succ j (by omega),ZG hj'];simp only[Option.bind_some];rw[eX (by rw[List.length_take,List.length_drop,List.length_map];omega)];simp only[Option.bind_some]
  have e2:(left.map (je l)).take j++(left.map (je l)).drop (j+1)=(left.filter (· != left[j])).map (je l):=by
   rw[←ae4 (NG hi) hj,List.map_append,List.map_take,List.map_drop]
  rw[e2];have hwl:=agW (NG hi) (List.getElem_mem hj);rw[ih' (left.filter (· != left[j])) (c++[(je l left[j]).oG]) (by omega) (hi.sublist List.filter_sublist) (fun x hx=>hk x ((List.mem_filter.1 hx).1)) (by simp only[List.length_append,List.length_singleton];omega)];refine .ret ?_;rw[hgoal,h1,List.append_assoc];rfl
theorem agX (l:List ah) (ids:List Int) (hl:l.length≤1000) (hs:gZ l) (hi:ids.length≤100000):MR l ids=some (Eo l (uG l ids).length (uG l ids)):=by
 have hkl:(uG l ids).length≤l.length:=vG (XC l ids) fun x hx=>(Fz.1 hx).2;unfold MR;rw[agV l ids hl hs hi];simp only[Option.bind_some];unfold Wi;rw[ae5 l hl _ (uG l ids) [] fuel rfl (XC l ids) (fun x hx=>(Fz.1 hx).2) (by simp only[List.length_nil];omega) (fuel_lt (by omega))];rfl
theorem ahw {R A B C D:Type} {Q:R→Prop} {body:(A→B→C→D→Option R)→A→B→C→D→Option R} (I:Nat→A→B→C→D→Prop) (hs:∀m a b c d k,I m a b c d→(∀m' a' b' c' d',m'<m→I m' a' b' c' d'→dn (k a' b' c' d') Q)→dn (body k a b c d) Q):
 ∀n m a b c d,m<n→I m a b c d→dn (SL body n a b c d) Q
 |0,m,_,_,_,_,h,_=>by omega
 |n+1,m,a,b,c,d,h,hi=>hs m a b c d _ hi fun m' a' b' c' d' h' hi'=>ahw I hs n m' a' b' c' d' (by omega) hi'
theorem XG {l:List ah} {x:Int} (h:gJ l x=true):kG l x=some (ev l x)∧(ev l x).Id=x:=by
 unfold gJ at h;obtain⟨e,he⟩:=Option.isSome_iff_exists.1 h;have :ev l x=e:=by unfold ev;rw[sK he]
 rw[this];exact⟨he,agQ he⟩
theorem ae6 (l:List ah):∀(n:Nat) (left:List Int) {x:Int},x∈Eo l n left→x∈left
 |0,_,_,h=>absurd h List.not_mem_nil
 |n+1,left,x,h=>by
  unfold Eo at h;cases hb:RP l left with
  |none=>rw[hb]at h;exact absurd h List.not_mem_nil
  |some b=>
   rw[hb]at h;rcases List.mem_cons.1 h with rfl|h
   ·exact ano hb
   exact(List.mem_filter.1 (ae6 l n _ h)).1
theorem Yc (l:List ah):∀(n:Nat) (left:List Int),(Eo l n left).length≤n
 |0,_=>Nat.le_refl _
 |n+1,left=>by
  unfold Eo;cases RP l left with
  |none=>exact Nat.zero_le _
  |some b=>have:=Yc l n (left.filter (· != b));simp only[List.length_cons];omega
end Go.Proofs.YtolgdkhlelfpoaaGreat
end
section
namespace Go.Proofs.YtolgdkhlelfpoaaGreat
open Go.RowKit
def Cj (l:List ah) (e:ah):Option Int:=e.fO.find? fun id=>gJ l id&&(ev l id).Kind==3
def ae7 (l:List ah) (e:ah):Int×Bool:=match Cj l e with |some x=>(x,true)|none=>(0,false)
theorem O4 (l:List ah) (e:ah) (hl:l.length≤1000) (he:e.fO.length≤40):zM l e=some (ae7 l e):=by
 unfold zM OT;rw[U9 e.fO (fuel_lt (by omega)) (fun id=>gJ l id&&(ev l id).Kind==3) (fun i=>some (match e.fO[i]? with |some x=>(x,true)|none=>(0,false))) (some (0,false))]
 ·unfold ae7 Cj;rw[wZ];by_cases h:e.fO.findIdx (fun id=>gJ l id&&(ev l id).Kind==3)<e.fO.length
  ·rw[if_pos h]
  rw[if_neg h,List.getElem?_eq_none (by omega)]
 ·intro k i h;unfold Gg;rw[bV h,jD l _ (by omega),List.getElem?_eq_getElem h];simp only[Option.bind_some];unfold gJ ev;rw[JK];cases(kG l e.fO[i]).isSome<;>rfl
 intro k;unfold Gg;rw[dM]
def JV (l:List ah):Nat→List Int→Int→List Int
 |0,seen,_=>seen
 |n+1,seen,id=>bif hasB seen id|| !gJ l id then seen else match Cj l (ev l id)with
  |none=>seen++[id]
  |some x=>JV l n (seen++[id]) x
def aiC (l:List ah) (id:Int):List Int:=JV l l.length [] id
structure MW (l:List ah) (seen:List Int):Prop where
 nodup:seen.Nodup
 known:∀x∈seen,gJ l x=true
theorem MW.length {l:List ah} {seen:List Int} (h:MW l seen):seen.length≤l.length:=by
 rw[←(uH seen).length_eq,ahu h.nodup];exact vG (nZ _) fun x hx=>h.known x (lS.1 hx)
theorem MW.snoc {l:List ah} {seen:List Int} (h:MW l seen) {id:Int} (h1:id∉seen) (h2:gJ l id=true):MW l (seen++[id]):=by
 refine⟨List.nodup_append.2 ⟨h.nodup,by simp,fun a ha b hb=>?_⟩,fun x hx=>?_⟩
 ·rw[List.mem_singleton.1 hb];exact fun e=>h1 (e▸ha)
 rcases List.mem_append.1 hx with hx|hx
 ·exact h.known x hx
 rw[List.mem_singleton.1 hx];exact h2
theorem al2 (l:List ah):∀(n:Nat) (seen:List Int) (id:Int),MW l seen→MW l (JV l n seen id)
 |0,_,_,h=>h
 |n+1,seen,id,h=>by
  unfold JV;cases hc:hasB seen id|| !gJ l id with
  |true=>exact h
  |false=>
   rw[Bool.or_eq_false_iff,oJ]at hc;have h2:=h.snoc hc.1 (by simpa using hc.2);simp only[cond_false];cases Cj l (ev l id)with
   |none=>exact h2
   |some x=>exact al2 l n _ x h2
theorem abK (l:List ah):∀(n:Nat) (seen:List Int) (id:Int),∃t,JV l n seen id=seen++t
 |0,seen,_=>⟨[],by simp[JV]⟩
 |n+1,seen,id=>by
  unfold JV;cases hasB seen id|| !gJ l id with
  |true=>exact⟨[],by simp⟩
  |false=>
   simp only[cond_false];cases Cj l (ev l id)with
   |none=>exact⟨[id],rfl⟩
   |some x=>
    obtain⟨t,ht⟩:=abK l n (seen++[id]) x;exact⟨id::t,by simp only[ht,List.append_assoc];rfl⟩
theorem akd (l:List ah) (id:Int):(aiC l id).length≤l.length:=(al2 l _ [] id ⟨List.nodup_nil,fun x hx=>absurd hx List.not_mem_nil⟩).length
theorem aq7 (l:List ah) (hl:l.length≤1000) (hs:gZ l) (v8 v9:List Int):∀(m:Nat) (seen:List Int) (id:Int) (N:Nat),seen.length+m=l.length→MW l seen→m<N→Ah o9 N seen seen v8 v9 id l=some (JV l m seen id):=by
 intro m
 induction m with
 |zero=>
  intro seen id N hm hw hN;obtain⟨N,rfl⟩:∃N',N=N'+1:=⟨N-1,by omega⟩
  have hwl:=hw.length;show o9 _ _ _ _ _ _ _=_;unfold o9;rw[sN _ _ (by omega),jD l _ (by omega)];simp only[Option.bind_some];rw[JK];cases hh:hasB seen id with
  |true=>rfl
  |false=>
   cases hk:(kG l id).isSome with
   |false=>rfl
   |true=>
    have h2:=(hw.snoc (oJ.1 hh) hk).length;simp only[List.length_append,List.length_singleton]at h2;omega
 |succ m ih=>
  intro seen id N hm hw hN;obtain⟨N,rfl⟩:∃N',N=N'+1:=⟨N-1,by omega⟩
  have hwl:=hw.length;show o9 (Ah o9 N) _ _ _ _ _ _=_;have ih':=fun seen' id' h1 h2=>ih seen' id' N h1 h2 (by omega);generalize Ah o9 N=K at ih';unfold o9 JV;rw[sN _ _ (by omega),jD l _ (by omega)];simp only[Option.bind_some];rw[JK];cases hh:hasB seen id with
  |true=>rfl
  |false=>
   cases hk:(kG l id).isSome with
   |false=>rw[show gJ l id=false from hk];rfl
   |true=>
    obtain⟨e,he⟩:=Option.isSome_iff_exists.1 hk;rw[show gJ l id=true from hk];simp only[Bool.not_false,Bool.not_true,Bool.or_false,cond_true,cond_false];rw[eX (by simp only[List.length_singleton];omega)];simp only[Option.bind_some];unfold Fa;simp only[cond_false];rw[eX (by simp only[List.length_singleton];omega)];simp only[Option.bind_some];have hev:(nV l id).1=ev l id:=rfl
    have hea:(ev l id).fO.length≤40:=by
     have :ev l id=e:=by unfold ev;rw[sK he]
     rw[this];exact(hs e (yw he)).auth
    rw[hev,O4 l _ hl hea];simp only[Option.bind_some];unfold ae7;cases Cj l (ev l id)with
    |none=>rfl
    |some x=>exact ih' (seen++[id]) x (by simp only[List.length_append,List.length_singleton];omega) (hw.snoc (oJ.1 hh) hk)
theorem agY (l:List ah) (id:Int) (hl:l.length≤1000) (hs:gZ l):MP l id=some (aiC l id):=by
 unfold MP Ec V7;exact aq7 l hl hs [] [] l.length [] id fuel (by simp) ⟨List.nodup_nil,fun x hx=>absurd hx List.not_mem_nil⟩ (fuel_lt (by omega))
def Wy (main way:List Int):Int:=match way.find? (hasB main)with |some x=>((main.findIdx (· ==x):Nat):Int)|none=>(main.length:Int)
def ahx (l:List ah) (main:List Int) (id:Int):Int:=Wy main (aiC l id)
theorem aq8 (l:List ah) (main:List Int) (hl:l.length≤1000) (hs:gZ l) (hm:main.length≤100000):∀(m:Nat) (seen:List Int) (z id:Int) (N:Nat),seen.length+m=l.length→MW l seen→seen.find? (hasB main)=none→m<N→Ag kS N seen main z id l=some (Wy main (JV l m seen id)):=by
 have hnone:∀seen:List Int,seen.find? (hasB main)=none→Wy main seen=(main.length:Int):=fun seen h=>by unfold Wy;rw[h]
 intro m
 induction m with
 |zero=>
  intro seen z id N hm hw hf hN;obtain⟨N,rfl⟩:∃N',N=N'+1:=⟨N-1,by omega⟩
  have hwl:=hw.length;show kS _ _ _ _ _ _=_;unfold kS;rw[sN _ _ (by omega),jD l _ (by omega)];simp only[Option.bind_some];rw[JK];have he:Wy main (JV l 0 seen id)=(main.length:Int):=hnone seen hf;rw[he];cases hh:hasB seen id with
  |true=>rfl
  |false=>
   cases hk:(kG l id).isSome with
   |false=>rfl
   |true=>
    have h2:=(hw.snoc (oJ.1 hh) hk).length;simp only[List.length_append,List.length_singleton]at h2;omega
 |succ m ih=>
  intro seen z id N hm hw hf hN;obtain⟨N,rfl⟩:∃N',N=N'+1:=⟨N-1,by omega⟩
  have hwl:=hw.length;show kS (Ag kS N) _ _ _ _ _=_;have ih':=fun seen' z' id' h1 h2 h3=>ih seen' z' id' N h1 h2 h3 (by omega);generalize Ag kS N=K at ih';unfold kS qO;rw[sN _ _ (by omega),jD l _ (by omega),Un _ _ (by omega)];simp only[Option.bind_some];rw[JK];have hun:JV l (m+1) seen id=bif hasB seen id|| !gJ l id then seen else match Cj l (ev l id)with |none=>seen++[id]|some x=>JV l m (seen++[id]) x:=rfl
  cases hh:hasB seen id with
  |true=>rw[hun,hh];simp only[Bool.true_or,cond_true,Bool.not_true,cond_false];rw[hnone seen hf]
  |false=>
   cases hk:(kG l id).isSome with
   |false=>rw[hun,hh,show gJ l id=false from hk];simp only[Bool.false_or,Bool.not_false,cond_true];rw[hnone seen hf]
   |true=>
    obtain⟨e,he⟩:=Option.isSome_iff_exists.1 hk;rw[hun,hh,show gJ l id=true from hk];simp only[Bool.not_false,Bool.not_true,Bool.or_false,cond_true,cond_false];have hfx:=abH main id;by_cases hlt:main.findIdx (· ==id)<main.length
    ·rw[if_pos hlt,show decide (((main.findIdx (· ==id):Nat):Int)≥0)=true by simp];simp only[cond_true];rw[decide_eq_true hlt]at hfx
     have hex:∃t,(match Cj l (ev l id)with |none=>seen++[id]|some x=>JV l m (seen++[id]) x)=seen++[id]++t:=by
      cases Cj l (ev l id)with
      |none=>exact⟨[],by simp⟩
      |some x=>exact abK l m (seen++[id]) x
     obtain⟨t,ht⟩:=hex;rw[ht];unfold Wy;rw[List.find?_append,List.find?_append,hf];simp[←hfx]
    rw[if_neg hlt,show decide ((-1:Int)≥0)=false by decide];simp only[cond_false];rw[decide_eq_false hlt]at hfx;rw[eX (by simp only[List.length_singleton];omega)];simp only[Option.bind_some];have hev:(nV l id).1=ev l id:=rfl
    have hea:(ev l id).fO.length≤40:=by
     have :ev l id=e:=by unfold ev;rw[sK he]
     rw[this];exact(hs e (yw he)).auth
    have hf2:(seen++[id]).find? (hasB main)=none:=by rw[List.find?_append,hf];simp[←hfx]
    rw[hev,O4 l _ hl hea];simp only[Option.bind_some];unfold ae7;cases Cj l (ev l id)with
    |none=>simp only[Bool.not_false,cond_true];rw[hnone _ hf2]
    |some x=>exact ih' (seen++[id]) z x (by simp only[List.length_append,List.length_singleton];omega) (hw.snoc (oJ.1 hh) hk) hf2
theorem Yz (l:List ah) (main:List Int) (id:Int) (hl:l.length≤1000) (hs:gZ l) (hm:main.length≤100000):Bd l main id=some (ahx l main id):=by
 unfold Bd Ec KG;exact aq8 l main hl hs hm l.length [] 0 id fuel (by simp) ⟨List.nodup_nil,fun x hx=>absurd hx List.not_mem_nil⟩ rfl (fuel_lt (by omega))
def xX (l:List ah) (main:List Int) (id:Int):dU:=⟨id,ahx l main id,(ev l id).Time⟩
def ash (x:dU):Int×Int×Int:=(x.oG,x.tX,x.wE)
def leI (x y:dU):Bool:=Gv (ash x) (ash y)
def RQ (l:List ah) (main ids:List Int):List Int:=(Bo leI ((ids.filter (gJ l)).map (xX l main))).map (·.oG)
theorem abL (l:List ah) (main:List Int):∀ids:List Int,ids.flatMap (fun id=>bif gJ l id then[xX l main id]else[])=(ids.filter (gJ l)).map (xX l main)
 | []=>rfl
 |i::ids=>by
  rw[List.flatMap_cons,abL l main ids,List.filter_cons];cases gJ l i<;>simp
theorem adb (s:List dU) (hs:s.length≤1000000) (hn:(s.map (·.oG)).Nodup):iF s=some s:=by
 unfold iF;by_cases h2:s.length<2
 ·rw[show decide ((s.length:Int)<2)=true by simp;omega];rfl
 rw[show decide ((s.length:Int)<2)=false by simp;omega];simp only[cond_false];unfold pG;refine dn.eq ?_;refine uU (body:=jG) (fun m a b=>∃i:Nat,a=i∧i+m=s.length∧0<i∧b=s) ?_ fuel (s.length-1) 1 s (fuel_lt (by omega)) ⟨1,rfl,by omega,by omega,rfl⟩;rintro m a b k ⟨i,rfl,hm,hi,rfl⟩ hk;unfold jG;by_cases hlt:i<b.length
 ·rw[dec_lt hlt,fZ hlt];simp only[cond_true,Option.bind_some];have w:IntKind.i64.wrap ((i:Int)-1)=((i-1:Nat):Int):=by rw[IntKind.wrap_i64];omega
  have hlt1:i-1<b.length:=by omega
  rw[w,fZ hlt1];simp only[Option.bind_some]
  have hne:b[i].oG≠b[i-1].oG:=by
   have:=List.pairwise_iff_getElem.1 hn (i-1) i (by rw[List.length_map];omega) (by rw[List.length_map];omega) (by omega);simp only[List.getElem_map]at this;exact fun e=>this e.symm
  have hq:Bq b[i] b[i-1]=false:=by
   unfold Bq;rw[show(b[i].oG==b[i-1].oG)=false by simpa using hne];rfl
  rw[hq,wrap_succ i (by omega)];exact hk (m-1) _ _ (by omega) ⟨i+1,rfl,by omega,by omega,rfl⟩
 have :i=b.length:=by omega
 subst this;rw[vF];exact .ret rfl
theorem ahy (l:List ah) (main:List Int) (ids:List Int):(ids.map (xX l main)).map (·.oG)=ids:=by
 rw[List.map_map];exact List.map_id' ids
theorem abh (l:List ah) (main ids:List Int) (hl:l.length≤1000) (hs:gZ l) (hm:main.length≤100000) (hi:ids.length≤100000) (hn:ids.Nodup):Fg l main ids=some (RQ l main ids):=by
 unfold Fg OW;rw[Bg (a0:=[]) ids (by omega) (fun r id=>r++bif gJ l id then[xX l main id]else[]) (fun i r=>r.length≤i) (fun v1=>(jr v1).bind fun x12=>(iF x12).bind fun gU=>Gi gU [] 0) (Nat.le_refl _)]
 ·rw[foldl_append (fun id=>bif gJ l id then[xX l main id]else[]),List.nil_append,abL];have hfl:=List.length_filter_le (gJ l) ids;have hil:((ids.filter (gJ l)).map (xX l main)).length≤100000:=by rw[List.length_map];omega
  unfold jr Tj;rw[if_pos (by omega)];simp only[Option.bind_some];have e:(Bo (fun x y:dU=>Gv (x.oG,x.tX,x.wE) (y.oG,y.tX,y.wE)) ((ids.filter (gJ l)).map (xX l main)))=Bo leI ((ids.filter (gJ l)).map (xX l main)):=rfl;rw[e];unfold RQ;have hp:=BX leI ((ids.filter (gJ l)).map (xX l main))
  have hnd:((Bo leI ((ids.filter (gJ l)).map (xX l main))).map (·.oG)).Nodup:=by
   rw[(hp.map (·.oG)).nodup_iff,ahy];exact hn.sublist List.filter_sublist
  have hsl:(Bo leI ((ids.filter (gJ l)).map (xX l main))).length≤100000:=by rw[hp.length_eq];exact hil
  generalize Bo leI ((ids.filter (gJ l)).map (xX l main))=S at hnd hsl;rw[adb S (by omega) hnd];simp only[Option.bind_some];unfold Gi;rw[Bg (a0:=[]) S (by omega) (fun r x=>r++[x.oG]) (fun i r=>r.length≤i) (fun r=>some r) (Nat.le_refl _)]
  ·rw[foldl_append (fun x:dU=>[x.oG]),List.nil_append];congr 1;clear hnd hsl
   induction S with
   |nil=>rfl
   |cons x S ih=>rw[List.flatMap_cons,ih];rfl
  ·intro k r i h hI;refine⟨by rw[List.length_append];simp only[List.length_singleton];omega,?_⟩;unfold Gh;rw[bV h,eX (by simp only[List.length_singleton];omega)];rfl
  intro k r _;unfold Gh;rw[dM]
 ·intro k r i h hI;refine⟨?_,?_⟩
  ·cases gJ l ids[i]<;>simp <;>omega
  unfold Gj yP;rw[bV h,jD l _ (by omega)];simp only[Option.bind_some];rw[JK,Yz l main _ hl hs hm];simp only[Option.bind_some];rw[eX (by simp only[List.length_singleton];omega)];unfold gJ;cases(kG l ids[i]).isSome with
  |true=>rfl
  |false=>simp
 intro k r _;unfold Gj;rw[dM]
theorem anp {l:List ah} {main ids:List Int} {x:Int}:x∈RQ l main ids↔x∈ids∧gJ l x=true:=by
 unfold RQ;rw[((BX leI ((ids.filter (gJ l)).map (xX l main))).map (·.oG)).mem_iff,ahy,List.mem_filter]
theorem aij (l:List ah) (main ids:List Int):(RQ l main ids).length≤ids.length:=by
 unfold RQ;rw[List.length_map,(BX _ _).length_eq,List.length_map];exact List.length_filter_le _ _
end Go.Proofs.YtolgdkhlelfpoaaGreat
end
section
namespace Go.Proofs.YtolgdkhlelfpoaaGreat
open Go.RowKit
def kN (c:Int):Bool:=(decide (c≥97)&&decide (c≤122))||(decide (c≥48)&&decide (c≤57))
theorem Yd (c:Int):EN c=some (kN c):=by
 unfold EN kN;cases decide (c≥97)<;>cases decide (c≤122)<;>cases decide (c≥48)<;>cases decide (c≤57)<;>rfl
theorem Oq (c:Int):Fv c=some (kN c):=by
 unfold Fv kN;cases decide (c≥97)<;>cases decide (c≤122)<;>cases decide (c≥48)<;>cases decide (c≤57)<;>rfl
def JW (l:List Int) (p:Int→Bool):Bool:=decide ((l.length:Int)≥1)&&decide ((l.length:Int)≤32)&&l.all fun c=>kN c||p c
def isLocal (c:Int):Bool:=c==95||c==46||c==45||c==61
def yx (c:Int):Bool:=c==46||c==45
def RS (l:List Int):Bool:=JW l isLocal
def LW (l:List Int):Bool:=JW l yx&&kN (l.getD 0 0)&&kN (l.getD (l.length-1) 0)
theorem aaD {n:Nat} (h:n≤9223372036854775807):n<fuel:=by have :fuel=9223372036854775808:=rfl;omega
theorem ZL {s:ByteArray} (hs:s.size≤9223372036854775807) (f:Int→Option Bool) (p:Int→Bool) (hf:∀c,f c=some (p c)):DY s f=some (JW (aX s) p):=by
 have hl:QF s f 0=some ((aX s).all fun c=>kN c||p c):=by
  unfold QF;rw[scan (aX s) (by rw[dV];exact aaD hs) (fun c=>!(kN c||p c)) false (some true) ?_ ?_,LM,PO]
  ·intro k i h;have h':i<s.size:=by rw[dV]at h;exact h
   simp only[QE,dec_lt h',cond_true,Ic h,Yd,hf,Option.bind_some];cases kN (aX s)[i]<;>cases p (aX s)[i]<;>rfl
  intro k;simp only[QE,dV,vF,cond_false]
 unfold DY JW;rw[hl,dV];have e1:decide ((s.size:Int)≥1)= !decide ((s.size:Int)<1):=by by_cases h:(s.size:Int)<1<;>simp[h]<;>omega
 have e2:decide ((s.size:Int)≤32)= !decide ((s.size:Int)>32):=by by_cases h:(s.size:Int)>32<;>simp[h]<;>omega
 rw[e1,e2];cases decide ((s.size:Int)<1)<;>cases decide ((s.size:Int)>32)<;>rfl
theorem ZM {s:ByteArray} (hs:s.size≤9223372036854775807):DY s (fun a0=>Gy a0)=some (JW (aX s) isLocal):=ZL hs _ isLocal (fun c=>by unfold Gy isLocal;cases c==95<;>cases c==46<;>cases c==45<;>cases c==61<;>rfl)
theorem YA {s:ByteArray} (hs:s.size≤9223372036854775807):DY s (fun a0=>DZ a0)=some (JW (aX s) yx):=ZL hs _ yx (fun c=>by unfold DZ yx;cases c==46<;>cases c==45<;>rfl)
theorem ake {s:ByteArray} (hs:s.size≤9223372036854775807):TB s=some (RS (aX s)):=by
 unfold TB RS;rw[ZM hs];rfl
theorem Uo {s:ByteArray} (h:0<s.size):lJ s 0=some ((aX s).getD 0 0):=by
 have h':0<(aX s).length:=by rw[dV];exact h
 rw[am6 h'];simp[List.getD,h']
theorem ahz {s:ByteArray} (h:0<s.size) (hs:s.size≤9223372036854775807):lJ s (IntKind.i64.wrap ((s.size:Int)-1))=some ((aX s).getD ((aX s).length-1) 0):=by
 have h':s.size-1<(aX s).length:=by rw[dV];omega
 rw[BU (by omega) (by omega),show(s.size:Int)-1=((s.size-1:Nat):Int) by omega,Ic h'];have h2:(aX s).length-1=s.size-1:=by rw[dV]
 rw[h2];simp[List.getD,h']
theorem apr {l:List Int} {p:Int→Bool} (h:JW l p=true):0<l.length∧l.length≤32:=by
 unfold JW at h;simp only[Bool.and_eq_true,decide_eq_true_eq]at h;omega
theorem aik {s:ByteArray} (hs:s.size≤9223372036854775807):Px s=some (LW (aX s)):=by
 unfold Px LW;rw[YA hs];simp only[Option.bind_some];cases hn:JW (aX s) yx with
 |false=>rfl
 |true=>
  have hp:0<s.size:=by have:=(apr hn).1;rwa [dV]at this
  simp only[cond_true,Uo hp,ahz hp hs,Yd,Option.bind_some];cases kN ((aX s).getD 0 0)<;>simp
theorem ail {s:ByteArray} (hs:s.size≤9223372036854775807):Xy s=some (bif LW (aX s)then 0 else 3):=by
 have hl:Oj s 0=some (bif (aX s).all fun c=>kN c||yx c then 0 else 3):=by
  unfold Oj;rw[scan (aX s) (by rw[dV];exact aaD hs) (fun c=>!(kN c||yx c)) 3 (some 0) ?_ ?_,LM,←PO]
  ·cases((aX s).any fun c=>!(kN c||yx c))<;>rfl
  ·intro k i h;have h':i<s.size:=by rw[dV]at h;exact h
   simp only[Oi,dec_lt h',cond_true,Ic h,Oq,Option.bind_some,yx,bne];cases kN (aX s)[i]<;>cases(aX s)[i]==46<;>cases(aX s)[i]==45<;>rfl
  intro k;simp only[Oi,dV,vF,cond_false]
 have e1:decide ((s.size:Int)≥1)= !decide ((s.size:Int)<1):=by by_cases h:(s.size:Int)<1<;>simp[h]<;>omega
 have e2:decide ((s.size:Int)≤32)= !decide ((s.size:Int)>32):=by by_cases h:(s.size:Int)>32<;>simp[h]<;>omega
 unfold Xy LW JW;rw[hl];rw[show((aX s).length:Int)=(s.size:Int) by rw[dV],e1,e2];by_cases h1:(s.size:Int)<1
 ·simp[h1]
 have hp:0<s.size:=by omega
 simp only[Uo hp,ahz hp hs,Oq,Option.bind_some];cases decide ((s.size:Int)<1)<;>cases decide ((s.size:Int)>32)<;>cases kN ((aX s).getD 0 0)<;>cases kN ((aX s).getD ((aX s).length-1) 0)<;>cases((aX s).all fun c=>kN c||yx c)<;>rfl
end Go.Proofs.YtolgdkhlelfpoaaGreat
end
section
namespace Go.Proofs.YtolgdkhlelfpoaaGreat
open Go.RowKit
theorem akf {s:ByteArray} (hs:s.size≤9223372036854775807):Zn s=some (RS (aX s)):=by
 unfold Zn Zm;rw[scan (aX s) (by rw[dV];exact aaD hs) (fun c=>!(kN c||isLocal c)) false (some (decide ((s.size:Int)≥1)&&decide ((s.size:Int)≤32))) ?_ ?_]
 ·unfold RS JW;rw[←PO,dV];cases((aX s).any fun c=>!(kN c||isLocal c))<;>cases decide ((s.size:Int)≥1)<;>cases decide ((s.size:Int)≤32)<;>rfl
 ·intro k i h;have h':i<s.size:=by rw[dV]at h;exact h
  simp only[Rk,dec_lt h',cond_true,Ic h,Oq,Option.bind_some,isLocal,bne];cases kN (aX s)[i]<;>cases(aX s)[i]==95<;>cases(aX s)[i]==46<;>cases(aX s)[i]==45<;>cases(aX s)[i]==61<;>rfl
 intro k;simp only[Rk,dV,vF,cond_false];cases decide ((s.size:Int)≥1)<;>cases decide ((s.size:Int)≤32)<;>rfl
theorem WA (s:ByteArray):(aX s).length=s.data.toList.length:=by simp[aX]
def kP (s:ByteArray):Nat:=(aX s).findIdx (· ==58)
theorem agZ (s:ByteArray):kP s≤s.size:=by unfold kP;rw[←dV];exact List.findIdx_le_length
theorem ZN {s:ByteArray} (hs:s.size≤9223372036854775807):Ud s=some (kP s:Int):=by
 unfold Ud Zl;rw[U9 (aX s) (by rw[dV];exact aaD hs) (· ==58) (fun i=>some (i:Int)) (some (s.size:Int)) ?_ ?_]
 ·have:=agZ s;by_cases h:(aX s).findIdx (· ==58)<(aX s).length
  ·rw[if_pos h];rfl
  rw[if_neg h];congr 2;unfold kP at this ⊢;rw[dV]at h;omega
 ·intro k i h;have h':i<s.size:=by rw[dV]at h;exact h
  simp only[Rj,dec_lt h',cond_true,Ic h,Option.bind_some,bne];cases(aX s)[i]==58<;>rfl
 intro k;simp only[Rj,dV,vF,cond_false,Option.bind_some]
def XH (s:ByteArray):ByteArray:=s.extract 1 (kP s)
def MX (s:ByteArray):ByteArray:=s.extract (kP s+1) s.size
def XI (s:ByteArray):Bool:=decide (kP s<s.size)&&RS (aX (XH s))&&LW (aX (MX s))
def vH (s:ByteArray) (m:Int):Bool:=decide (0<s.size)&&(aX s).getD 0 0==m&&XI s
theorem extract_size (s:ByteArray) (a b:Nat):(s.extract a b).size≤s.size:=by rw[ByteArray.size_extract];omega
theorem akg {s:ByteArray} (h:0<s.size) (hm:(aX s).getD 0 0≠58):1≤kP s:=by
 unfold kP;have hl:0<(aX s).length:=by rw[dV];exact h
 match he:aX s with
 | []=>rw[he]at hl;simp at hl
 |c::l=>
  rw[he]at hm;simp only[List.getD_cons_zero]at hm;rw[List.findIdx_cons,show(c==58)=false from by simpa using hm];simp
theorem Ye {s:ByteArray} (hs:s.size≤9223372036854775807) {m:Int} (hm:m≠58):PL s m=some (vH s m):=by
 unfold PL vH;by_cases h0:0<s.size
 ·rw[show decide ((s.size:Int)<1)=false from by simp;omega,show decide (0<s.size)=true by simpa using h0];simp only[cond_false,Uo h0,Option.bind_some,bne];cases hh:(aX s).getD 0 0==m with
  |false=>rfl
  |true=>
   have hh':(aX s).getD 0 0=m:=by simpa using hh
   have h1:=akg h0 (by rw[hh'];exact hm);have h2:=agZ s;simp only[Bool.not_true,cond_false,ZN hs,Option.bind_some,Bool.true_and];unfold XI;by_cases h3:kP s<s.size
   ·have e1:DC s 1 (kP s:Int)=some (XH s):=Qa (lo:=1) h1 h2
    have e2:DC s (IntKind.i64.wrap ((kP s:Int)+1)) (s.size:Int)=some (MX s):=by
     rw[BU (by omega) (by omega),show(kP s:Int)+1=((kP s+1:Nat):Int) by omega];exact Qa (by omega) (Nat.le_refl _)
    rw[show decide ((kP s:Int)<(s.size:Int))=true from by simpa using h3,show decide (kP s<s.size)=true by simpa using h3];have g1:(XH s).size≤9223372036854775807:=Nat.le_trans (extract_size _ _ _) hs;have g2:(MX s).size≤9223372036854775807:=Nat.le_trans (extract_size _ _ _) hs;simp only[cond_true,e1,e2,akf g1,ail g2,Option.bind_some];cases RS (aX (XH s))<;>cases LW (aX (MX s))<;>rfl
   rw[show decide ((kP s:Int)<(s.size:Int))=false from by simpa using h3,show decide (kP s<s.size)=false by simpa using h3];rfl
 rw[show decide ((s.size:Int)<1)=true from by simp;omega,show decide (0<s.size)=false by simpa using h0];rfl
def splitB (s:ByteArray) (b:Bool):ByteArray×ByteArray×Bool:=bif b then(XH s,MX s,true)else(s0,s0,false)
theorem atI (b c:UInt8):(b==c)=(((b.toNat:Nat):Int)==((c.toNat:Nat):Int)):=by
 by_cases h:b=c
 ·subst h;simp
 have :¬b.toNat=c.toNat:=fun e=>h (UInt8.toNat_inj.1 e);have h1:(b==c)=false:=by simpa using h
 rw[h1];symm;simp;omega
theorem Yf (s:ByteArray) (c:UInt8):s.data.toList.findIdx (· ==c)=(aX s).findIdx (· ==((c.toNat:Nat):Int)):=by
 unfold aX;rw[List.findIdx_map];congr 1;funext b;exact atI b c
theorem aps (s:ByteArray):∀x∈aX s,0≤x∧x<256:=by
 intro x hx;unfold aX at hx;rw[List.mem_map]at hx;obtain⟨c,_,rfl⟩:=hx;have:=c.toNat_lt;omega
theorem getD_mem {s:ByteArray} (h:0<s.size):(aX s).getD 0 0∈aX s:=by
 have hl:0<(aX s).length:=by rw[dV];exact h
 have e:(aX s).getD 0 0=(aX s)[0]:=by simp[List.getD,hl]
 rw[e];exact List.getElem_mem hl
theorem apt (marks:ByteArray) {c:Int} (h0:0≤c) (h1:c<256):decide (Lib.indexByte marks.data.toList c.toNat.toUInt8<0)= !(aX marks).contains c:=by
 have e:(((c.toNat.toUInt8).toNat:Nat):Int)=c:=by
  rw[Nat.toUInt8,UInt8.toNat_ofNat'];omega
 rw[LQ,Yf,e,←WA marks];by_cases hm:c∈aX marks
 ·have hlt:(aX marks).findIdx (· ==c)<(aX marks).length:=List.findIdx_lt_length_of_exists ⟨c,hm,by simp⟩;rw[if_pos hlt,show(aX marks).contains c=true by simpa using hm];simp
 have hnl:¬(aX marks).findIdx (· ==c)<(aX marks).length:=fun h=>by
  have:=List.findIdx_getElem (w:=h);simp only[beq_iff_eq]at this;exact hm (this▸List.getElem_mem h)
 rw[if_neg hnl,show(aX marks).contains c=false by simpa using hm];rfl
theorem RU (s:ByteArray) (a b:Nat):(s.extract 1 s.size).extract a b=s.extract (1+a) (min (1+b) s.size):=by
 refine bytes_inj ?_;simp only[Wu];have :(aX s).take s.size=aX s:=List.take_of_length_le (by rw[dV];omega);rw[this,List.take_drop,List.drop_drop];congr 1;have :min (1+b) s.size=min (1+b) (aX s).length:=by rw[dV]
 rw[this,List.take_eq_take_min]
theorem ain {s:ByteArray} (h:0<s.size) (hm:(aX s).getD 0 0≠58):(aX (s.extract 1 s.size)).findIdx (· ==58)+1=kP s:=by
 unfold kP;rw[Wu];have :(aX s).take s.size=aX s:=List.take_of_length_le (by rw[dV];omega);rw[this];have hl:0<(aX s).length:=by rw[dV];exact h
 match he:aX s with
 | []=>rw[he]at hl;simp at hl
 |c::l=>
  rw[he]at hm;simp only[List.getD_cons_zero]at hm;rw[List.findIdx_cons,show(c==58)=false from by simpa using hm];rfl
theorem awh {s:ByteArray} (hs:s.size≤9223372036854775807) (h:0<s.size) (hm:(aX s).getD 0 0≠58):∃a b,strings_Cut (s.extract 1 s.size) aar=some (a,b,decide (kP s<s.size))∧(kP s<s.size→a=XH s∧b=MX s):=by
 have h1:=akg h hm;have h2:=agZ s;have hj:=ain h hm;have hsz:(s.extract 1 s.size).size=s.size-1:=by rw[ByteArray.size_extract];omega
 have hI:oK (s.extract 1 s.size) aar=some (if kP s<s.size then((kP s-1:Nat):Int)else -1):=by
  show some (Lib.indexByte (s.extract 1 s.size).data.toList 58)=_;rw[LQ,Yf,←WA (s.extract 1 s.size)];show some (if(aX (s.extract 1 s.size)).findIdx (· ==58)<_ then(((aX (s.extract 1 s.size)).findIdx (· ==58):Nat):Int)else -1)=_;rw[dV,hsz];have e:(aX (s.extract 1 s.size)).findIdx (· ==58)=kP s-1:=by omega
  rw[e];congr 1;by_cases h3:kP s<s.size
  ·rw[if_pos h3,if_pos (by omega)]
  rw[if_neg h3,if_neg (by omega)]
 unfold strings_Cut vT;rw[hI,Option.bind_some];by_cases h3:kP s<s.size
 ·rw[if_pos h3,show decide (((kP s-1:Nat):Int)≥0)=true from by simp,show decide (kP s<s.size)=true by simpa using h3];have e1:DC (s.extract 1 s.size) 0 ((kP s-1:Nat):Int)=some ((s.extract 1 s.size).extract 0 (kP s-1)):=Qa (lo:=0) (by omega) (by omega)
  have e2:DC (s.extract 1 s.size) (IntKind.i64.wrap (((kP s-1:Nat):Int)+(aar.size:Int))) ((s.extract 1 s.size).size:Int)=some ((s.extract 1 s.size).extract (kP s) (s.size-1)):=by
   rw[show(aar.size:Int)=1 from rfl,BU (by omega) (by omega),show((kP s-1:Nat):Int)+1=((kP s:Nat):Int) by omega,hsz];exact Qa (by omega) (by omega)
  simp only[cond_true,e1,e2,Option.bind_some];refine⟨_,_,rfl,fun _=>⟨?_,?_⟩⟩
  ·rw[RU];unfold XH;congr 1;omega
  rw[RU];unfold MX;rw[Nat.add_comm 1 (kP s)];congr 1;omega
 rw[if_neg h3,show decide ((-1:Int)≥0)=false from rfl,show decide (kP s<s.size)=false by simpa using h3];exact⟨_,_,rfl,fun h=>absurd h h3⟩
theorem ade {s:ByteArray} (hs:s.size≤9223372036854775807) {marks:ByteArray} (hmk:∀m∈aX marks,m≠58):Iq s marks=some (splitB s ((aX marks).any fun m=>vH s m)):=by
 unfold Iq;by_cases h0:0<s.size
 ·have hne:(s.toList==s0.toList)=false:=by
   rw[Ci];simp only[decide_eq_false_iff_not];intro e;rw[e]at h0;exact absurd h0 (by decide)
  have hc:=aps s _ (getD_mem h0)
  have hany:((aX marks).any fun m=>vH s m)=((aX marks).contains ((aX s).getD 0 0)&&XI s):=by
   unfold vH;rw[show decide (0<s.size)=true by simpa using h0]
   induction aX marks with
   |nil=>rfl
   |cons m l ih=>rw[List.any_cons,ih,List.contains_cons];cases(aX s).getD 0 0==m<;>cases XI s<;>simp
  rw[hne,hany];simp only[cond_false,Uo h0,Option.bind_some,strings_IndexByte,apt marks hc.1 hc.2];cases hk:(aX marks).contains ((aX s).getD 0 0)with
  |false=>rfl
  |true=>
   have hm:(aX s).getD 0 0≠58:=hmk _ (by simpa using hk);obtain⟨a,b,e1,e2⟩:=awh hs h0 hm;have eg:DC s 1 (s.size:Int)=some (s.extract 1 s.size):=Qa (lo:=1) (by omega) (Nat.le_refl _);simp only[Bool.not_true,cond_false,eg,e1,Option.bind_some,Bool.true_and];unfold XI;cases h3:decide (kP s<s.size)with
   |false=>rfl
   |true=>
    obtain⟨rfl,rfl⟩:=e2 (of_decide_eq_true h3);have g1:(XH s).size≤9223372036854775807:=Nat.le_trans (extract_size _ _ _) hs;have g2:(MX s).size≤9223372036854775807:=Nat.le_trans (extract_size _ _ _) hs;simp only[Bool.not_true,cond_false,ake g1,aik g2,Option.bind_some];cases RS (aX (XH s))<;>cases LW (aX (MX s))<;>rfl
 have hz:s.size=0:=by omega
 have he:s=s0:=bytes_inj (by
  have h1:aX s=[]:=List.eq_nil_of_length_eq_zero (by rw[dV];exact hz)
  rw[h1];rfl)
 have hany:((aX marks).any fun m=>vH s m)=false:=by
  rw[List.any_eq_false];intro m _;unfold vH;rw[show decide (0<s.size)=false by simpa using h0];simp
 rw[hany,he,show(s0.toList==s0.toList)=true from by simp];rfl
def idB (s:ByteArray):Bool:=vH s 64||(vH s 33||false)
theorem anq {s:ByteArray} (hs:s.size≤9223372036854775807):Iq s Qv=some (splitB s (idB s)):=
 ade hs (marks:=Qv) (by rw[show aX Qv=[64,33]from rfl];intro m hm;simp only[List.mem_cons,List.not_mem_nil,or_false]at hm;omega)
theorem akh {s:ByteArray} (h:XI s=true):kP s<s.size:=by unfold XI at h;simp only[Bool.and_eq_true,decide_eq_true_eq]at h;exact h.1.1
theorem Vf {s:ByteArray} (hs:s.size≤9223372036854775807):zA s=some (splitB s (idB s)).2.1∧Zo s=some (splitB s (idB s)).2.1:=by
 have eh:kP s<s.size→DC s (IntKind.i64.wrap ((kP s:Int)+1)) (s.size:Int)=some (MX s):=fun h3=>by
  rw[BU (by omega) (by omega),show(kP s:Int)+1=((kP s+1:Nat):Int) by omega];exact Qa (by omega) (Nat.le_refl _)
 unfold zA Zo;rw[anq hs,Ye hs (by decide),Ye hs (by decide),ZN hs];refine⟨rfl,?_⟩;unfold idB;cases h64:vH s 64 with
 |true=>
  have h0:=akh (s:=s) (by unfold vH at h64;simp only[Bool.and_eq_true]at h64;exact h64.2);simp only[Option.bind_some,Bool.not_true,cond_false,eh h0,Bool.true_or];rfl
 |false=>
  cases h33:vH s 33 with
  |true=>
   have h0:=akh (s:=s) (by unfold vH at h33;simp only[Bool.and_eq_true]at h33;exact h33.2);simp only[Option.bind_some,Bool.not_true,Bool.not_false,cond_false,cond_true,eh h0,Bool.false_or,Bool.true_or];rfl
  |false=>rfl
end Go.Proofs.YtolgdkhlelfpoaaGreat
end
section
namespace Go.Proofs.YtolgdkhlelfpoaaGreat
open Go.RowKit
theorem awi {R A α:Type} {body:(Int→A→Option R)→Int→A→Option R} (l:List α) (hl:l.length<fuel) (p:α→Bool) (g:Nat→Option R) (rest:Option R) (a0:A)
 (hb:∀k (i:Nat) (h:i<l.length),body k (i:Int) a0=bif p l[i]then g i else k (IntKind.i64.wrap ((i:Int)+1)) a0) (he:∀k,body k (l.length:Int) a0=rest):
 aY body fuel 0 a0=if l.findIdx p<l.length then g (l.findIdx p)else rest:=by
 have hf:fuel=9223372036854775808:=rfl
 have key:∀n (i:Nat),i+n=l.length→∀m,n<m→aY body m (i:Int) a0=if(l.drop i).findIdx p+i<l.length then g ((l.drop i).findIdx p+i)else rest:=by
  intro n
  induction n with
  |zero=>
   intro i hi m hm;obtain⟨m,rfl⟩:∃m',m=m'+1:=⟨m-1,by omega⟩
   have :i=l.length:=by omega
   subst this;show body (aY body m) _ _=_;rw[he,List.drop_length,if_neg (by simp)]
  |succ n ih=>
   intro i hi m hm;obtain⟨m,rfl⟩:∃m',m=m'+1:=⟨m-1,by omega⟩
   have hlt:i<l.length:=by omega
   show body (aY body m) _ _=_;rw[hb _ i hlt,wrap_succ i (by omega),ih (i+1) (by omega) m (by omega),List.drop_eq_getElem_cons hlt,List.findIdx_cons];cases p l[i]with
   |true=>simp only[cond_true,Nat.zero_add];rw[if_pos hlt]
   |false=>
    simp only[cond_false];rw[show(l.drop (i+1)).findIdx p+(i+1)=(l.drop (i+1)).findIdx p+1+i by omega]
 have:=key l.length 0 (by omega) fuel hl;simpa using this
def tJ (l:List ah):ah×Bool:=match l.find? fun x=>x.Kind==1 with |some x=>(x,true)|none=>(gB,false)
theorem anr (l:List ah) (p:ah→Bool):(if l.findIdx p<l.length then(some (match l[l.findIdx p]? with |some x=>(x,true)|none=>(gB,false)))else some (gB,false))=some (match l.find? p with |some x=>(x,true)|none=>(gB,false)):=by
 rw[wZ];by_cases h:l.findIdx p<l.length
 ·rw[if_pos h]
 rw[if_neg h,List.getElem?_eq_none (by omega)]
theorem Ur (l:List ah) (hl:l.length≤1000):D9 l=some (tJ l):=by
 unfold D9 TL;rw[awi l (fuel_lt (by omega)) (fun x=>x.Kind==1) (fun i=>some (match l[i]? with |some x=>(x,true)|none=>(gB,false))) (some (gB,false))]
 ·exact anr l _
 ·intro k i h;unfold Jv;rw[bV h,List.getElem?_eq_getElem h]
 intro k;unfold Jv;rw[dM]
def isM (u:ByteArray) (x:ah):Bool:=x.Kind==2&&decide (x.Key=u)
def nH (l:List ah) (u:ByteArray):Int:=match l.find? (isM u)with |some x=>x.Content.N|none=>0
theorem apu (u:ByteArray) (x:ah):(bif (x.Kind==2)then some (x.Key.toList==u.toList)else some false)=some (isM u x):=by
 unfold isM;rw[Ci];cases x.Kind==2<;>rfl
theorem Ot (l:List ah) (u:ByteArray) (hl:l.length≤1000):EW l u=some (nH l u):=by
 unfold EW X0 nH;rw[U9 l (fuel_lt (by omega)) (isM u) (fun i=>some (match l[i]? with |some x=>x.Content.N|none=>0)) (some 0)]
 ·rw[wZ];by_cases h:l.findIdx (isM u)<l.length
  ·rw[if_pos h]
  rw[if_neg h,List.getElem?_eq_none (by omega)]
 ·intro k i h;unfold Oa;rw[bV h,fZ h,List.getElem?_eq_getElem h];simp only[Option.bind_some];rw[apu];rfl
 intro k;unfold Oa;rw[dM]
def ae8 (e:ah) (l:List ah):Bool:=
 (tJ l).2&&(e.gI.length==1&&(e.gI.getD 0 0==(tJ l).1.Id&&(decide (e.bY=(tJ l).1.bY)&&(decide (e.Key=(tJ l).1.bY)&&(e.Content.N==3&& !l.any (isM e.Key))))))
theorem aio (e:ah) (l:List ah) (hl:l.length≤1000):PE e l=some (ae8 e l):=by
 have hL:N9 l e 0=some (!l.any (isM e.Key)):=by
  unfold N9;rw[scan l (fuel_lt (by omega)) (isM e.Key) false (some true)]
  ·cases l.any (isM e.Key)<;>rfl
  ·intro k i h;unfold N8;rw[bV h,apu];rfl
  intro k;unfold N8;rw[dM]
 unfold PE ae8 qG;rw[Ur l hl];simp only[Option.bind_some];rw[hL,Ci,Ci];cases(tJ l).2 with
 |false=>rfl
 |true=>
  by_cases hp:e.gI.length=1
  ·have h0:0<e.gI.length:=by omega
   have e1:((e.gI.length:Int) != 1)=false:=by rw[hp];rfl
   have e2:(e.gI.length==1)=true:=by simpa using hp
   have e3:aV e.gI 0=some (e.gI.getD 0 0):=by
    have :aV e.gI ((0:Nat):Int)=some e.gI[0]:=fZ h0;rw[show((0:Nat):Int)=0 from rfl]at this;rw[this];simp[List.getD,h0]
   rw[e1,e2,e3];simp only[Option.bind_some,bne];cases e.gI.getD 0 0==(tJ l).1.Id<;>cases decide (e.bY=(tJ l).1.bY)<;>cases decide (e.Key=(tJ l).1.bY)<;>cases e.Content.N==3<;>rfl
  have e1:((e.gI.length:Int) != 1)=true:=by simp;omega
  have e2:(e.gI.length==1)=false:=by simpa using hp
  rw[e1,e2];rfl
def moveB (f t:Int) (s:Bool):Bool:=
 bif decide (f<0)||decide (f>4)then false else bif t==3 then s&&f != 4 else bif t==0 then f==1||f==2||f==3||(f==4&& !s)else bif t==2 then s&&(f==0||f==2)else bif t==1 then !s&&(f==0||f==2||f==1)else bif t==4 then !s else false
theorem alo (f t:Int) (s:Bool):LH f t s=some (moveB f t s):=by
 unfold LH moveB;simp only[LM,Option.bind_some,apl,atH]
theorem ae9 (f t:Int) (s:Bool):vZ f t s=some (moveB f t s):=by
 rw[←alo];by_cases hf0:f<0
 ·unfold vZ LH;rw[decide_eq_true hf0];rfl
 by_cases hf4:f>4
 ·unfold vZ LH;rw[decide_eq_true hf4];cases decide (f<0)<;>rfl
 by_cases ht0:t<0
 ·unfold vZ LH;rw[decide_eq_true ht0,decide_eq_false hf0,decide_eq_false hf4,show(t==3)=false by simp;omega,show(t==0)=false by simp;omega,show(t==2)=false by simp;omega,show(t==1)=false by simp;omega,show(t==4)=false by simp;omega];rfl
 by_cases ht4:t>4
 ·unfold vZ LH;rw[decide_eq_true ht4,decide_eq_false ht0,decide_eq_false hf0,decide_eq_false hf4,show(t==3)=false by simp;omega,show(t==0)=false by simp;omega,show(t==2)=false by simp;omega,show(t==1)=false by simp;omega,show(t==4)=false by simp;omega];rfl
 have hf:f=0∨f=1∨f=2∨f=3∨f=4:=by omega
 have ht:t=0∨t=1∨t=2∨t=3∨t=4:=by omega
 rcases hf with rfl|rfl|rfl|rfl|rfl<;>rcases ht with rfl|rfl|rfl|rfl|rfl<;>cases s<;>decide
def afa (l:List ah):Int×List ByteArray:=match l.find? fun x=>x.Kind==4 with |some x=>(x.Content.N,x.Content.Allow)|none=>(0,[])
theorem alp (l:List ah) (hl:l.length≤1000) (hs:gZ l):Xu l=some (afa l):=by
 unfold Xu abw afa;rw[U9 l (fuel_lt (by omega)) (fun x=>x.Kind==4) (fun i=>some (match l[i]? with |some x=>(x.Content.N,x.Content.Allow)|none=>(0,[]))) (some (0,[]))]
 ·rw[wZ];by_cases h:l.findIdx (fun x=>x.Kind==4)<l.length
  ·rw[if_pos h]
  rw[if_neg h,List.getElem?_eq_none (by omega)]
 ·intro k i h;have ha:=(hs _ (List.getElem_mem h)).allow;unfold UZ;rw[bV h,List.getElem?_eq_getElem h,eX (by simp only[List.length_nil];omega)];rfl
 intro k;unfold UZ;rw[dM]
def ant (rule now:Int):Int:=bif now==3||rule==1 then 0 else bif now==1&&(rule==0||rule==2||rule==3)then 0 else 21
def aki (rule now:Int):Int:=bif rule==2&&(now==0||now==2)then 0 else 21
theorem aip (r n:Int):PG r n=some (ant r n):=by
 unfold PG BN Hq ant;cases n==3<;>cases r==1<;>cases r==2<;>cases r==3<;>cases r==0<;>cases n==1<;>rfl
theorem ag0 (r n:Int):MN r n=some (aki r n):=by
 unfold MN EY aki bne;cases r==2<;>cases n==0<;>cases n==2<;>rfl
def aq9 (m now:Int) (l:List ah):Int:=bif m==3 then ant (afa l).1 now else bif m==2 then aki (afa l).1 now else 0
theorem alq (m now:Int) (l:List ah) (hl:l.length≤1000) (hs:gZ l):Xv m now l=some (aq9 m now l):=by
 unfold Xv aq9;rw[alp l hl hs];simp only[Option.bind_some];rw[aip,ag0];cases m==3<;>cases m==2<;>rfl
def xY (k:Int):Bool:=decide (k≥1)&&decide (k≤10)
theorem RV (k:Int):uf k=some (xY k):=by
 unfold uf xY;cases decide (k≥1)<;>rfl
def Qb (v:bf) (k:Int):Int:=match v.Kinds.find? fun x=>x.Kind==k with |some x=>x.N|none=>bif xY k then v.State else v.Message
theorem JX (v:bf) (k:Int) (h:v.Kinds.length≤1000):zJ v k=some (Qb v k):=by
 unfold zJ TQ Qb;rw[U9 v.Kinds (fuel_lt (by omega)) (fun x=>x.Kind==k) (fun i=>some (match v.Kinds[i]? with |some x=>x.N|none=>0)) (some (bif xY k then v.State else v.Message))]
 ·rw[wZ];by_cases h:v.Kinds.findIdx (fun x=>x.Kind==k)<v.Kinds.length
  ·rw[if_pos h,List.getElem?_eq_getElem h]
  rw[if_neg h,List.getElem?_eq_none (by omega)]
 ·intro k2 i h;unfold Jw;rw[bV h,List.getElem?_eq_getElem h]
 intro k2;unfold Jw;rw[dM,RV];cases xY k<;>rfl
def ag1 (own was Yg:Int):Bool:=was==Yg||(decide (was≤own)&&decide (Yg≤own))
def numsOf (v:bf):List Int:=[v.User,v.Message,v.State,v.iZ,v.lH,v.pV,v.jB]
def ara (own:Int) (p:Int×Int):Bool:=!ag1 own p.1 p.2
def adf (own:Int) (old new:bf) (x:dL):Bool:=!ag1 own (Qb old x.Kind) (Qb new x.Kind)
def badU (own:Int) (old new:bf) (user:ByteArray) (x:fG):Bool:=!(ag1 own (iy old x.User) (iy new x.User)&&(iy old x.User==iy new x.User||decide (x.User=user)||decide (iy old x.User<own)))
def ag2 (old new:bf) (user:ByteArray):Int:=
 bif ((numsOf old).zip (numsOf new)).any (ara (iy old user))then 20 else bif (old.Kinds++new.Kinds).any (adf (iy old user) old new)then 20 else bif (old.Users++new.Users).any (badU (iy old user) old new user)then 20 else 0
theorem ZO (own was Yg:Int):mJ was Yg own=some (!ag1 own was Yg):=by
 unfold mJ ag1;have h1:(was != Yg)= !(was==Yg):=rfl;have h2:decide (was>own)= !decide (was≤own):=by by_cases h:was≤own<;>simp[h]<;>omega
 have h3:decide (Yg>own)= !decide (Yg≤own):=by by_cases h:Yg≤own<;>simp[h]<;>omega
 rw[h1,h2,h3];cases was==Yg<;>cases decide (was≤own)<;>cases decide (Yg≤own)<;>rfl
structure afb (v:bf):Prop where
 users:v.Users.length≤100
 kinds:v.Kinds.length≤100
theorem ag3 (a b:bf):((numsOf a).zip (numsOf b)).length=7:=rfl
theorem adg (old new:bf) (user:ByteArray) (ho:afb old) (hn:afb new):BO old new user=some (ag2 old new user):=by
 have o1:=ho.users;have o2:=ho.kinds;have n1:=hn.users;have n2:=hn.kinds;unfold BO;rw[rH old user (by omega)];unfold E8;simp only[Option.bind_some];unfold ag2;generalize hown:iy old user=own
 have hU:AX old new own user false 0=some (bif (old.Users++new.Users).any (badU own old new user)then 20 else 0):=by
  unfold AX;rw[ank ([old.Users,new.Users]:List (List fG)) (fuel_lt (by simp)) (fun us=>us.any (badU own old new user)) (fun _=>some 20) (some 0) false]
  ·have e:(old.Users++new.Users).any (badU own old new user)=([old.Users,new.Users]:List (List fG)).any (fun us=>us.any (badU own old new user)):=by simp
   rw[e]
   have hf:∀L:List (List fG),(if L.findIdx (fun us=>us.any (badU own old new user))<L.length then some (20:Int)else some 0)=some (bif L.any (fun us=>us.any (badU own old new user))then 20 else 0):=fun L=>by
    by_cases h:L.findIdx (fun us=>us.any (badU own old new user))<L.length
    ·rw[if_pos h];have :L.any (fun us=>us.any (badU own old new user))=true:=List.any_eq_true.2 ((List.findIdx_lt_length).1 h);rw[this];rfl
    rw[if_neg h]
    have :L.any (fun us=>us.any (badU own old new user))=false:=by
     rw[Bool.eq_false_iff];exact fun k=>h (List.findIdx_lt_length.2 (List.any_eq_true.1 k))
    rw[this];rfl
   exact hf _
  ·intro k i h
   have hus:([old.Users,new.Users]:List (List fG))[i].length≤100:=by
    have :([old.Users,new.Users]:List (List fG))[i]∈[old.Users,new.Users]:=List.getElem_mem h;simp only[List.mem_cons,List.not_mem_nil,or_false]at this;rcases this with e|e<;>rw[e]<;>assumption
   unfold AU;rw[show decide ((i:Int)<2)=true by simp only[List.length_cons,List.length_nil]at h;simp;omega,fZ h];simp only[cond_true,Option.bind_some];generalize([old.Users,new.Users]:List (List fG))[i]=us at hus;unfold QZ;rw[ank us (fuel_lt (by omega)) (badU own old new user) (fun _=>some 20) (k false (IntKind.i64.wrap ((i:Int)+1))) false]
   ·by_cases h2:us.findIdx (badU own old new user)<us.length
    ·rw[if_pos h2];have :us.any (badU own old new user)=true:=List.any_eq_true.2 ((List.findIdx_lt_length).1 h2);rw[this];rfl
    rw[if_neg h2]
    have :us.any (badU own old new user)=false:=by
     rw[Bool.eq_false_iff];exact fun k=>h2 (List.findIdx_lt_length.2 (List.any_eq_true.1 k))
    rw[this];rfl
   ·intro k2 j hj;unfold AQ rD;rw[bV hj,rH old _ (by omega),rH new _ (by omega)];simp only[Option.bind_some];rw[ZO,Ci];unfold badU;have h2:decide (iy old us[j].User≥own)= !decide (iy old us[j].User<own):=by by_cases h:iy old us[j].User<own<;>simp[h]<;>omega
    have h3:(iy old us[j].User != iy new us[j].User)= !(iy old us[j].User==iy new us[j].User):=rfl;simp only[Option.bind_some];rw[h2,h3];cases ag1 own (iy old us[j].User) (iy new us[j].User)<;>cases iy old us[j].User==iy new us[j].User<;>cases decide (us[j].User=user)<;>cases decide (iy old us[j].User<own)<;>rfl
   intro k2;unfold AQ;rw[dM]
  intro k;unfold AU rD;rw[show decide (((([old.Users,new.Users]:List (List fG)).length:Nat):Int)<2)=false from rfl];rfl
 have hK:AZ old new own user 0=some (bif (old.Kinds++new.Kinds).any (adf own old new)then 20 else bif (old.Users++new.Users).any (badU own old new user)then 20 else 0):=by
  unfold AZ;rw[scan ([old.Kinds,new.Kinds]:List (List dL)) (fuel_lt (by simp)) (fun ks=>ks.any (adf own old new)) 20 (AX old new own user false 0)]
  ·rw[hU];have e:(old.Kinds++new.Kinds).any (adf own old new)=([old.Kinds,new.Kinds]:List (List dL)).any (fun ks=>ks.any (adf own old new)):=by simp
   rw[e];cases([old.Kinds,new.Kinds]:List (List dL)).any (fun ks=>ks.any (adf own old new))<;>rfl
  ·intro k i h
   have hks:([old.Kinds,new.Kinds]:List (List dL))[i].length≤100:=by
    have :([old.Kinds,new.Kinds]:List (List dL))[i]∈[old.Kinds,new.Kinds]:=List.getElem_mem h;simp only[List.mem_cons,List.not_mem_nil,or_false]at this;rcases this with e|e<;>rw[e]<;>assumption
   unfold AY;rw[show decide ((i:Int)<2)=true by simp only[List.length_cons,List.length_nil]at h;simp;omega,fZ h];simp only[cond_true,Option.bind_some];generalize([old.Kinds,new.Kinds]:List (List dL))[i]=ks at hks;unfold QY;rw[scan ks (fuel_lt (by omega)) (adf own old new) 20 (k (IntKind.i64.wrap ((i:Int)+1)))]
   ·intro k2 j hj;unfold AP;rw[bV hj,JX old _ (by omega),JX new _ (by omega)];simp only[Option.bind_some];rw[ZO];rfl
   intro k2;unfold AP;rw[dM]
  intro k;unfold AY;rw[show decide (((([old.Kinds,new.Kinds]:List (List dL)).length:Nat):Int)<2)=false from rfl];rfl
 unfold Q5;rw[scan ((numsOf old).zip (numsOf new)) (by rw[ag3];exact fuel_lt (by decide)) (ara own) 20 (AZ old new own user 0)]
 ·rw[hK];cases((numsOf old).zip (numsOf new)).any (ara own)<;>rfl
 ·intro k i h;have h7:i<7:=by rw[ag3]at h;exact h
  have e1:aV [old.User,old.Message,old.State,old.iZ,old.lH,old.pV,old.jB] (i:Int)=some ((numsOf old)[i]'h7):=fZ (l:=numsOf old) h7;have e2:aV [new.User,new.Message,new.State,new.iZ,new.lH,new.pV,new.jB] (i:Int)=some ((numsOf new)[i]'h7):=fZ (l:=numsOf new) h7;unfold A8;rw[show decide ((i:Int)<7)=true by simp;omega,e1,e2];simp only[cond_true,Option.bind_some];rw[ZO,List.getElem_zip];rfl
 intro k;unfold A8;rw[ag3,show decide (((7:Nat):Int)<7)=false from rfl];rfl
end Go.Proofs.YtolgdkhlelfpoaaGreat
end
section
namespace Go.Proofs.YtolgdkhlelfpoaaGreat
open Go.RowKit
def akj (e:ah) (l:List ah) (now:Int):Int:=
 bif !(nH l e.bY==3)then 18 else
 bif e.Content.N==1&&decide (iy (gW l) e.bY<(gW l).iZ)then 20 else
 bif e.Content.N==0&&((now==4&&decide (iy (gW l) e.bY<(gW l).pV))||decide (iy (gW l) e.bY<(gW l).lH)||decide (iy (gW l) e.Key≥iy (gW l) e.bY))then 20 else
 bif e.Content.N==4&&(decide (iy (gW l) e.bY<(gW l).pV)||decide (iy (gW l) e.Key≥iy (gW l) e.bY))then 20 else 0
def ag4 (e:ah) (l:List ah):Int:=
 bif ae8 e l then 0 else
 bif decide (e.Key=e.bY)&&nH l e.Key==4 then 19 else
 bif !moveB (nH l e.Key) e.Content.N (decide (e.Key=e.bY))then 18 else
 bif decide (e.Key=e.bY)then aq9 e.Content.N (nH l e.Key) l else akj e l (nH l e.Key)
def akk (e:ah) (l:List ah):Int:=
 bif decide (iy (gW l) e.bY<Qb (gW l) e.Kind)then 20 else bif e.Kind==3 then ag2 (gW l) e.Content.Levels e.bY else 0
def al3 (s:ByteArray):ByteArray:=(splitB s (idB s)).2.1
def XJ (e:ah) (l:List ah):Int:=
 bif e.Kind==1 then(bif !(tJ l).2&&(al3 e.bY).toList==(al3 e.Room).toList then 0 else 17)else
 bif !(tJ l).2 then 17 else bif e.Kind==2 then ag4 e l else bif !(nH l e.bY==3)then 18 else akk e l
theorem afc {l:List ah} (h:gZ l):afb (gW l):=⟨(FD h).1,(FD h).2⟩
theorem kC.levels {e:ah} (h:kC e):afb e.Content.Levels:=⟨h.users,h.kinds⟩
theorem aiq (e:ah) (l:List ah) (hl:l.length≤1000) (hs:gZ l) (he:kC e):PI e l=some (akk e l):=by
 have hS:=afc hs;have h1:=hS.users;have h2:=hS.kinds;unfold PI akk;rw[RN l hl hs];simp only[Option.bind_some];rw[rH _ _ (by omega),JX _ _ (by omega)];simp only[Option.bind_some];rw[adg _ _ _ hS he.levels];cases decide (iy (gW l) e.bY<Qb (gW l) e.Kind)<;>cases e.Kind==3<;>rfl
def er (x:Int):Except Value Unit:=.error (.iface 150 (.agg #[.int .i64 x]))
theorem ahA (x:Int):yu x=some (er x):=rfl
theorem ag5 (b:Bool) (x:Int):o7 b x=some (bif b then .ok ()else er x):=by cases b<;>rfl
theorem adh (b:Bool) (x:Int) (f:Unit→Option (Except Value Unit)):yT (bif b then .ok ()else er x) f=bif b then f ()else some (er x):=by cases b<;>rfl
theorem al4 (x:Int) (f:Unit→Option (Except Value Unit)):yT (er x) f=some (er x):=rfl
theorem awj (a b:Int):decide (a≥b)= !decide (a<b):=by by_cases h:a<b<;>simp[h]<;>omega
theorem anu (e:ah) (l:List ah) (now:Int) (hl:l.length≤1000) (hs:gZ l):(rC l e now).bind ng=some (akj e l now):=by
 have h1:=(FD hs).1;unfold rC akj;rw[Ot l _ hl,RN l hl hs];simp only[Option.bind_some];rw[rH _ _ (by omega),rH _ _ (by omega)];simp only[ag5,Option.bind_some,adh,awj]
 have h2:decide (iy (gW l) e.Key<iy (gW l) e.bY)= !decide (iy (gW l) e.bY≤iy (gW l) e.Key):=by
  by_cases h:iy (gW l) e.Key<iy (gW l) e.bY<;>simp[h]<;>omega
 have h3:(now != 4)= !(now==4):=rfl;rw[h3];generalize decide (iy (gW l) e.Key<iy (gW l) e.bY)=t;generalize decide (iy (gW l) e.bY<(gW l).iZ)=i;generalize decide (iy (gW l) e.bY<(gW l).pV)=b;generalize decide (iy (gW l) e.bY<(gW l).lH)=k;generalize(now==4)=n;cases nH l e.bY==3 with
 |false=>rfl
 |true=>
  by_cases n1:e.Content.N=1
  ·rw[n1];cases i<;>rfl
  rw[show(e.Content.N==1)=false by simpa using n1];by_cases n0:e.Content.N=0
  ·rw[n0];cases n<;>cases b<;>cases k<;>cases t<;>rfl
  rw[show(e.Content.N==0)=false by simpa using n0];cases e.Content.N==4<;>cases b<;>cases t<;>rfl
theorem ag6 (e:ah) (l:List ah) (hl:l.length≤1000) (hs:gZ l):MO e l=some (ag4 e l):=by
 unfold MO ag4;rw[aio e l hl];simp only[Option.bind_some];cases ae8 e l with
 |true=>rfl
 |false=>
  simp only[cond_false]
  have hb:∀o:Option (Except Value Unit),(o.bind fun x3=>(ng x3).bind fun x4=>some x4)=o.bind ng:=fun o=>by
   cases o with
   |none=>rfl
   |some x=>cases h:ng x<;>simp[h]
  rw[hb];have ho:=anu e l (nH l e.Key) hl hs;unfold Ob;rw[Ot l _ hl,Ci];simp only[Option.bind_some];rw[ae9,alq _ _ _ hl hs];simp only[Option.bind_some,ag5,ahA,adh,al4,LM];have h3:(nH l e.Key != 4)= !(nH l e.Key==4):=rfl;rw[h3];generalize rC l e (nH l e.Key)=J at ho;generalize decide (e.Key=e.bY)=s;cases s with
  |true=>
   cases nH l e.Key==4 with
   |true=>rfl
   |false=>cases moveB (nH l e.Key) e.Content.N true<;>rfl
  |false=>
   cases moveB (nH l e.Key) e.Content.N false with
   |false=>rfl
   |true=>exact ho
theorem JY (e:ah) (l:List ah) (hl:l.length≤1000) (hs:gZ l) (he:kC e):zK e l=some (XJ e l):=by
 have h1:=he.sender;have h2:=he.room;unfold zK XJ
 have hb:∀o:Option (Except Value Unit),(o.bind fun x3=>(ng x3).bind fun x4=>some x4)=o.bind ng:=fun o=>by
  cases o with
  |none=>rfl
  |some x=>cases h:ng x<;>simp[h]
 rw[hb];unfold Lp yO yN yM;rw[Ur l hl,(Vf (s:=e.bY) (by omega)).1,(Vf (s:=e.Room) (by omega)).1,Ot l _ hl,aiq e l hl hs he,ag6 e l hl hs];simp only[Option.bind_some,ag5,ahA,adh,al4];show _=some (bif e.Kind==1 then(bif !(tJ l).2&&(splitB e.bY (idB e.bY)).2.1.toList==(splitB e.Room (idB e.Room)).2.1.toList then 0 else 17)else _);cases e.Kind==1 with
 |true=>
  cases(tJ l).2 with
  |true=>rfl
  |false=>cases(splitB e.bY (idB e.bY)).2.1.toList==(splitB e.Room (idB e.Room)).2.1.toList<;>rfl
 |false=>
  cases(tJ l).2 with
  |false=>rfl
  |true=>
   cases e.Kind==2 with
   |true=>rfl
   |false=>cases nH l e.bY==3<;>rfl
end Go.Proofs.YtolgdkhlelfpoaaGreat
end
section
namespace Go.Proofs.YtolgdkhlelfpoaaGreat
open Go.RowKit
def anv (named:List ah) (k:au):ah×Bool:=match named.find? (NH k)with |some x=>(x,true)|none=>(gB,false)
def afd (l:List ah) (s:List au) (e:ah) (k:au):ah×Bool:=bif (uQ s k.Kind k.Key).2 then nV l (uQ s k.Kind k.Key).1 else anv (ofIds l e.fO) k
def Us (l:List ah) (s:List au) (e:ah) (k:au):List ah:=bif (afd l s e k).2 then[(afd l s e k).1]else[]
def RX (l:List ah) (s:List au) (e:ah):List ah:=(keysOf e).flatMap (Us l s e)
theorem ZP (l:List ah) (s:List au) (e:ah) (k:au):(Us l s e k).length≤1:=by
 unfold Us;cases(afd l s e k).2<;>simp
theorem air (l:List ah) (s:List au) (e:ah):(RX l s e).length≤5:=by
 have h1:=flat_length (f:=Us l s e) (n:=1) (ZP l s e) (keysOf e);have h2:=xg e;unfold RX;omega
theorem anw {l:List ah} {s:List au} {e x:ah} (h:x∈RX l s e):x∈l:=by
 obtain⟨k,_,h⟩:=List.mem_flatMap.1 h;unfold Us afd anv at h;cases hg:(uQ s k.Kind k.Key).2 with
 |true=>
  rw[hg]at h;simp only[cond_true]at h;cases hp:kG l (uQ s k.Kind k.Key).1 with
  |none=>rw[Em hp]at h;exact absurd h List.not_mem_nil
  |some y=>rw[sK hp]at h;rw[List.mem_singleton.1 h];exact yw hp
 |false=>
  rw[hg]at h;simp only[cond_false]at h;cases hf:(ofIds l e.fO).find? (NH k)with
  |none=>rw[hf]at h;exact absurd h List.not_mem_nil
  |some y=>rw[hf]at h;rw[List.mem_singleton.1 h];exact ahv (List.mem_of_find?_eq_some hf)
theorem gZ.base {l:List ah} (h:gZ l) (s:List au) (e:ah):gZ (RX l s e):=fun x hx=>h x (anw hx)
theorem ag7 (named:List ah) (k:au) (hn:named.length≤1000):ML named k=some (anv named k):=by
 unfold ML;rw[RF named (by omega) (fun a0=>BL a0 k) (NH k) fun e=>by unfold BL NH;rw[Ci];cases e.Kind==k.Kind<;>rfl];exact found_eq named (NH k) rfl
theorem afe (l:List ah) (s:List au) (e:ah) (hl:l.length≤1000) (he:e.fO.length≤40) (hs:kY s) (hsl:s.length≤1000000):Ju l s e=some (RX l s e):=by
 unfold Ju;have ho:=aj2 l e.fO;have hk:=xg e;have hm:pO 376 gB 0 5=some []:=by unfold pO;rw[if_pos (by constructor<;>omega)];rfl
 rw[ale l _ hl (by omega),hm,Uj];simp only[Option.bind_some];unfold TK;rw[Bg (keysOf e) (by omega) (fun r k=>r++Us l s e k) (fun i r=>r.length≤i) (fun r=>some r) (Nat.le_refl _)]
 ·rw[foldl_append (Us l s e),List.nil_append];rfl
 ·intro k r i h hI;have hp:=ZP l s e (keysOf e)[i];refine⟨by rw[List.length_append];omega,?_⟩;unfold Jt Dh Df;rw[bV h,ag7 _ _ (by omega),Dp s _ _ hsl hs];simp only[Option.bind_some];rw[jD l _ (by omega),eX (by simp only[List.length_singleton];omega)];simp only[Option.bind_some];rw[eX (by simp only[List.length_singleton];omega)];unfold Us afd;cases(uQ s (keysOf e)[i].Kind (keysOf e)[i].Key).2 with
  |true=>
   simp only[cond_true];cases(nV l (uQ s (keysOf e)[i].Kind (keysOf e)[i].Key).1).2 with
   |true=>rfl
   |false=>simp
  |false=>
   simp only[cond_false];cases(anv (ofIds l e.fO) (keysOf e)[i]).2 with
   |true=>rfl
   |false=>simp
 intro k r _;unfold Jt;rw[dM]
def adi (l:List ah) (s:List au) (id:Int):Bool:=gJ l id&&(xY (ev l id).Kind&&XJ (ev l id) (RX l s (ev l id))==0)
def GX (l:List ah) (s:List au) (id:Int):List au:=bif adi l s id then rG s (ev l id).Kind (ev l id).Key (ev l id).Id else s
def FH (l:List ah) (s:List au) (ids:List Int):List au:=ids.foldl (GX l) s
theorem Yh {l:List ah} {s:List au} (h:kY s) (id:Int):kY (GX l s id):=by
 unfold GX;cases adi l s id with
 |true=>exact Vb h _ _ _
 |false=>exact h
theorem LX {l:List ah}:∀{ids:List Int} {s:List au},kY s→kY (FH l s ids)
 | [],_,h=>h
 |id::ids,s,h=>LX (ids:=ids) (Yh h id)
theorem Yi (l:List ah) (s:List au) (id:Int):(GX l s id).length≤s.length+1:=by
 unfold GX;cases adi l s id with
 |true=>exact qc _ _ _ _
 |false=>exact Nat.le_succ _
theorem LY (l:List ah):∀(ids:List Int) (s:List au),(FH l s ids).length≤s.length+ids.length
 | [],s=>Nat.le_refl _
 |id::ids,s=>by
  have h1:=LY l ids (GX l s id);have h2:=Yi l s id;show(FH l (GX l s id) ids).length≤_;rw[List.length_cons];omega
theorem arb {l:List ah} (hs:gZ l) {id:Int} (h:gJ l id=true):kC (ev l id):=hs _ (yw (XG h).1)
theorem aff (l:List ah) (s:List au) (id:Int) (hl:l.length≤1000) (hs:gZ l) (hso:kY s) (hsl:s.length≤1000000):JA l s id=some (GX l s id):=by
 unfold JA U0 zL GX adi;have anx:G9 s (.error (.iface 317 (.agg #[])):Except Value (List au))=some s:=rfl;rw[jD l _ (by omega)];simp only[Option.bind_some];rw[JK];cases hk:(kG l id).isSome with
 |false=>rw[show gJ l id=false from hk];exact anx
 |true=>
  have hks:gJ l id=true:=hk;have he:=arb hs hks;have hev:(nV l id).1=ev l id:=rfl;rw[hks,hev,RV];simp only[Option.bind_some,Bool.not_true,cond_false,Bool.true_and];cases xY (ev l id).Kind with
  |false=>exact anx
  |true=>
   have hb:=air l s (ev l id);rw[afe l s _ hl he.auth hso hsl];simp only[Option.bind_some,Bool.not_true,cond_false,Bool.true_and];rw[JY _ _ (by omega) (hs.base s _) he];simp only[Option.bind_some];rw[oz s _ _ _ hsl];unfold bne;cases XJ (ev l id) (RX l s (ev l id))==0 with
   |true=>rfl
   |false=>exact anx
theorem RY (l:List ah) (s:List au) (ids:List Int) (hl:l.length≤1000) (hs:gZ l) (hso:kY s) (hsl:s.length+ids.length≤1000000):ug l s ids=some (FH l s ids):=by
 unfold ug mX;rw[eX (by simp only[List.length_nil];omega)];simp only[Option.bind_some,List.nil_append];unfold Q7;rw[Bg ids (by omega) (GX l) (fun i r=>kY r∧r.length≤s.length+i) (fun r=>some r) ⟨hso,Nat.le_refl _⟩]
 ·rfl
 ·intro k r i h hI;have h1:=Yi l r ids[i];refine⟨⟨Yh hI.1 _,by omega⟩,?_⟩;unfold H8;rw[bV h,aff l r _ hl hs hI.1 (by omega)];rfl
 intro k r _;unfold H8;rw[dM]
def FI (l:List ah) (aZ:List (List au)):List Int:=agU l (wC l aZ)
def Vg (l:List ah) (aZ:List (List au)):List Int:=Eo l (uG l (FI l aZ)).length (uG l (FI l aZ))
def qB (l:List ah) (aZ:List (List au)):List au:=FH l (uS aZ) (Vg l aZ)
def WB (l:List ah) (aZ:List (List au)):List Int:=bif (uQ (qB l aZ) 3 s0).2 then aiC l (uQ (qB l aZ) 3 s0).1 else[]
def yA (l:List ah) (aZ:List (List au)):List Int:=RQ l (WB l aZ) (xu (wC l aZ) (FI l aZ))
def afg (s a:List au):List au:=a.foldl (fun s x=>rG s x.Kind x.Key x.Id) s
def lastOf (l:List ah) (aZ:List (List au)):List au:=afg (FH l (qB l aZ) (yA l aZ)) (uS aZ)
structure Ep (l:List ah) (aZ:List (List au)):Prop where
 len:l.length≤100
 small:gZ l
 states:um aZ
theorem PV {l:List ah} {aZ:List (List au)} (h:Ep l aZ):(wC l aZ).length≤40000:=by
 have h0:=h.len;have g1:=RH h.states;have g2:=kX (PS aZ);have h1:=JR l aZ [] fun s hs=>(h.states.2 s hs).1;have h2:=h.states.1;have h3:=List.length_filter_le (fun x=>decide (Dq l aZ x<aZ.length)) (allOf l aZ);have h4:aZ.length*(100+l.length)≤100*200:=Nat.mul_le_mul h2 (by omega);have h5:=Om (iW (PS aZ)) (JQ l aZ)
 have h6:(JQ l aZ).length≤20000:=by
  unfold JQ;unfold allOf at h3 ⊢;simp only[List.length_nil]at h1;omega
 unfold wC;omega
theorem anz {l:List ah} {aZ:List (List au)} (h:Ep l aZ):(JU l (wC l aZ)).length≤40000:=Nat.le_trans (List.length_filter_le _ _) (PV h)
theorem akl {l:List ah} {aZ:List (List au)} (h:Ep l aZ):(Vg l aZ).length≤100:=by
 have h1:=Yc l (uG l (FI l aZ)).length (uG l (FI l aZ));have h2:(uG l (FI l aZ)).length≤l.length:=vG (XC _ _) fun x hx=>(Fz.1 hx).2;have h3:=h.len;unfold Vg;omega
theorem abM {l:List ah} {aZ:List (List au)} (h:Ep l aZ):(qB l aZ).length≤200:=by
 have h1:=LY l (Vg l aZ) (uS aZ);have h2:=akl h;have h3:=JO h.states;unfold qB;omega
theorem RZ {l:List ah} {aZ:List (List au)} (h:Ep l aZ):kY (qB l aZ):=LX (ZH h.states)
theorem anA {l:List ah} {aZ:List (List au)} (h:Ep l aZ):(WB l aZ).length≤100:=by
 have h1:=akd l (uQ (qB l aZ) 3 s0).1;have h2:=h.len;unfold WB;cases(uQ (qB l aZ) 3 s0).2 with
 |true=>simp only[cond_true];omega
 |false=>exact Nat.zero_le _
theorem akm {l:List ah} {aZ:List (List au)} (h:Ep l aZ):(yA l aZ).length≤40000:=by
 have h1:=aij l (WB l aZ) (xu (wC l aZ) (FI l aZ));have h2:=X8 (wC l aZ) (FI l aZ);have h3:=PV h;unfold yA;omega
theorem alr {l:List ah} {aZ:List (List au)} (h:Ep l aZ):uz (wC l aZ) (FI l aZ) l (qB l aZ,Vg l aZ) (uS aZ,iW (PS aZ)) (WB l aZ)=some ⟨lastOf l aZ,Vg l aZ,yA l aZ⟩:=by
 have h0:=h.len;have h1:=PV h;have h2:=abI l (wC l aZ);have h3:=anA h;have h4:=X8 (wC l aZ) (FI l aZ);have h5:=abM h;have h6:=akm h;have h7:=JO h.states;unfold uz qy wU;rw[ajY _ _ (by omega) (by unfold FI;omega)];simp only[Option.bind_some];rw[abh l _ _ (by omega) h.small (by omega) (by omega) (NG (amr _ _))];simp only[Option.bind_some];show((ug l (qB l aZ) (yA l aZ)).bind _).bind _=_;rw[RY l _ _ (by omega) h.small (RZ h) (by omega)];simp only[Option.bind_some];unfold OX;have hb:=LY l (yA l aZ) (qB l aZ);show aY _ fuel 0 (⟨FH l (qB l aZ) (yA l aZ),Vg l aZ,yA l aZ⟩:iM)=_;rw[Zz (uS aZ) (by omega) (fun v x=>({ v with yV:=rG v.yV x.Kind x.Key x.Id }:iM)) (fun i v=>v.yV.length≤(FH l (qB l aZ) (yA l aZ)).length+i) (fun v=>some v) (Nat.le_refl _)]
 ·congr 1;unfold lastOf afg
  have key:∀(a:List au) (v:iM),a.foldl (fun v x=>({ v with yV:=rG v.yV x.Kind x.Key x.Id }:iM)) v=⟨a.foldl (fun s x=>rG s x.Kind x.Key x.Id) v.yV,v.VD,v.ajh⟩:=by
   intro a
   induction a with
   |nil=>intro v;rfl
   |cons x a ih=>intro v;rw[List.foldl_cons,ih];rfl
  rw[key]
 ·intro k v i hi hI;have hl2:=qc v.yV (uS aZ)[i].Kind (uS aZ)[i].Key (uS aZ)[i].Id;refine⟨by show(rG _ _ _ _).length≤_;omega,?_⟩;unfold Gl;rw[bV hi,oz _ _ _ _ (by omega)];rfl
 intro k v _;unfold Gl;rw[dM]
theorem apv {l:List ah} {aZ:List (List au)} (h:Ep l aZ):Fh l aZ=some ⟨lastOf l aZ,Vg l aZ,yA l aZ⟩:=by
 have h0:=h.len;have h1:=PV h;have h2:=abI l (wC l aZ);have h3:=anz h;have h5:=abM h;have h6:=akl h;have h7:=JO h.states;have ht:=alr h;unfold Fh;rw[O1 aZ h.states,ac9 l aZ (by omega) h.small.anj h.states];simp only[Option.bind_some];rw[akb l _ (by omega) h.small (by omega) (by omega)];simp only[Option.bind_some];unfold sJ Bc;rw[agX l _ (by omega) h.small (by omega)];simp only[Option.bind_some];have ha:ug l (uS aZ) (Vg l aZ)=some (qB l aZ):=RY l _ _ (by omega) h.small (ZH h.states) (by omega);unfold Vg FI at ha;rw[ha];simp only[Option.bind_some];rw[Dp _ _ _ (by omega) (RZ h)];simp only[Option.bind_some];rw[agY l _ (by omega) h.small];unfold WB at ht;cases hg:(uQ (qB l aZ) 3 s0).2 with
 |true=>rw[hg]at ht;exact ht
 |false=>rw[hg]at ht;exact ht
end Go.Proofs.YtolgdkhlelfpoaaGreat
end
section
namespace Go.Proofs.YtolgdkhlelfpoaaGreat
open Go.RowKit
def ZQ (l:List ah) (aZ:List (List au)):List au:=match aZ with
 | []=>[]
 | [s]=>s
 |_=>lastOf l aZ
theorem NI {l:List ah} {aZ:List (List au)} (h:Ep l aZ):xP l aZ=some (ZQ l aZ):=by
 match aZ,h with
 | [],_=>rfl
 | [s],h=>
   have hs:=(h.states.2 s (List.mem_cons_self ..)).1;have e0:aV [s] 0=some s:=rfl;show((aV [s] 0).bind fun x3=>(gK 32 [] x3).bind fun x4=>some x4)=some s;rw[e0];simp only[Option.bind_some];rw[eX (by simp only[List.length_nil];omega)];rfl
 |s::t::aZ,h=>
  unfold xP;have e0:(((s::t::aZ).length:Int)==0)=false:=by simp only[List.length_cons];simp;omega
  have e1:(((s::t::aZ).length:Int)==1)=false:=by simp only[List.length_cons];simp;omega
  rw[e0,e1,apv h];rfl
theorem Ep.of {l:List ah} {aZ:List (List au)} (h1:l.length≤14∧gZ l) (h2:aZ.length≤100∧∀s∈aZ,s.length≤20∧kY s):Ep l aZ:=
 ⟨by have:=h1.1;omega,h1.2,⟨h2.1,fun s hs=>⟨by have:=(h2.2 s hs).1;omega,(h2.2 s hs).2⟩⟩⟩
end Go.Proofs.YtolgdkhlelfpoaaGreat
end
section
namespace Go.Proofs.YtolgdkhlelfpoaaGreat
open Go.RowKit
theorem Yj {x:au}:∀(a s:List au),x∈afg s a→x∈a∨x∈s
 | [],_,h=>.inr h
 |y::a,s,h=>by
  rcases Yj a _ h with h|h
  ·exact .inl (List.mem_cons_of_mem _ h)
  rcases ada h with h|h
  ·left;rw[h];cases y;exact List.mem_cons_self ..
  exact .inr h
def al5 (l:List ah) (ids:List Int) (x:au):Prop:=∃id∈ids,gJ l id=true∧xY (ev l id).Kind=true∧x=⟨(ev l id).Kind,(ev l id).Key,(ev l id).Id⟩
theorem Vh {l:List ah} {x:au}:∀(ids:List Int) (s:List au),x∈FH l s ids→x∈s∨al5 l ids x
 | [],_,h=>.inl h
 |id::ids,s,h=>by
  rcases Vh ids _ h with h|⟨j,hj,h⟩
  ·have h2:x∈bif adi l s id then rG s (ev l id).Kind (ev l id).Key (ev l id).Id else s:=h
   cases hm:adi l s id with
   |false=>rw[hm]at h2;exact .inl h2
   |true=>
    rw[hm]at h2;rcases ada h2 with h2|h2
    ·unfold adi at hm;simp only[Bool.and_eq_true]at hm;exact .inr ⟨id,List.mem_cons_self ..,hm.1,hm.2.1,h2⟩
    exact .inl h2
  exact .inr ⟨j,List.mem_cons_of_mem _ hj,h⟩
theorem ard {l:List ah} {aZ:List (List au)} {x:Int} (h:x∈FI l aZ):x∈wC l aZ:=(aj9.1 h).1
theorem anB {l:List ah} {aZ:List (List au)} {x:au} (h:x∈lastOf l aZ):x∈uS aZ∨al5 l (wC l aZ) x:=by
 unfold lastOf at h;rcases Yj _ _ h with h|h
 ·exact .inl h
 rcases Vh _ _ h with h|⟨j,hj,h⟩
 ·unfold qB at h;rcases Vh _ _ h with h|⟨j,hj,h⟩
  ·exact .inl h
  exact .inr ⟨j,ard (Fz.1 (ae6 _ _ _ hj)).1,h⟩
 exact .inr ⟨j,(WW.1 (anp.1 hj).1).1,h⟩
theorem Yk :∀(a s:List au),kY s→kY (afg s a)
 | [],_,h=>h
 |x::a,s,h=>Yk a _ (Vb h x.Kind x.Key x.Id)
theorem als {l:List ah} {aZ:List (List au)} (h:Ep l aZ):kY (lastOf l aZ):=Yk _ _ (LX (RZ h))
end Go.Proofs.YtolgdkhlelfpoaaGreat
end
section
namespace Go.Proofs.YtolgdkhlelfpoaaGreat
open Go.RowKit
structure mM (l:List ah) (s:List au):Prop where
 sorted:kY s
 named:∀x∈s,gJ l x.Id=true∧xY x.Kind=true∧(ev l x.Id).Kind=x.Kind∧(ev l x.Id).Key=x.Key
theorem mM.nil (l:List ah):mM l []:=⟨List.Pairwise.nil,fun _ h=>absurd h List.not_mem_nil⟩
theorem mM.nodup {l:List ah} {s:List au} (h:mM l s):(s.map (·.Id)).Nodup:=by
 rw[List.nodup_iff_pairwise_ne,List.pairwise_map];refine List.Pairwise.imp_of_mem ?_ h.sorted;intro a b ha hb hp e;obtain⟨_,_,k1,k2⟩:=h.named a ha;obtain⟨_,_,k3,k4⟩:=h.named b hb;have e1:a.Kind=b.Kind:=by rw[←k1,←k3,e]
 have e2:a.Key=b.Key:=by rw[←k2,←k4,e]
 rw[Ui (zX.2 ⟨e1,e2⟩)]at hp;cases hp
theorem mM.length {l:List ah} {s:List au} (h:mM l s):s.length≤l.length:=by
 have :MW l (s.map (·.Id)):=⟨h.nodup,fun x hx=>by
  obtain⟨y,hy,rfl⟩:=List.mem_map.1 hx
  exact(h.named y hy).1⟩
 have:=this.length
 rwa [List.length_map]at this
theorem mM.okay {l:List ah} {aZ:List (List au)} (hl:l.length≤100) (hs:gZ l) (hn:aZ.length≤100) (h:∀s∈aZ,mM l s):Ep l aZ:=
 ⟨hl,hs,hn,fun s hm=>⟨Nat.le_trans (h s hm).length hl,(h s hm).sorted⟩⟩
theorem mM.resolve {l:List ah} {aZ:List (List au)} (ho:Ep l aZ) (h:∀s∈aZ,mM l s):mM l (ZQ l aZ):=by
 match aZ,ho,h with
 | [],_,_=>exact .nil l
 | [s],_,h=>exact h s (List.mem_cons_self ..)
 |s::t::aZ,ho,h=>
  refine⟨als ho,fun x hx=>?_⟩;rcases anB hx with hm|⟨id,_,hk,hst,he⟩
  ·exact(h s (List.mem_cons_self ..)).named x ((apo ho.states (List.cons_ne_nil _ _)).1 hm s (List.mem_cons_self ..))
  have hev:=XG hk;have e3:x.Id=id:=by rw[he];exact hev.2
  rw[e3];exact⟨hk,by rw[he];exact hst,by rw[he],by rw[he]⟩
theorem mM.set {l:List ah} {s:List au} (h:mM l s) {e:ah} (hk:gJ l e.Id=true) (he:ev l e.Id=e) (hst:xY e.Kind=true):mM l (rG s e.Kind e.Key e.Id):=
 ⟨Vb h.sorted _ _ _,fun x hx=>by
  rcases ada hx with rfl|hx
  ·exact⟨hk,hst,by rw[he],by rw[he]⟩
  exact h.named x hx⟩
end Go.Proofs.YtolgdkhlelfpoaaGreat
end
section
namespace Go.Proofs.YtolgdkhlelfpoaaGreat
open Go.RowKit
def afh (l:List ah) (e:ah):Prop:=(∀x∈e.gI,gJ l x=true)∧∀x∈e.fO,gJ l x=true
theorem ahB (refs:List Int) (l:List ah) (m:List (Int×Int)) (h:Uh l m) (hr:refs.length≤1000):zC refs m=some (refs.all (gJ l)):=by
 unfold zC OI;rw[scan refs (fuel_lt (by omega)) (fun x=>!gJ l x) false (some true)]
 ·rw[List.all_eq_not_any_not];cases(refs.any fun x=>!gJ l x)<;>rfl
 ·intro k i hi;unfold F8;rw[bV hi,h.isSome]
 intro k;unfold F8;rw[dM]
theorem anC (l:List ah) (hl:l.length≤100) (hs:gZ l):dn (Jk l) (fun b=>b=true→∀e∈l,afh l e):=by
 unfold Jk;refine(xW l (by omega)).bind fun m hm=>?_;unfold TD;refine uU (body:=Jj l) (Q:=fun b=>b=true→∀e∈l,afh l e) (fun n a b=>∃i:Nat,a=i∧i+n=l.length∧b=m∧∀j,(hj:j<i)→(hl:j<l.length)→afh l l[j]) ?_ fuel l.length 0 m (fuel_lt (by omega)) ⟨0,rfl,by omega,rfl,fun j hj=>by omega⟩;rintro n a b k ⟨i,rfl,hn,rfl,hI⟩ hk;unfold Jj;by_cases hi:i<l.length
 ·have he:=hs l[i] (List.getElem_mem hi);have h1:=he.prev;have h2:=he.auth;rw[bV hi,ahB _ l b hm (by omega),Option.bind_some,fZ hi,Option.bind_some,ahB _ l b hm (by omega)];cases hp:l[i].gI.all (gJ l)with
  |false=>exact .ret fun h=>by cases h
  |true=>
   cases ha:l[i].fO.all (gJ l)with
   |false=>exact .ret fun h=>by cases h
   |true=>
    refine hk (n-1) _ _ (by omega) ⟨i+1,wrap_succ i (by omega),by omega,rfl,fun j hj hl'=>?_⟩;by_cases e:j=i
    ·subst e;exact⟨List.all_eq_true.1 hp,List.all_eq_true.1 ha⟩
    exact hI j (by omega) hl'
 have :i=l.length:=by omega
 subst this;rw[dM];exact .ret fun _=>Zy fun j hj=>hI j hj hj
theorem ZR {l:List ah} {m:List (Int×Int)} (h:Uh l m) {x:Int} (hk:gJ l x=true):∃e,aV l ((dD m x).getD 0)=some e:=⟨_,h.get (XG hk).1⟩
theorem arf (l:List ah) (m:List (Int×Int)) (e:ah) (hm:Uh l m) (he:kC e) (hr:afh l e):dn (PD l m e) (fun r=>r.2=m):=by
 have h1:=he.prev;have h2:=he.auth;unfold PD XZ;refine kF e.fO.length (fuel_lt (by omega)) (fun _=>True) trivial (fun i k hi _ hk=>?_) fun k _=>?_
 ·unfold NY;obtain⟨x,hx⟩:=ZR hm (hr.2 _ (List.getElem_mem hi));rw[bV hi,hx,Option.bind_some,wrap_succ i (by omega)];exact dn.bif (fun _=>.ret rfl) fun _=>hk trivial
 unfold NY;rw[dM];refine dn.bif (fun _=>.ret rfl) fun h0=>?_
 have hp:0<e.gI.length:=by
  rcases Nat.eq_zero_or_pos e.gI.length with h|h
  ·rw[h]at h0;cases h0
  exact h
 obtain⟨x,hx⟩:=ZR hm (hr.1 _ (List.getElem_mem hp));have g0:aV e.gI 0=some e.gI[0]:=fZ (i:=0) hp;rw[g0,Option.bind_some,hx,Option.bind_some];unfold XY;refine ql e.gI.length (fuel_lt (by omega)) (fun _ _=>True) trivial (fun i a k2 hi _ hk=>?_) fun a k2 _=>?_
 ·unfold NW;obtain⟨y,hy⟩:=ZR hm (hr.1 _ (List.getElem_mem hi));rw[bV hi,hy,Option.bind_some,wrap_succ i (by omega)];exact hk _ trivial
 unfold NW;rw[dM];cases decide (e.Depth>a)<;>exact .ret rfl
theorem anD (l:List ah) (hl:l.length≤100) (hs:gZ l):dn (Jm l) (fun _=>True):=by
 unfold Jm;refine(anC l hl hs).bind fun b hb=>dn.bif (fun _=>.ret trivial) fun h=>?_;have hb:=hb (by simpa using h);refine(xW l (by omega)).bind fun m hm=>?_;unfold TF;refine uU (body:=Jl l) (Q:=fun _=>True) (fun n a b=>∃i:Nat,a=i∧i+n=l.length∧b=m) ?_ fuel l.length 0 m (fuel_lt (by omega)) ⟨0,rfl,by omega,rfl⟩;rintro n a b k ⟨i,rfl,hn,rfl⟩ hk;unfold Jl;by_cases hi:i<l.length
 ·rw[bV hi];refine(arf l b l[i] hm (hs _ (List.getElem_mem hi)) (hb _ (List.getElem_mem hi))).bind fun r hr=>dn.bif (fun _=>.ret trivial) fun _=>?_;exact hk (n-1) _ _ (by omega) ⟨i+1,wrap_succ i (by omega),by omega,hr⟩
 have :i=l.length:=by omega
 subst this;rw[dM];exact .ret trivial
theorem apw (l:List ah) (hl:l.length≤100):dn (MI l) (fun r=>r.length≤100):=by
 have e0:pO 16 Me 0 (l.length:Int)=some []:=by unfold pO;rw[if_pos ⟨Int.le_refl _,by omega,by omega⟩];rfl
 unfold MI;rw[e0,Option.bind_some];unfold VW;refine ql l.length (fuel_lt (by omega)) (fun i a=>a.length=i) rfl (fun i a k hi ha hk=>?_) fun a k ha=>?_
 ·unfold Le;rw[bV hi,fZ hi,Option.bind_some,eX (by simp only[List.length_singleton];omega),Option.bind_some];have hlen:(a++[(⟨l[i].Depth,l[i].Id⟩:fU)]).length=i+1:=by simp[ha]
  generalize a++[(⟨l[i].Depth,l[i].Id⟩:fU)]=b at hlen;rw[hlen];have hj:∀v6:List fU,v6.length=i+1→dn (zF k (i:Int) v6) (fun r=>r.length≤100):=fun v6 h=>by unfold zF;rw[wrap_succ i (by omega)];exact hk v6 h
  unfold VT;refine uU (body:=Lc k (i:Int)) (Q:=fun r=>r.length≤100) (fun n x v=>∃q:Nat,x=q∧n=q∧q≤i∧v.length=i+1) ?_ fuel i (IntKind.i64.wrap (((i+1:Nat):Int)-1)) b (fuel_lt (by omega)) ⟨i,by rw[IntKind.wrap_i64];omega,rfl,Nat.le_refl _,hlen⟩;rintro n x v k2 ⟨q,rfl,hnq,hq,hv⟩ hk2;unfold Lc;refine dn.bif (fun hpos=>?_) fun _=>hj v hv;have hpos:0<q:=by have:=of_decide_eq_true hpos;omega
  have w1:IntKind.i64.wrap ((q:Int)-1)=((q-1:Nat):Int):=by rw[IntKind.wrap_i64];omega
  have g1:aV v ((q-1:Nat):Int)=some v[q-1]:=fZ (by omega);have g2:aV v (q:Int)=some v[q]:=fZ (by omega);rw[w1,g1,Option.bind_some,g2,Option.bind_some];have hc:∀b1 b2 b3:Bool,∃r,(bif b1 then some true else(bif b2 then some b3 else some false).bind fun x19=>some x19)=some r:=fun b1 b2 b3=>by cases b1<;>cases b2<;>exact⟨_,rfl⟩
  obtain⟨r,hr⟩:=hc (decide (v[q-1].IV<v[q].IV)) (v[q-1].IV==v[q].IV) (decide (v[q-1].oG≤v[q].oG));rw[hr,Option.bind_some];refine dn.bif (fun _=>hj v hv) fun _=>?_;have g3:∃y,aV (v.set ((q-1:Nat):Int).toNat v[q]) (q:Int)=some y:=⟨_,fZ (by rw[List.length_set];omega)⟩
  obtain⟨y,hy⟩:=g3;rw[Option.bind_some,hy,Option.bind_some];exact hk2 (q-1) _ _ (by omega) ⟨q-1,rfl,rfl,by omega,by simp[hv]⟩
 unfold Le;rw[dM];have e1:pO 8 0 (a.length:Int) (a.length:Int)=some (List.replicate a.length (0:Int)):=by unfold pO;rw[if_pos ⟨by omega,Int.le_refl _,by omega⟩];simp
 rw[e1,Option.bind_some];unfold VU;refine Iw (body:=Ld a) (Q:=fun r=>r.length≤100) (fun n (x:Int) (o:List Int) (p:List fU)=>∃i:Nat,x=i∧i+n=a.length∧o.length=a.length∧p=a) ?_ fuel a.length 0 (List.replicate a.length 0) a (fuel_lt (by omega)) ⟨0,rfl,by omega,by simp,rfl⟩;rintro n x o p k2 ⟨i,rfl,hn,ho,rfl⟩ hk2;unfold Ld;by_cases hi:i<p.length
 ·have g2:aV o (i:Int)=some o[i]:=fZ (by omega);rw[bV hi,g2,Option.bind_some];exact hk2 (n-1) _ _ _ (by omega) ⟨i+1,wrap_succ i (by omega),by omega,by simp[ho],rfl⟩
 have :i=p.length:=by omega
 subst this;rw[dM];exact .ret (by omega)
theorem arh (l:List ah) (hl:l.length≤100) (m1 m2:List (Int×List au)) (m3:List (Int×Int)):dn (pJ m1 m2 m3 l) (fun r=>r.length≤100):=by
 unfold pJ;refine dn.bind (P:=fun r=>r.length≤100) ?_ fun r h=>.ret h;unfold nS qP;refine ql l.length (fuel_lt (by omega)) (fun i a=>a.length≤i) (Nat.le_refl _) (fun i a k hi ha hk=>?_) fun a k ha=>?_
 ·unfold lX wW;rw[bV hi,Option.bind_some];refine dn.bif (fun _=>?_) fun _=>?_
  ·rw[fZ hi,Option.bind_some,eX (by simp only[List.length_singleton];omega),Option.bind_some];unfold jq;rw[wrap_succ i (by omega)];exact hk _ (by simp;omega)
  unfold jq;rw[wrap_succ i (by omega)];exact hk _ (by omega)
 unfold lX;rw[dM];exact .ret (by omega)
theorem apx (l:List ah) (ids:List Int) (hl:l.length≤100) (hs:gZ l) (hi0:ids.length≤100):dn (MS l ids) (fun r=>r.length≤100):=by
 unfold MS;refine(xW l (by omega)).bind fun m hm=>?_;unfold Wp;refine Iw (body:=LG ids l) (Q:=fun r=>r.length≤100) (fun n a b c=>∃i:Nat,a=i∧i+n=ids.length∧b=m) ?_ fuel ids.length 0 m [] (fuel_lt (by omega)) ⟨0,rfl,by omega,rfl⟩;rintro n a b c k ⟨i,rfl,hn,rfl⟩ hk;unfold LG;by_cases hi:i<ids.length
 ·have hj:∀v8,dn (Fj k (i:Int) b v8) (fun r=>r.length≤100):=fun v8=>hk (n-1) _ _ _ (by omega) ⟨i+1,wrap_succ i (by omega),by omega,rfl⟩;rw[bV hi,hm.isSome];refine dn.bif (fun _=>hj _) fun h=>?_;have hkn:gJ l ids[i]=true:=by simpa using h
  obtain⟨hg,_⟩:=XG hkn;rw[hm.get hg,Option.bind_some];have hp:=(hs _ (yw hg)).prev;unfold Wj;refine Iw (body:=LC (ev l ids[i]) ids[i] k (i:Int)) (Q:=fun r=>r.length≤100) (fun n2 a2 b2 c2=>∃j:Nat,a2=j∧j+n2=(ev l ids[i]).gI.length∧b2=b) ?_ fuel (ev l ids[i]).gI.length 0 b c (fuel_lt (by omega)) ⟨0,rfl,by omega,rfl⟩;rintro n2 a2 b2 c2 k2 ⟨j,rfl,hn2,rfl⟩ hk2;unfold LC;by_cases hj2:j<(ev l ids[i]).gI.length
  ·rw[bV hj2];refine dn.bif (fun _=>?_) fun _=>?_<;>exact hk2 (n2-1) _ _ _ (by omega) ⟨j+1,wrap_succ j (by omega),by omega,rfl⟩
  have :j=(ev l ids[i]).gI.length:=by omega
  subst this;rw[dM];exact hj _
 have :i=ids.length:=by omega
 subst this;rw[dM];unfold Wn;refine ql ids.length (fuel_lt (by omega)) (fun i a=>a.length≤i) (Nat.le_refl _) (fun i a k2 hi ha hk=>?_) fun a k2 ha=>?_
 ·unfold LD Fp;rw[bV hi,wrap_succ i (by omega)];refine dn.bif (fun _=>?_) fun _=>hk _ (by omega);rw[eX (by simp only[List.length_singleton];omega),Option.bind_some];exact hk _ (by simp;omega)
 unfold LD;rw[dM,oO _ (by omega)];exact .ret (Nat.le_trans (kX _) (by omega))
end Go.Proofs.YtolgdkhlelfpoaaGreat
end
section
namespace Go.Proofs.YtolgdkhlelfpoaaGreat
open Go.RowKit
theorem awk :kC gB:=⟨Nat.zero_le _,Nat.zero_le _,Nat.zero_le _,Nat.zero_le _,Nat.zero_le _,Nat.zero_le _,Nat.zero_le _,Nat.zero_le _,Nat.zero_le _,Nat.zero_le _,Nat.zero_le _,Nat.zero_le _,fun _ h=>absurd h List.not_mem_nil,fun _ h=>absurd h List.not_mem_nil,fun _ h=>absurd h List.not_mem_nil⟩
theorem ahC {l:List ah} (hs:gZ l) (id:Int):kC (nV l id).1:=by
 unfold nV;cases h:kG l id with
 |none=>exact awk
 |some e=>exact hs e (yw h)
theorem anE (k:fQ) (e:ah):∃b,nR k e=some b:=by
 unfold nR;cases(e.Kind==k.Pm)<;>exact⟨_,rfl⟩
theorem apy (ks:List fQ) (x:ah) (h:ks.length≤100):dn (Hr ks x) (fun n=>n<0∨∃i:Nat,n=i∧i<ks.length):=by
 unfold Hr Rh;refine kF ks.length (fuel_lt (by omega)) (fun _=>True) trivial (fun i k hi _ hk=>?_) fun k _=>?_
 ·unfold Ia;obtain⟨b,hb⟩:=anE ks[i] x;rw[bV hi];show dn ((nR ks[i] x).bind _) _;rw[hb,Option.bind_some,wrap_succ i (by omega)];exact dn.bif (fun _=>.ret (.inr ⟨i,rfl,hi⟩)) fun _=>hk trivial
 unfold Ia;rw[dM];exact .ret (.inl (by decide))
theorem ari (l:List ah) (e:ah) (hl:l.length≤100) (he:kC e):dn (Ef l e) (fun _=>True):=by
 have h1:=he.auth;unfold Ef Uc;refine ql e.fO.length (fuel_lt (by omega)) (fun i a=>a.length≤i) (Nat.le_refl _) (fun i a k hi ha hk=>?_) fun a k ha=>?_
 ·unfold Dk;rw[bV hi,jD l _ (by omega),Option.bind_some,wrap_succ i (by omega)];refine dn.bif (fun _=>.ret trivial) fun _=>?_;rw[eX (by simp only[List.length_singleton];omega),Option.bind_some];exact hk _ (by simp;omega)
 unfold Dk;rw[dM];unfold Ub;refine kF a.length (fuel_lt (by omega)) (fun _=>True) trivial (fun i k2 hi _ hk=>?_) fun k2 _=>?_
 ·unfold Dj;rw[bV hi,wrap_succ i (by omega)];exact dn.bif (fun _=>.ret trivial) fun _=>hk trivial
 unfold Dj;rw[dM,Uk,Option.bind_some];have hk5:=xg e;unfold Ua;refine Iw (body:=Di a) (Q:=fun _=>True) (fun n b ks x=>∃i:Nat,x=i∧i+n=a.length∧ks.length≤5) ?_ fuel a.length (e.Kind==1) ((keysOf e).map ZK) 0 (fuel_lt (by omega)) ⟨0,rfl,by omega,by rw[List.length_map];exact hk5⟩;rintro n b ks x k3 ⟨i,rfl,hn,hks⟩ hk3;unfold Di;by_cases hi:i<a.length
 ·rw[bV hi];refine(apy ks a[i] (by omega)).bind fun p hp=>dn.bif (fun _=>.ret trivial) fun hneg=>?_
  obtain⟨j,rfl,hj⟩:∃j:Nat,p=j∧j<ks.length:=by
   rcases hp with h|h
   ·simp at hneg;omega
   exact h
  have s1:wM ks 0 (j:Int)=some ((ks.drop 0).take (j-0)):=P7 (lo:=0) (Nat.zero_le _) (by omega);have s2:wM ks (IntKind.i64.wrap ((j:Int)+1)) (ks.length:Int)=some ((ks.drop (j+1)).take (ks.length-(j+1))):=by rw[wrap_succ j (by omega)];exact P7 (by omega) (Nat.le_refl _)
  rw[s1,Option.bind_some,s2,Option.bind_some];have hlen:((ks.drop 0).take (j-0)++(ks.drop (j+1)).take (ks.length-(j+1))).length≤5:=by simp;omega
  rw[eX (by rw[List.length_append]at hlen;omega),Option.bind_some];have hb:∃r,(bif b then some true else(aV a (i:Int)).bind fun x28=>some (x28.Kind==1))=some r:=by rw[fZ hi];cases b<;>exact⟨_,rfl⟩
  obtain⟨r,hr⟩:=hb;rw[hr,Option.bind_some];exact hk3 (n-1) _ _ _ (by omega) ⟨i+1,wrap_succ i (by omega),by omega,hlen⟩
 have :i=a.length:=by omega
 subst this;rw[dM];exact dn.bif (fun _=>.ret trivial) fun _=>.ret trivial
theorem anF (l:List ah) (s:List au) (hl:l.length≤100) (hs:gZ l) (h:s.length≤100):dn (Dl l s) (fun r=>r.length≤1000∧gZ r):=by
 unfold Dl BI;rw[Option.bind_some];unfold Ny;refine ZC (body:=Eh s) (Q:=fun r=>r.length≤1000∧gZ r) (fun n a b c _ _=>∃i:Nat,b=i∧i+n=s.length∧c=l∧a.length≤i∧gZ a) ?_ fuel s.length [] 0 l [] [] (fuel_lt (by omega)) ⟨0,rfl,by omega,rfl,Nat.le_refl _,fun _ h=>absurd h List.not_mem_nil⟩;rintro n a b c d f k ⟨i,rfl,hn,rfl,ha,hA⟩ hk;unfold Eh;by_cases hi:i<s.length
 ·rw[bV hi,jD c _ (by omega),Option.bind_some,wrap_succ i (by omega)];refine dn.bif (fun _=>?_) fun _=>hk (n-1) _ _ _ _ _ (by omega) ⟨i+1,rfl,by omega,rfl,by omega,hA⟩;rw[eX (by simp only[List.length_singleton];omega),Option.bind_some];refine hk (n-1) _ _ _ _ _ (by omega) ⟨i+1,rfl,by omega,rfl,by simp;omega,fun x hx=>?_⟩;rcases List.mem_append.1 hx with h|h
  ·exact hA x h
  rw[List.mem_singleton.1 h];exact ahC hs _
 have :i=s.length:=by omega
 subst this;rw[dM];exact .ret ⟨by omega,hA⟩
theorem alu (m1 m2:List (Int×List au)) (m3:List (Int×Int)) (l:List ah) (e:ah) (s:List au) (hl:l.length≤100) (hs:gZ l) (he:kC e) (h:s.length≤100):dn (uP m1 m2 m3 l e s) (fun _=>True):=by
 have h1:=he.auth;unfold uP;refine(ari l e hl he).bind fun x1 _=>dn.bif (fun _=>.ret trivial) fun _=>?_;rw[Ul l e (by omega) (by omega),Option.bind_some,JY e _ (Nat.le_trans (Yb l e) (by omega)) (hs.from e) he,Option.bind_some];refine dn.bif (fun _=>.ret trivial) fun _=>?_;unfold FQ;refine kF e.fO.length (fuel_lt (by omega)) (fun _=>True) trivial (fun i k hi _ hk=>?_) fun k _=>?_
 ·unfold wV;rw[bV hi,wrap_succ i (by omega)];exact dn.bif (fun _=>.ret trivial) fun _=>hk trivial
 unfold wV;rw[dM];refine(anF l s hl hs h).bind fun r hr=>?_;rw[JY e r hr.1 hr.2 he];exact .ret trivial
def ZT (l:List ah) (m:List (Int×List au)):Prop:=∀id,mM l ((dD m id).getD [])
theorem ZT.set {l:List ah} {m:List (Int×List au)} (h:ZT l m) {s:List au} (hp:mM l s) (id:Int):ZT l (fE m id s):=fun id'=>by
 rw[xU];cases id'==id with
 |true=>exact hp
 |false=>exact h id'
theorem atJ (m1 m2:List (Int×List au)) (m3:List (Int×Int)) (l:List ah) (e:ah) (hl:l.length≤100) (hs:gZ l) (he:kC e) (hk:xY e.Kind=true→gJ l e.Id=true∧ev l e.Id=e) (hm:ZT l m2):
 dn (Bf m1 m2 m3 l e) (fun r=>ZT l r.2.1):=by
 have h1:=he.prev;unfold Bf KH;refine ql e.gI.length (fuel_lt (by omega)) (fun i a=>a.length=i∧∀s∈a,mM l s) ⟨rfl,fun _ h=>absurd h List.not_mem_nil⟩ (fun i a k hi ha hk=>?_) fun a k ha=>?_
 ·unfold CP;rw[bV hi,eX (by simp only[List.length_singleton];omega),Option.bind_some,wrap_succ i (by omega)];refine hk _ ⟨by simp;omega,fun s hx=>?_⟩;rcases List.mem_append.1 hx with h|h
  ·exact ha.2 s h
  rw[List.mem_singleton.1 h];exact hm _
 unfold CP;have ho:Ep l a:=mM.okay hl hs (by omega) ha.2;have hp:mM l (ZQ l a):=mM.resolve ho ha.2;have hpl:=hp.length;rw[dM,NI ho,Option.bind_some];refine(alu m1 m2 m3 l e _ hl hs he (by omega)).bind fun x8 _=>?_;have three:∀(c d f:Bool) {R:Type} (g:Bool→Option R),((bif c then some d else some false).bind fun x9=>(bif x9 then some f else some false).bind g)=g (c&&(d&&f)):=fun c d f R g=>by cases c<;>cases d<;>rfl
 rw[three];refine dn.bif (fun hb=>?_) fun _=>.ret (hm.set hp _);simp only[Bool.and_eq_true]at hb;have hst:xY e.Kind=true:=by unfold xY;rw[hb.2.1,hb.2.2];rfl
 obtain⟨k1,k2⟩:=hk hst;rw[oz _ _ _ _ (by omega),Option.bind_some];exact .ret ((hm.set hp _).set (hp.set k1 k2 hst) _)
theorem apz {l:List ah} {id:Int} (h:xY (nV l id).1.Kind=true):gJ l (nV l id).1.Id=true∧ev l (nV l id).1.Id=(nV l id).1:=by
 unfold nV at h ⊢;cases hg:kG l id with
 |none=>rw[hg]at h;exact absurd h (by decide)
 |some e=>
  have hi:=agQ hg;show gJ l e.Id=true∧ev l e.Id=e;rw[hi];refine⟨by unfold gJ;rw[hg];rfl,by unfold ev nV;rw[hg]⟩
theorem atK (l:List ah) (hl:l.length≤100) (hs:gZ l) (hc:dn (yj l) (fun _=>True)):dn (PK l) (fun o=>∀t,o=some t→ZT l t.2.1):=by
 unfold PK;refine hc.bind fun c _=>?_;refine dn.bind (P:=fun _=>True) (dn.bif (fun _=>.ret trivial) fun _=>(anD l hl hs).bind fun _ _=>.ret trivial) fun b _=>dn.bif (fun _=>.ret fun t h=>by cases h) fun _=>?_;refine(apw l hl).bind fun ids awl=>?_;unfold X4;refine ahw (body:=Og ids l) (Q:=fun o=>∀t,o=some t→ZT l t.2.1) (fun n a _ c _=>∃i:Nat,a=i∧i+n=ids.length∧ZT l c) ?_ fuel ids.length 0 [] [] [] (fuel_lt (by omega)) ⟨0,rfl,by omega,fun _=>.nil l⟩;rintro n a b c d k ⟨i,rfl,hn,hm⟩ hk;unfold Og;by_cases hi:i<ids.length
 ·rw[bV hi,jD l _ (by omega),Option.bind_some];refine(atJ b c d l _ hl hs (ahC hs _) apz hm).bind fun r hr=>?_;exact hk (n-1) _ _ _ _ (by omega) ⟨i+1,wrap_succ i (by omega),by omega,hr⟩
 have :i=ids.length:=by omega
 subst this;rw[dM];exact .ret fun t h=>by cases h;exact hm
theorem alv (l:List ah) (hl:l.length≤100) (hs:gZ l) (hc:dn (yj l) (fun _=>True)):dn (Fq l) (mM l):=by
 unfold Fq;refine(atK l hl hs hc).bind fun o ho=>?_;cases o with
 |none=>exact .ret (.nil l)
 |some t=>
  have hm:=ho t rfl;show dn ((pJ t.1 t.2.1 t.2.2 l).bind _) _;refine(arh l hl _ _ _).bind fun ids awl=>(apx l ids hl hs awl).bind fun hd hhd=>?_;unfold OY;refine ql hd.length (fuel_lt (by omega)) (fun i a=>a.length=i∧∀s∈a,mM l s) ⟨rfl,fun _ h=>absurd h List.not_mem_nil⟩ (fun i a k hi ha hk=>?_) fun a k ha=>?_
  ·unfold Gm;rw[bV hi,eX (by simp only[List.length_singleton];omega),Option.bind_some,wrap_succ i (by omega)];refine hk _ ⟨by simp;omega,fun s hx=>?_⟩;rcases List.mem_append.1 hx with h|h
   ·exact ha.2 s h
   rw[List.mem_singleton.1 h];exact hm _
  unfold Gm;have ho:Ep l a:=mM.okay hl hs (by omega) ha.2;rw[dM,NI ho];exact .ret (mM.resolve ho ha.2)
theorem atL (l:List ah) (hl:l.length≤100) (hs:gZ l) (hc:dn (yj l) (fun _=>True)):∃a,xQ l=some a:=by
 suffices h:dn (xQ l) (fun _=>True) by obtain⟨a,h,_⟩:=h;exact⟨a,h⟩
 unfold xQ;refine(alv l hl hs hc).bind fun s h=>?_;have hlen:=h.length;rw[Dp s 8 s0 (by omega) h.sorted,Option.bind_some];refine dn.bif (fun _=>.ret trivial) fun _=>?_;rw[jD l _ (by omega)];exact .ret trivial
end Go.Proofs.YtolgdkhlelfpoaaGreat
end
section
namespace Go.Proofs.YtolgdkhlelfpoaaGreat
def zig (n:Int):Int:=if n<0 then bits .xor .u64 IntKind.u64.max (IntKind.u64.wrap (IntKind.u64.wrap n*2))else IntKind.u64.wrap (IntKind.u64.wrap n*2)
theorem afi (n:Int):0≤zig n∧zig n<18446744073709551616:=by
 unfold zig;have h2:∀x:Int,0≤IntKind.u64.wrap x∧IntKind.u64.wrap x<18446744073709551616:=fun x=>by rw[IntKind.wrap_u64];omega
 split
 ·obtain⟨g1,g2⟩:=h2 (IntKind.u64.wrap n*2);generalize IntKind.u64.wrap (IntKind.u64.wrap n*2)=y at *;obtain⟨k,rfl⟩:=Int.eq_ofNat_of_zero_le g1;have :(IntKind.u64.max:Int)=((18446744073709551615:Nat):Int):=by decide
  rw[this,bits_xor_u64_nat _ _ (by omega) (by omega)];have :18446744073709551615^^^k<2^64:=Nat.xor_lt_two_pow (by omega) (by omega);constructor
  ·exact Int.natCast_nonneg _
  have h64:(2:Nat)^64=18446744073709551616:=by decide
  omega
 exact h2 _
def Ou (u:Nat):List Int:=if u<128 then[(u:Int)]else((u % 128+128:Nat):Int)::Ou (u/128)
termination_by u
decreasing_by omega
theorem PW {u:Nat} (h:u<128):Ou u=[(u:Int)]:=by rw[Ou,if_pos h]
theorem afj {u:Nat} (h:¬u<128):Ou u=((u % 128+128:Nat):Int)::Ou (u/128):=by rw[Ou,if_neg h]
theorem abN :∀(j u:Nat),u<128^(j+1)→(Ou u).length≤j+1
 |0,u,h=>by rw[PW (by simpa using h)];simp
 |j+1,u,h=>by
  by_cases hu:u<128
  ·rw[PW hu];simp
  rw[afj hu]
  have :u/128<128^(j+1):=by
   rw[Nat.div_lt_iff_lt_mul (by omega)];rw[Nat.pow_succ]at h;exact h
  have:=abN j (u/128) this;simp;omega
def enc (n:Int):List Int:=Ou (zig n).toNat
theorem FK (n:Int):(enc n).length≤10:=by
 have h:=(afi n).2;refine abN 9 _ ?_;have :(128:Nat)^10=1180591620717411303424:=by decide
 rw[this];have:=(afi n).1;omega
theorem axn (k:Nat):bits .or .u8 ((k:Int) % 256) 128=((k % 128+128:Nat):Int):=by
 have h:=u8_or_nat (k % 256) 128 (by omega) (by omega);rw[show((k:Int) % 256)=((k % 256:Nat):Int)from by omega];have e128:(128:Int)=((128:Nat):Int):=rfl;rw[e128,h];congr 1;have key:∀x,x<256→x|||128=x % 128+128:=by decide+kernel
 rw[key _ (by omega)];omega
end Go.Proofs.YtolgdkhlelfpoaaGreat
end
section
namespace Go.Proofs.YtolgdkhlelfpoaaGreat
open Go.RowKit
theorem anG (op:BinOp) (k:IntKind) (x y:Int) (h:op=.and∨op=.or∨op=.xor):jg op k x y=bits op k x y:=by
 rcases h with rfl|rfl|rfl<;>rfl
theorem Si {α:Type} {b:Nat} {l m:List α} (hb:b≤100) (h:(l++m).length≤1099511627776):gK b l m=some (l++m):=by
 refine eX ?_;rw[List.length_append]at h;have :(l.length+m.length)*b≤1099511627776*100:=Nat.mul_le_mul h hb;omega
theorem awm (u:Nat):jg .or .u8 (IntKind.u8.wrap (u:Int)) 128=((u % 128+128:Nat):Int):=by
 rw[anG _ _ _ _ (.inr (.inl rfl)),show IntKind.u8.wrap (u:Int)=(u:Int) % 256 from by rw[IntKind.wrap_u8],axn]
theorem ax3 (u:Nat):SQ .shr .u64 (u:Int) 7=some ((u/128:Nat):Int):=by
 unfold SQ;rw[if_neg (by omega)];show some ((u:Int).fdiv (2^7))=_;rw[Int.fdiv_eq_ediv_of_nonneg _ (by decide)];congr 1
theorem awn {u n:Nat} (h:u<128^(n+1+1)):u/128<128^(n+1):=by
 rw[Nat.div_lt_iff_lt_mul (by omega)];rw[Nat.pow_succ]at h;exact h
theorem arj :∀(n u:Nat),u<128^(n+1)→∀m b,n<m→(b++Ou u).length≤1099511627776→aY mD m b (u:Int)=some (b++Ou u):=by
 intro n
 induction n with
 |zero=>
  intro u hu m b hm hc;obtain⟨m,rfl⟩:∃m',m=m'+1:=⟨m-1,by omega⟩
  have h:u<128:=by simpa using hu
  rw[PW h]at hc ⊢;show mD (aY mD m) b (u:Int)=_;simp only[mD,show decide ((u:Int)≥128)=false from by simp;omega,cond_false];rw[show IntKind.u8.wrap (u:Int)=(u:Int)from by rw[IntKind.wrap_u8];omega,Si (by omega) hc];rfl
 |succ n ih=>
  intro u hu m b hm hc;obtain⟨m,rfl⟩:∃m',m=m'+1:=⟨m-1,by omega⟩
  show mD (aY mD m) b (u:Int)=_;by_cases h:u<128
  ·rw[PW h]at hc ⊢;simp only[mD,show decide ((u:Int)≥128)=false from by simp;omega,cond_false];rw[show IntKind.u8.wrap (u:Int)=(u:Int)from by rw[IntKind.wrap_u8];omega,Si (by omega) hc];rfl
  rw[afj h]at hc ⊢;have e:(b++((u % 128+128:Nat):Int)::Ou (u/128))=(b++[((u % 128+128:Nat):Int)])++Ou (u/128):=by simp
  have hc1:(b++[((u % 128+128:Nat):Int)]).length≤1099511627776:=by simp only[List.length_append,List.length_cons,List.length_nil]at hc ⊢;omega
  simp only[mD,show decide ((u:Int)≥128)=true from by simp;omega,cond_true,awm,Si (show 1≤100 by omega) hc1,ax3,Option.bind_some];rw[e];exact ih (u/128) (awn hu) m _ (by omega) (by rw[←e];exact hc)
theorem ax4 (x:Int):SQ .shl .u64 x 1=some (IntKind.u64.wrap (x*2)):=rfl
theorem axo (x:Int):aiP .u64 x=bits .xor .u64 IntKind.u64.max x:=rfl
theorem atM (n:Int):(zig n).toNat<128^(9+1):=by
 have hz:=afi n;have :(128:Nat)^(9+1)=1180591620717411303424:=by decide
 rw[this];omega
theorem apA :9<fuel:=by have :fuel=9223372036854775808:=rfl;omega
theorem number_eq {b:List Int} {n:Int} (h:(b++enc n).length≤1099511627776):sF b n=some (b++enc n):=by
 have hz:=afi n
 have hL:Tz b (zig n)=some (b++enc n):=by
  have:=arj 9 (zig n).toNat (atM n) fuel b apA h
  rwa [Int.toNat_of_nonneg hz.1]at this
 unfold sF;rw[ax4,Option.bind_some];unfold CY;unfold zig at hL;by_cases hn:n<0
 ·rw[if_pos hn]at hL;rw[show decide (n<0)=true by simpa using hn,cond_true,axo];exact hL
 rw[if_neg hn]at hL;rw[show decide (n<0)=false by simpa using hn,cond_false];exact hL
theorem WC {b:List Int} {m:Nat} (h:b.length+m≤1099511627776):xA b (m:Int)=some b:=by
 unfold xA;rw[BU (by omega) (by omega)];unfold pO;rw[if_pos ⟨by omega,by omega,by omega⟩];simp[gCopy]
theorem aiD {a b:List Int} (h:(a++b).length≤1099511627776):a.length≤1099511627776:=by rw[List.length_append]at h;omega
def encS (s:ByteArray):List Int:=enc s.size++aX s
theorem text_eq {b:List Int} {s:ByteArray} (h:(b++encS s).length≤1099511627776):I5 b s=some (b++encS s):=by
 unfold encS at h ⊢;rw[←List.append_assoc]at h ⊢;unfold I5;rw[number_eq (aiD h),Option.bind_some,Si (by omega) h];rfl
theorem apB {b:List Int} {n:Int} (h:b.length+10≤1099511627776):kW b n=some (b++enc n):=by
 have:=FK n;unfold kW;rw[show(10:Int)=((10:Nat):Int)from rfl,WC (by omega),Option.bind_some,number_eq (by rw[List.length_append];omega)];rfl
theorem Vj (s:ByteArray):(encS s).length≤s.size+10:=by
 have:=FK s.size;unfold encS;rw[List.length_append,dV];omega
theorem anH {b:List Int} {s:ByteArray} (h:b.length+s.size+10≤1099511627776):qC b s=some (b++encS s):=by
 have:=Vj s;unfold qC;rw[BU (by omega) (by omega),show(s.size:Int)+10=((s.size+10:Nat):Int) by omega,WC (by omega),Option.bind_some,text_eq (by rw[List.length_append];omega)];rfl
theorem anI {b:List Int} {is:Bool} (h:b.length+10≤1099511627776):wX b is=some (b++[bif is then 1 else 0]):=by
 unfold wX;rw[show(1:Int)=((1:Nat):Int)from rfl,WC (by omega),Option.bind_some];cases is<;>simp only[cond_true,cond_false]<;>rw[Si (by omega) (by rw[List.length_append];simp;omega)]<;>rfl
theorem akn {α:Type} {body:(List Int→Int→Option (List Int))→List Int→Int→Option (List Int)} (l:List α) (hl:l.length<fuel) (g:α→List Int)
 (hb:∀k b (i:Nat) (h:i<l.length),(b++g l[i]).length≤1099511627776→body k b (i:Int)=k (b++g l[i]) (IntKind.i64.wrap ((i:Int)+1))) (he:∀k b,body k b (l.length:Int)=some b) (b:List Int) (hc:(b++l.flatMap g).length≤1099511627776):
 aY body fuel b 0=some (b++l.flatMap g):=by
 have hf:fuel=9223372036854775808:=rfl
 have key:∀n (i:Nat) b,i+n=l.length→(b++(l.drop i).flatMap g).length≤1099511627776→∀m,n<m→aY body m b (i:Int)=some (b++(l.drop i).flatMap g):=by
  intro n
  induction n with
  |zero=>
   intro i b hi hc m hm;obtain⟨m,rfl⟩:∃m',m=m'+1:=⟨m-1,by omega⟩
   have :i=l.length:=by omega
   subst this;show body (aY body m) _ _=_;rw[he,List.drop_length];simp
  |succ n ih=>
   intro i b hi hc m hm;obtain⟨m,rfl⟩:∃m',m=m'+1:=⟨m-1,by omega⟩
   have hlt:i<l.length:=by omega
   rw[List.drop_eq_getElem_cons hlt,List.flatMap_cons,←List.append_assoc]at hc ⊢;show body (aY body m) _ _=_;rw[hb _ _ i hlt (aiD hc),wrap_succ i (by omega)];exact ih (i+1) _ (by omega) hc m (by omega)
 exact key l.length 0 b (by omega) hc fuel hl
def aaE (l:List Int):List Int:=enc l.length++l.flatMap enc
def aaF (l:List ByteArray):List Int:=enc l.length++l.flatMap encS
theorem alx {b:List Int} {l:List Int} (h:(b++aaE l).length≤1099511627776) (hl:l.length≤1000):oh b l=some (b++aaE l):=by
 have hf:fuel=9223372036854775808:=rfl;unfold aaE at h ⊢;rw[←List.append_assoc]at h ⊢;unfold oh;rw[number_eq (aiD h),Option.bind_some];unfold xF;refine akn l (by omega) enc (fun k b i hi hc=>?_) (fun k b=>?_) _ h
 ·simp only[qp,dec_lt hi,cond_true,fZ hi,number_eq hc,Option.bind_some]
 simp only[qp,vF,cond_false]
theorem ag8 {b:List Int} {l:List ByteArray} (h:(b++aaF l).length≤1099511627776) (hl:l.length≤1000):nK b l=some (b++aaF l):=by
 have hf:fuel=9223372036854775808:=rfl;unfold aaF at h ⊢;rw[←List.append_assoc]at h ⊢;unfold nK;rw[number_eq (aiD h),Option.bind_some];unfold wK;refine akn l (by omega) encS (fun k b i hi hc=>?_) (fun k b=>?_) _ h
 ·simp only[pU,dec_lt hi,cond_true,fZ hi,text_eq hc,Option.bind_some]
 simp only[pU,vF,cond_false]
theorem XK {α:Type} {g:α→List Int} {m:Nat}:∀{l:List α},(∀x∈l,(g x).length≤m)→(l.flatMap g).length≤l.length*m
 | [],_=>by simp
 |x::l,h=>by
  rw[List.flatMap_cons,List.length_append,List.length_cons,Nat.succ_mul];have:=h x List.mem_cons_self;have:=XK (l:=l) (fun y hy=>h y (List.mem_cons_of_mem _ hy));omega
theorem ZU (l:List Int):(aaE l).length≤l.length*10+10:=by
 have h1:=FK l.length;have h2:=XK (g:=enc) (m:=10) (l:=l) (fun x _=>FK x);unfold aaE;rw[List.length_append];omega
theorem ZV {l:List ByteArray} {m:Nat} (h:∀s∈l,s.size≤m):(aaF l).length≤l.length*(m+10)+10:=by
 have h1:=FK l.length;have h2:=XK (g:=encS) (m:=m+10) (l:=l) (fun s hs=>by have:=Vj s;have:=h s hs;omega);unfold aaF;rw[List.length_append];omega
theorem anJ {b:List Int} {l:List Int} (hb:b.length+20000≤1099511627776) (hl:l.length≤1000):BD b l=some (b++aaE l):=by
 have h1:=ZU l;unfold BD;rw[BU (x:=2*(l.length:Int)) (by omega) (by omega),BU (by omega) (by omega),show 2*(l.length:Int)+10=((2*l.length+10:Nat):Int) by omega,WC (by omega),Option.bind_some,alx (by rw[List.length_append];omega) hl];rfl
theorem aly {b:List Int} {l:List ByteArray} (hb:b.length+3000000≤1099511627776) (hl:l.length≤1000) (hs:∀s∈l,s.size≤2000):vk b l=some (b++aaF l):=by
 have h1:=ZV hs;unfold vk;rw[BU (x:=8*(l.length:Int)) (by omega) (by omega),BU (by omega) (by omega),show 8*(l.length:Int)+10=((8*l.length+10:Nat):Int) by omega,WC (by omega),Option.bind_some,ag8 (by rw[List.length_append];omega) hl];rfl
end Go.Proofs.YtolgdkhlelfpoaaGreat
end
section
namespace Go.Proofs.YtolgdkhlelfpoaaGreat
open Go.RowKit
section
variable {b : List Int} {k : Nat}
theorem JZ (h:b.length≤k) (hk:k≤1000000000) (n:Int):dn (kW b n) (fun r=>r.length≤k+10):=by
 have:=FK n;rw[apB (by omega)];exact .ret (by rw[List.length_append];omega)
theorem apC (h:b.length≤k) (hk:k≤1000000000) (is:Bool):dn (wX b is) (fun r=>r.length≤k+10):=by
 rw[anI (by omega)];exact .ret (by rw[List.length_append];simp;omega)
theorem afk (h:b.length≤k) (hk:k≤1000000000) {s:ByteArray} (m:Nat) (hs:s.size≤m) (hm:m≤1000000000):dn (qC b s) (fun r=>r.length≤k+m+10):=by
 have:=Vj s;rw[anH (by omega)];exact .ret (by rw[List.length_append];omega)
theorem atN (h:b.length≤k) (hk:k≤1000000000) {l:List Int} (hl:l.length≤100):dn (BD b l) (fun r=>r.length≤k+1010):=by
 have:=ZU l;rw[anJ (by omega) (by omega)];exact .ret (by rw[List.length_append];omega)
theorem al6 (h:b.length≤k) (hk:k≤1000000000) {l:List ByteArray} (hl:l.length≤100) (hs:∀s∈l,s.size≤2000):dn (vk b l) (fun r=>r.length≤k+300000):=by
 have:=ZV hs;rw[aly (by omega) (by omega) hs];exact .ret (by rw[List.length_append];omega)
end
theorem alz (c:aN) (ht:c.Text.size≤2000) (hv:c.Via.size≤2000) (ha:c.Allow.length≤100) (hd:c.lU.length≤100) (hu:c.Levels.Users.length≤100) (hk:c.Levels.Kinds.length≤100) (has:∀x∈c.Allow,x.size≤2000) (hds:∀x∈c.lU,x.size≤2000) (hns:∀x∈c.Levels.Users,x.User.size≤2000):
 dn (vw c) (fun r=>r.length≤1000000):=by
 unfold vw
 refine(afk (b:=[]) (k:=0) (Nat.le_refl _) (by omega) 2000 ht (by omega)).bind fun b1 h1=>(JZ h1 (by omega) _).bind fun b2 h2=>(JZ h2 (by omega) _).bind fun b3 h3=>(apC h3 (by omega) _).bind fun b4 h4=>(afk h4 (by omega) 2000 hv (by omega)).bind fun b5 h5=>
  (al6 h5 (by omega) ha has).bind fun b6 h6=>(al6 h6 (by omega) hd hds).bind fun b7 h7=>(JZ h7 (by omega) _).bind fun b8 h8=>?_
 have h8:b8.length≤610000:=by omega
 unfold OB;refine ql c.Levels.Users.length (fuel_lt (by omega)) (fun i a=>a.length≤610000+i*2020) (by omega) (fun i a k hi hI hk2=>?_) fun a k hI=>?_
 ·unfold FY;rw[bV hi,wrap_succ i (by omega)];refine(afk hI (by omega) 2000 (hns _ (List.getElem_mem hi)) (by omega)).bind fun x hx=>(JZ hx (by omega) _).bind fun y hy=>hk2 y (by omega)
 unfold FY;rw[dM];refine(JZ hI (by omega) _).bind fun x hx=>?_;have hx:x.length≤815000:=by omega
 unfold OA;refine ql c.Levels.Kinds.length (fuel_lt (by omega)) (fun i a=>a.length≤815000+i*20) (by omega) (fun i a k hi hI hk2=>?_) fun a k hI=>?_
 ·unfold FX;rw[bV hi,wrap_succ i (by omega)];refine(JZ hI (by omega) _).bind fun x hx=>(JZ hx (by omega) _).bind fun y hy=>hk2 y (by omega)
 unfold FX;rw[dM];have h0:a.length≤820000:=by omega
 unfold Oz;refine ql 7 (fuel_lt (by omega)) (fun i a=>a.length≤820000+i*10) (by omega) (fun i a k hi hI hk2=>?_) fun a k hI=>?_
 ·unfold FV;have hx:∃y,aV ([c.Levels.User,c.Levels.Message,c.Levels.State,c.Levels.iZ,c.Levels.lH,c.Levels.pV,c.Levels.jB]:List Int) (i:Int)=some y:=⟨_,fZ (l:=[c.Levels.User,c.Levels.Message,c.Levels.State,c.Levels.iZ,c.Levels.lH,c.Levels.pV,c.Levels.jB]) hi⟩
  obtain⟨y,hy⟩:=hx;rw[show decide ((i:Int)<7)=true from by simp;omega,cond_true,hy,Option.bind_some,wrap_succ i (by omega)];exact(JZ hI (by omega) _).bind fun x hx=>hk2 x (by omega)
 unfold FV;exact .ret (show a.length≤1000000 by omega)
theorem kC.encodes {e:ah} (h:kC e):dn (vw e.Content) (fun r=>r.length≤1000000):=alz _ h.text h.via h.allow h.deny h.users h.kinds h.allows h.denies h.names
theorem al7 (b:List Int) (h:b.length≤100000000):dn (QB b) (fun _=>True):=by
 unfold QB Xk;rw[Option.bind_some];refine dn.bind (P:=fun _=>True) ?_ fun _ _=>.ret trivial;unfold Y8 Y7;refine ql b.length (fuel_lt (by omega)) (fun _ _=>True) trivial (fun i a k hi _ hk=>?_) fun a k _=>?_
 ·unfold QA;rw[bV hi,wrap_succ i (by omega)];exact hk _ trivial
 unfold QA;rw[dM];exact .ret trivial
theorem ark {e:ah} (h:kC e):dn (Pq e) (fun _=>True):=by
 unfold Pq;exact h.encodes.bind fun b hb=>(al7 b (by omega)).bind fun _ _=>.ret trivial
theorem apD {e:ah} (h:kC e):dn (MC e) (fun _=>True):=by
 unfold MC;exact(ark h).bind fun _ _=>.ret trivial
theorem aaG {α:Type} {body:(Int→bF→Option bF)→Int→bF→Option bF} (l:List α) (hl:l.length≤100) (c k:Nat) (f:bF→α→Option bF)
 (hf:∀w x (n:Nat),x∈l→n≤k+c*100→w.b_.length≤n→dn (f w x) (fun r=>r.b_.length≤n+c))
 (hb:∀k (i:Nat) w (h:i<l.length),body k (i:Int) w=(f w l[i]).bind fun x=>k (IntKind.i64.wrap ((i:Int)+1)) x) (he:∀k w,body k (l.length:Int) w=some w)
 (w:bF) (hw:w.b_.length≤k):dn (aY body fuel 0 w) (fun r=>r.b_.length≤k+c*l.length):=by
 refine uU (body:=body) (Q:=fun r=>r.b_.length≤k+c*l.length) (fun n a v=>∃i:Nat,a=i∧i+n=l.length∧v.b_.length≤k+c*i) ?_ fuel l.length 0 w (fuel_lt (by omega)) ⟨0,rfl,by omega,by omega⟩;rintro n a v kk ⟨i,rfl,hn,hv⟩ hk;by_cases hi:i<l.length
 ·rw[hb kk i v hi];have :c*i≤c*100:=Nat.mul_le_mul (Nat.le_refl _) (by omega);refine(hf v l[i] _ (List.getElem_mem hi) (by omega) hv).bind fun x hx=>?_;exact hk (n-1) _ _ (by omega) ⟨i+1,wrap_succ i (by omega),by omega,by rw[Nat.mul_succ];omega⟩
 have :i=l.length:=by omega
 subst this;rw[he];exact .ret hv
theorem wI (w:bF) (l:List Int) (k:Nat) (hl:l.length≤2) (hk:k≤100000000) (hw:w.b_.length≤k):dn (gY w l) (fun r=>r.b_.length≤k+20):=by
 unfold gY sG;refine(aaG l (by omega) 10 k wF (fun v x n _ hn hv=>?_) (fun kk i v h=>?_) (fun kk v=>?_) w hw).mono fun r hr=>?_
 ·unfold wF;exact(JZ hv (by omega) x).bind fun y hy=>.ret hy
 ·unfold ny;rw[bV h]
 ·unfold ny;rw[dM]
 have :10*l.length≤10*2:=Nat.mul_le_mul (Nat.le_refl _) hl;omega
theorem wIs (w:bF) (l:List (List Int)) (k:Nat) (hl:l.length≤2) (hs:∀x∈l,x.length≤100) (hk:k≤100000000) (hw:w.b_.length≤k):dn (kT w l) (fun r=>r.b_.length≤k+2020):=by
 unfold kT rM;refine(aaG l (by omega) 1010 k uK (fun v x n hx hn hv=>?_) (fun kk i v h=>?_) (fun kk v=>?_) w hw).mono fun r hr=>?_
 ·unfold uK;exact(atN hv (by omega) (hs x hx)).bind fun y hy=>.ret hy
 ·unfold mP;rw[bV h]
 ·unfold mP;rw[dM]
 have :1010*l.length≤1010*2:=Nat.mul_le_mul (Nat.le_refl _) hl;omega
theorem wB (w:bF) (l:List Bool) (k:Nat) (hl:l.length≤2) (hk:k≤100000000) (hw:w.b_.length≤k):dn (lF w l) (fun r=>r.b_.length≤k+20):=by
 unfold lF sV;refine(aaG l (by omega) 10 k yJ (fun v x n _ hn hv=>?_) (fun kk i v h=>?_) (fun kk v=>?_) w hw).mono fun r hr=>?_
 ·unfold yJ;exact(apC hv (by omega) x).bind fun y hy=>.ret hy
 ·unfold nN;rw[bV h]
 ·unfold nN;rw[dM]
 have :10*l.length≤10*2:=Nat.mul_le_mul (Nat.le_refl _) hl;omega
theorem wS (w:bF) (l:List ByteArray) (k:Nat) (hl:l.length≤2) (hs:∀x∈l,x.size≤1000000) (hk:k≤100000000) (hw:w.b_.length≤k):dn (iG w l) (fun r=>r.b_.length≤k+2000020):=by
 unfold iG rJ;refine(aaG l (by omega) 1000010 k yI (fun v x n hx hn hv=>?_) (fun kk i v h=>?_) (fun kk v=>?_) w hw).mono fun r hr=>?_
 ·unfold yI;exact(afk hv (by omega) 1000000 (hs x hx) (by omega)).bind fun y hy=>.ret (by simp only;omega)
 ·unfold mO;rw[bV h]
 ·unfold mO;rw[dM]
 have :1000010*l.length≤1000010*2:=Nat.mul_le_mul (Nat.le_refl _) hl;omega
theorem arl (l:List Int):(YL l).size=l.length:=by
 have key:∀(l:List Int) (r:ByteArray),(l.foldl (fun r n=>r.push (UInt8.ofNat n.toNat)) r).size=r.size+l.length:=by
  intro l
  induction l with
  |nil=>intro r;rfl
  |cons x l ih=>intro r;rw[List.foldl_cons,ih,ByteArray.size_push,List.length_cons];omega
 unfold YL;rw[key];simp
theorem anK {e:ah} (h:kC e):dn (I9 e) (fun r=>r.length≤100000000):=by
 have h1:=h.room;have h2:=h.sender;have h3:=h.key;have h4:=h.server;have h5:=h.prev;have h6:=h.auth;unfold I9
 refine(wI IU _ 0 (by simp) (by omega) (Nat.le_refl _)).bind fun x1 q1=>(wS x1 _ _ (by simp) (fun x hx=>?_) (by omega) q1).bind fun x2 q2=>(wI x2 _ _ (by simp) (by omega) q2).bind fun x3 q3=>(wB x3 _ _ (by simp) (by omega) q3).bind fun x4 q4=>
  (wS x4 _ _ (by simp) (fun x hx=>?_) (by omega) q4).bind fun x5 q5=>(wI x5 _ _ (by simp) (by omega) q5).bind fun x6 q6=>(wIs x6 _ _ (by simp) (fun x hx=>?_) (by omega) q6).bind fun x7 q7=>h.encodes.bind fun x8 q8=>(wS x7 _ _ (by simp) (fun x hx=>?_) (by omega) q7).bind fun x9 q9=>
  (wI x9 _ _ (by simp) (by omega) q9).bind fun x10 q10=>(wS x10 _ _ (by simp) (fun x hx=>?_) (by omega) q10).bind fun x11 q11=>(wI x11 _ _ (by simp) (by omega) q11).bind fun x12 q12=>.ret (by omega)
 ·simp only[List.mem_cons,List.not_mem_nil,or_false]at hx;rcases hx with rfl|rfl<;>omega
 ·simp only[List.mem_cons,List.not_mem_nil,or_false]at hx;subst hx;omega
 ·simp only[List.mem_cons,List.not_mem_nil,or_false]at hx;rcases hx with rfl|rfl<;>omega
 ·simp only[List.mem_cons,List.not_mem_nil,or_false]at hx;subst hx;rw[arl];omega
 simp only[List.mem_cons,List.not_mem_nil,or_false]at hx;subst hx;omega
end Go.Proofs.YtolgdkhlelfpoaaGreat
end
section
namespace Go.Proofs.YtolgdkhlelfpoaaGreat
open Go.RowKit
abbrev Ends {α:Type} (o:Option α):Prop:=dn o (fun _=>True)
theorem Ends.ret {α:Type} (x:α):Ends (some x):=dn.ret trivial
theorem Ends.bind {α β:Type} {o:Option α} {f:α→Option β} (h:Ends o) (k:∀x,Ends (f x)):Ends (o.bind f):=dn.bind h fun x _=>k x
theorem Ends.bif {α:Type} {b:Bool} {x y:Option α} (h1:Ends x) (h2:Ends y):Ends (bif b then x else y):=dn.bif (fun _=>h1) fun _=>h2
theorem gQ {α:Type} {b c d:Bool} {f:Bool→Option α} (h:∀x,Ends (f x)):Ends ((bif b then some c else some d).bind f):=Ends.bind (.bif (.ret _) (.ret _)) h
theorem al8 {s:ByteArray} {i:Nat} (h:i<s.size):∃y,lJ s (i:Int)=some y:=⟨_,Ic (by rw[dV];exact h)⟩
theorem apE {s:ByteArray} (hs:s.size≤9223372036854775807):Ends (QH s):=by
 unfold QH zh;rw[ade hs (marks:=aiw) (by rw[show aX aiw=[33]from rfl];intro m hm;simp only[List.mem_cons,List.not_mem_nil,or_false]at hm;omega),Option.bind_some];exact Ends.bind (.bif (.ret _) (.ret _)) fun _=>.ret _
theorem afl {s:ByteArray} (hs:s.size≤9223372036854775807):Ends (Ht s):=by
 unfold Ht zh;rw[ade hs (marks:=aix) (by rw[show aX aix=[64]from rfl];intro m hm;simp only[List.mem_cons,List.not_mem_nil,or_false]at hm;omega),Option.bind_some];exact Ends.bind (.bif (.ret _) (.ret _)) fun _=>.ret _
theorem apF {s:ByteArray} (hs:s.size≤2000):Ends (Jc s):=by
 unfold Jc;refine .bif (.ret _) (.bif (.ret _) ?_);unfold XV;refine kF s.size (fuel_lt (by omega)) (fun _=>True) trivial (fun i k hi _ hk=>?_) fun k _=>?_
 ·unfold NR;obtain⟨y,hy⟩:=al8 hi;rw[dec_lt hi,cond_true,hy,Option.bind_some,Option.bind_some,wrap_succ i (by omega)];exact gQ fun x=>.bif (.ret _) (hk trivial)
 unfold NR;rw[vF,cond_false];exact Ends.ret _
theorem afm {l:List ByteArray} (hl:l.length≤100) (hs:∀x∈l,x.size≤2000):Ends (vU l):=by
 unfold vU;refine .bif (.ret _) ?_;unfold KC;refine kF l.length (fuel_lt (by omega)) (fun _=>True) trivial (fun i k hi _ hk=>?_) fun k _=>?_
 ·unfold CG;rw[bV hi,wrap_succ i (by omega)];exact(apF (hs _ (List.getElem_mem hi))).bind fun x=>.bif (.ret _) (hk trivial)
 unfold CG;rw[dM];exact Ends.ret _
theorem ako (n:Int):Ends (zx n):=by
 unfold zx;exact gQ fun _=>.ret _
theorem WE {α:Type} {l:List α} {i:Nat} (hi:i<l.length) (h1:i≤1000000) (h:decide ((i:Int)>0)=true):∃y,aV l (IntKind.i64.wrap ((i:Int)-1))=some y:=by
 have:=of_decide_eq_true h;rw[show IntKind.i64.wrap ((i:Int)-1)=((i-1:Nat):Int) by rw[IntKind.wrap_i64];omega];exact⟨_,fZ (by omega)⟩
theorem atO {l:List fG} (hl:l.length≤100) (hs:∀x∈l,x.User.size≤2000):Ends (Hf l):=by
 unfold Hf;refine .bif (.ret _) ?_;unfold QL;refine kF l.length (fuel_lt (by omega)) (fun _=>True) trivial (fun i k hi _ hk=>?_) fun k _=>?_
 ·unfold Hw;rw[bV hi];have hn:=hs _ (List.getElem_mem hi)
  have hj:∀b,Ends (vV l[i] k (i:Int) b):=fun b=>by
   unfold vV;rw[wrap_succ i (by omega)];exact .bif (.ret _) ((ako _).bind fun _=>.bif (.ret _) (hk trivial))
  refine(afl (by omega)).bind fun x=>.bif (.ret _) (dn.bif (fun h=>?_) fun _=>hj _);obtain⟨y,hy⟩:=WE hi (by omega) h;rw[hy,Option.bind_some];exact hj _
 unfold Hw;rw[dM];exact Ends.ret _
theorem atP {l:List dL} (hl:l.length≤100):Ends (Hg l):=by
 unfold Hg;refine .bif (.ret _) ?_;unfold QM;refine kF l.length (fuel_lt (by omega)) (fun _=>True) trivial (fun i k hi _ hk=>?_) fun k _=>?_
 ·unfold Hy;rw[bV hi]
  have hj:∀b,Ends (vW l[i] k (i:Int) b):=fun b=>by
   unfold vW;rw[wrap_succ i (by omega)];exact .bif (.ret _) ((ako _).bind fun _=>.bif (.ret _) (hk trivial))
  refine Ends.bind ?_ fun x=>.bif (.ret _) (dn.bif (fun h=>?_) fun _=>hj _)
  ·unfold BH;exact gQ fun _=>.ret _
  obtain⟨y,hy⟩:=WE hi (by omega) h;rw[hy,Option.bind_some];exact hj _
 unfold Hy;rw[dM];exact Ends.ret _
theorem arn {l:bf} (hu:l.Users.length≤100) (hk:l.Kinds.length≤100) (hs:∀x∈l.Users,x.User.size≤2000):Ends (ER l):=by
 unfold ER;refine(atO hu hs).bind fun _=>.bif (.ret _) ((atP hk).bind fun _=>.bif (.ret _) ?_);unfold OH;refine kF 7 (fuel_lt (by omega)) (fun _=>True) trivial (fun i k hi _ hk=>?_) fun k _=>?_
 ·unfold F6;have hx:∃y,aV ([l.User,l.Message,l.State,l.iZ,l.lH,l.pV,l.jB]:List Int) (i:Int)=some y:=⟨_,fZ (l:=[l.User,l.Message,l.State,l.iZ,l.lH,l.pV,l.jB]) hi⟩
  obtain⟨y,hy⟩:=hx;rw[show decide ((i:Int)<7)=true from by simp;omega,cond_true,hy,Option.bind_some,wrap_succ i (by omega)];exact(ako y).bind fun _=>.bif (.ret _) (hk trivial)
 unfold F6;exact Ends.ret _
end Go.Proofs.YtolgdkhlelfpoaaGreat
end
section
namespace Go.Proofs.YtolgdkhlelfpoaaGreat
open Go.RowKit
theorem al9 (k:Int):Ends (zf k):=by
 unfold zf xE xC;have e:∀b,Ends (bif b then some (5:Int)else some 0):=fun b=>.bif (.ret _) (.ret _);have j:∀b,Ends (bif b then some (2:Int)else(bif (k==6)then some 96 else(bif (k==7)then some 1 else(bif (k==9)then some 3 else(bif (k==11)then some 13 else(bif (k==12)then(bif k==12 then some 5 else some 0)else(bif (k==13)then(bif k==13 then some 5 else some 0)else(bif k==14 then some 5 else some 0)))))))):=fun b=>.bif (.ret _) (.bif (.ret _) (.bif (.ret _) (.bif (.ret _) (.bif (.ret _) (.bif (e _) (.bif (e _) (e _)))))));exact .bif (.ret _) (.bif (.ret _) (.bif (.ret _) (.bif (j _) (.bif (j _) (j _)))))
theorem apG (k:Int):Ends (Bz k):=by
 unfold Bz qX;have j:∀b,Ends (bif b then(zf k).bind fun x4=>some x4 else(bif (k==14)then some (4:Int)else some 0)):=fun b=>.bif ((al9 k).bind fun _=>.ret _) (.bif (.ret _) (.ret _));exact .bif (.ret _) (.bif (j _) (.bif (j _) (.bif (j _) (j _))))
theorem awo (l:bf):Ends (Jb l):=by
 unfold Jb;exact gQ fun _=>gQ fun _=>gQ fun _=>gQ fun _=>gQ fun _=>gQ fun _=>gQ fun _=>gQ fun _=>.ret _
theorem asi (c:aN):Ends (Gz c):=by
 have j7:∀v,Ends (zi c v):=fun v=>by unfold zi EP;exact(awo _).bind fun _=>.bif (.ret _) (.ret _)
 have j6:∀v,Ends (zk c v):=fun v=>by unfold zk;exact .bif (j7 _) (j7 _)
 have j5:∀v,Ends (zl c v):=fun v=>by unfold zl;exact .bif (j6 _) (j6 _)
 have j4:∀v,Ends (zn c v):=fun v=>by unfold zn;exact .bif (j5 _) (j5 _)
 have j3:∀v,Ends (zo c v):=fun v=>by unfold zo;exact .bif (j4 _) (j4 _)
 have j2:∀v,Ends (zq c v):=fun v=>by unfold zq;exact .bif (j3 _) (j3 _)
 have j1:∀v,Ends (zu c v):=fun v=>by unfold zu;exact .bif (j2 _) (j2 _)
 unfold Gz;exact .bif (j1 _) (j1 _)
structure FT (c:aN):Prop where
 allow:c.Allow.length≤100
 deny:c.lU.length≤100
 users:c.Levels.Users.length≤100
 kinds:c.Levels.Kinds.length≤100
 text:c.Text.size≤2000
 via:c.Via.size≤2000
 allows:∀x∈c.Allow,x.size≤2000
 denies:∀x∈c.lU,x.size≤2000
 names:∀x∈c.Levels.Users,x.User.size≤2000
theorem kC.bnd {e:ah} (h:kC e):FT e.Content:=⟨h.allow,h.deny,h.users,h.kinds,h.text,h.via,h.allows,h.denies,h.names⟩
theorem alA (k:Int) {c:aN} (h:FT c):Ends (yK k c):=by
 have j:∀b,Ends (qw b):=fun b=>by unfold qw;exact .bif (.ret _) (.ret _)
 unfold yK;exact gQ fun _=>.bif ((apF h.text).bind fun _=>.ret _) (gQ fun _=>.bif (.ret _) (gQ fun _=>.bif (j _) (j _)))
theorem aro (k:Int) (c:aN):Ends (ES k c):=by
 have j:∀a b,Ends (nU c a b):=fun a b=>by unfold nU;exact gQ fun _=>.bif (.ret _) (.ret _)
 unfold ES;exact .bif (j _ _) (.bif (j _ _) (.bif (j _ _) (.bif (gQ fun _=>gQ fun _=>.bif (.ret _) (.ret _)) (j _ _))))
theorem ais (k:Int) (c:aN):Ends (wG k c):=by
 unfold wG;exact Ends.bind (.bif (.ret _) (gQ fun _=>.ret _)) fun _=>.bif (.ret _) (.ret _)
theorem ait (k:Int) (c:aN):Ends (wH k c):=by
 unfold wH;exact gQ fun _=>.bif (.ret _) (.ret _)
theorem anL (k:Int) {c:aN} (h:FT c):Ends (Au k c):=by
 have:=h.via;unfold Au;exact .bif (.ret _) (.bif (.ret _) ((afl (by omega)).bind fun _=>.ret _))
theorem akp (k:Int) {c:aN} (h:FT c):Ends (xG k c):=by
 have hl:=h.allow;unfold xG;refine .bif ((afm hl h.allows).bind fun _=>.ret _) (gQ fun _=>.bif (.ret _) (.bif (.ret _) ?_));unfold Ir;refine kF c.Allow.length (fuel_lt (by omega)) (fun _=>True) trivial (fun i k hi _ hk=>?_) fun k _=>?_
 ·unfold zy;have hs:=h.allows _ (List.getElem_mem hi);rw[bV hi,wrap_succ i (by omega)];refine(apE (by omega)).bind fun _=>.bif (.ret _) (Ends.bind (dn.bif (fun q=>?_) fun _=>.ret trivial) fun _=>.bif (.ret _) (hk trivial));obtain⟨y,hy⟩:=WE hi (by omega) q;rw[hy];exact Ends.ret _
 unfold zy;rw[dM];exact Ends.ret _
theorem axp (n:Nat) (hn:n∈jc.map (·.adP)) (k:Int) {c:aN} (h:FT c):Ends (oW n k c):=by
 simp only[jc,List.map_cons,List.map_nil,List.mem_cons,List.not_mem_nil,or_false]at hn;rcases hn with rfl|rfl|rfl|rfl|rfl|rfl
 ·exact alA k h
 ·exact aro k c
 ·exact ais k c
 ·exact ait k c
 ·exact anL k h
 exact akp k h
theorem arp (k:Int) {c:aN} (h:FT c):Ends (Hl k c):=by
 unfold Hl;refine(al9 k).bind fun x1=>Ends.bind ?_ fun _=>Ends.bind (.bif (.ret _) ((asi c).bind fun _=>.ret _)) fun _=>.bif (.ret _) ((asi c).bind fun _=>Ends.bind (.bif ((apG k).bind fun _=>.ret _) (.ret _)) fun _=>.bif (.ret _) ?_)
 ·unfold BH;exact gQ fun _=>.ret _
 unfold QO;refine uU (body:=Hz x1 k) (Q:=fun _=>True) (fun n a v=>∃i:Nat,a=i∧i+n=jc.length∧v=c) ?_ fuel jc.length 0 c (fuel_lt (by decide)) ⟨0,rfl,by omega,rfl⟩;rintro n a v kk ⟨i,rfl,hn,rfl⟩ hk;unfold Hz;by_cases hi:i<jc.length
 ·have hlen:jc.length=6:=rfl
  have hj:Ends (vX kk (i:Int) v):=by
   unfold vX;exact hk (n-1) _ _ (by omega) ⟨i+1,wrap_succ i (by omega),by omega,rfl⟩
  rw[bV hi];exact Ends.bif hj (Ends.bind (axp _ (List.mem_map_of_mem (List.getElem_mem hi)) k h) fun _=>Ends.bif (Ends.ret _) hj)
 have :i=jc.length:=by omega
 subst this;rw[dM];exact Ends.bif (Ends.bind (afm h.deny h.denies) fun _=>Ends.ret _) (Ends.bif (Ends.bind (arn h.users h.kinds h.names) fun _=>Ends.ret _) (Ends.ret _))
theorem arq {s:ByteArray} (hs:s.size≤2000):Ends (EO s):=by
 unfold EO OG;refine kF s.size (fuel_lt (by omega)) (fun _=>True) trivial (fun i k hi _ hk=>?_) fun k _=>?_
 ·unfold F5;obtain⟨y,hy⟩:=al8 hi;rw[dec_lt hi,cond_true,hy,Option.bind_some,Option.bind_some,wrap_succ i (by omega)];exact gQ fun x=>.bif (.ret _) (hk trivial)
 unfold F5;rw[vF,cond_false];exact gQ fun _=>.ret _
theorem atQ {e:ah} (h:kC e):Ends (MG e):=by
 have h1:=h.room;have h2:=h.sender;have h3:=h.key;unfold MG;exact(apE (by omega)).bind fun _=>Ends.bind (.bif (.ret _) ((afl (by omega)).bind fun _=>.ret _)) fun _=>.bif (.ret _) (.bif ((afl (by omega)).bind fun _=>.ret _) (.bif ((arq h3).bind fun _=>.ret _) (.ret _)))
theorem ahD {l:List Int} (hl:l.length≤1000):Ends (BG l):=by
 unfold BG QI;refine kF l.length (fuel_lt (by omega)) (fun _=>True) trivial (fun i k hi _ hk=>?_) fun k _=>?_
 ·unfold Hu;rw[bV hi,wrap_succ i (by omega)];refine Ends.bind (.bif (.ret _) (Ends.bind (dn.bif (fun q=>?_) fun _=>.ret trivial) fun _=>.ret _)) fun _=>.bif (.ret _) (hk trivial);obtain⟨y,hy⟩:=WE hi (by omega) q;rw[hy];exact Ends.ret _
 unfold Hu;rw[dM];exact Ends.ret _
theorem ars {e:ah} (h:kC e):Ends (MH e):=by
 have h1:=h.prev;have h2:=h.auth
 have j:∀b,Ends (oZ e b):=fun b=>by
  unfold oZ
  exact .bif (.ret _) ((atQ h).bind fun _=>.bif (.ret _) (gQ fun _=>gQ fun _=>gQ fun _=>.bif (.ret _) (gQ fun _=>.bif (.ret _) ((ahD (by omega)).bind fun _=>Ends.bind (.bif (.ret _) ((ahD (by omega)).bind fun _=>.ret _)) fun _=>.bif (.ret _)
   (gQ fun _=>.bif (.ret _) (gQ fun _=>.bif (.ret _) ((arp _ h.bnd).bind fun _=>.ret _)))))))
 unfold MH;refine gQ fun _=>.bif (j _) (.bif (j _) (Ends.bind ?_ fun _=>.bif (j _) (.bif (j _) (j _))));unfold uf;exact gQ fun _=>.ret _
end Go.Proofs.YtolgdkhlelfpoaaGreat
end
section
namespace Go.Proofs.YtolgdkhlelfpoaaGreat
open Go.RowKit
theorem Vk :FT kZ:=⟨Nat.zero_le _,Nat.zero_le _,Nat.zero_le _,Nat.zero_le _,Nat.zero_le _,Nat.zero_le _,fun _ h=>absurd h List.not_mem_nil,fun _ h=>absurd h List.not_mem_nil,fun _ h=>absurd h List.not_mem_nil⟩
theorem texts_eq {l:List ByteArray} (h:l.length≤100):tY l=some l:=by
 unfold tY;rw[eX (by simp;omega),List.nil_append];rfl
theorem ahE {l:bf} (h1:l.Users.length≤100) (h2:l.Kinds.length≤100):yZ l=some l:=by
 unfold yZ;rw[eX (by simp;omega),List.nil_append,Option.bind_some,eX (by simp;omega),List.nil_append];rfl
theorem ama (k:Int) {c:aN} (h:FT c):dn (BA k c) FT:=by
 have j6:∀v,FT v→dn (Aq v) FT:=fun v hv=>.ret hv
 have j5:∀x v,FT v→dn (vM x c v) FT:=fun x v hv=>by
  unfold vM;rw[ahE h.users h.kinds,Option.bind_some];exact dn.bif (fun _=>j6 _ ⟨hv.allow,hv.deny,h.users,h.kinds,hv.text,hv.via,hv.allows,hv.denies,h.names⟩) fun _=>j6 _ hv
 have j4:∀x v,FT v→dn (vN x c v) FT:=fun x v hv=>by
  unfold vN;rw[texts_eq h.deny,Option.bind_some];exact dn.bif (fun _=>j5 _ _ ⟨hv.allow,h.deny,hv.users,hv.kinds,hv.text,hv.via,hv.allows,h.denies,hv.names⟩) fun _=>j5 _ _ hv
 have j3:∀x v,FT v→dn (vO x c v) FT:=fun x v hv=>by
  unfold vO;rw[texts_eq h.allow,Option.bind_some];exact dn.bif (fun _=>j4 _ _ ⟨h.allow,hv.deny,hv.users,hv.kinds,hv.text,hv.via,h.allows,hv.denies,hv.names⟩) fun _=>j4 _ _ hv
 have j2:∀x v,FT v→dn (vP x c v) FT:=fun x v hv=>by
  unfold vP;exact dn.bif (fun _=>j3 _ _ ⟨hv.allow,hv.deny,hv.users,hv.kinds,hv.text,h.via,hv.allows,hv.denies,hv.names⟩) fun _=>j3 _ _ hv
 have j1:∀x v,FT v→dn (vS x c v) FT:=fun x v hv=>by
  unfold vS;exact dn.bif (fun _=>j2 _ _ ⟨hv.allow,hv.deny,hv.users,hv.kinds,hv.text,hv.via,hv.allows,hv.denies,hv.names⟩) fun _=>j2 _ _ hv
 unfold BA;refine dn.bif (fun _=>?_) fun _=>?_
 ·rw[texts_eq h.allow,Option.bind_some,texts_eq h.deny,Option.bind_some,ahE h.users h.kinds,Option.bind_some];exact .ret ⟨h.allow,h.deny,h.users,h.kinds,h.text,h.via,h.allows,h.denies,h.names⟩
 refine dn.bind (apG k) fun x _=>dn.bif (fun _=>?_) fun _=>j1 _ _ Vk;exact j1 x { kZ with N:=c.N } ⟨Vk.allow,Vk.deny,Vk.users,Vk.kinds,Vk.text,Vk.via,Vk.allows,Vk.denies,Vk.names⟩
theorem awp {e:ah} (h:kC e):Ends (Pv e):=by
 unfold Pv UG;refine dn.bind (P:=fun x=>kC { { x with Id:=0 }with DN:=aas }) ?_ fun x hx=>?_
 ·refine(ama e.Kind h.bnd).bind fun d hd=>.ret ?_;exact⟨h.prev,h.auth,hd.allow,hd.deny,hd.users,hd.kinds,h.room,h.sender,h.key,hd.text,hd.via,Nat.zero_le _,hd.allows,hd.denies,hd.names⟩
 exact(anK hx).bind fun b hb=>(al7 b hb).bind fun _ _=>.ret trivial
theorem akq {a b:Nat} (h:((a:Int) != (b:Int))=false):a=b:=by
 have e:(a:Int)=(b:Int):=by simpa using h
 omega
theorem akr {a b:List ByteArray} (ha:a.length≤100):Ends (qx a b):=by
 unfold qx;refine dn.bif (fun _=>.ret trivial) fun h=>?_;have hl:=akq h;unfold FN;refine kF a.length (fuel_lt (by omega)) (fun _=>True) trivial (fun i k hi _ hk=>?_) fun k _=>?_
 ·unfold wQ;have g:aV b (i:Int)=some b[i]:=fZ (by omega);rw[bV hi,g,Option.bind_some,wrap_succ i (by omega)];exact Ends.bif (Ends.ret _) (hk trivial)
 unfold wQ;rw[dM];exact Ends.ret _
theorem aru {a b:List fG} (ha:a.length≤100):Ends (rX a b):=by
 unfold rX;refine dn.bif (fun _=>.ret trivial) fun h=>?_;have hl:=akq h;unfold CZ;refine kF a.length (fuel_lt (by omega)) (fun _=>True) trivial (fun i k hi _ hk=>?_) fun k _=>?_
 ·unfold uM;have g:aV b (i:Int)=some b[i]:=fZ (by omega);rw[bV hi,g,Option.bind_some,wrap_succ i (by omega)];exact Ends.bif (Ends.ret _) (hk trivial)
 unfold uM;rw[dM];exact Ends.ret _
theorem arv {a b:List dL} (ha:a.length≤100):Ends (oL a b):=by
 unfold oL;refine dn.bif (fun _=>.ret trivial) fun h=>?_;have hl:=akq h;unfold yB;refine kF a.length (fuel_lt (by omega)) (fun _=>True) trivial (fun i k hi _ hk=>?_) fun k _=>?_
 ·unfold qJ;have g:aV b (i:Int)=some b[i]:=fZ (by omega);rw[bV hi,g,Option.bind_some,wrap_succ i (by omega)];exact Ends.bif (Ends.ret _) (hk trivial)
 unfold qJ;rw[dM];exact Ends.ret _
theorem atS {a:aN} (b:aN) (h:FT a):Ends (Jf a b):=by
 unfold Jf
 exact gQ fun _=>gQ fun _=>gQ fun _=>gQ fun _=>Ends.bind (Ends.bif (Ends.ret _) (Ends.bind (akr h.allow) fun _=>Ends.ret _)) fun _=>Ends.bind (Ends.bif (Ends.ret _) (Ends.bind (akr h.deny) fun _=>Ends.ret _)) fun _=>Ends.bif (Ends.ret _)
  (Ends.bind (aru h.users) fun _=>Ends.bind (Ends.bif (Ends.bind (arv h.kinds) fun _=>Ends.ret _) (Ends.ret _)) fun _=>gQ fun _=>gQ fun _=>gQ fun _=>gQ fun _=>gQ fun _=>gQ fun _=>gQ fun _=>Ends.ret _)
theorem arw {e:ah} (h:kC e):Ends (Ji e):=by
 have h2:=h.sender
 have j:∀b,Ends (xH e b):=fun b=>by
  unfold xH;rw[(Vf (s:=e.bY) (by omega)).1];exact Ends.bif (Ends.ret _) (Ends.bind (awp h) fun _=>Ends.bif (Ends.ret _) (Ends.bif (Ends.ret _) (Ends.ret _)))
 unfold Ji;exact Ends.bind (ars h) fun _=>Ends.bif (Ends.ret _) (Ends.bind (apD h) fun _=>Ends.bif (dn.bind (ama _ h.bnd) fun d _=>Ends.bind (atS d h.bnd) fun _=>j _) (j _))
theorem arx {l:List ah} (hl:l.length≤100) (hs:gZ l):Ends (yj l):=by
 unfold yj;refine Ends.bif (Ends.ret _) ?_;unfold VP;refine kF l.length (fuel_lt (by omega)) (fun _=>True) trivial (fun i k hi _ hk=>?_) fun k _=>?_
 ·unfold La;rw[bV hi,wrap_succ i (by omega)];exact Ends.bind (arw (hs _ (List.getElem_mem hi))) fun _=>Ends.bif (Ends.ret _) (hk trivial)
 unfold La;rw[dM];unfold VO;refine kF l.length (fuel_lt (by omega)) (fun _=>True) trivial (fun i k hi _ hk=>?_) fun k _=>?_
 ·unfold KZ;have g:aV l 0=some l[0]:=fZ (i:=0) (by omega);rw[bV hi,g,Option.bind_some,wrap_succ i (by omega)];exact Ends.bif (Ends.ret _) (hk trivial)
 unfold KZ;rw[dM];unfold VN;refine YO (body:=KY l) (Q:=fun _=>True) (fun n a=>∃i:Nat,a=i∧1≤i∧l.length≤i+n) ?_ fuel l.length 1 (fuel_lt (by omega)) ⟨1,rfl,Nat.le_refl _,by omega⟩;rintro n a k ⟨i,rfl,h1,hn⟩ hk;unfold KY;by_cases hi:i<l.length
 ·obtain⟨y,hy⟩:=WE hi (by omega) (by simp;omega);rw[bV hi,hy,Option.bind_some];exact Ends.bif (Ends.ret _) (hk (n-1) _ (by omega) ⟨i+1,wrap_succ i (by omega),by omega,by omega⟩)
 rw[show decide ((i:Int)<(l.length:Int))=false by simp;omega,cond_false];exact Ends.ret _
theorem aks {l:List ah} (hl:l.length≤100) (hs:gZ l):∃a,xQ l=some a:=atL l hl hs (arx hl hs)
end Go.Proofs.YtolgdkhlelfpoaaGreat
end
