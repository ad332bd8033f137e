/- Part 5 of what the laws' proofs lean on: states of the walk, typed functions of the program and their laws (short forms written by wip/shrink.py; no condition). -/
import Derived.Test.YtolgdkhlelfpoaaGreatRi4
set_option linter.defProp false
set_option linter.unnecessarySimpa false
set_option linter.unusedVariables false
set_option linter.unusedSimpArgs false
section
namespace Go.Proofs.YtolgdkhlelfpoaaGreat
open Go.RowKit
set_option maxRecDepth 20000
set_option maxHeartbeats 4000000
def RJ (f:Int) (j:Bo):Option Bool:=(bif (j.Text.toList==BZ.toList)then some true else(Bl f GN).bind fun x3=>some x3).bind fun x1=>(bif x1 then(bif (j.N==0)then some true else(Bl f Gs).bind fun x8=>some x8).bind fun x6=>some x6 else some false).bind fun x4=>(bif x4 then(bif (j.Target==0)then some true else(Bl f Gx).bind fun m=>some m).bind fun q=>some q else some false).bind fun x9=>(bif x9 then(bif (!j.Thread)then some true else(Bl f JX).bind fun s=>some s).bind fun u=>some u else some false).bind fun z=>(bif z then(bif (j.Via.toList==BZ.toList)then some true else(Bl f JR).bind fun I=>some I).bind fun J=>some J else some false).bind fun L=>(bif L then(bif ((j.Allow.length:Int)==0)then some true else(Bl f IY).bind fun M=>some M).bind fun O=>some O else some false).bind fun U=>(bif U then(bif ((j.gu.length:Int)==0)then some true else(Bl f J8).bind fun Y=>some Y).bind fun Z=>some Z else some false).bind fun x29=>(bif x29 then(aAO j.Levels).bind fun x36=>(bif x36 then some true else(Bl f JA).bind fun x39=>some x39).bind fun x37=>some x37 else some false).bind fun x34=>some x34
def aif (dF dR r) (h:RJ dF dR=some r):BF 315 [AQ dF,G7 dR] [] (Ah r) []:=Ak.aG Tryz.func315 rfl<|AU<|AL<|.a 3<|AO h fun x1 hx1 h=>.mg 8 3 (Ah x1) (.bi hx1 (k2:=fun h=>AO h fun x3 hx3 h=>.a 1<|.ca (V4 dF GN x3 hx3)<|.aW<|CM))<|.a 1<|AO h fun x4 hx4 h=>.mg 13 7 (Ah x4) (D7 hx4 (fun e i=>by subst e;have h:=i;exact .a 3<|AO h fun x6 hx6 h=>.mg 16 3 (Ah x6) (.bi hx6 (k2:=fun h=>AO h fun x8 zn h=>.a 1<|.ca (V4 dF Gs x8 zn)<|.aW<|CM))<|.aW<|CM))<|.a 1<|AO h fun x9 Fp h=>.mg 22 7 (Ah x9) (D7 Fp (fun e i=>by subst e;have h:=i;exact .a 3<|AO h fun x11 f h=>.mg 25 3 (Ah x11) (.bi f (k2:=fun h=>AO h fun OA j h=>.a 1<|.ca (V4 dF Gx OA j)<|.aW<|CM))<|.aW<|CM))<|.a 1<|AO h fun x14 m h=>.mg 31 7 (Ah x14) (D7 m (fun e i=>by subst e;have h:=i;exact .a 3<|AO h fun x16 q h=>.mg 34 3 (Ah x16) (.bi q (k2:=fun h=>AO h fun x18 s h=>.a 1<|.ca (V4 dF JX x18 s)<|.aW<|CM))<|.aW<|CM))<|.a 1<|AO h fun x19 u h=>.mg 40 7 (Ah x19) (D7 u (fun e i=>by subst e;have h:=i;exact .a 3<|AO h fun x21 z h=>.mg 43 3 (Ah x21) (.bi z (k2:=fun h=>AO h fun x23 I h=>.a 1<|.ca (V4 dF JR x23 I)<|.aW<|CM))<|.aW<|CM))<|.a 1<|AO h fun x24 J h=>.mg 49 8 (Ah x24) (D7 J (fun e i=>by subst e;have h:=i;exact .a 2<|.p (BQ CO dR.Allow F7 rfl)<|.a 1<|AO h fun Gl L h=>.mg 53 3 (Ah Gl) (.bi L (k2:=fun h=>AO h fun x28 M h=>.a 1<|.ca (V4 dF IY x28 M)<|.aW<|CM))<|.aW<|CM))<|.a 1<|AO h fun x29 O h=>.mg 59 8 (Ah x29) (D7 O (fun e i=>by subst e;have h:=i;exact .a 2<|.p (BQ CO dR.gu F7 rfl)<|.a 1<|AO h fun x31 U h=>.mg 63 3 (Ah x31) (.bi U (k2:=fun h=>AO h fun x33 Y h=>.a 1<|.ca (V4 dF J8 x33 Y)<|.aW<|CM))<|.aW<|CM))<|.a 1<|AO h fun x34 Z h=>.mg 69 7 (Ah x34) (D7 Z (fun e i=>by subst e;have h:=i;exact AO h fun x36 ae8 h=>.a 2<|.ca (aot dR.Levels x36 ae8)<|.a 1<|AO h fun x37 ak5 h=>.mg 73 2 (Ah x37) (D7 ak5 (k2:=fun e i=>by subst e;have h:=i;exact AO h fun x39 hx39 h=>.a 1<|.ca (V4 dF JA x39 hx39)<|.aW<|CM))<|.aW<|CM))<|.aW<|CS
def dZ (f:Int):Option Bool:=(bif (f==7)then some true else some (f==8)).bind fun m=>(bif m then some true else some (f==9)).bind fun q=>(bif q then some true else some (f==10)).bind fun s=>(bif s then some true else some (f==11)).bind fun u=>(bif u then some true else some (f==12)).bind fun z=>(bif z then some true else some (f==13)).bind fun j=>some j
def asJ (dF r) (h:dZ dF=some r):BF 316 [AQ dF] [] (Ah r) []:=Ak.aG Tryz.func316 rfl<|AU<|AL<|.a 2<|AO h fun I j h=>.mg 5 3 (Ah I) (.bi j)<|.a 1<|AO h fun J m h=>.mg 10 2 (Ah J) (D7 m)<|.a 1<|AO h fun L q h=>.mg 14 2 (Ah L) (D7 q)<|.a 1<|AO h fun M s h=>.mg 18 2 (Ah M) (D7 s)<|.a 1<|AO h fun O u h=>.mg 22 2 (Ah O) (D7 u)<|.a 1<|AO h fun z f h=>.mg 26 2 (Ah z) (D7 f)<|.aW<|CS
def kH (f:FH) (j:FH) (q:(Int→Option Bool)):Int→Option Bool:=fun m=>(bif decide (m<(f.length:Int))then(BK f m).bind fun s=>(BK j m).bind fun u=>(bif (!(s.toList==u.toList))then some false else q (BJ (m+1)))else some true)
def aCW (f:FH) (j:FH):Int→Option Bool:=bn (kH f j) BA
def Ut (f:FH) (j:FH):Option Bool:=(bif ((f.length:Int) != (j.length:Int))then some false else aCW f j 0)
def aJg (gW gV r) (h:Ut gW gV=some r):BF 134 [GV gW,GV gV] [] (Ah r) []:=Ak.aG Tryz.func134 rfl<|AU<|Aa<|AL<|.a 1<|.p (BQ CO gW F7 rfl)<|.a 1<|.p (BQ CO gV F7 rfl)<|.aW<|Ae h Bf fun h=>AB.skip<|Aa<|AU<|AB.block<|Dx (fun q=>⟨BN 26 [(0,GV gW),(1,GV gV),(5,AQ q)],[],0⟩) _ _ _ (Ad 26 35 []) h<|fun s u f q h=>Aa<|AL<|.a 2<|.p (BQ CO gW F7 rfl)<|.aW<|Ae h (fun h=>AB.skip<|Aa<|AB.block<|CB h fun z j I m h=>GX A8 A8 A8 (.a 2<|.p (BP CO j F7 JV rfl)<|.a 3<|.p (BP CO m F7 JV rfl)<|.a 2<|.nil _)<|Ae h Bf fun h=>AB.skip<|BH<|.a 3<|.nil<|f _ _ (Ad 26 35 []) h) fun h=>Eu
def WI (f:Bo) (j:Bo):Option Bool:=(bif (f.Text.toList==j.Text.toList)then some (f.N==j.N)else some false).bind fun I=>(bif I then some (f.Target==j.Target)else some false).bind fun J=>(bif J then some (f.Thread==j.Thread)else some false).bind fun L=>(bif L then some (f.Via.toList==j.Via.toList)else some false).bind fun M=>(bif M then(Ut f.Allow j.Allow).bind fun m=>some m else some false).bind fun O=>(bif O then(Ut f.gu j.gu).bind fun q=>some q else some false).bind fun s=>(bif s then(YO f.Levels j.Levels).bind fun u=>some u else some false).bind fun z=>some z
def aLt (gW gV r) (h:WI gW gV=some r):BF 93 [G7 gW,G7 gV] [] (Ah r) []:=Ak.aG Tryz.func93 rfl<|AU<|AL<|.a 5<|AO h fun x1 u h=>.mg 10 6 (Ah x1) (.bi u)<|.a 1<|AO h fun x3 z h=>.mg 18 5 (Ah x3) (D7 z)<|.a 1<|AO h fun x5 I h=>.mg 25 5 (Ah x5) (D7 I)<|.a 1<|AO h fun x7 J h=>.mg 32 5 (Ah x7) (D7 J)<|.a 1<|AO h fun x9 L h=>.mg 39 5 (Ah x9) (D7 L (fun e i=>by subst e;have h:=i;exact AO h fun M f h=>.a 4<|.ca (aJg gW.Allow gV.Allow M f)<|.aW<|CM))<|.a 1<|AO h fun O j h=>.mg 46 5 (Ah O) (D7 j (fun e i=>by subst e;have h:=i;exact AO h fun U m h=>.a 4<|.ca (aJg gW.gu gV.gu U m)<|.aW<|CM))<|.a 1<|AO h fun Y q h=>.mg 53 5 (Ah Y) (D7 q (fun e i=>by subst e;have h:=i;exact AO h fun Z s h=>.a 4<|.ca (aKK gW.Levels gV.Levels Z s)<|.aW<|CM))<|.aW<|CS
def aDd (f:ByteArray) (m:(Int→Option Int)):Int→Option Int:=fun j=>(bif decide (j<(f.size:Int))then(GH f j).bind fun q=>(bif decide (q<33)then some true else(GH f j).bind fun s=>some (decide (s>126))).bind fun u=>(bif u then some 3 else m (BJ (j+1)))else some 0)
def aDI (f:ByteArray):Int→Option Int:=bn (aDd f) BA
def aV (f:ByteArray):Option Int:=(bif ((f.size:Int)==0)then some 9 else(bif decide ((f.size:Int)>64)then some 7 else aDI f 0))
def aaM (OT r) (h:aV OT=some r):BF 376 [Cx OT] [] (AQ r) []:=Ak.aG Tryz.func376 rfl<|AU<|Aa<|AU<|Ae h Bf fun h=>AB.skip<|Aa<|AU<|Ae h Bf fun h=>AB.skip<|Aa<|AU<|AB.block<|Dx (fun s=>⟨BN 26 [(0,Cx OT),(3,AQ s)],[],0⟩) _ _ _ (Ad 26 9 []) h<|fun u I f s h=>Aa<|AU<|Ae h (fun h=>AB.skip<|Aa<|AB.block<|AO h fun J j h=>AL<|.a 2<|.p (IC (k:=.i64) j FI rfl)<|.a 1<|AO h fun z m h=>.mg 20 5 (Ah z) (.bi m (k2:=fun h=>AO h fun L q h=>.a 2<|.p (IC (k:=.i64) q FI rfl)<|.aW<|CM))<|.aY<|Ae h Bf fun h=>AB.skip<|BH<|.a 3<|.nil<|f _ _ (Ad 26 9 []) h) fun h=>Eu
def SL (j:Int) (f:Bo):Option Int:=(bif (j==9)then(bif (f.Text.toList==BZ.toList)then some 0 else(aV f.Text).bind fun m=>some m)else(bif (j==12)then some (f.Text.toList==BZ.toList)else some false).bind fun q=>(bif q then some 9 else(bif decide ((f.Text.size:Int)>400)then some true else(bif (j==12)then some (decide ((f.Text.size:Int)>32))else some false).bind fun s=>some s).bind fun u=>(bif u then some 7 else some 0)))
def aiJ (dF dR r) (h:SL dF dR=some r):BF 317 [AQ dF,G7 dR] [] (AQ r) []:=Ak.aG Tryz.func317 rfl<|AU<|Aa<|AU<|Ae h (fun h=>Aa<|AU<|Ae h Bf fun h=>AB.skip<|AO h fun s f h=>AL<|.a 2<|.ca (aaM dR.Text s f)<|.aW<|CS) fun h=>AB.skip<|Aa<|AL<|.a 2<|AO h fun u j h=>.mg 15 4 (Ah u) (.bi j)<|.aY<|Ae h Bf fun h=>AB.skip<|Aa<|AL<|.a 4<|AO h fun z m h=>.mg 24 9 (Ah z) (.bi m (k2:=fun h=>.a 2<|AO h fun I q h=>.mg 27 5 (Ah I) (.bi q)<|.aW<|CM))<|TN
def YS (f:Bool):Option Int:=(bif (!f)then some 2 else some 0)
def aCu (f:Int) (j:Int) (z:Bool):Option Int:=(bif z then(bif decide (f≥0)then some (decide (f≤3))else some false).bind fun I=>YS I else(bif (j==8)then(bif decide (f≥0)then some (decide (f≤1000000000))else some false).bind fun m=>YS m else(bif (j==10)then(bif decide (f≥1)then some (decide (f≤10000))else some false).bind fun q=>YS q else(bif (j==9)then(bif (f==1)then some true else some (f==2)).bind fun s=>(bif s then some true else some (f==6)).bind fun u=>YS u else YS true))))
def Jw (f:Int) (j:Int):Option Int:=(bif (f==2)then(bif decide (j≥0)then some (decide (j≤4))else some false).bind fun m=>YS m else(bif (f==4)then aCu j f (f==4)else aCu j f (f==5)))
def aqU (dF qw r) (h:Jw dF qw=some r):BF 318 [AQ dF,AQ qw] [] (AQ r) []:=Ak.aG Tryz.func318 rfl<|AU<|AU<|DJ (fun s=>∃(J:Bool),CG s ⟨BN 54 [(5,Ah J)],[],0⟩∧YS J=some r) (by rintro s ⟨J,L,h⟩;exact Ce L<|Aa<|sW)<|fun K3=>AU<|AB.block<|AU<|Ae h (fun h=>BH<|.a 2<|AO h fun Z M h=>.mg 11 3 (Ah Z) (.bi M)<|.a 1<|.nil<|K3 _ ⟨Z,Ad 54 32 [],h⟩) fun h=>DJ (fun s=>∃(O:Bool),CG s ⟨BN 54 [(1,AQ qw),(5,Ah true),(6,AQ dF),(15,Ah O)],[],0⟩∧aCu qw dF O=some r) (by rintro s ⟨O,L,h⟩;exact Ce L<|Ae h (fun h=>BH<|.a 2<|AO h fun x9 U h=>.mg 20 3 (Ah x9) (.bi U)<|.a 1<|.nil<|K3 _ ⟨x9,Ad 54 32 [],h⟩) fun h=>AU<|Ae h (fun h=>BH<|.a 2<|AO h fun f j h=>.mg 28 3 (Ah f) (.bi j)<|.a 1<|.nil<|K3 _ ⟨f,Ad 54 32 [],h⟩) fun h=>AU<|Ae h (fun h=>BH<|.a 2<|AO h fun m q h=>.mg 36 3 (Ah m) (.bi q)<|.a 1<|.nil<|K3 _ ⟨m,Ad 54 32 [],h⟩) fun h=>AU<|Ae h (fun h=>BH<|.a 2<|AO h fun Y u h=>.mg 44 3 (Ah Y) (.bi u)<|.a 1<|AO h fun z I h=>.mg 49 2 (Ah z) (D7 I)<|.a 1<|.nil<|K3 _ ⟨z,Ad 54 32 [],h⟩) fun h=>AB.skip<|K3 _ ⟨true,Ad 54 32 [],h⟩)<|fun K22=>AU<|Ae h (fun h=>AB.skip<|K22 _ ⟨(dF==4),Ad 54 32866 [],h⟩) fun h=>BH<|.a 2<|.nil<|K22 _ ⟨(dF==5),Ad 54 32866 [],h⟩
def Pm (j:Int) (f:Bo):Option Int:=(Bl j Gx).bind fun m=>(bif m then(bif decide (f.Target<0)then some true else(bif (f.Target==0)then some (j != 11)else some false).bind fun q=>some q).bind fun s=>some s else some false).bind fun u=>(bif u then some 2 else(bif f.Thread then some (f.Target==0)else some false).bind fun z=>(bif z then some 1 else some 0))
def arj (dF dR r) (h:Pm dF dR=some r):BF 319 [AQ dF,G7 dR] [] (AQ r) []:=Ak.aG Tryz.func319 rfl<|AU<|Aa<|AO h fun u f h=>AL<|.a 1<|.ca (V4 dF Gx u f)<|.a 1<|AO h fun z j h=>.mg 8 12 (Ah z) (D7 j (fun e i=>by subst e;have h:=i;exact .a 3<|AO h fun I m h=>.mg 11 8 (Ah I) (.bi m (k2:=fun h=>.a 3<|AO h fun J q h=>.mg 15 3 (Ah J) (.bi q)<|.aW<|CM))<|.aW<|CM))<|.aY<|Ae h Bf fun h=>AB.skip<|Aa<|AL<|.a 2<|AO h fun L s h=>.mg 23 4 (Ah L) (.bi s)<|TN
def SB (f:Bo):Option Int:=(bif (f.Via.toList==BZ.toList)then some 0 else(bif (f.N != 3)then some 1 else(Vy f.Via).bind fun j=>some j))
def apm (dH r) (h:SB dH=some r):BF 320 [G7 dH] [] (AQ r) []:=Ak.aG Tryz.func320 rfl<|AU<|Aa<|AU<|Ae h Bf fun h=>AB.skip<|Aa<|AU<|Ae h Bf fun h=>AB.skip<|AO h fun j f h=>AL<|.a 2<|.ca (yT dH.Via j f)<|.aW<|CS
def kE (j:(Int→Option Int)) (m:Int) (f:Bool):Option Int:=(bif f then some 8 else j (BJ (m+1)))
def Yw (f:Bo) (s:(Int→Option Int)):Int→Option Int:=fun j=>(bif decide (j<(f.Allow.length:Int))then(BK f.Allow j).bind fun u=>(ZQ u).bind fun z=>(bif (z != 0)then some 3 else(bif decide (j>0)then(BK f.Allow j).bind fun m=>(BK f.Allow (BJ (j-1))).bind fun q=>kE s j (Op.bytesLess (m.toList) (q.toList)||m.toList==q.toList)else kE s j false))else some 0)
def aFI (f:Bo):Int→Option Int:=bn (Yw f) BA
def Q5 (f:Bo):Option Int:=(bif decide ((f.Allow.length:Int)>0)then some (f.N != 3)else some false).bind fun j=>(bif j then some 1 else(bif decide ((f.Allow.length:Int)>100)then some 7 else aFI f 0))
def anv (dH r) (h:Q5 dH=some r):BF 321 [G7 dH] [] (AQ r) []:=Ak.aG Tryz.func321 rfl<|AU<|Aa<|AL<|.a 2<|.p (BQ CO dH.Allow F7 rfl)<|.a 1<|AO h fun Y L h=>.mg 8 4 (Ah Y) (.bi L)<|.aY<|Ae h Bf fun h=>AB.skip<|Aa<|AL<|.a 2<|.p (BQ CO dH.Allow F7 rfl)<|.aW<|Ae h Bf fun h=>AB.skip<|Aa<|AU<|AB.block<|Dx (fun J=>⟨BN 47 [(1,.ptr 0 0),(3,AQ J)],[.box (Ag (EK dH))],0⟩) _ _ _ (Ad 47 10 [(0,true)]) h<|fun Z k6 M J h=>Aa<|AL<|.a 3<|.p (BQ CO dH.Allow F7 rfl)<|.aW<|Ae h (fun h=>AB.skip<|Aa<|AB.block<|Aa<|CB h fun x8 O x9 U h=>AL<|.a 3<|.p (BP CO O F7 JV rfl)<|.a 1<|.ca (acy x8 x9 U)<|.aW<|Ae h Bf fun h=>AB.skip<|DJ (fun s=>∃(j:Bool),CG s ⟨BN 47 [(1,.ptr 0 0),(3,AQ J),(46,Ah j)],[.box (Ag (EK dH))],0⟩∧kE k6 J j=some r) (by rintro s ⟨j,hs,h⟩;exact Ce hs<|Ae h Bf fun h=>AB.skip<|BH<|.a 3<|.nil<|M _ _ (Ad 47 10 [(0,true)]) h)<|fun m=>FW h (fun f h=>CB h fun q u z I h=>AB.draw A8 A8 A8 (.a 2<|.c (Ba some f)<|.a 3<|.p (BP CO u F7 JV rfl)<|.a 5<|.p (BP CO I F7 JV rfl)<|.a 3<|.nil _)<|m _ ⟨(Op.bytesLess (q.toList) (z.toList)||q.toList==z.toList),Ad 47 70368744177674 [(0,true)],h⟩) fun f h=>AB.draw A8 A8 A8 (.a 2<|.c (Ba some f)<|.a 13<|.nil _)<|m _ ⟨false,Ad 47 70368744177674 [(0,true)],h⟩) fun h=>Eu
def oZ (f:FH) (q:(Int→Option Int)):Int→Option Int:=fun j=>(bif decide (j<(f.length:Int))then(BK f j).bind fun s=>(aV s).bind fun m=>(bif (m != 0)then some m else q (BJ (j+1)))else some 0)
def aGh (f:FH):Int→Option Int:=bn (oZ f) BA
def NC (f:FH):Option Int:=(bif decide ((f.length:Int)>100)then some 7 else aGh f 0)
def adk (aB r) (h:NC aB=some r):BF 322 [GV aB] [] (AQ r) []:=Ak.aG Tryz.func322 rfl<|AU<|Aa<|AL<|.a 1<|.p (BQ CO aB F7 rfl)<|.aW<|Ae h Bf fun h=>AB.skip<|Aa<|AU<|AB.block<|Dx (fun q=>⟨BN 22 [(0,GV aB),(3,AQ q)],[],0⟩) _ _ _ (Ad 22 9 []) h<|fun z I f q h=>Aa<|AL<|.a 2<|.p (BQ CO aB F7 rfl)<|.aW<|Ae h (fun h=>AB.skip<|Aa<|AB.block<|CB h fun s j u m h=>AL<|.a 2<|.p (BP CO j F7 JV rfl)<|.a 1<|.ca (aaM s u m)<|.aW<|AU<|Ae h Bf fun h=>AB.skip<|BH<|.a 3<|.nil<|f _ _ (Ad 22 9 []) h) fun h=>Eu
def QN (f:Int):Option Bool:=(bif decide (f<(-1000))then some true else some (decide (f>1000))).bind fun j=>some j
def Uz (ab4 r) (h:QN ab4=some r):BF 379 [AQ ab4] [] (Ah r) []:=Ak.aG Tryz.func379 rfl<|AU<|AL<|.a 2<|AO h fun j f h=>.mg 5 3 (Ah j) (.bi f)<|.aW<|CS
def cO (f:L9) (q:Int) (s:(Int→Option Int)) (u:Bool):Option Int:=(bif u then some 8 else(BK f q).bind fun j=>(QN j.N).bind fun m=>(bif m then some 2 else s (BJ (q+1))))
def oO (f:L9) (s:(Int→Option Int)):Int→Option Int:=fun j=>(bif decide (j<(f.length:Int))then(BK f j).bind fun u=>(Vy u.User).bind fun z=>(bif (z != 0)then some 3 else(bif decide (j>0)then(BK f j).bind fun m=>(BK f (BJ (j-1))).bind fun q=>cO f j s (Op.bytesLess (m.User.toList) (q.User.toList)||m.User.toList==q.User.toList)else cO f j s false))else some 0)
def aDg (f:L9):Int→Option Int:=bn (oO f) BA
def Wu (f:L9):Option Int:=(bif decide ((f.length:Int)>100)then some 7 else aDg f 0)
def amh (aB r) (h:Wu aB=some r):BF 377 [ND aB] [] (AQ r) []:=Ak.aG Tryz.func377 rfl<|AU<|Aa<|AL<|.a 1<|.p (BQ ES aB FU rfl)<|.aW<|Ae h Bf fun h=>AB.skip<|Aa<|AU<|AB.block<|Dx (fun L=>⟨BN 42 [(0,ND aB),(3,AQ L)],[],0⟩) _ _ _ (Ad 42 9 []) h<|fun J17 k3 M L h=>Aa<|AL<|.a 2<|.p (BQ ES aB FU rfl)<|.aW<|Ae h (fun h=>AB.skip<|Aa<|AB.block<|Aa<|CB h fun x5 O x6 U h=>AL<|.a 2<|.p (BP ES O FU Ji rfl)<|.a 2<|.ca (yT x5.User x6 U)<|.aW<|Ae h Bf fun h=>AB.skip<|Aa<|DJ (fun s=>∃(Y:Bool),CG s ⟨BN 42 [(0,ND aB),(3,AQ L),(35,Ah Y)],[],0⟩∧cO aB L k3 Y=some r) (by rintro s ⟨Y,hs,h⟩;exact Ce hs<|Ae h Bf fun h=>AB.skip<|CB h fun Z j x11 m h=>AL<|.a 2<|.p (BP ES j FU Ji rfl)<|.a 2<|.ca (Uz Z.N x11 m)<|.aY<|Ae h Bf fun h=>AB.skip<|BH<|.a 3<|.nil<|M _ _ (Ad 42 9 []) h)<|fun q=>FW h (fun f h=>CB h fun u z I J h=>AB.draw A8 A8 A8 (.a 2<|.c (Ba some f)<|.a 2<|.p (BP ES z FU Ji rfl)<|.a 5<|.p (BP ES J FU Ji rfl)<|.a 4<|.nil _)<|q _ ⟨(Op.bytesLess (u.User.toList) (I.User.toList)||u.User.toList==I.User.toList),Ad 42 34359738377 [],h⟩) fun f h=>AB.draw A8 A8 A8 (.a 2<|.c (Ba some f)<|.a 13<|.nil _)<|q _ ⟨false,Ad 42 34359738377 [],h⟩) fun h=>Eu
def aAZ (f:KQ) (q:Int) (s:(Int→Option Int)) (u:Bool):Option Int:=(bif u then some 8 else(BK f q).bind fun j=>(QN j.N).bind fun m=>(bif m then some 2 else s (BJ (q+1))))
def vC (f:KQ) (s:(Int→Option Int)):Int→Option Int:=fun j=>(bif decide (j<(f.length:Int))then(BK f j).bind fun u=>(dK u.Kind).bind fun z=>(bif (!z)then some 1 else(bif decide (j>0)then(BK f j).bind fun m=>(BK f (BJ (j-1))).bind fun q=>aAZ f j s (decide (m.Kind≤q.Kind))else aAZ f j s false))else some 0)
def aCl (f:KQ):Int→Option Int:=bn (vC f) BA
def Wj (f:KQ):Option Int:=(bif decide ((f.length:Int)>100)then some 7 else aCl f 0)
def apl (aB r) (h:Wj aB=some r):BF 378 [Me aB] [] (AQ r) []:=Ak.aG Tryz.func378 rfl<|AU<|Aa<|AL<|.a 1<|.p (BQ EY aB FX rfl)<|.aW<|Ae h Bf fun h=>AB.skip<|Aa<|AU<|AB.block<|Dx (fun I=>⟨BN 42 [(0,Me aB),(3,AQ I)],[],0⟩) _ _ _ (Ad 42 9 []) h<|fun J17 k3 J I h=>Aa<|AL<|.a 2<|.p (BQ EY aB FX rfl)<|.aW<|Ae h (fun h=>AB.skip<|Aa<|AB.block<|Aa<|CB h fun x5 L x6 M h=>AL<|.a 2<|.p (BP EY L FX Jo rfl)<|.a 2<|.ca (aKs x5.Kind x6 M)<|.aW<|Ae h Bf fun h=>AB.skip<|Aa<|DJ (fun s=>∃(O:Bool),CG s ⟨BN 42 [(0,Me aB),(3,AQ I),(35,Ah O)],[],0⟩∧aAZ aB I k3 O=some r) (by rintro s ⟨O,hs,h⟩;exact Ce hs<|Ae h Bf fun h=>AB.skip<|CB h fun U j Y m h=>AL<|.a 2<|.p (BP EY j FX Jo rfl)<|.a 2<|.ca (Uz U.N Y m)<|.aY<|Ae h Bf fun h=>AB.skip<|BH<|.a 3<|.nil<|J _ _ (Ad 42 9 []) h)<|fun q=>FW h (fun f h=>CB h fun Z u x16 z h=>AB.draw A8 A8 A8 (.a 2<|.c (Ba some f)<|.a 2<|.p (BP EY u FX Jo rfl)<|.a 5<|.p (BP EY z FX Jo rfl)<|.a 4<|.nil _)<|q _ ⟨(decide (Z.Kind≤x16.Kind)),Ad 42 34359738377 [],h⟩) fun f h=>AB.draw A8 A8 A8 (.a 2<|.c (Ba some f)<|.a 13<|.nil _)<|q _ ⟨false,Ad 42 34359738377 [],h⟩) fun h=>Eu
def St (f:D9):Option Int:=(Wu f.Users).bind fun M=>(bif (M != 0)then some M else(Wj f.Kinds).bind fun O=>(bif (O != 0)then some O else(QN f.User).bind fun U=>(bif U then some true else(QN f.Message).bind fun Y=>some Y).bind fun Z=>(bif Z then some true else(QN f.State).bind fun j=>some j).bind fun x9=>(bif x9 then some true else(QN f.gB).bind fun m=>some m).bind fun q=>(bif q then some true else(QN f.jT).bind fun s=>some s).bind fun u=>(bif u then some true else(QN f.nX).bind fun z=>some z).bind fun I=>(bif I then some true else(QN f.gY).bind fun J=>some J).bind fun L=>(bif L then some 2 else some 0)))
def ahG (aB r) (h:St aB=some r):BF 323 [Jf aB] [] (AQ r) []:=Ak.aG Tryz.func323 rfl<|AU<|Aa<|AO h fun x1 L h=>AL<|.a 2<|.ca (amh aB.Users x1 L)<|.aW<|AU<|Ae h Bf fun h=>AB.skip<|Aa<|AO h fun x3 M h=>AL<|.a 2<|.ca (apl aB.Kinds x3 M)<|.aW<|AU<|Ae h Bf fun h=>AB.skip<|Aa<|AO h fun x5 O h=>AL<|.a 2<|.ca (Uz aB.User x5 O)<|.a 1<|AO h fun x6 U h=>.mg 21 3 (Ah x6) (D7 U (k2:=fun e i=>by subst e;have h:=i;exact AO h fun x8 Y h=>.a 2<|.ca (Uz aB.Message x8 Y)<|.aW<|CM))<|.a 1<|AO h fun x9 Z h=>.mg 26 3 (Ah x9) (D7 Z (k2:=fun e i=>by subst e;have h:=i;exact AO h fun x11 f h=>.a 2<|.ca (Uz aB.State x11 f)<|.aW<|CM))<|.a 1<|AO h fun x12 j h=>.mg 31 3 (Ah x12) (D7 j (k2:=fun e i=>by subst e;have h:=i;exact AO h fun x14 m h=>.a 2<|.ca (Uz aB.gB x14 m)<|.aW<|CM))<|.a 1<|AO h fun x15 q h=>.mg 36 3 (Ah x15) (D7 q (k2:=fun e i=>by subst e;have h:=i;exact AO h fun x17 s h=>.a 2<|.ca (Uz aB.jT x17 s)<|.aW<|CM))<|.a 1<|AO h fun x18 u h=>.mg 41 3 (Ah x18) (D7 u (k2:=fun e i=>by subst e;have h:=i;exact AO h fun MI z h=>.a 2<|.ca (Uz aB.nX MI z)<|.aW<|CM))<|.a 1<|AO h fun x21 I h=>.mg 46 3 (Ah x21) (D7 I (k2:=fun e i=>by subst e;have h:=i;exact AO h fun x23 J h=>.a 2<|.ca (Uz aB.gY x23 J)<|.aW<|CM))<|TN
def FD (j:Int) (f:Bo):Option Int:=(dK j).bind fun M=>(bif (!M)then some true else(RJ j f).bind fun O=>some (!O)).bind fun U=>(bif U then some 1 else(dZ j).bind fun Y=>(bif Y then(WI f DW).bind fun Z=>some Z else some false).bind fun x7=>(bif x7 then some 0 else(SL j f).bind fun m=>(bif (m != 0)then some m else(Jw j f.N).bind fun q=>(bif (q != 0)then some q else(Pm j f).bind fun s=>(bif (s != 0)then some s else(SB f).bind fun u=>(bif (u != 0)then some u else(bif (j==4)then(Q5 f).bind fun J=>some J else(NC f.Allow).bind fun z=>(bif (z != 0)then some z else(NC f.gu).bind fun I=>(bif (I != 0)then some I else(St f.Levels).bind fun L=>some L)))))))))
def asT (dF dR r) (h:FD dF dR=some r):BF 242 [AQ dF,G7 dR] [] (AQ r) []:=Ak.aG Tryz.func242 rfl<|AU<|Aa<|AO h fun x1 J h=>AL<|.a 1<|.ca (aKs dF x1 J)<|.a 1<|AO h fun x2 L h=>.mg 14 5 (Ah x2) (.bi L (k2:=fun h=>AO h fun x4 M h=>.a 2<|.ca (aif dF dR x4 M)<|.aW<|CM))<|.aY<|Ae h Bf fun h=>AB.skip<|Aa<|AO h fun x6 O h=>AL<|.a 1<|.ca (asJ dF x6 O)<|.a 1<|AO h fun x7 U h=>.mg 23 3 (Ah x7) (D7 U (fun e i=>by subst e;have h:=i;exact AO h fun x9 Y h=>.a 2<|.ca (aLt dR DW x9 Y)<|.aW<|CM))<|.aY<|Ae h Bf fun h=>AB.skip<|Aa<|AO h fun Z f h=>AL<|.a 2<|.ca (aiJ dF dR Z f)<|.aW<|AU<|Ae h Bf fun h=>AB.skip<|Aa<|AO h fun OA j h=>AL<|.a 3<|.ca (aqU dF dR.N OA j)<|.aW<|AU<|Ae h Bf fun h=>AB.skip<|Aa<|AO h fun x15 m h=>AL<|.a 2<|.ca (arj dF dR x15 m)<|.aW<|AU<|Ae h Bf fun h=>AB.skip<|Aa<|AO h fun x17 q h=>AL<|.a 1<|.ca (apm dR x17 q)<|.aW<|AU<|Ae h Bf fun h=>AB.skip<|Aa<|AU<|Ae h (fun h=>AO h fun MI s h=>AL<|.a 1<|.ca (anv dR MI s)<|.aW<|CS) fun h=>AB.skip<|Aa<|AO h fun x21 u h=>AL<|.a 2<|.ca (adk dR.Allow x21 u)<|.aW<|AU<|Ae h Bf fun h=>AB.skip<|Aa<|AO h fun x23 z h=>AL<|.a 2<|.ca (adk dR.gu x23 z)<|.aW<|AU<|Ae h Bf fun h=>AB.skip<|AO h fun x25 I h=>AL<|.a 2<|.ca (ahG dR.Levels x25 I)<|.aW<|CS
def W9 (f:AP):Option Int:=(ZO f).bind fun j=>(bif (j != 0)then some j else(FD f.Kind f.Content).bind fun m=>some m)
def aq8 (aO r) (h:W9 aO=some r):BF 185 [Dj aO] [] (AQ r) []:=Ak.aG Tryz.func185 rfl<|AU<|Aa<|AO h fun m f h=>AL<|.a 1<|.ca (asX aO m f)<|.aW<|AU<|Ae h Bf fun h=>AB.skip<|AO h fun q j h=>AL<|.a 4<|.ca (asT aO.Kind aO.Content q j)<|.aW<|CS
def UF  (q:(Int→AZ→Option AZ)):Int→AZ→Option AZ:=fun f m=>(bif decide (f≥128)then(Uu f 128).bind fun s=>(DN 1 m [IntKind.u8.wrap (IntKind.u64.wrap (s+128))]).bind fun u=>(gI .u64 f 128).bind fun z=>q z u else(DN 1 m [IntKind.u8.wrap f]).bind fun j=>some j)
def aMl  :Int→AZ→Option AZ:=aX (UF) BA
def aAx (f:Int):Option AZ:=aMl f []
def iP (f:Int):Option AZ:=(Kv .shl .u64 (IntKind.u64.wrap f) 1).bind fun j=>(bif decide (f<0)then aAx (Y8 .u64 j)else aAx j)
def aK1 (ab4 r) (h:iP ab4=some r):BF 382 [AQ ab4] [] (.aS 0) [(BX r)]:=Ak.aG Tryz.func382 rfl<|AL<|.e [(BX [])] (Cc 5 1 rfl)<|.aY<|AO h fun m q h=>AL<|.a 2<|.p (zS (k:=.u64) (k':=.u64) q rfl)<|.aW<|DJ (fun s=>∃(z:Int),CG s ⟨BN 28 [(3,.d ((Qo .u64) z))],[],0⟩∧aAx z=some r) (by rintro s ⟨z,Z,h⟩;exact Ce Z<|AL<|.e [(BX [])] (Cc 5 1 rfl)<|.aY<|Aa<|AB.block<|Dt (fun I Y=>⟨BN 28 [(3,.d ((Qo .u64) I)),(4,.aS 0)],[(BX Y)],0⟩) _ _ _ _ (Ad 28 24 [(0,true)]) h<|fun J11 k5 J I Y h=>Aa<|AU<|Ae h (fun h=>AB.skip<|AB.block<|CB h fun x7 L x8 M h=>AL<|.a 2<|.p (aEC (k:=.u64) L rfl)<|.a 2<|.p (EG I8 OV [CV (IntKind.u8.wrap (IntKind.u64.wrap (x7+128)))] rfl)<|.e [.dead,(BX x8)] (E8 (k:=0) CV M I8 A8 (fun _=>rfl) BU rfl)<|.aW<|AO h fun x9 O h=>BH<|.a 1<|.p (ajH (k:=.u64) O rfl)<|.a 1<|.nil<|J _ _ _ (Ad 28 24 [(1,true)]) h) fun h=>AB.exit<|AO h fun U f h=>AL<|.a 3<|.p (EG I8 OV [CV (IntKind.u8.wrap I)] rfl)<|.e [.dead,(BX U)] (E8 (k:=0) CV f I8 A8 (fun _=>rfl) BU rfl)<|.aW<|QH)<|fun j=>AU<|Ae h (fun h=>BH<|.a 1<|.p (ads (k:=.u64) (u:=m) rfl)<|.a 1<|.nil<|j _ ⟨(Y8 .u64 m),Ad 28 8 [],h⟩) fun h=>AB.skip<|j _ ⟨m,Ad 28 8 [],h⟩
def JB (f:AZ) (j:Int):Option AZ:=(DN 1 [] f).bind fun m=>(iP j).bind fun q=>(DN 1 m q).bind fun s=>some s
def Ln (fJ qw r) (h:JB fJ qw=some r):BF 327 [GK fJ,AQ qw] [] (.aS 0) [(BX r)]:=Ak.aG Tryz.func327 rfl<|AL<|.e [(BX [])] (Cc 5 1 rfl)<|.aY<|Pn h fun q f s j u m h=>AL<|.e [(BX []),(BX [])] (Jc I8 OV [] rfl)<|.a 1<|.e [(BX []),.dead,(BX q)] (E8 (k:=1) CV f I8 A8 (fun _=>rfl) BU rfl)<|.a 1<|.ca (aK1 qw s j).view<|.e [(BX []),.dead,.dead,(BX u)] (E8 (k:=2) CV m I8 A8 (fun _=>rfl) BU rfl)<|.aW<|aBq
def PL (j:AZ) (f:ByteArray):Option AZ:=(JB j (f.size:Int)).bind fun m=>(DN 1 m (Bg f)).bind fun q=>some q
def V3 (fJ iO r) (h:PL fJ iO=some r):BF 328 [GK fJ,Cx iO] [] (.aS 0) [(BX r)]:=Ak.aG Tryz.func328 rfl<|AL<|.e [(BX [])] (Cc 5 1 rfl)<|.aY<|CB h fun m f q j h=>AL<|.a 3<|.e (x:=.aS 1) [(BX []),(BX m)] (Nl [GK fJ,AQ (iO.size:Int)] (Ln fJ (iO.size:Int) m f) rfl)<|.a 1<|.p (agM (s:=iO) FI UK rY rfl)<|.e [(BX []),.dead,(BX q)] (E8 (k:=1) CV j I8 A8 (fun _=>rfl) BU rfl)<|.aW<|Ky
def bP (j:AZ) (f:Bool):Option AZ:=(DN 1 [] j).bind fun m=>(bif f then(DN 1 m [1]).bind fun q=>some q else(DN 1 m [0]).bind fun s=>some s)
def aJS (fJ JU r) (h:bP fJ JU=some r):BF 329 [GK fJ,Ah JU] [] (.aS 0) [(BX r)]:=Ak.aG Tryz.func329 rfl<|AL<|.e [(BX [])] (Cc 5 1 rfl)<|.aY<|AO h fun q f h=>AL<|.e [(BX []),(BX [])] (Jc I8 OV [] rfl)<|.a 1<|.e [(BX []),.dead,(BX q)] (E8 (k:=1) CV f I8 A8 (fun _=>rfl) BU rfl)<|.aW<|Aa<|AU<|Ae h (fun h=>AO h fun s j h=>AL<|.a 1<|.p (EG I8 OV [CV 1] rfl)<|.e [(BX []),.dead,.dead,(BX s)] (E8 (k:=2) CV j I8 A8 (fun _=>rfl) BU rfl)<|.aW<|aBq) fun h=>AB.skip<|AO h fun u m h=>AL<|.a 1<|.p (EG I8 OV [CV 0] rfl)<|.e [(BX []),.dead,.dead,(BX u)] (E8 (k:=2) CV m I8 A8 (fun _=>rfl) BU rfl)<|.aW<|aBq
def WV (f:FH) (q:(AZ→Int→Option AZ)):AZ→Int→Option AZ:=fun m j=>(bif decide (j<(f.length:Int))then(BK f j).bind fun s=>(PL m s).bind fun u=>q u (BJ (j+1))else some m)
def aKq (f:FH):AZ→Int→Option AZ:=aX (WV f) BA
def eB (j:AZ) (f:FH):Option AZ:=(JB j (f.length:Int)).bind fun m=>aKq f m 0
def aaE (fJ dh r) (h:eB fJ dh=some r):BF 380 [GK fJ,GV dh] [] (.aS 0) [(BX r)]:=Ak.aG Tryz.func380 rfl<|AL<|.e [(BX [])] (Cc 5 1 rfl)<|.aY<|AO h fun z j h=>AL<|.a 2<|.p (BQ CO dh F7 rfl)<|.e (x:=.aS 1) [(BX []),(BX z)] (Nl [GK fJ,AQ (dh.length:Int)] (Ln fJ (dh.length:Int) z j) rfl)<|.aW<|Aa<|AU<|AB.block<|Dt (fun f I=>⟨BN 24 [(1,GV dh),(5,.aS 0),(6,AQ I)],[(BX f)],0⟩) _ _ _ _ (Ad 24 98 [(1,true)]) h<|fun M O m f I h=>Aa<|AL<|.a 2<|.p (BQ CO dh F7 rfl)<|.aW<|Ae h (fun h=>AB.skip<|Aa<|AB.block<|CB h fun q s J u h=>BH<|.a 3<|.p (BP CO s F7 JV rfl)<|.a 1<|.e [(BX f),(BX J)] (IZ (dP:=[.aS 0,Cx q]) (eU:=[.d (.sl (List.map CV f)),Cx q]) (V3 f q J u) (fun x L=>by obtain⟨a,_,rfl⟩:=F8.1 L;rfl) aDZ ⟨⟨5,1,List.map CV f,A8,rfl⟩,rfl,trivial⟩ rfl rfl)<|.a 1<|.nil<|BH<|.a 3<|.nil<|m _ _ _ (Ad 24 98 [(1,true)]) h) fun h=>Ny
def aGx (f:D9):Option AZ:=some [f.User,f.Message,f.State,f.gB,f.jT,f.nX,f.gY]
def ajd (aB r) (h:aGx aB=some r):BF 381 [Jf aB] [] (.aS 0) [(BL r)]:=Ak.aG Tryz.func381 rfl<|AL<|.a 1<|.e [.box (Ag (Ea aB)),(BL [])] (Cc 3 1 rfl)<|.aY<|AL<|.a 14<|.e [.box (Ag (Ea aB)),(BL []),(BL [aB.User,aB.Message,aB.State,aB.gB,aB.jT,aB.nX,aB.gY])] (Jc ET zero3 [AV aB.User,AV aB.Message,AV aB.State,AV aB.gB,AV aB.jT,AV aB.nX,AV aB.gY] rfl)<|.aW<|Ky
def xk (j:AZ) (q:(AZ→Int→Option AZ)):AZ→Int→Option AZ:=fun m f=>(bif decide (f<(j.length:Int))then(BK j f).bind fun s=>(JB m s).bind fun u=>q u (BJ (f+1))else some m)
def aG8 (f:AZ):AZ→Int→Option AZ:=aX (xk f) BA
def wZ (f:Bo) (q:(AZ→Int→Option AZ)):AZ→Int→Option AZ:=fun m j=>(bif decide (j<(f.Levels.Kinds.length:Int))then(BK f.Levels.Kinds j).bind fun s=>(JB m s.Kind).bind fun u=>(BK f.Levels.Kinds j).bind fun z=>(JB u z.N).bind fun I=>q I (BJ (j+1))else(aGx f.Levels).bind fun J=>aG8 J m 0)
def aDx (f:Bo):AZ→Int→Option AZ:=aX (wZ f) BA
def uX (f:Bo) (m:(AZ→Int→Option AZ)):AZ→Int→Option AZ:=fun J j=>(bif decide (j<(f.Levels.Users.length:Int))then(BK f.Levels.Users j).bind fun q=>(PL J q.User).bind fun s=>(BK f.Levels.Users j).bind fun u=>(JB s u.N).bind fun z=>m z (BJ (j+1))else(JB J (f.Levels.Kinds.length:Int)).bind fun I=>aDx f I 0)
def aME (f:Bo):AZ→Int→Option AZ:=aX (uX f) BA
def jd (f:Bo):Option AZ:=(PL [] f.Text).bind fun j=>(JB j f.N).bind fun m=>(JB m f.Target).bind fun q=>(bP q f.Thread).bind fun s=>(PL s f.Via).bind fun u=>(eB u f.Allow).bind fun z=>(eB z f.gu).bind fun I=>(JB I (f.Levels.Users.length:Int)).bind fun J=>aME f J 0
def aLQ (dH r) (h:jd dH=some r):BF 324 [G7 dH] [] (.aS 0) [(BX r)]:=Ak.aG Tryz.func324 rfl<|AL<|.a 1<|.e [.box (Ag (EK dH)),(BX [])] (Cc 5 1 rfl)<|.aY<|AO h fun u hx1 h=>AL<|.a 2<|.e (x:=.aS 2) [.box (Ag (EK dH)),(BX []),(BX u)] (Nl [.d (.lit (.slice none 0 0)),Cx dH.Text] (V3 [] dH.Text u hx1) rfl)<|.aW<|AO h fun z hx2 h=>AL<|.a 3<|.e [.box (Ag (EK dH)),(BX []),(BX u),(BX z)] (IZ (dP:=[.aS 2,AQ dH.N]) (eU:=[.d (.sl (List.map CV u)),AQ dH.N]) (Ln u dH.N z hx2) (fun x f=>Om) XR ⟨⟨5,1,List.map CV u,A8,rfl⟩,rfl,trivial⟩ rfl rfl)<|.aW<|AO h fun J hx3 h=>AL<|.a 3<|.e [.box (Ag (EK dH)),(BX []),(BX u),(BX z),(BX J)] (IZ (dP:=[.aS 3,AQ dH.Target]) (eU:=[.d (.sl (List.map CV z)),AQ dH.Target]) (Ln z dH.Target J hx3) (fun x f=>Om) XR ⟨⟨5,1,List.map CV z,A8,rfl⟩,rfl,trivial⟩ rfl rfl)<|.aW<|AO h fun L hx4 h=>AL<|.a 3<|.e [.box (Ag (EK dH)),(BX []),(BX u),(BX z),(BX J),(BX L)] (IZ (dP:=[.aS 4,Ah dH.Thread]) (eU:=[.d (.sl (List.map CV J)),Ah dH.Thread]) (aJS J dH.Thread L hx4) (fun x f=>Om) agf ⟨⟨5,1,List.map CV J,A8,rfl⟩,rfl,trivial⟩ rfl rfl)<|.aW<|AO h fun M hx5 h=>AL<|.a 3<|.e [.box (Ag (EK dH)),(BX []),(BX u),(BX z),(BX J),(BX L),(BX M)] (IZ (dP:=[.aS 5,Cx dH.Via]) (eU:=[.d (.sl (List.map CV L)),Cx dH.Via]) (V3 L dH.Via M hx5) (fun x f=>Om) aDZ ⟨⟨5,1,List.map CV L,A8,rfl⟩,rfl,trivial⟩ rfl rfl)<|.aW<|AO h fun O hx6 h=>AL<|.a 3<|.e [.box (Ag (EK dH)),(BX []),(BX u),(BX z),(BX J),(BX L),(BX M),(BX O)] (IZ (dP:=[.aS 6,GV dH.Allow]) (eU:=[.d (.sl (List.map CV M)),GV dH.Allow]) (aaE M dH.Allow O hx6) (fun x f=>Om) adh ⟨⟨5,1,List.map CV M,A8,rfl⟩,rfl,trivial⟩ rfl rfl)<|.aW<|AO h fun x7 hx7 h=>AL<|.a 3<|.e [.box (Ag (EK dH)),(BX []),(BX u),(BX z),(BX J),(BX L),(BX M),(BX O),(BX x7)] (IZ (dP:=[.aS 7,GV dH.gu]) (eU:=[.d (.sl (List.map CV O)),GV dH.gu]) (aaE O dH.gu x7 hx7) (fun x f=>Om) adh ⟨⟨5,1,List.map CV O,A8,rfl⟩,rfl,trivial⟩ rfl rfl)<|.aW<|AU<|AO h fun x8 zn h=>AL<|.a 3<|.p (BQ ES dH.Levels.Users FU rfl)<|.e [.box (Ag (EK dH)),(BX []),(BX u),(BX z),(BX J),(BX L),(BX M),(BX O),(BX x7),.box (Ag (Ea dH.Levels)),(BX x8)] (IZ (dP:=[.aS 8,AQ (dH.Levels.Users.length:Int)]) (eU:=[.d (.sl (List.map CV x7)),AQ (dH.Levels.Users.length:Int)]) (Ln x7 (dH.Levels.Users.length:Int) x8 zn) (fun x f=>Om) XR ⟨⟨5,1,List.map CV x7,A8,rfl⟩,rfl,trivial⟩ rfl rfl)<|.aW<|Aa<|AU<|AB.block<|Dt (fun I v10=>⟨BN 109 [(3,.aS 0),(4,.ptr 1 0),(5,AQ v10)],[(BX I),.box (Ag (Ea dH.Levels))],0⟩) _ _ _ _ (Ad 109 56 [(10,true),(9,true)]) h<|fun J35 k11 ax8 I v10 h=>Aa<|AL<|.a 3<|.p (BQ ES dH.Levels.Users FU rfl)<|.aW<|Ae h (fun h=>AB.skip<|Aa<|AB.block<|CB h fun U asF m asD h=>AL<|.a 4<|.p (BP ES asF FU Ji rfl)<|.a 2<|.e [(BX I),.box (Ag (Ea dH.Levels)),(BX m)] (IZ (dP:=[.aS 0,Cx U.User]) (eU:=[.d (.sl (List.map CV I)),Cx U.User]) (V3 I U.User m asD) (fun x f=>Om) aDZ ⟨⟨5,1,List.map CV I,A8,rfl⟩,rfl,trivial⟩ rfl rfl)<|.aW<|CB h fun Y ak4 x16 hx16 h=>BH<|.a 4<|.p (BP ES ak4 FU Ji rfl)<|.a 2<|.e [(BX I),.box (Ag (Ea dH.Levels)),(BX m),(BX x16)] (IZ (dP:=[.aS 2,AQ Y.N]) (eU:=[.d (.sl (List.map CV m)),AQ Y.N]) (Ln m Y.N x16 hx16) (fun x f=>Om) XR ⟨⟨5,1,List.map CV m,A8,rfl⟩,rfl,trivial⟩ rfl rfl)<|.a 1<|.nil<|BH<|.a 3<|.nil<|ax8 _ _ _ (Ad 109 56 [(3,true),(1,true)]) h) fun h=>AB.exit<|AO h fun x17 akU h=>AL<|.a 3<|.p (BQ EY dH.Levels.Kinds FX rfl)<|.e [(BX I),.box (Ag (Ea dH.Levels)),(BX x17)] (IZ (dP:=[.aS 0,AQ (dH.Levels.Kinds.length:Int)]) (eU:=[.d (.sl (List.map CV I)),AQ (dH.Levels.Kinds.length:Int)]) (Ln I (dH.Levels.Kinds.length:Int) x17 akU) (fun x f=>Om) XR ⟨⟨5,1,List.map CV I,A8,rfl⟩,rfl,trivial⟩ rfl rfl)<|.aW<|Aa<|AU<|AB.block<|Dt (fun j v19=>⟨BN 109 [(3,.aS 0),(4,.ptr 1 0),(6,AQ v19)],[(BX j),.box (Ag (Ea dH.Levels))],0⟩) _ _ _ _ (Ad 109 88 [(2,true),(1,true)]) h<|fun J34 k20 ax9 j v19 h=>Aa<|AL<|.a 3<|.p (BQ EY dH.Levels.Kinds FX rfl)<|.aW<|Ae h (fun h=>AB.skip<|Aa<|AB.block<|CB h fun Z aeU q aeV h=>AL<|.a 4<|.p (BP EY aeU FX Jo rfl)<|.a 2<|.e [(BX j),.box (Ag (Ea dH.Levels)),(BX q)] (IZ (dP:=[.aS 0,AQ Z.Kind]) (eU:=[.d (.sl (List.map CV j)),AQ Z.Kind]) (Ln j Z.Kind q aeV) (fun x f=>Om) XR ⟨⟨5,1,List.map CV j,A8,rfl⟩,rfl,trivial⟩ rfl rfl)<|.aW<|CB h fun x24 hx24 x25 hx25 h=>BH<|.a 4<|.p (BP EY hx24 FX Jo rfl)<|.a 2<|.e [(BX j),.box (Ag (Ea dH.Levels)),(BX q),(BX x25)] (IZ (dP:=[.aS 2,AQ x24.N]) (eU:=[.d (.sl (List.map CV q)),AQ x24.N]) (Ln q x24.N x25 hx25) (fun x f=>Om) XR ⟨⟨5,1,List.map CV q,A8,rfl⟩,rfl,trivial⟩ rfl rfl)<|.a 1<|.nil<|BH<|.a 3<|.nil<|ax9 _ _ _ (Ad 109 88 [(3,true),(1,true)]) h) fun h=>AB.exit<|AO h fun Gl Gm h=>AL<|.a 1<|.ca (ajd dH.Levels Gl Gm).view<|.aW<|Aa<|AU<|AB.block<|Dt (fun s v28=>⟨BN 109 [(3,.aS 0),(7,Bz Gl),(8,AQ v28)],[(BX s)],0⟩) _ _ _ _ (Ad 109 392 [(0,true)]) h<|fun J33 k29 ak1 s v28 h=>Aa<|AL<|.a 2<|.p (BQ AV Gl Bv rfl)<|.aW<|Ae h (fun h=>AB.skip<|Aa<|AB.block<|CB h fun x31 hx31 x32 hx32 h=>BH<|.a 3<|.p (BP AV hx31 Bv D5 rfl)<|.a 1<|.e [(BX s),(BX x32)] (IZ (dP:=[.aS 0,AQ x31]) (eU:=[.d (.sl (List.map CV s)),AQ x31]) (Ln s x31 x32 hx32) (fun x f=>Om) XR ⟨⟨5,1,List.map CV s,A8,rfl⟩,rfl,trivial⟩ rfl rfl)<|.a 1<|.nil<|BH<|.a 3<|.nil<|ak1 _ _ _ (Ad 109 392 [(1,true)]) h) fun h=>Ny
def aGH  :Option Int:=some 860922984064492325
def agI  (r:Int) (h:aGH=some r):BF 326 [] [] (AQ r) []:=Ak.aG Tryz.func326 rfl<|Z9
def aG2 (f:AZ) (q:(Int→Int→Option Int)):Int→Int→Option Int:=fun m j=>(bif decide (j<(f.length:Int))then(BK f j).bind fun s=>(Uu (IntKind.u64.wrap ((Du .xor .u64 m (IntKind.u64.wrap s))*1099511628211)) 4611686018427387904).bind fun u=>q u (BJ (j+1))else some (BJ m))
def aeP (f:AZ):Int→Int→Option Int:=aX (aG2 f) BA
def aF1 (f:Int) (j:AZ):Option Int:=(Uu (IntKind.u64.wrap f) 4611686018427387904).bind fun m=>aeP j m 0
def ahs (ahy gV r) (h:aF1 ahy gV=some r):BF 325 [AQ ahy,GK gV] [] (AQ r) []:=Ak.aG Tryz.func325 rfl<|AU<|AO h fun J f h=>AL<|.a 2<|.p (aEC (k:=.u64) f rfl)<|.aW<|Aa<|AU<|AB.block<|Dt (fun j z=>⟨BN 27 [(1,GK gV),(5,.d ((Qo .u64) j)),(6,AQ z)],[],0⟩) _ _ _ _ (Ad 27 98 []) h<|fun L M m j z h=>Aa<|AL<|.a 2<|.p (BQ CV gV UK rfl)<|.aW<|Ae h (fun h=>AB.skip<|Aa<|AB.block<|CB h fun I q O s h=>BH<|.a 3<|.p (BP CV q UK aDQ rfl)<|.a 2<|.p (aIr (k:=.u64) (u:=j) (v:=(IntKind.u64.wrap I)) rfl)<|.a 1<|.p (aEC (k:=.u64) s rfl)<|.a 1<|.nil<|BH<|.a 3<|.nil<|m _ _ _ (Ad 27 98 []) h) fun h=>Eu
def lY (f:AZ):Option Int:=(aGH).bind fun j=>(aF1 j f).bind fun m=>some m
def aK6 (fJ r) (h:lY fJ=some r):BF 244 [GK fJ] [] (AQ r) []:=Ak.aG Tryz.func244 rfl<|AU<|CB h fun m f q j h=>AL<|.ca (agI  m f)<|.a 1<|.ca (ahs m fJ q j)<|.aW<|CS
def yN (f:AP):Option Int:=(jd f.Content).bind fun j=>(lY j).bind fun m=>some m
def ahg (aO r) (h:yN aO=some r):BF 243 [Dj aO] [] (AQ r) []:=Ak.aG Tryz.func243 rfl<|AU<|CB h fun m f q j h=>AL<|.a 2<|.ca (aLQ aO.Content m f).view<|.ca (aK6 m q j)<|.aW<|CS
def zl (f:AP):Option Bool:=(yN f).bind fun j=>some (j==f.Hash)
def ade (aO r) (h:zl aO=some r):BF 186 [Dj aO] [] (Ah r) []:=Ak.aG Tryz.func186 rfl<|AU<|AO h fun j f h=>GX A8 A8 A8 (.a 1<|.ca (ahg aO j f)<|.a 4<|.nil _)<|CS
def lG (j:Int) (f:Bo):Option Bo:=(bif (j==1)then some f else(bif (j==2)then some ({ DW with N:=f.N,Via:=f.Via })else(bif (j==3)then some ({ DW with Levels:=f.Levels })else(bif (j==4)then some ({ DW with N:=f.N,Allow:=f.Allow })else(bif (j==5)then some ({ DW with N:=f.N })else(bif (j==6)then some ({ DW with Allow:=f.Allow,gu:=f.gu })else(bif (j==14)then some ({ DW with Target:=f.Target })else some DW)))))))
def aao (dF dR r) (h:lG dF dR=some r):BF 94 [AQ dF,G7 dR] [] (G7 r) []:=Ak.aG Tryz.func94 rfl<|AU<|Aa<|AU<|AB.block<|AU<|Ae h (fun h=>AU<|AB.ret<|by rw[←CU h];exact⟨[G7 dR],[],⟨⟨1,Ag (EK dR),true,16,A8,A8,A8,Ro,Eb A8,QV,A8⟩,trivial⟩,A8,A8,A8⟩) fun h=>AU<|Ae h (fun h=>AU<|AB.ret<|by rw[←CU h];exact⟨[G7 ({ DW with N:=dR.N,Via:=dR.Via })],[],⟨⟨1,Ag (EK ({ DW with N:=dR.N,Via:=dR.Via })),true,16,A8,A8,A8,Ro,Eb A8,QV,A8⟩,trivial⟩,A8,A8,A8⟩) fun h=>AU<|Ae h (fun h=>AU<|AB.ret<|by rw[←CU h];exact⟨[G7 ({ DW with Levels:=dR.Levels })],[],⟨⟨1,Ag (EK ({ DW with Levels:=dR.Levels })),true,16,A8,A8,A8,Ro,Eb A8,QV,A8⟩,trivial⟩,A8,A8,A8⟩) fun h=>AU<|Ae h (fun h=>AU<|AB.ret<|by rw[←CU h];exact⟨[G7 ({ DW with N:=dR.N,Allow:=dR.Allow })],[],⟨⟨1,Ag (EK ({ DW with N:=dR.N,Allow:=dR.Allow })),true,16,A8,A8,A8,Ro,Eb A8,QV,A8⟩,trivial⟩,A8,A8,A8⟩) fun h=>AU<|Ae h (fun h=>AU<|AB.ret<|by rw[←CU h];exact⟨[G7 ({ DW with N:=dR.N })],[],⟨⟨1,Ag (EK ({ DW with N:=dR.N })),true,16,A8,A8,A8,Ro,Eb A8,QV,A8⟩,trivial⟩,A8,A8,A8⟩) fun h=>AU<|Ae h (fun h=>AU<|AB.ret<|by rw[←CU h];exact⟨[G7 ({ DW with Allow:=dR.Allow,gu:=dR.gu })],[],⟨⟨1,Ag (EK ({ DW with Allow:=dR.Allow,gu:=dR.gu })),true,16,A8,A8,A8,Ro,Eb A8,QV,A8⟩,trivial⟩,A8,A8,A8⟩) fun h=>AU<|Ae h (fun h=>AU<|AB.ret<|by rw[←CU h];exact⟨[G7 ({ DW with Target:=dR.Target })],[],⟨⟨1,Ag (EK ({ DW with Target:=dR.Target })),true,16,A8,A8,A8,Ro,Eb A8,QV,A8⟩,trivial⟩,A8,A8,A8⟩) fun h=>AB.skip<|AU<|AB.ret<|by rw[←CU h];exact⟨[G7 DW],[],⟨⟨1,Ag (EK DW),true,16,A8,A8,A8,Ro,Eb A8,QV,A8⟩,trivial⟩,A8,A8,A8⟩
def zA (f:AP):Option AP:=(lG f.Kind f.Content).bind fun j=>some ({ f with Content:=j })
def aiN (aO r) (h:zA aO=some r):BF 51 [Dj aO] [] (Dj r) []:=Ak.aG Tryz.func51 rfl<|AU<|AO h fun f j h=>AL<|.a 4<|.ca (aao aO.Kind aO.Content f j)<|acK
def aHn (f:AZ) (q:(AZ→Int→Option AZ)):AZ→Int→Option AZ:=fun m j=>(bif decide (j<(f.length:Int))then(BK f j).bind fun s=>(iP s).bind fun u=>(DN 1 m u).bind fun z=>q z (BJ (j+1))else some m)
def adG (f:AZ):AZ→Int→Option AZ:=aX (aHn f) BA
def bZ (j:AZ) (f:AZ):Option AZ:=(JB j (f.length:Int)).bind fun m=>adG f m 0
def aML (fJ dh r) (h:bZ fJ dh=some r):BF 330 [GK fJ,Bz dh] [] (.aS 0) [(BX r)]:=Ak.aG Tryz.func330 rfl<|AL<|.e [(BX [])] (Cc 5 1 rfl)<|.aY<|AO h fun u f h=>AL<|.a 2<|.p (BQ AV dh Bv rfl)<|.e (x:=.aS 1) [(BX []),(BX u)] (Nl [GK fJ,AQ (dh.length:Int)] (Ln fJ (dh.length:Int) u f) rfl)<|.aW<|Aa<|AU<|AB.block<|Dt (fun z I=>⟨BN 25 [(1,Bz dh),(5,.aS 0),(6,AQ I)],[(BX z)],0⟩) _ _ _ _ (Ad 25 98 [(1,true)]) h<|fun O U j z I h=>Aa<|AL<|.a 2<|.p (BQ AV dh Bv rfl)<|.aW<|Ae h (fun h=>AB.skip<|Aa<|AB.block<|Pn h fun J m L q M s h=>BH<|.a 3<|.p (BP AV m Bv D5 rfl)<|.a 1<|.ca (aK1 J L q).view<|.e [.dead,(BX M)] (E8 (k:=0) CV s I8 A8 (fun _=>rfl) BU rfl)<|.a 1<|.nil<|BH<|.a 3<|.nil<|j _ _ _ (Ad 25 98 [(1,true)]) h) fun h=>Ny
def lI (f:AP):Option AZ:=(JB [] f.Id).bind fun I=>(PL I f.Room).bind fun J=>(PL J f.bF).bind fun L=>(JB L f.Kind).bind fun M=>(bP M f.State).bind fun O=>(PL O f.Key).bind fun U=>(JB U f.Time).bind fun Y=>(JB Y f.Depth).bind fun Z=>(bZ Z f.bD).bind fun x9=>(bZ x9 f.bM).bind fun j=>(jd f.Content).bind fun m=>(PL j (Nr m)).bind fun q=>(JB q f.Hash).bind fun s=>(PL s f.pR.Server).bind fun u=>(JB u f.pR.Sum).bind fun z=>some z
def as5 (aO r) (h:lI aO=some r):BF 245 [Dj aO] [] (.aS 0) [(BX r)]:=Ak.aG Tryz.func245 rfl<|AL<|.a 1<|.e [.box (Ag (Am aO)),(BX [])] (Cc 5 1 rfl)<|.aY<|AO h fun U Y h=>AL<|.a 2<|.p (x:=(GK U)) (adZ [.d (.lit (.slice none 0 0)),AQ aO.Id] (Ln [] aO.Id U Y).view rfl)<|.aW<|AO h fun x2 Z h=>AL<|.a 3<|.ca (V3 U aO.Room x2 Z).view<|.aW<|AO h fun x3 hx3 h=>AL<|.a 3<|.ca (V3 x2 aO.bF x3 hx3).view<|.aW<|AO h fun x4 hx4 h=>AL<|.a 3<|.ca (Ln x3 aO.Kind x4 hx4).view<|.aW<|AO h fun x5 hx5 h=>AL<|.a 3<|.ca (aJS x4 aO.State x5 hx5).view<|.aW<|AO h fun x6 hx6 h=>AL<|.a 3<|.ca (V3 x5 aO.Key x6 hx6).view<|.aW<|AO h fun x7 hx7 h=>AL<|.a 3<|.ca (Ln x6 aO.Time x7 hx7).view<|.aW<|AO h fun x8 zn h=>AL<|.a 3<|.ca (Ln x7 aO.Depth x8 zn).view<|.aW<|AO h fun x9 Fp h=>AL<|.a 3<|.ca (aML x8 aO.bD x9 Fp).view<|.aW<|AO h fun m q h=>AL<|.a 3<|.ca (aML x9 aO.bM m q).view<|.aW<|CB h fun f s u z h=>AL<|.a 3<|.ca (aLQ aO.Content f s).view<|.p (acr (l:=f) UK rY FI rfl)<|.ca (V3 m (Nr f) u z).view<|.aW<|AO h fun I J h=>AL<|.a 3<|.ca (Ln u aO.Hash I J).view<|.aW<|AO h fun j L h=>AL<|.a 4<|.ca (V3 I aO.pR.Server j L).view<|.aW<|AO h fun M O h=>AL<|.a 4<|.e (x:=.aS 2) [.box (Ag (Am aO)),(BX []),(BX M)] (Nl [GK j,AQ aO.pR.Sum] (Ln j aO.pR.Sum M O) rfl)<|.aW<|Ky
def yE (f:AP):Option Int:=(zA f).bind fun j=>(lI ({ { j with Id:=0 }with pR:=WX })).bind fun m=>(lY m).bind fun q=>some q
def aqC (aO r) (h:yE aO=some r):BF 187 [Dj aO] [] (AQ r) []:=Ak.aG Tryz.func187 rfl<|AU<|AO h fun s f h=>AL<|.a 1<|.ca (aiN aO s f)<|.aW<|AU<|CB h fun q j u m h=>AL<|.a 1<|.ca (as5 _ q j).view<|.ca (aK6 q u m)<|.aW<|CS
def wX (f:ByteArray):Option ByteArray:=(Xl f 64).bind fun j=>(bif (!j)then(Xl f 33).bind fun m=>some (!m)else some false).bind fun q=>(bif q then some BZ else(mP f).bind fun s=>(Lp f (BJ (s+1)) ((f).size)).bind fun u=>some u)
def aMe (zT r) (h:wX zT=some r):BF 188 [Cx zT] [] (Cx r) []:=Ak.aG Tryz.func188 rfl<|AU<|Aa<|AO h fun u f h=>AL<|.a 1<|.ca (yG zT 64 u f)<|.a 1<|AO h fun z j h=>.mg 6 4 (Ah z) (.bi j (fun h=>AO h fun I m h=>.a 1<|.ca (yG zT 33 I m)<|.aW<|CM))<|.aY<|Ae h Bf fun h=>AB.skip<|CB h fun J q M s h=>AL<|.a 2<|.ca (acU zT J q)<|.a 1<|.p (bH s (by intro L;cases L) (fun _=>rfl) FI rfl)<|.aW<|CS
def yC (f:Bool):Option Int:=(bif f then some 12 else some 0)
def TD (f:AP) (m:Bool):Option Int:=(bif m then some 6 else(yE f).bind fun q=>(bif (q != f.Id)then some 11 else(wX f.bF).bind fun j=>(bif (!(f.pR.Server.toList==j.toList))then yC true else yC (f.pR.Sum != f.Id))))
def Rq (f:AP):Option Int:=(W9 f).bind fun s=>(bif (s != 0)then some s else(zl f).bind fun j=>(bif (!j)then(lG f.Kind f.Content).bind fun m=>(WI f.Content m).bind fun q=>TD f (!q)else TD f false))
def aik (aO r) (h:Rq aO=some r):BF 131 [Dj aO] [] (AQ r) []:=Ak.aG Tryz.func131 rfl<|AU<|Aa<|AO h fun x1 U h=>AL<|.a 1<|.ca (aq8 aO x1 U)<|.aW<|AU<|Ae h Bf fun h=>AB.skip<|Aa<|DJ (fun s=>∃(Y:Bool),CG s ⟨BN 43 [(1,.ptr 0 0),(22,Ah Y)],[.box (Ag (Am aO))],0⟩∧TD aO Y=some r) (by rintro s ⟨Y,Z,h⟩;exact Ce Z<|Ae h Bf fun h=>AB.skip<|Aa<|AO h fun x5 hx5 h=>GX A8 A8 A8 (.a 1<|.ca (aqC aO x5 hx5)<|.a 3<|.nil _)<|Ae h Bf fun h=>AB.skip<|Aa<|DJ (fun s=>∃(v7:Bool),CG s ⟨BN 43 [(42,Ah v7)],[],0⟩∧yC v7=some r) (by rintro s ⟨v7,Z,h⟩;exact Ce Z<|Ae h Bf fun h=>NY)<|fun K9=>AO h fun u m h=>FW h (fun f h=>AB.draw A8 A8 A8 (.a 5<|.ca (aMe aO.bF u m)<|.a 1<|.c (Ba some f)<|.a 7<|.nil _)<|K9 _ ⟨true,Ad 43 4398046511104 [],h⟩) fun f h=>AB.draw A8 A8 A8 (.a 5<|.ca (aMe aO.bF u m)<|.a 1<|.c (Ba some f)<|.a 7<|.nil _)<|K9 _ ⟨(aO.pR.Sum != aO.Id),Ad 43 4398046511104 [],h⟩)<|fun z=>AO h fun I q h=>FW h (fun j h=>CB h fun J L M O h=>AB.draw A8 A8 A8 (.a 1<|.ca (ade aO I q)<|.a 1<|.c (Ba some j)<|.a 6<|.ca (aao aO.Kind aO.Content J L)<|.ca (aLt aO.Content J M O)<|.a 2<|.nil _)<|z _ ⟨(!M),Ad 43 4194306 [(0,true)],h⟩) fun j h=>AB.draw A8 A8 A8 (.a 1<|.ca (ade aO I q)<|.a 1<|.c (Ba some j)<|.a 10<|.nil _)<|z _ ⟨false,Ad 43 4194306 [(0,true)],h⟩
def qj (f:Aq) (m:(Int→Option Int)):Int→Option Int:=fun j=>(bif decide (j<(f.length:Int))then(BK f (BJ (j-1))).bind fun q=>(BK f j).bind fun s=>(bif decide (q.Id≥s.Id)then some 8 else m (BJ (j+1)))else some 0)
def uG (f:Aq):Int→Option Int:=bn (qj f) BA
def jy (f:Aq) (s:(Int→Option Int)):Int→Option Int:=fun j=>(bif decide (j<(f.length:Int))then(BK f j).bind fun m=>(BK f 0).bind fun q=>(bif (!(m.Room.toList==q.Room.toList))then some 13 else s (BJ (j+1)))else uG f 1)
def aBw (f:Aq):Int→Option Int:=bn (jy f) BA
def Zr (f:Aq) (q:(Int→Option Int)):Int→Option Int:=fun j=>(bif decide (j<(f.length:Int))then(BK f j).bind fun s=>(Rq s).bind fun m=>(bif (m != 0)then some m else q (BJ (j+1)))else aBw f 1)
def zu (f:Aq):Int→Option Int:=bn (Zr f) BA
def Oi (f:Aq):Option Int:=(bif decide ((f.length:Int)>2000)then some 7 else zu f 0)
def af4 (aB r) (h:Oi aB=some r):BF 91 [BR aB] [] (AQ r) []:=Ak.aG Tryz.func91 rfl<|AU<|Aa<|AL<|.a 1<|.p (BQ Am aB Ci rfl)<|.aW<|Ae h Bf fun h=>AB.skip<|Aa<|AU<|AB.block<|Dx (fun M=>⟨BN 58 [(0,BR aB),(3,AQ M)],[],0⟩) _ _ _ (Ad 58 9 []) h<|fun U k3 z M h=>Aa<|AL<|.a 2<|.p (BQ Am aB Ci rfl)<|.aW<|Ae h (fun h=>AB.skip<|Aa<|AB.block<|CB h fun Y I Z J h=>AL<|.a 2<|.p (BP Am I Ci DY rfl)<|.a 1<|.ca (aik Y Z J)<|.aW<|AU<|Ae h Bf fun h=>AB.skip<|BH<|.a 3<|.nil<|z _ _ (Ad 58 9 []) h) fun h=>AB.exit<|Aa<|AU<|AB.block<|Dx (fun O=>⟨BN 58 [(0,BR aB),(5,AQ O)],[],0⟩) _ _ _ (Ad 58 33 []) h<|fun J21 k9 L O h=>Aa<|AL<|.a 2<|.p (BQ Am aB Ci rfl)<|.aW<|Ae h (fun h=>AB.skip<|Aa<|AB.block<|CB h fun x11 f x12 j h=>GX A8 A8 A8 (.a 2<|.p (BP Am f Ci DY rfl)<|.a 3<|.p (BP Am j Ci DY rfl)<|.a 3<|.nil _)<|Ae h Bf fun h=>AB.skip<|BH<|.a 3<|.nil<|L _ _ (Ad 58 33 []) h) fun h=>AB.exit<|Aa<|AU<|AB.block<|Dx (fun m=>⟨BN 58 [(0,BR aB),(6,AQ m)],[],0⟩) _ _ _ (Ad 58 65 []) h<|fun J20 k15 q m h=>Aa<|AL<|.a 2<|.p (BQ Am aB Ci rfl)<|.aW<|Ae h (fun h=>AB.skip<|Aa<|AB.block<|CB h fun x17 s x18 u h=>GX A8 A8 A8 (.a 3<|.p (BP Am s Ci DY rfl)<|.a 4<|.p (BP Am u Ci DY rfl)<|.a 3<|.nil _)<|Ae h Bf fun h=>AB.skip<|BH<|.a 3<|.nil<|q _ _ (Ad 58 65 []) h) fun h=>Eu
def Td (q:Int) (m:Int) (s:(Int→AZ→Option AZ)):Int→AZ→Option AZ:=fun f j=>(bif decide (f>q)then(BK j (BJ (f-1))).bind fun u=>(BK j f).bind fun z=>s (BJ (f-1)) (j.set (f).toNat u)else(BK j q).bind fun I=>some (j.set (q).toNat m))
def akx (j:Int) (f:Int):Int→AZ→Option AZ:=aX (Td j f) BA
def aFZ (f:AZ) (j:Int) (k2:(Int→Option AZ)):Int→Option AZ:=fun m=>(bif decide (m<(f.length:Int))then(BK f m).bind fun s=>some (decide (s<j))else some false).bind fun u=>(bif u then k2 (BJ (m+1))else(bif decide (m<(f.length:Int))then(BK f m).bind fun z=>some (z==j)else some false).bind fun I=>(bif I then some f else(DN 8 f [j]).bind fun q=>akx m j (BJ ((q.length:Int)-1)) q))
def aLf (f:AZ) (j:Int):Int→Option AZ:=bn (aFZ f j) BA
def bK (f:AZ) (j:Int):Option AZ:=aLf f j 0
def aEU (aB qw r) (h:bK aB qw=some r):BF 248 [.aS 0,AQ qw] [(BL aB)] (.aS 1) [.dead,(BL r)]:=Ak.aG Tryz.func248 rfl<|AL<|.e [(BL aB),(BL [])] (Cc 3 1 rfl)<|.aY<|AU<|Aa<|AB.block<|Dx (fun I=>⟨BN 59 [(0,.aS 1),(1,AQ qw),(5,AQ I)],[.dead,(BL aB)],1⟩) _ _ _ (Ad 59 35 [(0,false),(0,true)]) h<|fun J20 k2 Y I h=>Aa<|AL<|.a 2<|.p (NW (k:=1) (e':=3) (s:=1) AV aB A8 Bv rfl)<|.a 1<|AO h fun x3 Z h=>.mg 11 7 (Ah x3) (.bi Z (fun h=>AO h fun x5 J h=>.a 2<|.p (KL (e':=3) (kd:=.i64) AV J (k:=1) A8 Bv D5 rfl)<|.p (x:=(AQ x5)) (QW (e:=3) (size:=1) (k:=1) (i:=(I).toNat) (off:=0) AV A8 A8 (Hz J).2 D5 (Eb A8) (fun _=>rfl) rfl)<|.aW<|CM))<|.aY<|Ae h (fun h=>AB.skip<|AB.block<|BH<|.a 3<|.nil<|Y _ _ (Ad 59 35 [(0,false),(1,true)]) h) fun h=>AB.exit<|Aa<|AL<|.a 2<|.p (NW (k:=1) (e':=3) (s:=1) AV aB A8 Bv rfl)<|.a 1<|AO h fun x7 hx7 h=>.mg 25 7 (Ah x7) (.bi hx7 (fun h=>AO h fun x9 L h=>.a 2<|.p (KL (e':=3) (kd:=.i64) AV L (k:=1) A8 Bv D5 rfl)<|.p (x:=(AQ x9)) (QW (e:=3) (size:=1) (k:=1) (i:=(I).toNat) (off:=0) AV A8 A8 (Hz L).2 D5 (Eb A8) (fun _=>rfl) rfl)<|.aW<|CM))<|.aY<|Ae h (fun h=>AU<|vM) fun h=>AB.skip<|AO h fun M O h=>AL<|.a 2<|.p (EG ET zero3 [AV qw] rfl)<|.e [.dead,.dead,(BL M)] (E8 (k:=1) AV O ET A8 (fun _=>rfl) BU rfl)<|.aW<|Aa<|AL<|.a 1<|.p (NW (k:=2) (e':=3) (s:=1) AV M A8 Bv rfl)<|.aW<|AB.block<|Dt (fun f j=>⟨BN 59 [(0,.aS 1),(1,AQ qw),(5,AQ I),(6,AQ f)],[.dead,(BL j)],1⟩) _ _ _ _ (Ad 59 99 [(0,false),(2,true)]) h<|fun J19 k14 U f j h=>Aa<|AU<|Ae h (fun h=>AB.skip<|Aa<|AB.block<|CB h fun m q x17 u h=>BH<|.a 5<|.p (KL (e':=3) (kd:=.i64) AV q (k:=1) A8 Bv D5 rfl)<|.p (x:=(AQ m)) (QW (e:=3) (size:=1) (k:=1) (i:=(BJ (f-1)).toNat) (off:=0) AV A8 A8 (Hz q).2 D5 (Eb A8) (fun _=>rfl) rfl)<|.p (KL (e':=3) (kd:=.i64) AV u (k:=1) A8 Bv D5 rfl)<|.e [.dead,(BL (j.set (f).toNat m))] (Xf (e:=3) (size:=1) (v:=(AQ m)) (k:=1) (i:=(f).toNat) (off:=0) (a':=m) AV A8 (Hz u).2 A8 (D5).size A8 (Eb A8) A8 (fun _=>rfl) rfl)<|.nil<|BH<|.a 3<|.nil<|U _ _ _ (Ad 59 99 [(0,false),(1,true)]) h) fun h=>AB.exit<|AO h fun x18 z h=>AL<|.a 3<|.p (KL (e':=3) (kd:=.i64) AV z (k:=1) A8 Bv D5 rfl)<|.e [.dead,(BL (j.set (I).toNat qw))] (Xf (e:=3) (size:=1) (v:=(AQ qw)) (k:=1) (i:=(I).toNat) (off:=0) (a':=qw) AV A8 (Hz z).2 A8 (D5).size A8 (Eb A8) A8 (fun _=>rfl) rfl)<|.aY<|AU<|vM
def aHQ (f:Aq) (q:Int) (L:(AZ→Int→Option AZ)) (s:(AZ→Int→Option AZ)):AZ→Int→Option AZ:=fun m j=>(BK f q).bind fun u=>(bif decide (j<(u.bM.length:Int))then(BK f q).bind fun z=>(BK z.bM j).bind fun I=>(bK m I).bind fun J=>s J (BJ (j+1))else L m (BJ (q+1)))
def wB (f:Aq) (j:Int) (m:(AZ→Int→Option AZ)):AZ→Int→Option AZ:=aX (aHQ f j m) BA
def aGN (f:Aq) (j:Int) (I:(AZ→Int→Option AZ)) (J:(AZ→Int→Option AZ)):AZ→Int→Option AZ:=fun z m=>(BK f j).bind fun L=>(bif decide (m<(L.bD.length:Int))then(BK f j).bind fun q=>(BK q.bD m).bind fun s=>(bK z s).bind fun u=>J u (BJ (m+1))else wB f j I z 0)
def aH9 (f:Aq) (j:Int) (m:(AZ→Int→Option AZ)):AZ→Int→Option AZ:=aX (aGN f j m) BA
def aGr (f:Aq) (q:(AZ→Int→Option AZ)):AZ→Int→Option AZ:=fun j m=>(bif decide (m<(f.length:Int))then aH9 f m q j 0 else some j)
def aL8 (f:Aq):AZ→Int→Option AZ:=aX (aGr f) BA
def aBf (f:Aq):Option AZ:=aL8 f [] 0
def aq6 (aB r) (h:aBf aB=some r):BF 190 [BR aB] [] (.aS 0) [(BL r)]:=Ak.aG Tryz.func190 rfl<|AL<|.e [(BL [])] (Cc 3 1 rfl)<|.aY<|AL<|.e [(BL []),(BL [])] (Cc 3 1 rfl)<|.aY<|Aa<|AU<|AB.block<|Dt (fun v1 Z=>⟨BN 54 [(0,BR aB),(3,.aS 0),(4,AQ Z)],[(BL v1)],0⟩) _ _ _ _ (Ad 54 25 [(1,true)]) h<|fun J23 k3 hk3 v1 Z h=>Aa<|AL<|.a 2<|.p (BQ Am aB Ci rfl)<|.aW<|Ae h (fun h=>AB.skip<|Aa<|AB.block<|Aa<|AU<|AB.block<|Dt (fun v5 v6=>⟨BN 54 [(0,BR aB),(3,.aS 0),(4,AQ Z),(5,AQ v6)],[(BL v5)],0⟩) _ _ _ _ (Ad 54 57 [(0,true)]) h<|fun J22 k7 hk7 v5 v6 h=>Aa<|AO h fun x8 zn h=>AL<|.a 3<|.p (BP Am zn Ci DY rfl)<|.a 2<|.p (BQ AV x8.bD Bv rfl)<|.aW<|Ae h (fun h=>AB.skip<|Aa<|AB.block<|Pn h fun x10 j m q s u h=>BH<|.a 3<|.p (BP Am j Ci DY rfl)<|.a 3<|.p (BP AV q Bv D5 rfl)<|.a 1<|.e (x:=.aS 1) [.dead,(BL s)] (Di [.ent 0] [.aS 0,AQ m] (aEU v5 m s u) rfl)<|.a 1<|.nil<|BH<|.a 3<|.nil<|hk7 _ _ _ (Ad 54 57 [(1,true)]) h) fun h=>AB.exit<|AU<|AB.block<|Dt (fun f z=>⟨BN 54 [(0,BR aB),(3,.aS 0),(4,AQ Z),(6,AQ z)],[(BL f)],0⟩) _ _ _ _ (Ad 54 89 [(0,true)]) h<|fun J21 k15 I f z h=>Aa<|AO h fun x16 J h=>AL<|.a 3<|.p (BP Am J Ci DY rfl)<|.a 2<|.p (BQ AV x16.bM Bv rfl)<|.aW<|Ae h (fun h=>AB.skip<|Aa<|AB.block<|Pn h fun x18 L M O U Y h=>BH<|.a 3<|.p (BP Am L Ci DY rfl)<|.a 3<|.p (BP AV O Bv D5 rfl)<|.a 1<|.e (x:=.aS 1) [.dead,(BL U)] (Di [.ent 0] [.aS 0,AQ M] (aEU f M U Y) rfl)<|.a 1<|.nil<|BH<|.a 3<|.nil<|I _ _ _ (Ad 54 89 [(1,true)]) h) fun h=>AB.exit<|BH<|.a 3<|.nil<|hk3 _ _ _ (Ad 54 25 [(0,true)]) h) fun h=>Ny
def aHO (f:Aq) (j:Int) (k2:(Int→Option Int)):Int→Option Int:=fun m=>(bif decide (m<(f.length:Int))then(BK f m).bind fun q=>(bif (q.Id==j)then some m else k2 (BJ (m+1)))else some (-1))
def aIo (j:Aq) (f:Int):Int→Option Int:=bn (aHO j f) BA
def mG (j:Aq) (f:Int):Option Int:=aIo j f 0
def aJ2 (aB eY r) (h:mG aB eY=some r):BF 69 [BR aB,AQ eY] [] (AQ r) []:=Ak.aG Tryz.func69 rfl<|AU<|Aa<|AU<|AB.block<|Dx (fun m=>⟨BN 20 [(0,BR aB),(1,AQ eY),(5,AQ m)],[],0⟩) _ _ _ (Ad 20 35 []) h<|fun q k2 f m h=>Aa<|AL<|.a 2<|.p (BQ Am aB Ci rfl)<|.aW<|Ae h (fun h=>AB.skip<|Aa<|AB.block<|AO h fun s j h=>AL<|.a 2<|.p (BP Am j Ci DY rfl)<|.aW<|Ae h Bf fun h=>AB.skip<|BH<|.a 3<|.nil<|f _ _ (Ad 20 35 []) h) fun h=>Eu
def aBn (f:(AZ→Int→Option AZ)) (j:Int) (m:AZ):Option AZ:=f m (BJ (j+1))
def aGj (f:AZ) (j:Aq) (z:(AZ→Int→Option AZ)):AZ→Int→Option AZ:=fun q m=>(bif decide (m<(f.length:Int))then(BK f m).bind fun I=>(mG j I).bind fun J=>(bif decide (J<0)then(BK f m).bind fun s=>(bK q s).bind fun u=>aBn z m u else aBn z m q)else some q)
def aJn (f:AZ) (j:Aq):AZ→Int→Option AZ:=aX (aGj f j) BA
def aC0 (j:Aq) (f:AZ):Option AZ:=aJn f j [] 0
def ani (aB fZ r) (h:aC0 aB fZ=some r):BF 189 [BR aB,Bz fZ] [] (.aS 0) [(BL r)]:=Ak.aG Tryz.func189 rfl<|AL<|.e [(BL [])] (Cc 3 1 rfl)<|.aY<|AL<|.e [(BL []),(BL [])] (Cc 3 1 rfl)<|.aY<|Aa<|AU<|AB.block<|Dt (fun u z=>⟨BN 27 [(0,BR aB),(1,Bz fZ),(5,.aS 0),(6,AQ z)],[(BL u)],0⟩) _ _ _ _ (Ad 27 99 [(1,true)]) h<|fun O U I u z h=>Aa<|AL<|.a 2<|.p (BQ AV fZ Bv rfl)<|.aW<|Ae h (fun h=>AB.skip<|DJ (fun s=>∃(J:(List Int)),CG s ⟨BN 27 [(0,BR aB),(1,Bz fZ),(5,.aS 0),(6,AQ z)],[(BL J)],0⟩∧aBn U z J=some r) (by rintro s ⟨J,Y,h⟩;exact Ce Y<|BH<|.a 3<|.nil<|I _ _ _ (Ad 27 99 [(0,true)]) h)<|fun K6=>AB.block<|CB h fun Z L x8 M h=>AL<|.a 3<|.p (BP AV L Bv D5 rfl)<|.a 1<|.ca (aJ2 aB Z x8 M)<|.aW<|Ae h (fun h=>CB h fun j m f q h=>BH<|.a 3<|.p (BP AV m Bv D5 rfl)<|.a 1<|.e (x:=.aS 1) [.dead,(BL f)] (Di [.ent 0] [.aS 0,AQ j] (aEU u j f q) rfl)<|.a 1<|.nil<|K6 _ ⟨f,Ad 27 99 [(1,true)],h⟩) fun h=>AB.skip<|K6 _ ⟨u,Ad 27 99 [(0,true)],h⟩) fun h=>Ny
def aBy (f:Aq):Option Bool:=(aBf f).bind fun j=>(aC0 f j).bind fun m=>some ((m.length:Int)==0)
def aiK (aB r) (h:aBy aB=some r):BF 132 [BR aB] [] (Ah r) []:=Ak.aG Tryz.func132 rfl<|AU<|CB h fun m f q j h=>AL<|.a 2<|.ca (aq6 aB m f).view<|.ca (ani aB m q j).view<|.p (BQ AV q Bv rfl)<|.aW<|CS
def iQ (f:Aq) (j:Int):Option (AP×Bool):=(mG f j).bind fun m=>(bif decide (m<0)then some (G5,false)else(BK f m).bind fun q=>some (q,true))
def aMr (aB eY r) (h:iQ aB eY=some r):BF 29 [BR aB,AQ eY] [] (.eH [Dj r.1,Ah r.2]) []:=Ak.aG Tryz.func29 rfl<|AU<|AO h fun s f h=>AL<|.a 2<|.ca (aJ2 aB eY s f)<|.aW<|Aa<|AU<|Ae h (fun h=>AU<|AB.ret<|aaq) fun h=>AB.skip<|AO h fun q m h=>AL<|.a 2<|.p (BP Am m Ci DY rfl)<|.aW<|AB.ret<|adp
def zL (f:AP) (m:Aq) (u:(Bool→Int→Option Bool)):Bool→Int→Option Bool:=fun q j=>(bif decide (j<(f.bD.length:Int))then(BK f.bD j).bind fun z=>(iQ m z).bind fun s=>(bif decide (s.1.Depth≥f.Depth)then some false else(bif q then some true else some (s.1.Depth==(BJ (f.Depth-1)))).bind fun I=>u I (BJ (j+1)))else some q)
def sJ (f:AP) (j:Aq):Bool→Int→Option Bool:=aX (zL f j) BA
def aB5 (f:AP) (j:Aq) (q:(Int→Option Bool)):Int→Option Bool:=fun m=>(bif decide (m<(f.bM.length:Int))then(BK f.bM m).bind fun s=>(iQ j s).bind fun u=>(bif decide (u.1.Depth≥f.Depth)then some false else q (BJ (m+1)))else sJ f j ((f.bD.length:Int)==0) 0)
def aHk (f:AP) (j:Aq):Int→Option Bool:=bn (aB5 f j) BA
def kC (j:Aq) (f:AP):Option Bool:=(bif ((f.bD.length:Int)==0)then some (f.Depth != 1)else some false).bind fun m=>(bif m then some false else aHk f j 0)
def akl (aB fO r) (h:kC aB fO=some r):BF 133 [BR aB,Dj fO] [] (Ah r) []:=by
 refine Ak.aG Tryz.func133 rfl ?_;unfold kC at h;refine AU<|Aa<|AL<|.a 2<|.p (BQ AV fO.bD Bv rfl)<|.a 1<|?_;obtain⟨x1,I,h⟩:=CY h;refine .mg 16 4 (Ah x1) ?_ ?_
 ·rcases aHi I with⟨f,h⟩|⟨f,h⟩
  ·refine .c (Ba some f)<|.aM 4 ?_;obtain rfl:=CU h;kernel_rfl
  refine .c (Ba some f)<|.aM 4 ?_;obtain rfl:=CU h;kernel_rfl
 refine .aY<|Ae h (fun h=>?_) fun h=>?_
 ·refine AL<|.aM 1 ?_;rw[←CU h];exact .ret (EO [])
 refine AB.skip<|Aa<|AU<|AB.block ?_;refine Dx (fun Z=>⟨BN 79 [(0,BR aB),(3,.ptr 0 0),(5,AQ Z)],[.box (Ag (Am fO))],0⟩) _ _ _ (Ad 79 41 [(0,true)]) h ?_;clear h;intro J20 k5 J Z h;unfold aB5 at h;refine Aa<|AL<|.a 3<|.p (BQ AV fO.bM Bv rfl)<|.aW<|Ae h (fun h=>?_) fun h=>?_
 ·refine AB.skip<|Aa<|AB.block ?_;obtain⟨x7,L,x8,M,h⟩:=Yd h;refine AL<|.a 4<|.p (BP AV L Bv D5 rfl)<|.a 1<|.ca (aMr aB x7 x8 M)<|.aW<|AU<|Ae h (fun h=>?_) fun h=>?_
  ·refine AL<|.aM 1 ?_;rw[←CU h];exact .ret (EO [])
  refine AB.skip<|BH<|.a 3<|.nil ?_;exact J _ _ (Ad 79 41 [(0,true)]) h
 refine AB.exit<|AL<|.a 2<|.p (BQ AV fO.bD Bv rfl)<|.aW<|Aa<|AU<|AB.block ?_;refine Dt (fun j m=>⟨BN 79 [(0,BR aB),(3,.ptr 0 0),(8,Ah j),(9,AQ m)],[.box (Ag (Am fO))],0⟩) _ _ _ _ (Ad 79 777 [(0,true)]) h ?_;clear h;intro J19 k12 q j m h;unfold zL at h;refine Aa<|AL<|.a 3<|.p (BQ AV fO.bD Bv rfl)<|.aW<|Ae h (fun h=>?_) fun h=>?_
 ·refine AB.skip<|Aa<|AB.block ?_;obtain⟨O,s,U,u,h⟩:=Yd h;refine AL<|.a 4<|.p (BP AV s Bv D5 rfl)<|.a 1<|.ca (aMr aB O U u)<|.aW<|Aa<|AU<|Ae h (fun h=>?_) fun h=>?_
  ·refine AL<|.aM 1 ?_;rw[←CU h];exact .ret (EO [])
  refine AB.skip<|BH<|.a 2<|?_;obtain⟨Y,z,h⟩:=CY h;refine .mg 71 6 (Ah Y) ?_ ?_
  ·replace h:=z;cases j with
   |true=>
    replace h:=pK rfl h;refine .aM 7 ?_;obtain rfl:=CU h;kernel_rfl
   |false=>
    replace h:=pG rfl h;refine .aM 7 ?_;obtain rfl:=CU h;kernel_rfl
  refine .a 1<|.nil<|BH<|.a 3<|.nil ?_;exact q _ _ _ (Ad 79 777 [(0,true)]) h
 refine AB.exit<|AL<|.aM 2 ?_;rw[←CU h];exact .ret (EO [])
def aHF (f:Aq) (m:(Int→Option Int)):Int→Option Int:=fun j=>(bif decide (j<(f.length:Int))then(BK f j).bind fun q=>(kC f q).bind fun s=>(bif (!s)then some 15 else m (BJ (j+1)))else some 0)
def aFR (f:Aq):Int→Option Int:=bn (aHF f) BA
def aBQ (f:Aq):Option Int:=(aBy f).bind fun j=>(bif (!j)then some 14 else aFR f 0)
def akr (aB r) (h:aBQ aB=some r):BF 92 [BR aB] [] (AQ r) []:=Ak.aG Tryz.func92 rfl<|AU<|Aa<|AO h fun u f h=>AL<|.a 1<|.ca (aiK aB u f)<|.aW<|Ae h Bf fun h=>AB.skip<|Aa<|AU<|AB.block<|Dx (fun s=>⟨BN 20 [(0,BR aB),(3,AQ s)],[],0⟩) _ _ _ (Ad 20 9 []) h<|fun J L j s h=>Aa<|AL<|.a 2<|.p (BQ Am aB Ci rfl)<|.aW<|Ae h (fun h=>AB.skip<|Aa<|AB.block<|CB h fun z m I q h=>AL<|.a 3<|.p (BP Am m Ci DY rfl)<|.a 1<|.ca (akl aB z I q)<|.aW<|Ae h Bf fun h=>AB.skip<|BH<|.a 3<|.nil<|j _ _ (Ad 20 9 []) h) fun h=>Eu
def nP (f:Aq):Option Bool:=(Oi f).bind fun j=>(bif (j==0)then(aBQ f).bind fun m=>some (m==0)else some false).bind fun q=>some q
def aai (aB r) (h:nP aB=some r):BF 49 [BR aB] [] (Ah r) []:=Ak.aG Tryz.func49 rfl<|AU<|AO h fun q f h=>AL<|.a 1<|.ca (af4 aB q f)<|.a 1<|AO h fun s j h=>.mg 6 4 (Ah s) (.bi j (fun h=>AO h fun u m h=>.a 1<|.ca (akr aB u m)<|.aW<|CM))<|.aW<|CS
end Go.Proofs.YtolgdkhlelfpoaaGreat
end
section
namespace Go.Proofs.YtolgdkhlelfpoaaGreat
open Go.RowKit
set_option maxRecDepth 20000
set_option maxHeartbeats 4000000
def eA (f:Int) (m:Int) (j:Bool):Option Bool:=(bif decide (f<0)then some true else some (decide (f>4))).bind fun O=>(bif O then some false else(bif (m==3)then(bif j then some (f != 4)else some false).bind fun U=>some U else(bif (m==0)then(bif (f==1)then some true else some (f==2)).bind fun Y=>(bif Y then some true else some (f==3)).bind fun q=>(bif q then some true else(bif (f==4)then some (!j)else some false).bind fun s=>some s).bind fun u=>some u else(bif (m==2)then(bif j then(bif (f==0)then some true else some (f==2)).bind fun z=>some z else some false).bind fun I=>some I else(bif (m==1)then(bif (!j)then(bif (f==0)then some true else some (f==2)).bind fun J=>(bif J then some true else some (f==1)).bind fun L=>some L else some false).bind fun M=>some M else(bif (m==4)then some (!j)else some false))))))
def iC (f:(Int→Option Bool)) (j:Int) (m:Bool):Option Bool:=(bif m then some false else f (BJ (j+1)))
def aHG (f:Bh) (j:Bh) (q:(Int→Option Bool)):Int→Option Bool:=fun m=>(bif decide (m<(f.length:Int))then(BK f m).bind fun J=>(BK j m).bind fun L=>(bif (J.Kind != L.Kind)then iC q m true else(BK f m).bind fun s=>(BK j m).bind fun u=>(bif (!(s.Key.toList==u.Key.toList))then iC q m true else(BK f m).bind fun z=>(BK j m).bind fun I=>iC q m (z.Id != I.Id)))else some true)
def aKW (f:Bh) (j:Bh):Int→Option Bool:=bn (aHG f j) BA
def jA (f:Bh) (j:Bh):Option Bool:=(bif ((f.length:Int) != (j.length:Int))then some false else aKW f j 0)
def acw (gW gV r) (h:jA gW gV=some r):BF 37 [Dl gW,Dl gV] [] (Ah r) []:=Ak.aG Tryz.func37 rfl<|AU<|Aa<|AL<|.a 1<|.p (BQ BD gW Gi rfl)<|.a 1<|.p (BQ BD gV Gi rfl)<|.aW<|Ae h Bf fun h=>AB.skip<|Aa<|AU<|AB.block<|Dx (fun L=>⟨BN 54 [(0,Dl gW),(1,Dl gV),(5,AQ L)],[],0⟩) _ _ _ (Ad 54 35 []) h<|fun Z k3 M L h=>Aa<|AL<|.a 2<|.p (BQ BD gW Gi rfl)<|.aW<|Ae h (fun h=>AB.skip<|Aa<|AB.block<|DJ (fun s=>∃(O:Bool),CG s ⟨BN 54 [(0,Dl gW),(1,Dl gV),(5,AQ L),(53,Ah O)],[],0⟩∧iC k3 L O=some r) (by rintro s ⟨O,hs,h⟩;exact Ce hs<|Ae h Bf fun h=>AB.skip<|BH<|.a 3<|.nil<|M _ _ (Ad 54 35 []) h)<|fun K7=>CB h fun x8 u x9 z h=>FW h (fun f h=>AB.draw A8 A8 A8 (.a 2<|.p (BP BD u Gi IW rfl)<|.a 4<|.p (BP BD z Gi IW rfl)<|.a 3<|.c (Ba some f)<|.a 25<|.nil _)<|K7 _ ⟨true,Ad 54 9007199254741027 [],h⟩) fun f h=>CB h fun x11 m x12 q h=>FW h (fun j h=>AB.draw A8 A8 A8 (.a 2<|.p (BP BD u Gi IW rfl)<|.a 4<|.p (BP BD z Gi IW rfl)<|.a 3<|.c (Ba some f)<|.a 2<|.p (BP BD m Gi IW rfl)<|.a 4<|.p (BP BD q Gi IW rfl)<|.a 4<|.c (Ba some j)<|.a 12<|.nil _)<|K7 _ ⟨true,Ad 54 9007199254741027 [],h⟩) fun j h=>CB h fun U I Y J h=>AB.draw A8 A8 A8 (.a 2<|.p (BP BD u Gi IW rfl)<|.a 4<|.p (BP BD z Gi IW rfl)<|.a 3<|.c (Ba some f)<|.a 2<|.p (BP BD m Gi IW rfl)<|.a 4<|.p (BP BD q Gi IW rfl)<|.a 4<|.c (Ba some j)<|.a 2<|.p (BP BD I Gi IW rfl)<|.a 4<|.p (BP BD J Gi IW rfl)<|.a 4<|.nil _)<|K7 _ ⟨(U.Id != Y.Id),Ad 54 9007199254741027 [],h⟩) fun h=>Eu
end Go.Proofs.YtolgdkhlelfpoaaGreat
end
section
namespace Go.Proofs.YtolgdkhlelfpoaaGreat
open Go.RowKit
set_option maxRecDepth 20000
set_option maxHeartbeats 4000000
def zB (f:(Int→Aq→Option Bool)) (m:Int) (j:Aq):Option Bool:=f (BJ (m+1)) j
def aD6 (f:Aq) (Z:Aq) (s:(Int→Option Bool)):Int→Option Bool:=fun j=>(bif decide (j<(f.length:Int))then(BK f j).bind fun u=>(Vu f u.Id).bind fun m=>(BK f j).bind fun z=>(Vu Z z.Id).bind fun q=>(bif (m.2 != q.2)then some true else(jA m.1 q.1).bind fun I=>some (!I)).bind fun J=>(bif J then some false else s (BJ (j+1)))else(ZT f).bind fun L=>(ZT Z).bind fun M=>(jA L M).bind fun O=>(bif O then(wO).bind fun U=>some U else some false).bind fun Y=>some Y)
def aAS (f:Aq) (j:Aq):Int→Option Bool:=bn (aD6 f j) BA
def aGf (f:Int) (q:Aq) (s:(Int→Aq→Option Bool)):Int→Aq→Option Bool:=fun j m=>(bif decide (j<(m.length:Int))then(Kv .shr .u16 f (IntKind.u64.wrap j)).bind fun u=>(bif ((Du .and .u16 u 1)==1)then(BK m j).bind fun z=>(iR z).bind fun I=>(BK m j).bind fun L=>zB s j (m.set (j).toNat I)else zB s j m)else(nP m).bind fun J=>(bif (!J)then some false else aAS q m 0))
def aIH (f:Int) (j:Aq):Int→Aq→Option Bool:=aX (aGf f j) BA
def aBv (f:Aq) (j:Int):Option Bool:=(aII f).bind fun m=>(bif (!m)then some true else(nP f).bind fun q=>some (!q)).bind fun s=>(bif s then(wO).bind fun u=>some u else(DN 376 [] f).bind fun z=>aIH j f 0 z)
def ait (aB aaA r) (h:aBv aB aaA=some r):BF 13 [BR aB,.d ((Qo .u16) aaA)] [] (Ah r) []:=Ak.aG Tryz.func13 rfl<|AU<|Aa<|AO h fun x1 hx1 h=>AL<|.a 1<|.ca (anN aB x1 hx1)<|.a 1<|AO h fun x2 hx2 h=>.mg 15 4 (Ah x2) (.bi hx2 (k2:=fun h=>AO h fun x4 hx4 h=>.a 1<|.ca (aai aB x4 hx4)<|.aW<|CM))<|.aY<|Ae h (fun h=>AO h fun x6 hx6 h=>AL<|.ca (acY  x6 hx6)<|.aW<|CS) fun h=>AB.skip<|AO h fun x7 hx7 h=>AL<|.e [(DX [])] (Jc LM QT [] rfl)<|.a 1<|.e [.dead,(DX x7)] (E8 (k:=0) Am hx7 LM A8 (fun _=>rfl) BU rfl)<|.aW<|Aa<|AU<|AB.block<|Dt (fun m f=>⟨BN 90 [(0,BR aB),(1,.d ((Qo .u16) aaA)),(5,.aS 0),(6,AQ m)],[(DX f)],0⟩) _ _ _ _ (Ad 90 99 [(1,true)]) h<|fun J39 k10 J m f h=>Aa<|AL<|.a 2<|.p (NW (k:=0) (e':=55) (s:=29) Am f A8 Ci rfl)<|.aW<|Ae h (fun h=>AB.skip<|DJ (fun s=>∃(I:(List AP)),CG s ⟨BN 90 [(0,BR aB),(1,.d ((Qo .u16) aaA)),(5,.aS 0),(6,AQ m)],[(DX I)],0⟩∧zB k10 m I=some r) (by rintro s ⟨I,hs,h⟩;exact Ce hs<|BH<|.a 3<|.nil<|J _ _ _ (Ad 90 99 [(0,true)]) h)<|fun L=>AB.block<|AO h fun x14 M h=>AL<|.a 3<|.p (aDc (k:=.u16) (k':=.u64) M rfl)<|.p (O5 (k:=.u16) (u:=x14) (v:=1) rfl)<|.aW<|Ae h (fun h=>Pn h fun O q j U x18 z h=>BH<|.a 4<|.p (KL (e':=55) (kd:=.i64) Am q (k:=0) A8 Ci DY rfl)<|.p (x:=(Dj O)) (QW (e:=55) (size:=29) (k:=0) (i:=(m).toNat) (off:=0) Am A8 A8 (Hz q).2 DY (Eb A8) RI rfl)<|.ca (aLG O j U)<|.p (KL (e':=55) (kd:=.i64) Am z (k:=0) A8 Ci DY rfl)<|.e [(DX (f.set (m).toNat j))] (Xf (e:=55) (size:=29) (v:=(Dj j)) (k:=0) (i:=(m).toNat) (off:=0) (a':=j) Am A8 (Hz z).2 A8 (DY).size A8 (Eb A8) A8 (fun _=>rfl) rfl)<|.nil<|L _ ⟨(f.set (m).toNat j),Ad 90 99 [(0,true)],h⟩) fun h=>AB.skip<|L _ ⟨f,Ad 90 99 [(0,true)],h⟩) fun h=>AB.exit<|Aa<|AO h fun Y Z h=>AL<|.a 1<|.p (x:=(Ah Y)) (aF2 (dP:=[.aS 0]) (eU:=[.d (.sl (List.map Am f))]) (aai f Y Z) anm rfl ⟨⟨55,29,_,A8,rfl⟩,trivial⟩ rfl rfl)<|.aW<|Ae h Bf fun h=>AB.skip<|Aa<|AU<|AB.block<|AB.conv ((MC (e:=55) (s:=29) 0 (xs:=List.map Am f) A8))<|Dx (fun v21=>⟨BN 90 [(0,BR aB),(5,BR f),(7,AQ v21)],[],0⟩) _ _ _ (Ad 90 161 []) h<|fun J38 k22 aya v21 h=>Aa<|AL<|.a 2<|.p (BQ Am aB Ci rfl)<|.aW<|Ae h (fun h=>AB.skip<|Aa<|AB.block<|CB h fun x24 hx24 x25 hx25 h=>AL<|.a 3<|.p (BP Am hx24 Ci DY rfl)<|.a 2<|.ca (rQ aB x24.Id x25 hx25)<|.aW<|CB h fun Gl Gm x27 hx27 h=>AL<|.a 3<|.p (BP Am Gm Ci DY rfl)<|.a 2<|.ca (rQ f Gl.Id x27 hx27)<|.aW<|AL<|.a 3<|AO h fun x28 hx28 h=>.mg 76 5 (Ah x28) (.bi hx28 (k2:=fun h=>AO h fun WZ aam h=>.a 2<|.ca (acw x25.1 x27.1 WZ aam)<|.aW<|CM))<|.aY<|Ae h Bf fun h=>AB.skip<|BH<|.a 3<|.nil<|aya _ _ (Ad 90 161 []) h) fun h=>AB.exit<|Pn h fun x32 hx32 x33 ak7 x34 hx34 h=>AL<|.a 1<|.ca (aDl aB x32 hx32)<|.a 1<|.ca (aDl f x33 ak7)<|.ca (acw x32 x33 x34 hx34)<|.a 1<|AO h fun x35 asH h=>.mg 88 1 (Ah x35) (D7 asH (fun e i=>by subst e;have h:=i;exact AO h fun x37 ak5 h=>.ca (acY  x37 ak5)<|.aW<|CM))<|.aW<|CS
end Go.Proofs.YtolgdkhlelfpoaaGreat
end
section
namespace Go.Proofs.YtolgdkhlelfpoaaGreat
open Go.RowKit
def Xe (l:List Int) (h:l.length≤1099511627776):TW l=some (FP l):=by
 unfold TW aBL O8 VK;rw[Ef E5];have f:(PX l).length≤1099511627776:=by rw[(UA l).length_eq];exact h
 simp[h,aFV,aCI]
def RV (l:List Int):(FP l).length≤l.length:=by
 rw[←aCI];exact EZ (Lib.compact_length_le _) BM
def adM (a b:List Int):(Qj a b).length≤a.length:=by
 unfold Qj;exact EZ (LJ _ _) (RV a)
def aEm (a b:List Int):(Hf a b).length≤a.length+b.length:=by
 rw[jo];exact EZ (RV _) BM
def aff (a b:Int):cmp_Less_int a b=some (decide (a<b)):=by
 simp[cmp_Less_int,cmp_isNaN_int]
def apR (l:List Int) (x:Int) (hi:Inc l) (hn:l.length≤1099511627776):gK (Src l x) (fun r=>r.2=EN l x):=by
 unfold Src aLj;refine Vl (fun(m:Nat) (a b:Int)=>∃i j:Nat,a=i∧b=j∧i≤j∧j≤l.length∧m=j-i∧(∀q,(f:q<i)→(s:q<l.length)→l[q]<x)∧(∀q,(f:j≤q)→(s:q<l.length)→x≤l[q])) ?_ BA l.length 0 (l.length:Int) (by simp[BA];omega) ⟨0,l.length,rfl,rfl,EH _,Dy _,rfl,fun q f=>AA,fun q f s=>AA⟩;rintro m a b k ⟨i,j,rfl,rfl,hij,hj,rfl,U,h2⟩ hk;unfold aL7;refine gK.bif (fun e=>?_) fun e=>?_
 ·have Y:i<j:=TT
  have w1:BJ ((i:Int)+(j:Int))=((i+j:Nat):Int):=PU
  have w2:IntKind.u64.wrap ((i+j:Nat):Int)=((i+j:Nat):Int):=by rw[Yb];omega
  have w3:Kv .shr .u64 ((i+j:Nat):Int) 1=some (((i+j)/2:Nat):Int):=by
   have e0:((i+j:Nat):Int).fdiv (2^(min (1:Int).toNat IntKind.u64.bits))=(((i+j)/2:Nat):Int):=by
    have :(2:Int)^(min (1:Int).toNat IntKind.u64.bits)=2:=rfl;rw[this,acz _ AA];omega
   unfold Kv;rw[D8 AA];exact Ba some e0
  have w4:BJ (((i+j)/2:Nat):Int)=(((i+j)/2:Nat):Int):=PU
  have u:(i+j)/2<l.length:=AA
  rw[w1,w2,w3];simp only[Af];rw[w4,D6 u];simp only[Af];rw[aff,wrap_succ _ AA];simp only[Af];have mono:∀p q,(J:p<l.length)→(f:q<l.length)→p<q→l[p]<l[q]:=fun p q J f z=>KX.1 hi p q J f z;refine gK.bif (fun Z=>?_) fun Z=>?_
  ·have I:l[(i+j)/2]<x:=dI
   refine hk (j-((i+j)/2+1)) _ _ AA ⟨(i+j)/2+1,j,rfl,rfl,AA,hj,rfl,fun q f s=>?_,h2⟩;by_cases eq:q=(i+j)/2
   ·subst eq;exact I
   have :=mono q ((i+j)/2) s u AA;omega
  have I:¬l[(i+j)/2]<x:=dI
  refine hk ((i+j)/2-i) _ _ AA ⟨i,(i+j)/2,rfl,rfl,AA,AA,rfl,U,fun q f s=>?_⟩;by_cases eq:q=(i+j)/2
  ·subst eq;omega
  have :=mono ((i+j)/2) q u s AA;omega
 have Y:¬i<j:=TT
 have L:i=j:=AA
 subst L;have mono:∀p q,(J:p<l.length)→(f:q<l.length)→p<q→l[p]<l[q]:=fun p q J f z=>KX.1 hi p q J f z;by_cases s:i<l.length
 ·rw[show decide ((i:Int)<(l.length:Int))=true by simpa using s,D6 s];simp only[Bj,Af];by_cases I:l[i]=x
  ·have O:(l[i]==x)=true:=XK
   rw[O];refine .ret ?_;exact(Js.2 (I▸EC s)).symm
  have O:(l[i]==x)=false:=XK
  rw[O]
  have hno:EN l x=false:=PO.2 fun u=>by
   obtain⟨q,f,e5⟩:=Gj u;rcases qG q i with M|M|M
   ·have :=U q M f;omega
   ·subst M;exact I e5
   have :=mono i q s f M;have :=h2 i (Dy _) s;omega
  simp[aBE,hno,gK]
 rw[show decide ((i:Int)<(l.length:Int))=false by simpa using s];refine .ret ?_;refine(PO.2 fun u=>?_).symm;obtain⟨q,f,O⟩:=Gj u;have :=U q AA f;omega
def ar7 {l b:List Int} {i:Nat} (h:i<l.length):(l.take (i+1)).filter (fun x=> !EN b x)=(l.take i).filter (fun x=> !EN b x)++(if EN b l[i]then[]else[l[i]]):=by
 rw[X4 h,Ua];cases f:EN b l[i]<;>simp[f]
def alV (a b:List Int) (h:a.length≤274877906944) (J:b.length≤274877906944):rX a b=some (Qj a b):=by
 unfold rX;rw[Xe b AA,Xe a AA];simp only[Af];have ha:=RV a;have L:=RV b;have j:=Mc b
 have u:Qj a b=((FP a).take (FP a).length).filter (fun x=> !EN (FP b) x):=by
  rw[Il];unfold Qj;congr 1;funext x;congr 1;by_cases f:x∈b
  ·rw[Js.2 f,Js.2 (JD.2 f)]
  rw[PO.2 f,PO.2 (fun h=>f (JD.1 h))]
 rw[u];generalize FP a=S at *;generalize FP b=S2 at *;refine gK.eq ?_;unfold aLk;refine TG S.length (by simp[BA];omega) (fun i v=>v=(S.take i).filter (fun x=> !EN S2 x)) BM ?_ ?_
 ·rintro i v k hi rfl m;have q:=wrap_succ i AA;have z:((S.take i).filter (fun x=> !EN S2 x)).length≤i:=EZ (LJ _ _) E5;have hst:=ar7 (b:=S2) hi;unfold aCU wu;rw[show decide ((i:Int)<(S.length:Int))=true by simpa using hi,D6 hi];simp only[Bj,Af];refine(apR S2 S[i] j AA).bind ?_;rintro r I;rw[I];cases s:EN S2 S[i]with
  |true=>
   simp only[EU,BO,q];exact m _ (by rw[hst];simp[s])
  |false=>
   simp only[KI,Bj,q];rw[Ef I9];exact m _ (by rw[hst];simp[s])
 rintro v k rfl;unfold aCU;rw[show decide ((S.length:Int)<(S.length:Int))=false by simp];exact .ret rfl
def aMj (p:Int→Bool):∀(l:List Int) (i:Nat),i≤l.length→(∀j,(h:j<i)→(f:j<l.length)→p l[j]=true)→(∀h:i<l.length,p l[i]=false)→l.takeWhile p=l.take i∧l.dropWhile p=l.drop i
 | [],i,h,_,_=>by simp at h;subst h;simp
 |a::l,0,_,_,m=>by
  have :=m BM;simp at this;simp[this]
 |a::l,i+1,h,h1,m=>by
  have q:=h1 0 AA BM;simp at q;have :=aMj p l i Jp (fun j s f=>by have :=h1 (j+1) AA Ku;simpa using this) (fun f=>by have :=m Ku;simpa using this);simp[q,this.1,this.2]
def nE (l:List Int) (x:Int):(put l x).length≤l.length+1:=by
 unfold put;split
 ·omega
 rw[Dz,FV];have :=Ba List.length (qy (p:=(decide<| · <x)) (l:=l));rw[Dz]at this;omega
def aAi :∀(l a:List Int),(l.foldl put a).length≤a.length+l.length
 | [],a=>BM
 |x::l,a=>by
  have f:=aAi l (put a x);have j:=nE a x;simp only[Fh,FV];omega
end Go.Proofs.YtolgdkhlelfpoaaGreat
end
section
namespace Go.Proofs.YtolgdkhlelfpoaaGreat
open Go.RowKit
variable {α : Type}
def Jq {R:Type} (c:Bool) (x y:R):(bif c then some x else some y)=some (bif c then x else y):=by cases c<;>rfl
def aC3 {A R:Type} (c:Bool) (x y:Option A) (f:A→Option R):(bif c then x else y).bind f=bif c then x.bind f else y.bind f:=by cases c<;>rfl
def mZ (a b:Bool):(bif a then true else b)=(a||b):=by cases a<;>rfl
def VX (a b:Bool):(bif a then b else false)=(a&&b):=by cases a<;>rfl
def SI {s:ByteArray} {i:Nat} (h:i<(Bg s).length):GH s (i:Int)=some (Bg s)[i]:=by
 unfold GH;rw[Ch (aCB i)];have h':i<s.size:=Uo
 have e:s[i]? =some s[i]:=by simp[h']
 simp only[YI,e,Hr,Bg,QC];rfl
def akh {s:ByteArray} (h:0<(Bg s).length):GH s 0=some (Bg s)[0]:=SI (i:=0) h
def Ic {R α:Type} {body:(Int→Option R)→Int→Option R} (l:List α) (q:l.length<BA) (p:α→Bool) (bad:R) (rest:Option R)
 (s:∀k (i:Nat) (h:i<l.length),body k (i:Int)=bif p l[i]then some bad else k (BJ ((i:Int)+1))) (u:∀k,body k (l.length:Int)=rest):
 bn body BA 0=bif l.any p then some bad else rest:=by
 have J:BA=9223372036854775808:=rfl
 have key:∀n (i:Nat),i+n=l.length→∀m,n<m→bn body m (i:Int)=bif (l.drop i).any p then some bad else rest:=by
  intro n
  induction n with
  |zero=>
   intro i hi m z;obtain⟨m,rfl⟩:∃j,m=j+1:=⟨m-1,AA⟩
   have :i=l.length:=AA
   subst this;show body (bn body m) _=_;rw[u,QX];rfl
  |succ n I=>
   intro i hi m z;obtain⟨m,rfl⟩:∃j,m=j+1:=⟨m-1,AA⟩
   have f:i<l.length:=AA
   show body (bn body m) _=_;rw[s _ i f,wrap_succ i AA,I (i+1) AA m AA,NT f,Y1];cases p l[i]<;>rfl
 have :=key l.length 0 AA BA q;simpa using this
def bytes_inj {s t:ByteArray} (h:Bg s=Bg t):s=t:=by
 have hd:s.data.toList=t.data.toList:=by
  unfold Bg at h;refine List.map_inj_right (f:=fun c:UInt8=>(c.toNat:Int)) (fun a b j=>?_) |>.1 h;exact UInt8.toNat_inj.1 AA
 obtain⟨⟨a⟩⟩:=s;obtain⟨⟨b⟩⟩:=t;simp only at hd;rw[hd]
def toList_inj {s t:ByteArray} (h:s.toList=t.toList):s=t:=by
 rw[ByteArray.toList_eq,ByteArray.toList_eq]at h;obtain⟨⟨a⟩⟩:=s;obtain⟨⟨b⟩⟩:=t;simp only at h;rw[h]
def Ou {s t:ByteArray}:(s.toList==t.toList)=decide (s=t):=by
 by_cases h:s=t
 ·subst h;simp
 have :s.toList≠t.toList:=fun e=>h (toList_inj e);simp[h,this]
def Rw {R α:Type} {body:(Int→Option R)→Int→Option R} (l:List α) (s:l.length<BA) (q:α→Bool) (g:Nat→Option R) (rest:Option R)
 (u:∀k (i:Nat) (h:i<l.length),body k (i:Int)=bif q l[i]then g i else k (BJ ((i:Int)+1))) (z:∀k,body k (l.length:Int)=rest):
 bn body BA 0=if l.findIdx q<l.length then g (l.findIdx q)else rest:=by
 have L:BA=9223372036854775808:=rfl
 have key:∀n (i:Nat),i+n=l.length→∀m,n<m→bn body m (i:Int)=if(l.drop i).findIdx q+i<l.length then g ((l.drop i).findIdx q+i)else rest:=by
  intro n
  induction n with
  |zero=>
   intro i hi m I;obtain⟨m,rfl⟩:∃j,m=j+1:=⟨m-1,AA⟩
   have :i=l.length:=AA
   subst this;show body (bn body m) _=_;rw[z,QX,D8 AA]
  |succ n J=>
   intro i hi m I;obtain⟨m,rfl⟩:∃j,m=j+1:=⟨m-1,AA⟩
   have f:i<l.length:=AA
   show body (bn body m) _=_;rw[u _ i f,wrap_succ i AA,J (i+1) AA m AA,NT f,Tj];cases q l[i]with
   |true=>simp[f]
   |false=>simp only[BO];rw[show(l.drop (i+1)).findIdx q+(i+1)=(l.drop (i+1)).findIdx q+1+i by omega]
 have :=key l.length 0 AA BA s;simpa using this
def eL {s:ByteArray} {lo hi:Nat} (f:lo≤hi) (j:hi≤s.size):Lp s (lo:Int) (hi:Int)=some (s.extract lo hi):=by
 unfold Lp;rw[Ch ⟨AA,AA,AA⟩];simp
def aIn (s:ByteArray) (a b:Nat):Bg (s.extract a b)=((Bg s).take b).drop a:=by
 simp[Bg,ByteArray.data_extract,XZ,XE,List.extract_eq_drop_take']
def aAy (l:List α) (q:α→Bool):(bif l.any (fun c=> !q c)then false else true)=l.all q:=by
 have :l.any (fun c=> !q c)= !l.all q:=by simp[List.not_all_eq_any_not]
 rw[this];cases l.all q<;>rfl
def aEN :∀(l:List UInt8) (c:UInt8),Lib.indexByte l c=if l.findIdx (· ==c)<l.length then((l.findIdx (· ==c):Nat):Int)else -1
 | [],c=>rfl
 |b::l,c=>by
  unfold Lib.indexByte;rw[Tj];cases h:b==c with
  |true=>simp
  |false=>
   rw[aEN l c];simp only[SQ,Ip,BO,FV];by_cases f:l.findIdx (· ==c)<l.length
   ·simp only[f,KE,show l.findIdx (· ==c)+1<l.length+1 by omega];have :(((l.findIdx (· ==c):Nat):Int)== -1)=false:=BM
    simp[this]
   simp[f,show ¬l.findIdx (· ==c)+1<l.length+1 by omega]
end Go.Proofs.YtolgdkhlelfpoaaGreat
end
section
namespace Go.Proofs.YtolgdkhlelfpoaaGreat
open Go.RowKit
structure Gq (e:AP):Prop where
 prev:e.bD.length≤40
 auth:e.bM.length≤40
 allow:e.Content.Allow.length≤100
 deny:e.Content.gu.length≤100
 users:e.Content.Levels.Users.length≤100
 kinds:e.Content.Levels.Kinds.length≤100
 room:e.Room.size≤2000
 sender:e.bF.size≤2000
 key:e.Key.size≤2000
 text:e.Content.Text.size≤2000
 via:e.Content.Via.size≤2000
 server:e.pR.Server.size≤2000
 allows:∀x∈e.Content.Allow,x.size≤2000
 denies:∀x∈e.Content.gu,x.size≤2000
 names:∀x∈e.Content.Levels.Users,x.User.size≤2000
def anK {α:Type} {l:List α} {P:α→Prop} (h:∀j,(hl:j<l.length)→P l[j]):∀x∈l,P x:=fun x f=>by
 obtain⟨j,m,rfl⟩:=Gj f;exact h j m
def DR {α R:Type} {l:List α} {i:Nat} (h:i<l.length) (f:α→Option R) (z:Option R):(bif decide ((i:Int)<(l.length:Int))then(BK l (i:Int)).bind f else z)=f l[i]:=by
 rw[show decide ((i:Int)<(l.length:Int))=true by simpa using h,D6 h];rfl
def EL {α R:Type} {l:List α} (y z:Option R):(bif decide ((l.length:Int)<(l.length:Int))then y else z)=z:=by
 rw[show decide ((l.length:Int)<(l.length:Int))=false by simp];rfl
def fuel_lt {n:Nat} (h:n≤1099511627776):n<BA:=aB1
def dec_lt {i n:Nat} (h:i<n):decide ((i:Int)<(n:Int))=true:=Jp
def EP (n:Nat):decide ((n:Int)<(n:Int))=false:=BM
def Kr {R A α:Type} {body:(A→Int→Option R)→A→Int→Option R} (l:List α) (s:l.length≤1099511627776) (step:A→α→A) (I:Nat→A→Prop) (f:A→Option R) {a0:A} (u:I 0 a0)
 (z:∀k a (i:Nat) (h:i<l.length),I i a→I (i+1) (step a l[i])∧body k a (i:Int)=k (step a l[i]) (BJ ((i:Int)+1)))
 (J:∀k a,I l.length a→body k a (l.length:Int)=f a):aX body BA a0 0=f (l.foldl step a0):=by
 have key:∀n (i:Nat) (a:A),i+n=l.length→I i a→∀m,n<m→aX body m a (i:Int)=f ((l.drop i).foldl step a):=by
  intro n
  induction n with
  |zero=>
   intro i a hi ha m L;obtain⟨m,rfl⟩:∃q,m=q+1:=⟨m-1,AA⟩
   have :i=l.length:=AA
   subst this;show body (aX body m) _ _=_;rw[J _ _ ha,QX];rfl
  |succ n M=>
   intro i a hi ha m L;obtain⟨m,rfl⟩:∃q,m=q+1:=⟨m-1,AA⟩
   have j:i<l.length:=AA
   obtain⟨O,U⟩:=z (aX body m) a i j ha;show body (aX body m) _ _=_;rw[U,wrap_succ i AA,M (i+1) _ AA O m AA,NT j,Fh]
 have :=key l.length 0 a0 AA u BA (fuel_lt s);simpa using this
def aEZ {R A α:Type} {body:(Int→A→Option R)→Int→A→Option R} (l:List α) (s:l.length≤1099511627776) (step:A→α→A) (I:Nat→A→Prop) (f:A→Option R) {a0:A} (u:I 0 a0)
 (z:∀k a (i:Nat) (h:i<l.length),I i a→I (i+1) (step a l[i])∧body k (i:Int) a=k (BJ ((i:Int)+1)) (step a l[i]))
 (J:∀k a,I l.length a→body k (l.length:Int) a=f a):aX body BA 0 a0=f (l.foldl step a0):=by
 have key:∀n (i:Nat) (a:A),i+n=l.length→I i a→∀m,n<m→aX body m (i:Int) a=f ((l.drop i).foldl step a):=by
  intro n
  induction n with
  |zero=>
   intro i a hi ha m L;obtain⟨m,rfl⟩:∃q,m=q+1:=⟨m-1,AA⟩
   have :i=l.length:=AA
   subst this;show body (aX body m) _ _=_;rw[J _ _ ha,QX];rfl
  |succ n M=>
   intro i a hi ha m L;obtain⟨m,rfl⟩:∃q,m=q+1:=⟨m-1,AA⟩
   have j:i<l.length:=AA
   obtain⟨O,U⟩:=z (aX body m) a i j ha;show body (aX body m) _ _=_;rw[U,wrap_succ i AA,M (i+1) _ AA O m AA,NT j,Fh]
 have :=key l.length 0 a0 AA u BA (fuel_lt s);simpa using this
def Oh {α:Type} (p:α→Bool):∀l:List α,l.find? p=l[l.findIdx p]?
 | []=>rfl
 |x::l=>by
  rw[VO,Tj];cases h:p x with
  |true=>rfl
  |false=>simp[Oh p l]
def EM (l:List AP) (id:Int):Option AP:=l.find? fun e=>e.Id==id
def IU (l:List AP) (id:Int):AP×Bool:=match EM l id with
 |some e=>(e,true)
 |none=>(G5,false)
def ae4 {l:List AP} {id:Int} {e:AP} (h:EM l id=some e):e.Id=id:=by
 have :=uK h;simpa using this
def Le {l:List AP} {id:Int} {e:AP} (h:EM l id=some e):e∈l:=Qm h
def Ws (l:List AP) (id:Int):(IU l id).2=(EM l id).isSome:=by
 unfold IU;cases EM l id<;>rfl
def aFv (l:List AP) (j:l.length≤1099511627776) (f:AP→Option Bool) (p:AP→Bool) (m:∀e,f e=some (p e)):
 aC l f=some (if l.findIdx p<l.length then((l.findIdx p:Nat):Int)else -1):=by
 unfold aC ac3;rw[Rw l (fuel_lt j) p (fun i=>some (i:Int)) (some (-1))]
 ·split<;>rfl
 ·intro k i h;unfold aFc;rw[DR h,m];rfl
 intro k;unfold aFc;rw[EL]
def found_eq (l:List AP) (p:AP→Bool) {n:Int} (f:n=if l.findIdx p<l.length then((l.findIdx p:Nat):Int)else -1):
 (bif decide (n<0)then some (G5,false)else(BK l n).bind fun j=>some (j,true))=some (match l.find? p with |some e=>(e,true)|none=>(G5,false)):=by
 subst f;rw[Oh];by_cases h:l.findIdx p<l.length
 ·rw[Ch h,Df h,show decide (((l.findIdx p:Nat):Int)<0)=false by simp,D6 h];rfl
 rw[D8 h,Kq AA];rfl
def NU (l:List AP) (id:Int) (f:l.length≤1099511627776):MK l id=some (IU l id):=by
 unfold MK aAu aAm;rw[aFv l f _ (fun e=>e.Id==id) fun _=>rfl];exact found_eq l _ rfl
def abf (l:List AP) (id:Int) (f:l.length≤1099511627776):mG l id=some (if l.findIdx (fun e=>e.Id==id)<l.length then((l.findIdx (fun e=>e.Id==id):Nat):Int)else -1):=by
 unfold mG aIo;rw[Rw l (fuel_lt f) (fun e=>e.Id==id) (fun i=>some (i:Int)) (some (-1))]
 ·split<;>rfl
 ·intro k i h;unfold aHO;rw[DR h]
 intro k;unfold aHO;rw[EL]
def aK8 (l:List AP) (id:Int) (f:l.length≤1099511627776):iQ l id=some (IU l id):=by
 unfold iQ;rw[abf l id f];exact found_eq l _ rfl
def ofIds (l:List AP) (ids:List Int):List AP:=ids.filterMap (EM l)
def foldl_append {α β:Type} (f:α→List β):∀(l:List α) (a:List β),l.foldl (fun r x=>r++f x) a=a++l.flatMap f
 | [],a=>BM
 |x::l,a=>by rw[Fh,foldl_append f l,Lr,Gy]
def abQ (l:List AP):∀ids,ofIds l ids=ids.flatMap fun id=>(EM l id).toList
 | []=>rfl
 |id::ids=>by
  unfold ofIds;rw[Ns,Lr,←abQ l ids];cases EM l id<;>rfl
def toList_le {α:Type} (o:Option α):o.toList.length≤1:=by cases o<;>simp
def Oo {l:List AP} {id:Int} {e:AP} (h:EM l id=some e):IU l id=(e,true):=by unfold IU;rw[h]
def RH {l:List AP} {id:Int} (h:EM l id=none):IU l id=(G5,false):=by unfold IU;rw[h]
def zN (l:List AP) (ids:List Int):(ofIds l ids).length≤ids.length:=List.length_filterMap_le ..
def aoI (l:List AP) (ids:List Int):ids.foldl (fun r id=>r++(EM l id).toList) []=ofIds l ids:=by
 rw[foldl_append (fun id=>(EM l id).toList),abQ];rfl
def alo (l:List AP) (ids:List Int) (q:l.length≤1000) (hi:ids.length≤1000000):aBb l ids=some (ofIds l ids):=by
 unfold aBb
 have j:Ia 376 G5 0 (ids.length:Int)=some []:=by
  unfold Ia;rw[Ch aAP];rfl
 rw[j];simp only[Af];unfold acd;rw[Kr ids AA (fun r id=>r++(EM l id).toList) (fun i r=>r.length≤i) (fun r=>some r) BM]
 ·rw[aoI]
 ·intro k a i h m;have s:=toList_le (EM l ids[i]);refine⟨LX,?_⟩;unfold aCv aBP;rw[DR h,NU l _ AA];cases f:EM l ids[i]with
  |none=>simp[RH f]
  |some e=>
   rw[Oo f];simp only[Af,Bj,Qc];rw[Ef I9];rfl
 intro k a m;unfold aCv;rw[EL]
def acH {α:Type} (l:List α) (i:Nat) (x:α) (h:i<l.length):l.set i x=l.take i++x::l.drop (i+1):=aHU▸by simp[h]
def ae9 {α:Type} (A:List α) (g:α) (D:List α) {n:Nat} (h:A.length=n):(A++g::D).take n=A∧(A++g::D).drop (n+1)=D:=by
 subst h;simp
def aDp (l:List Int) (x:Int) (hi:Inc l) (L:l.length≤1000000):bK l x=some (put l x):=by
 refine gK.eq ?_;unfold bK aLf
 have I:∀i,i≤l.length→(∀j,(U:j<i)→(L:j<l.length)→l[j]<x)→(∀h:i<l.length,x<l[i])→put l x=l.take i++x::l.drop i:=by
  intro i hi' Z M;obtain⟨e1,O⟩:=aMj (decide<| · <x) l i hi' (fun j U L=>by simpa using Z j U L) (fun L=>by have :=M L;simp;omega)
  have hno:EN l x=false:=PO.2 fun hm=>by
   obtain⟨q,hq,e4⟩:=Gj hm;rcases YV q i with h5|h5
   ·have :=Z q h5 hq;omega
   have h6:=M AA;rcases YV i q with h7|h7
   ·have :=KX.1 hi i q AA hq h7;omega
   have :q=i:=AA
   subst this;omega
  unfold put;rw[hno,e1,O];rfl
 have s:∀i,i≤l.length→∀d,d≤l.length-i→∀m,d<m→gK (aX (Td (i:Int) x) m ((i+d:Nat):Int) (l.take (i+d)++(l++[x]).getD (i+d) 0::l.drop (i+d))) (· =l.take i++x::l.drop i):=by
  intro i u d
  induction d with
  |zero=>
   intro _ m hm;obtain⟨m,rfl⟩:∃m',m=m'+1:=⟨m-1,AA⟩
   show gK (Td (i:Int) x (aX (Td (i:Int) x) m) _ _) _;generalize aX (Td (i:Int) x) m=k;unfold Td;rw[show decide (((i+0:Nat):Int)>(i:Int))=false by simp];simp only[BO,O6];have hlen:i<(l.take i++(l++[x]).getD i 0::l.drop i).length:=E5
   rw[D6 hlen];refine .ret ?_;rw[YI,acH _ _ _ hlen];simp[aIF,List.drop_append,iw u]
  |succ d ih=>
   intro hd m hm;obtain⟨m,rfl⟩:∃m',m=m'+1:=⟨m-1,AA⟩
   have Y:=ih AA m AA;show gK (Td (i:Int) x (aX (Td (i:Int) x) m) _ _) _;generalize aX (Td (i:Int) x) m=k at Y ⊢;unfold Td;rw[show decide (((i+(d+1):Nat):Int)>(i:Int))=true by simp;omega];simp only[Bj];have w:BJ (((i+(d+1):Nat):Int)-1)=((i+d:Nat):Int):=PU
   have z:i+d<l.length:=AA
   have hL:(l.take (i+(d+1))++(l++[x]).getD (i+(d+1)) 0::l.drop (i+(d+1))).length=l.length+1:=E5
   have Z:i+d<(l.take (i+(d+1))++(l++[x]).getD (i+(d+1)) 0::l.drop (i+(d+1))).length:=AA
   have M:i+(d+1)<(l.take (i+(d+1))++(l++[x]).getD (i+(d+1)) 0::l.drop (i+(d+1))).length:=AA
   rw[w,D6 Z];simp only[Af];rw[D6 M];simp only[Af]
   have hg:(l.take (i+(d+1))++(l++[x]).getD (i+(d+1)) 0::l.drop (i+(d+1)))[i+d]=l[i+d]:=by
    rw[List.getElem_append_left E5];simp
   rw[hg,YI,acH _ _ _ M]
   have e:(l.take (i+(d+1))++(l++[x]).getD (i+(d+1)) 0::l.drop (i+(d+1))).take (i+(d+1))++l[i+d]::(l.take (i+(d+1))++(l++[x]).getD (i+(d+1)) 0::l.drop (i+(d+1))).drop (i+(d+1)+1)=l.take (i+d)++(l++[x]).getD (i+d) 0::l.drop (i+d):=by
    have ht:(l.take (i+(d+1))).length=i+(d+1):=E5
    rw[(ae9 _ _ _ ht).1,(ae9 _ _ _ ht).2];have h3:(l++[x]).getD (i+d) 0=l[i+d]:=by simp[List.getD,G6 z,z]
    rw[h3,show i+(d+1)=i+d+1 by omega,X4 z,NT z,Gy];rfl
   rw[e];exact Y
 have f:l++[x]=l.take l.length++(l++[x]).getD l.length 0::l.drop l.length:=BM
 refine aGT l.length (fuel_lt AA) (fun i=>∀j,(U:j<i)→(L:j<l.length)→l[j]<x) (fun j U=>AA) ?_ ?_
 ·intro i k u hI hk;unfold aFZ;rw[show decide ((i:Int)<(l.length:Int))=true by simpa using u,D6 u];simp only[Bj,Af];refine gK.bif (fun e=>?_) fun e=>?_
  ·rw[wrap_succ i AA];refine hk fun j U hl'=>?_;by_cases ej:j=i
   ·subst ej;simpa using e
   exact hI j AA hl'
  have hge:¬l[i]<x:=TT
  refine gK.bif (fun O=>?_) fun O=>?_
  ·have hx:l[i]=x:=ni
   refine .ret ?_;unfold put;rw[Js.2 (hx▸EC u)];rfl
  have hx:l[i]≠x:=ni
  rw[Ef I9];simp only[Af];rw[I i AA hI (fun _=>AA)];have w:BJ (((l++[x]).length:Int)-1)=((i+(l.length-i):Nat):Int):=aEy
  rw[w];have J:=s i AA (l.length-i) (Dy _) BA (fuel_lt AA);rw[show i+(l.length-i)=l.length by omega]at J ⊢;rw[←f]at J;exact J
 intro k hI;unfold aFZ;rw[show decide ((l.length:Int)<(l.length:Int))=false by simp];simp only[BO,Af];rw[Ef I9];simp only[Af];rw[I l.length (Dy _) hI (fun h=>AA)];have w:BJ (((l++[x]).length:Int)-1)=((l.length+0:Nat):Int):=aEy
 rw[w];have J:=s l.length (Dy _) 0 AA BA (fuel_lt AA);rw[O6]at J ⊢;rw[←f]at J;exact J
def dM (l:List AP) (id:Int):Bool:=(EM l id).isSome
def pJ (l:List AP) (ids:List Int):List Int:=ids.foldl (fun r id=>bif dM l id then r else put r id) []
def qV (l:List AP) (ids:List Int):List Int:=(FP ids).filter (dM l)
def Vo {l:List AP} {ids:List Int} {x:Int}:x∈qV l ids↔x∈ids∧dM l x=true:=by unfold qV;rw[FK,JD]
def aFd (l:List AP) (ids:List Int):Inc (qV l ids):=(Mc ids).sublist SY
def aHT (l:List AP):∀(ids r:List Int),Inc r→Inc (ids.foldl (fun r id=>bif dM l id then r else put r id) r)∧∀x,x∈ids.foldl (fun r id=>bif dM l id then r else put r id) r↔x∈r∨x∈ids∧dM l x=false
 | [],r,h=>⟨h,fun x=>BM⟩
 |id::ids,r,h=>by
  rw[Fh];cases q:dM l id with
  |true=>
   obtain⟨j,m⟩:=aHT l ids r h;refine⟨j,fun x=>(m x).trans ⟨fun h=>?_,fun h=>?_⟩⟩
   ·rcases h with h|h
    ·exact .inl h
    exact .inr ⟨G9 _ h.1,h.2⟩
   rcases h with h|⟨h,f⟩
   ·exact .inl h
   rcases F5.1 h with rfl|h
   ·rw[q]at f;cases f
   exact .inr ⟨h,f⟩
  |false=>
   obtain⟨j,m⟩:=aHT l ids (put r id) (aj h);refine⟨j,fun x=>(m x).trans ?_⟩;rw[aCV,F5];constructor
   ·rintro((h|rfl)|h)
    ·exact .inl h
    ·exact .inr ⟨.inl rfl,q⟩
    exact .inr ⟨.inr h.1,h.2⟩
   rintro(h|⟨rfl|h,f⟩)
   ·exact .inl (.inl h)
   ·exact .inl (.inr rfl)
   exact .inr ⟨h,f⟩
def aLY {l:List AP} {ids:List Int} {x:Int}:x∈pJ l ids↔x∈ids∧dM l x=false:=by
 unfold pJ;rw[(aHT l ids [] .nil).2 x];simp
def ajh (l:List AP) (ids:List Int) (s:l.length≤1000) (hi:ids.length≤100000):aC0 l ids=some (pJ l ids):=by
 unfold aC0 aJn;rw[Kr ids AA (fun r id=>bif dM l id then r else put r id) (fun i r=>Inc r∧r.length≤i) (fun r=>some r) ⟨.nil,Dy _⟩]
 ·rfl
 ·intro k a i h f;have q:=abf l ids[i] AA
  have m:dM l ids[i]=decide (l.findIdx (fun e=>e.Id==ids[i])<l.length):=by
   unfold dM EM;rw[Oh];by_cases h:l.findIdx (fun e=>e.Id==ids[i])<l.length
   ·rw[Df h,I5 h];rfl
   rw[Kq AA,Ht h];rfl
  refine⟨?_,?_⟩
  ·cases dM l ids[i]with
   |true=>exact⟨f.1,by have :=f.2;show a.length≤i+1;omega⟩
   |false=>exact⟨aj f.1,by have :=nE a ids[i];have :=f.2;show(put a ids[i]).length≤i+1;omega⟩
  unfold aGj aBn;rw[DR h,q];simp only[Af];by_cases j:l.findIdx (fun e=>e.Id==ids[i])<l.length
  ·rw[Ch j,m,I5 j,show decide (((l.findIdx (fun e=>e.Id==ids[i]):Nat):Int)<0)=false by simp];rfl
  rw[D8 j,m,Ht j,D6 h];simp only[show decide ((-1:Int)<0)=true by decide,Bj,BO,Af];rw[aDp a _ f.1 (by have :=f.2;omega)];rfl
 intro k a f;unfold aGj;rw[EL]
def jl (l:List AP) (id:Int):List Int:=(IU l id).1.bM
def Yy (l:List AP) (r:List Int) (x:Int):List Int:=bif dM l x then put r x else r
def Jj (l:List AP) (ids:List Int):List Int:=ids.foldl (fun r id=>(jl l id).foldl (Yy l) r) []
def aEi (l:List AP):∀(xs r:List Int),Inc r→Inc (xs.foldl (Yy l) r)∧(∀x,x∈xs.foldl (Yy l) r↔x∈r∨x∈xs∧dM l x=true)∧(xs.foldl (Yy l) r).length≤r.length+xs.length
 | [],r,h=>⟨h,fun x=>BM,BM⟩
 |y::xs,r,h=>by
  rw[Fh];unfold Yy;cases s:dM l y with
  |true=>
   obtain⟨m,q,f⟩:=aEi l xs (put r y) (aj h);refine⟨m,fun x=>(q x).trans ?_,?_⟩
   ·rw[aCV,F5];constructor
    ·rintro((h|rfl)|h)
     ·exact .inl h
     ·exact .inr ⟨.inl rfl,s⟩
     exact .inr ⟨.inr h.1,h.2⟩
    rintro(h|⟨rfl|h,j⟩)
    ·exact .inl (.inl h)
    ·exact .inl (.inr rfl)
    exact .inr ⟨h,j⟩
   have :=nE r y;simp only[FV,Bj]at f ⊢;exact EZ f AA
  |false=>
   obtain⟨m,q,f⟩:=aEi l xs r h;refine⟨m,fun x=>(q x).trans ⟨fun h=>?_,fun h=>?_⟩,?_⟩
   ·rcases h with h|h
    ·exact .inl h
    exact .inr ⟨G9 _ h.1,h.2⟩
   ·rcases h with h|⟨h,j⟩
    ·exact .inl h
    rcases F5.1 h with rfl|h
    ·rw[s]at j;cases j
    exact .inr ⟨h,j⟩
   simp only[FV,BO]at f ⊢;exact EZ f AA
def aDW (l:List AP):∀(ids r:List Int),Inc r→Inc (ids.foldl (fun r id=>(jl l id).foldl (Yy l) r) r)∧∀x,x∈ids.foldl (fun r id=>(jl l id).foldl (Yy l) r) r↔x∈r∨dM l x=true∧∃id∈ids,x∈jl l id
 | [],r,h=>⟨h,fun x=>BM⟩
 |id::ids,r,h=>by
  rw[Fh];obtain⟨j,m,_⟩:=aEi l (jl l id) r h;obtain⟨q,s⟩:=aDW l ids _ j;refine⟨q,fun x=>(s x).trans ?_⟩;rw[m x];constructor
  ·rintro((h|h)|⟨h3,i,f,h5⟩)
   ·exact .inl h
   ·exact .inr ⟨h.2,id,Ez ..,h.1⟩
   exact .inr ⟨h3,i,G9 _ f,h5⟩
  rintro(h|⟨h3,i,f,h5⟩)
  ·exact .inl (.inl h)
  rcases F5.1 f with rfl|f
  ·exact .inl (.inr ⟨h5,h3⟩)
  exact .inr ⟨h3,i,f,h5⟩
def aEI (l:List AP) (ids:List Int):Inc (Jj l ids):=(aDW l ids [] .nil).1
def UJ {l:List AP} {ids:List Int} {x:Int}:x∈Jj l ids↔dM l x=true∧∃id∈ids,x∈jl l id:=by
 unfold Jj;rw[(aDW l ids [] .nil).2 x];simp
def chainOf (l:List AP) (ids:List Int):List Int:=l.foldl (fun s _=>Hf s (Jj l s)) (Jj l (qV l ids))
inductive JZ (l:List AP) (ids:List Int):Int→Prop
 |one {i x:Int} (h:i∈ids) (hx:x∈jl l i) (hk:dM l x=true):JZ l ids x
 |more {y x:Int} (h:JZ l ids y) (hx:x∈jl l y) (hk:dM l x=true):JZ l ids x
def agD {l:List AP} {i x:Int} (h:x∈jl l i):dM l i=true:=by
 unfold jl at h;unfold dM;cases f:EM l i with
 |none=>rw[RH f]at h;cases h
 |some e=>rfl
def aAf {s t:List Int} (j:Inc s) (m:Inc t) (h:∀x∈s,x∈t):s.length≤t.length∧(t.length≤s.length→s=t):=by
 have e:s=t.filter (fun x=>EN s x):=Ld j (m.sublist SY) fun x=>by
  rw[FK,Js];exact⟨fun f=>⟨h x f,f⟩,fun f=>f.2⟩
 have q:=LJ (fun x=>EN s x) t;refine⟨by rw[e];exact q,fun u=>?_⟩;have z:(t.filter (fun x=>EN s x)).length=t.length:=by have :=Ba List.length e;omega
 rw[e];exact pO.2 (List.length_filter_eq_length_iff.1 z)
def U2 (l:List AP):List Int:=FP (l.map (·.Id))
def aAp {l:List AP} {x:Int} (h:dM l x=true):x∈U2 l:=by
 unfold dM at h;obtain⟨e,f⟩:=U0.1 h;exact JD.2 (F8.2 ⟨e,Le f,ae4 f⟩)
def aBN (l:List AP):∀(l':List AP) (s:List Int),Inc s→(∀x∈s,dM l x=true)→
 Inc (l'.foldl (fun s _=>Hf s (Jj l s)) s)∧(∀x∈l'.foldl (fun s _=>Hf s (Jj l s)) s,dM l x=true)∧(∀x∈s,x∈l'.foldl (fun s _=>Hf s (Jj l s)) s)∧
 ((U2 l).length≤s.length+l'.length→∀x∈Jj l (l'.foldl (fun s _=>Hf s (Jj l s)) s),x∈l'.foldl (fun s _=>Hf s (Jj l s)) s)
 | [],s,u,z=>⟨u,z,fun _ h=>h,fun hlen x j=>by
     have I:=(aAf u (Mc _) (fun x j=>aAp (z x j))).2 (by show(U2 l).length≤s.length;simpa using hlen);have m:=aAp (UJ.1 j).1;unfold U2 at m
     rw[←I]at m;exact m⟩
 |e::l',s,u,z=>by
  rw[Fh]
  have J:∀x∈Hf s (Jj l s),dM l x=true:=fun x j=>by
   rcases Ti.1 j with h|h
   ·exact z x h
   exact(UJ.1 h).1
  obtain⟨I,m,L,M⟩:=aBN l l' (Hf s (Jj l s)) (rD _ _) J;refine⟨I,m,fun x j=>L x (Ti.2 (.inl j)),fun hlen=>?_⟩;have q:=aAf u (rD s (Jj l s)) fun x j=>Ti.2 (.inl j);by_cases f:s=Hf s (Jj l s)
  ·
   have hst:∀(l':List AP),l'.foldl (fun s _=>Hf s (Jj l s)) s=s:=by
    intro l'
    induction l' with
    |nil=>rfl
    |cons e l' O=>rw[Fh,←f,O]
   rw[←f,hst];intro x j;rw[f];exact Ti.2 (.inr j)
  ·refine M ?_
   have :s.length<(Hf s (Jj l s)).length:=by
    rcases YV s.length (Hf s (Jj l s)).length with h|h
    ·exact h
    exact absurd (q.2 h) f
   simp only[FV]at hlen;omega
def vT (l:List AP) (ids:List Int):Inc (chainOf l ids):=(aBN l l _ (aEI _ _) fun _ f=>(UJ.1 f).1).1
def aox {l:List AP} {ids:List Int} {x:Int} (h:x∈chainOf l ids):dM l x=true:=(aBN l l _ (aEI _ _) fun _ f=>(UJ.1 f).1).2.1 x h
def aa8 (l:List AP) (ids:List Int):∀(l':List AP) (s:List Int),(∀x∈s,JZ l ids x)→∀x∈l'.foldl (fun s _=>Hf s (Jj l s)) s,JZ l ids x
 | [],s,h=>h
 |e::l',s,h=>by
  rw[Fh];refine aa8 l ids l' _ fun x f=>?_;rcases Ti.1 f with f|f
  ·exact h x f
  obtain⟨j,y,m,q⟩:=UJ.1 f;exact .more (h y m) q j
def cZ {l:List AP} {ids:List Int} {x:Int}:x∈chainOf l ids↔JZ l ids x:=by
 constructor
 ·refine aa8 l ids l _ (fun x f=>?_) x;obtain⟨q,y,s,j⟩:=UJ.1 f;exact .one (Vo.1 s).1 j q
 obtain⟨q,s,j,u⟩:=aBN l l _ (aEI l (qV l ids)) fun _ f=>(UJ.1 f).1
 have hlen:(U2 l).length≤(Jj l (qV l ids)).length+l.length:=by
  have :=RV (l.map (·.Id));unfold U2;simp only[Cb]at this;omega
 have z:=u hlen;intro h
 induction h with
 |one h f m=>exact j _ (UJ.2 ⟨m,_,Vo.2 ⟨h,agD f⟩,f⟩)
 |more h f m I=>exact z _ (UJ.2 ⟨m,_,I,f⟩)
def aAM (l:List AP) (ids:List Int):(chainOf l ids).length≤l.length:=by
 have f:=(aAf (t:=U2 l) (vT l ids) (Mc _) fun x j=>aAp (aox j)).1;have m:=RV (l.map fun e:AP=>e.Id);unfold U2 at f;simp only[Cb]at m;omega
def XY (l:List AP):Prop:=∀e∈l,e.bM.length≤40
def aHm {l:List AP} (h:XY l) (id:Int):(jl l id).length≤40:=by
 unfold jl;cases f:EM l id with
 |none=>rw[RH f];exact EH _
 |some e=>rw[Oo f];exact h e (Le f)
def yF {l:List AP} {r:List Int} (hi:Inc r) (h:∀x∈r,dM l x=true):r.length≤l.length:=by
 have f:=(aAf (t:=U2 l) hi (Mc _) fun x j=>aAp (h x j)).1;have m:=RV (l.map fun e:AP=>e.Id);unfold U2 at f;simp only[Cb]at m;omega
section
variable {R A B C D E F G : Type} {Q : R → Prop}
def Ze {body:(A→B→C→Option R)→A→B→C→Option R} (I:Nat→A→B→C→Prop) (u:∀m a b c k,I m a b c→(∀f a' j q,f<m→I f a' j q→gK (k a' j q) Q)→gK (body k a b c) Q):
 ∀n m a b c,m<n→I m a b c→gK (AX body n a b c) Q
 |0,m,_,_,_,h,_=>AA
 |n+1,m,a,b,c,h,hi=>u m a b c _ hi fun f a' j q h' s=>Ze I u n f a' j q AA s
def aCs {body:(A→B→C→D→E→Option R)→A→B→C→D→E→Option R} (I:Nat→A→B→C→D→E→Prop) (z:∀m a b c d e k,I m a b c d e→(∀f a' j q s e',f<m→I f a' j q s e'→gK (k a' j q s e') Q)→gK (body k a b c d e) Q):
 ∀n m a b c d e,m<n→I m a b c d e→gK (zJ body n a b c d e) Q
 |0,m,_,_,_,_,_,h,_=>AA
 |n+1,m,a,b,c,d,e,h,hi=>z m a b c d e _ hi fun f a' j q s e' h' u=>aCs I z n f a' j q s e' AA u
def aI6 {body:(A→B→C→D→E→F→Option R)→A→B→C→D→E→F→Option R} (I:Nat→A→B→C→D→E→F→Prop) (L:∀m a b c d e f k,I m a b c d e f→(∀j a' q s u e' z,j<m→I j a' q s u e' z→gK (k a' q s u e' z) Q)→gK (body k a b c d e f) Q):
 ∀n m a b c d e f,m<n→I m a b c d e f→gK (Dn body n a b c d e f) Q
 |0,m,_,_,_,_,_,_,h,_=>AA
 |n+1,m,a,b,c,d,e,f,h,hi=>L m a b c d e f _ hi fun j a' q s u e' z h' J=>aI6 I L n j a' q s u e' z AA J
def abC {body:(A→B→C→D→E→F→G→Option R)→A→B→C→D→E→F→G→Option R} (I:Nat→A→B→C→D→E→F→G→Prop) (M:∀m a b c d e f g k,I m a b c d e f g→(∀j a' q s u e' z J,j<m→I j a' q s u e' z J→gK (k a' q s u e' z J) Q)→gK (body k a b c d e f g) Q):
 ∀n m a b c d e f g,m<n→I m a b c d e f g→gK (WA body n a b c d e f g) Q
 |0,m,_,_,_,_,_,_,_,h,_=>AA
 |n+1,m,a,b,c,d,e,f,g,h,hi=>M m a b c d e f g _ hi fun j a' q s u e' z J h' L=>abC I M n j a' q s u e' z J AA L
end
def PG {V:Type}:∀(m:List (Int×V)) (k k':Int) (v:V),Bq (DI m k v) k'=bif k'==k then some v else Bq m k'
 | [],k,k',v=>by
   unfold DI Bq;rfl
 |p::m,k,k',v=>by
  unfold DI;cases h:k==p.1 with
  |true=>
   have f:k=p.1:=Jp
   subst f;simp only[Bj,Bq];cases k'==p.1<;>rfl
  |false=>
   have f:k≠p.1:=Jp
   simp only[BO,Bq,PG m k k' v];cases j:k'==p.1 with
   |true=>
    have q:k'=p.1:=MF
    subst q;have :(p.1==k)=false:=by simpa using fun e:p.1=k=>f e.symm
    rw[this];rfl
   |false=>rfl
def WU (l:List AP) (m:List (Int×Int)):Prop:=∀id,(Bq m id=none∧EM l id=none)∨∃(n:Nat) (e:AP),Bq m id=some (n:Int)∧EM l id=some e∧l[n]? =some e
def WU.isSome {l:List AP} {m:List (Int×Int)} (h:WU l m) (id:Int):(Bq m id).isSome=dM l id:=by
 unfold dM;rcases h id with⟨f,j⟩|⟨n,e,f,j,_⟩<;>rw[f,j]<;>rfl
def WU.get {l:List AP} {m:List (Int×Int)} (h:WU l m) {id:Int} {e:AP} (j:EM l id=some e):BK l ((Bq m id).getD 0)=some e:=by
 rcases h id with⟨_,f⟩|⟨n,e',q,f,s⟩
 ·rw[j]at f;cases f
 rw[j]at f;cases f;rw[q];show BK l (n:Int)=_;rw[aB2,s]
def lC (l:List AP) (I:l.length≤1000):gK (X0 l) (WU l):=by
 unfold X0 adD
 refine Vl (fun m a b=>∃i:Nat,a=(i:Int)-1∧m=i∧i≤l.length∧∀id,(Bq b id=none∧(l.drop i).find? (fun e=>e.Id==id)=none)∨∃(n:Nat) (e:AP),Bq b id=some (n:Int)∧(l.drop i).find? (fun e=>e.Id==id)=some e∧l[n]? =some e) ?_ BA l.length _ _ (fuel_lt AA)
  ⟨l.length,PU,rfl,Dy _,fun id=>.inl ⟨rfl,BM⟩⟩
 rintro m a b k ⟨i,rfl,J,hi,h⟩ s;unfold aLh;refine gK.bif (fun e=>?_) fun e=>?_
 ·have q:0<i:=by have :=UM e;omega
  have f:i-1<l.length:=AA
  have u:(i:Int)-1=((i-1:Nat):Int):=AA
  rw[u,D6 f];simp only[Af];refine s (i-1) _ _ AA ⟨i-1,PU,rfl,AA,fun id=>?_⟩;rw[PG,NT f,show i-1+1=i by omega,VO];cases j:l[i-1].Id==id with
  |true=>
   have :(id==l[i-1].Id)=true:=by have :l[i-1].Id=id:=MF
                                  simp[this]
   rw[this];exact .inr ⟨i-1,l[i-1],rfl,rfl,VA⟩
  |false=>
   have :(id==l[i-1].Id)=false:=by have :l[i-1].Id≠id:=MF
                                   simpa using fun e:id=l[i-1].Id=>this e.symm
   rw[this];exact h id
 have z:i=0:=by have :=JW e;omega
 subst z;refine .ret fun id=>?_;have :=h id;rw[qc]at this;exact this
inductive Sv (l:List AP) (from_:List Int):Int→Prop
 |one {x:Int} (h:x∈from_) (hk:dM l x=true):Sv l from_ x
 |more {y x:Int} (h:Sv l from_ y) (hx:x∈jl l y) (hk:dM l x=true):Sv l from_ x
def Sv.dM {l:List AP} {f:List Int} {x:Int} (h:Sv l f x):dM l x=true:=by cases h<;>assumption
def aqj {r:List Int} {x:Int} (h:x∉r):(put r x).length=r.length+1:=by
 unfold put;rw[D8 (by rw[Js];exact h),Dz,FV];have :=Ba List.length (qy (p:=(decide<| · <x)) (l:=r));rw[Dz]at this;omega
def ap8 (r:List Int) (x:Int):FP (r++[x])=put (FP r) x:=by unfold FP;rw[Yn];rfl
structure agy (l:List AP) (from_ next aoU:List Int) (i:Nat) (out later:List Int) (found level:List (Int×Bool)):Prop where
 found:∀x,(Bq found x).getD false=true↔x∈out
 level:∀x,(Bq level x).getD false=true→x∈out
 nodup:(FP out).length=out.length
 rch:∀x∈out,Sv l from_ x
 seen:∀x∈next.take i,dM l x=true→x∈out
 sub:∀x∈aoU,x∈out
 ref:∀y∈out,y∈aoU∨∀x∈jl l y,x∈later
 back:∀x∈later,∃y∈out,x∈jl l y
 size:later.length+40*aoU.length≤40*out.length
 same:out.length=aoU.length→later=[]
def aFE {l:List AP} {f:List Int} (h:(FP f).length=f.length) (j:∀x∈f,dM l x=true):f.length≤l.length:=by
 rw[←h];exact yF (Mc f) fun x m=>j x (JD.1 m)
def ajJ (l:List AP) {x:Int} {e:AP} (h:EM l x=some e):WB e=some (jl l x):=by
 unfold WB jl;rw[Oo h]
def ai3 (l:List AP) (j:List Int) (hl:l.length≤1000) (ha:XY l) (hf:j.length≤10000000):
 gK (gG l j fun a0=>WB a0) (fun r=>Inc r∧∀x,x∈r↔Sv l j x):=by
 unfold gG;refine(lC l hl).bind fun at_ U=>?_;unfold aJ6
 refine aCs (fun m s next at' found level=>at'=at_∧m=2*(l.length-s.length)+(if next=[]then 0 else 1)∧next.length≤10000000∧(∀x,(Bq found x).getD false=true↔x∈s)∧(FP s).length=s.length∧
  (∀x∈s,Sv l j x)∧(∀x∈next,dM l x=true→Sv l j x)∧(∀x∈j,dM l x=true→x∈s∨x∈next)∧(∀y∈s,∀x∈jl l y,dM l x=true→x∈s∨x∈next)) ?_ BA (2*(l.length-([]:List Int).length)+(if j=[]then 0 else 1)) _ _ _ _ _ ?_ ?_
 ·rintro m s next at2 found level k ⟨Y,rfl,hn,h1,h2,h3,h4,h5,h6⟩ J;subst Y;unfold aMi;have hol:=aFE h2 fun x f=>(h3 x f).dM;refine gK.bif (fun e=>?_) fun e=>?_
  ·have hne:next≠[]:=by
    rintro rfl;simp at e
   unfold aaP;refine aI6 (body:=aGD next l (fun a0=>WB a0) k) (fun(m:Nat) (o la:List Int) (c:Int) (d:List (Int×Int)) (fo le:List (Int×Bool))=>∃i:Nat,c=i∧i+m=next.length∧d=at2∧agy l j next s i o la fo le) ?_ BA next.length _ _ _ _ _ _ aB1 ?_
   ·rintro m o la c d fo le k2 ⟨i,rfl,hm,rfl,q⟩ M;unfold aGD;refine gK.bif (fun e=>?_) fun e=>?_
    ·have hi:i<next.length:=TT
     have w:=wrap_succ i AA;have Z:=aFE q.nodup fun x f=>(q.rch x f).dM;rw[D6 hi];simp only[Af];rw[U.isSome];unfold zY;have z:next.take (i+1)=next.take i++[next[i]]:=by rw[X4 hi]
     cases O:dM l next[i]with
     |false=>
      simp only[KI,Bj,Af,w];refine M (m-1) _ _ _ _ _ _ AA ⟨i+1,rfl,AA,rfl,{ q with seen:=fun x f J=>?_ }⟩;rw[z,Gp]at f;rcases f with f|f
      ·exact q.seen x f J
      rw[Ho.1 f,O]at J;cases J
     |true=>
      simp only[EU,BO,Af];by_cases L:next[i]∈o
      ·rw[(q.found next[i]).2 L];simp only[Bj,Af,w];refine M (m-1) _ _ _ _ _ _ AA ⟨i+1,rfl,AA,rfl,{ q with seen:=fun x f J=>?_ }⟩;rw[z,Gp]at f;rcases f with f|f
       ·exact q.seen x f J
       rw[Ho.1 f];exact L
      have f1:(Bq fo next[i]).getD false=false:=by
       cases h:(Bq fo next[i]).getD false with
       |false=>rfl
       |true=>exact absurd ((q.found _).1 h) L
      have f2:(Bq le next[i]).getD false=false:=by
       cases h:(Bq le next[i]).getD false with
       |false=>rfl
       |true=>exact absurd (q.level _ h) L
      rw[f1,f2];simp only[BO,Af];obtain⟨ev,hev⟩:=U0.1 (show(EM l next[i]).isSome=true from O);rw[Ef I9];simp only[Af];rw[U.get hev];simp only[Af];rw[ajJ l hev];simp only[Af];have hau:=aHm ha next[i];have hsz:=q.size;rw[Ef AA];simp only[Af,w];refine M (m-1) _ _ _ _ _ _ AA ⟨i+1,rfl,AA,rfl,?_⟩;have hnx:Sv l j next[i]:=h4 _ (EC hi) O;refine⟨fun x=>?_,fun x f=>?_,?_,fun x f=>?_,fun x f J=>?_,fun x f=>s0 _ (q.sub x f),fun y I=>?_,fun x f=>?_,?_,fun h=>?_⟩
      ·rw[PG,Gp,Ho];cases f:x==next[i]with
       |true=>simp only[Bj,Lj,true_iff];exact .inr Ku
       |false=>simp only[BO];rw[q.found x];exact⟨.inl,fun h=>h.elim id fun h=>by simp[h]at f⟩
      ·rw[PG]at f;rw[Gp,Ho];cases hxe:x==next[i]with
       |true=>exact .inr (by simpa using hxe)
       |false=>rw[hxe]at f;exact .inl (q.level x f)
      ·rw[ap8,aqj (fun h=>L (JD.1 h)),q.nodup];simp
      ·rcases Gp.1 f with f|f
       ·exact q.rch x f
       rw[Ho.1 f];exact hnx
      ·rw[z,Gp]at f;rcases f with f|f
       ·exact s0 _ (q.seen x f J)
       exact aH5 _ f
      ·rcases Gp.1 I with I|I
       ·exact(q.ref y I).imp id fun h x f=>s0 _ (h x f)
       rw[Ho.1 I];exact .inr fun x f=>aH5 _ f
      ·rcases Gp.1 f with f|f
       ·obtain⟨y,I,h⟩:=q.back x f;exact⟨y,s0 _ I,h⟩
       exact⟨next[i],aH5 _ (Ho.2 rfl),f⟩
      ·simp only[Dz,QM];omega
      have :=q.size;simp only[Dz,QM]at h;omega
    have hi:i=next.length:=by have :¬i<next.length:=TT
                              omega
    subst hi;have Z:=aFE q.nodup fun x f=>(q.rch x f).dM;have hsz:=q.size;refine J (2*(l.length-o.length)+(if la=[]then 0 else 1)) _ _ _ _ _ ?_ ⟨rfl,rfl,AA,q.found,q.nodup,q.rch,fun x f u=>?_,fun x f u=>?_,fun y I x f u=>?_⟩
    ·rw[D8 hne];have hle:s.length≤o.length:=AA
     rcases YV s.length o.length with h|h
     ·split<;>omega
     have :=q.same AA;rw[Ch this];omega
    ·obtain⟨y,I,h⟩:=q.back x f;exact .more (q.rch y I) h u
    ·rcases h5 x f u with h|h
     ·exact .inl (q.sub x h)
     exact .inl (q.seen x (by rw[Il];exact h) u)
    rcases q.ref y I with h|h
    ·rcases h6 y h x f u with h|h
     ·exact .inl (q.sub x h)
     exact .inl (q.seen x (by rw[Il];exact h) u)
    exact .inr (h x f)
   exact⟨0,rfl,AA,rfl,⟨h1,fun x f=>by simp[Bq]at f,h2,h3,fun x f=>TV,fun _ h=>h,fun y I=>.inl I,fun x f=>(GL f).elim,BM,fun _=>rfl⟩⟩
  have hz:next=[]:=by
   cases next with
   |nil=>rfl
   |cons a b=>simp at e
  subst hz;rw[Xe s AA];refine .ret ⟨Mc _,fun x=>?_⟩;rw[JD];refine⟨h3 x,fun h=>?_⟩
  induction h with
  |one h u=>exact(h5 _ h u).elim id fun h=>(GL h).elim
  |more h f u ih=>exact(h6 _ ih _ f u).elim id fun h=>(GL h).elim
 ·have :BA=9223372036854775808:=rfl;split<;>(simp only[OB];omega)
 exact⟨rfl,rfl,hf,fun x=>by simp[Bq],rfl,fun x f=>(GL f).elim,fun x f J=>.one f J,fun x f _=>.inr f,fun y I=>(GL I).elim⟩
def aFg (l:List AP) (ids:List Int) (z:l.length≤1000) (ha:XY l) (hi:ids.length≤100000):WS l ids=some (chainOf l ids):=by
 refine gK.eq ?_;unfold WS;refine(lC l z).bind fun at_ j=>?_;unfold acD;rw[Kr ids AA (fun r id=>r++jl l id) (fun i r=>r.length≤40*i) (fun r=>(gG l r fun a0=>WB a0).bind fun u=>some u) BM]
 ·rw[foldl_append (jl l),J4]
  have hlen:(ids.flatMap (jl l)).length≤40*ids.length:=by
   have key:∀ids:List Int,(ids.flatMap (jl l)).length≤40*ids.length:=by
    intro ids
    induction ids with
    |nil=>simp
    |cons x ids s=>have :=aHm ha x;rw[Lr,Dz,FV];omega
   exact key ids
  refine(ai3 l _ z ha AA).bind fun r I=>.ret ?_;refine Ld I.1 (vT l ids) fun x=>(I.2 x).trans (Iff.trans ?_ cZ.symm);constructor
  ·intro h
   induction h with
   |one h f=>
    obtain⟨i,hi,h⟩:=Rt.1 h;exact .one hi h f
   |more h m f s=>exact .more s m f
  intro h
  induction h with
  |one h m f=>exact .one (Rt.2 ⟨_,h,m⟩) f
  |more h m f s=>exact .more s m f
 ·intro k r i h L;have J:=aHm ha ids[i];refine⟨by simp only[Dz];omega,?_⟩;unfold aDq aBU;rw[DR h,j.isSome];cases f:dM l ids[i]with
  |false=>
   have :jl l ids[i]=[]:=by
    unfold jl;rw[RH (by unfold dM at f;simpa using f)];rfl
   rw[this,TJ];rfl
  |true=>
   obtain⟨ev,q⟩:=U0.1 (show(EM l ids[i]).isSome=true from f);simp only[Bj];rw[j.get q];simp only[Af];have :jl l ids[i]=ev.bM:=by unfold jl;rw[Oo q]
   rw[←this,Ef AA];rfl
 intro k r _;unfold aDq;rw[EL]
def aE7 :∀x:List UInt8,Op.bytesLess x x=false
 | []=>rfl
 |a::x=>by
  unfold Op.bytesLess;rw[aE7 x];simp
def aLb :∀{x y z:List UInt8},Op.bytesLess x y=true→Op.bytesLess y z=true→Op.bytesLess x z=true
 |_,_,[],_,h=>sN
 | [],_,_::_,_,_=>rfl
 |_::_,[],_::_,h,_=>sN
 |a::x,b::y,c::z,h,k=>by
  simp only[Op.bytesLess,Yg,CZ,G8,TF]at h k ⊢;rcases h with h|⟨rfl,h⟩<;>rcases k with k|⟨rfl,k⟩
  ·exact .inl (UInt8.lt_trans h k)
  ·exact .inl h
  ·exact .inl k
  exact .inr ⟨rfl,aLb h k⟩
def aen :∀{x y:List UInt8},Op.bytesLess x y=false→Op.bytesLess y x=false→x=y
 | [],[],_,_=>rfl
 | [],_::_,h,_=>sN
 |_::_,[],_,h=>sN
 |a::x,b::y,h,k=>by
  simp only[Op.bytesLess,qX,aEt,Vm,Y9]at h k;have e:a=b:=UInt8.le_antisymm (UInt8.not_lt.1 k.1) (UInt8.not_lt.1 h.1);subst e;have f:=h.2.resolve_left (fun h=>h rfl);have k2:=k.2.resolve_left (fun h=>h rfl);rw[aen f k2]
def FQ (a b:Aw):Bool:=decide (a.Kind<b.Kind)||(a.Kind==b.Kind&&Op.bytesLess a.Key.toList b.Key.toList)
def IK (a b:Aw):Bool:=a.Kind==b.Kind&&decide (a.Key=b.Key)
def am6 (a:Aw):FQ a a=false:=by unfold FQ;rw[aE7];simp
def aMx {a b c:Aw} (h:FQ a b=true) (k:FQ b c=true):FQ a c=true:=by
 unfold FQ at *;simp only[Yg,CZ,G8,TF]at *;rcases h with h|⟨j,f⟩<;>rcases k with k|⟨m,k2⟩
 ·exact .inl AA
 ·exact .inl AA
 ·exact .inl AA
 exact .inr ⟨AA,aLb f k2⟩
def UQ {a b:Aw}:IK a b=true↔a.Kind=b.Kind∧a.Key=b.Key:=by unfold IK;simp
def aLH {a b:Aw} (h:FQ a b=false) (k:FQ b a=false):IK a b=true:=by
 unfold FQ at *;simp only[qX,aEt,Vm,Y9]at *;have e:a.Kind=b.Kind:=AA
 rw[UQ];exact⟨e,toList_inj (aen (h.2.resolve_left fun n=>n e) (k.2.resolve_left fun n=>n e.symm))⟩
def qI {a b:Aw} (h:IK a b=true):FQ a b=false:=by
 obtain⟨f,j⟩:=UQ.1 h;unfold FQ;rw[f,j,aE7];simp
def iK {a b c:Aw} (h:IK a b=true):FQ a c=FQ b c∧FQ c a=FQ c b:=by
 obtain⟨f,j⟩:=UQ.1 h;unfold FQ;rw[f,j];exact⟨rfl,rfl⟩
def arC (a b:Aw):qg a b=some (FQ a b):=by
 unfold qg FQ;cases f:decide (a.Kind<b.Kind)<;>cases j:a.Kind==b.Kind<;>rfl
def Hu (s:List Aw) (e:Aw):Nat:=s.findIdx fun x=> !FQ x e
def OU (s:List Aw) (e:Aw):Bool:=match s[Hu s e]? with
 |some x=>IK x e
 |none=>false
def aD1 (s:List Aw) (e:Aw):Hu s e≤s.length:=List.findIdx_le_length
def adS {s:List Aw} {e:Aw} (h:Hu s e<s.length):FQ s[Hu s e] e=false:=by
 have :=List.findIdx_getElem (w:=h);unfold Hu;simpa using this
def abv (s:List Aw) (k:Int) (key:ByteArray) (u:s.length≤1000000):mV s k key=some (((Hu s ⟨k,key,0⟩:Nat):Int),OU s ⟨k,key,0⟩):=by
 unfold mV aGm aKk;generalize z:(⟨k,key,0⟩:Aw)=e
 have j:bn (rZ s (fun a0=>kD a0 e) (fun a0=>jB a0 e)) BA 0=some (((Hu s e:Nat):Int),OU s e):=by
  rw[Rw s (fuel_lt AA) (fun x=> !FQ x e) (fun i=>some (((i:Nat):Int),match s[i]? with |some x=> !FQ e x|none=>false)) (some (((s.length:Nat):Int),false))]
  ·split
   ·rename_i h;congr 2;unfold OU Hu;rw[Df h];have m:FQ s[s.findIdx fun x=> !FQ x e] e=false:=adS h;show(!FQ e s[s.findIdx fun x=> !FQ x e])=IK s[s.findIdx fun x=> !FQ x e] e;cases f:FQ e s[s.findIdx fun x=> !FQ x e]with
    |false=>rw[aLH m f];rfl
    |true=>
     cases q:IK s[s.findIdx fun x=> !FQ x e] e with
     |false=>rfl
     |true=>rw[(iK q).2,am6]at f;cases f
   rename_i h;have h':Hu s e=s.length:=by have :=aD1 s e;unfold Hu at *;omega
   have f:OU s e=false:=by unfold OU;rw[h',Kq (Dy _)]
   rw[h',f]
  ·intro k2 i h;unfold rZ;rw[DR h,DR h];simp only[kD,jB,arC,Af];rw[Df h];cases FQ s[i] e<;>rfl
  intro k2;unfold rZ;rw[EL,EL];rfl
 rw[j];rfl
def IG (s:List Aw):Prop:=s.Pairwise fun a b=>FQ a b=true
def GY (s:List Aw) (k:Int) (key:ByteArray):Int×Bool:=match s.find? fun x=>IK x ⟨k,key,0⟩with
 |some x=>(x.Id,true)
 |none=>(0,false)
def ap7 {s:List Aw} (h:IG s) (e:Aw):s.find? (fun x=>IK x e)=match s[Hu s e]? with |some x=>if IK x e then some x else none|none=>none:=by
 induction s with
 |nil=>rfl
 |cons a s q=>
  have h':=Ot.1 h;unfold Hu;rw[VO,Tj];cases j:FQ a e with
  |true=>
   have f:IK a e=false:=by
    cases f:IK a e with
    |false=>rfl
    |true=>rw[qI f]at j;cases j
   rw[f];simp only[EU,BO,zC];exact q h'.2
  |false=>
   simp only[KI,Bj,aH6];cases f:IK a e with
   |true=>rfl
   |false=>
    simp only[SQ,Ip];refine aFu.2 fun x u z=>?_;have m:=h'.1 x u;rw[(iK z).2,j]at m;cases m
def aDX (s:List Aw) (k:Int) (key:ByteArray) (j:s.length≤1000000) (h:IG s):Xp s k key=some (GY s k key):=by
 unfold Xp;rw[abv s k key j];simp only[Af];unfold GY OU;rw[ap7 h];by_cases f:Hu s ⟨k,key,0⟩<s.length
 ·rw[Df f];simp only;cases m:IK s[Hu s ⟨k,key,0⟩] ⟨k,key,0⟩with
  |true=>simp only[Bj,KE];rw[D6 f];rfl
  |false=>rfl
 rw[Kq AA];rfl
def Gu (s:List Aw) (k:Int) (key:ByteArray) (id:Int):List Aw:=
 s.take (Hu s ⟨k,key,0⟩)++⟨k,key,id⟩::s.drop (Hu s ⟨k,key,0⟩+bif OU s ⟨k,key,0⟩then 1 else 0)
def aqI {s:List Aw} {e:Aw} (h:OU s e=true):Hu s e<s.length:=by
 unfold OU at h;by_cases f:Hu s e<s.length
 ·exact f
 rw[Kq AA]at h;cases h
def aJe {α:Type} {l:List α} {i:Nat} (hi:i≤l.length):MH l 0 (i:Int)=some (l.take i):=by
 have :=aBW (l:=l) (lo:=0) (hi:=i) AA hi;simpa using this
def aEp {α:Type} {l:List α} {i:Nat} (hi:i≤l.length):MH l (i:Int) (l.length:Int)=some (l.drop i):=by
 rw[aBW (l:=l) (lo:=i) (hi:=l.length) hi AA];congr 1;exact Pv BM
def X6 (s:List Aw) (k:Int) (key:ByteArray) (id:Int) (j:s.length≤1000000):Q9 s k key id=some (Gu s k key id):=by
 unfold Q9;rw[abv s k key j];simp only[Af];have f:=aD1 s ⟨k,key,0⟩;unfold aAq Gu;rw[aJe f];simp only[Af];rw[Ef E5];simp only[Af,J4];rw[Ef E5];simp only[Af];cases m:OU s ⟨k,key,0⟩with
 |true=>
  have q:=aqI m;simp only[Bj];rw[wrap_succ _ AA,aEp q];simp only[Af];rw[Ef E5];simp
 |false=>
  simp only[BO];rw[aEp f];simp only[Af];rw[Ef E5];simp
def Si (s:List Aw) (k:Int) (key:ByteArray) (id:Int):(Gu s k key id).length≤s.length+1:=by
 unfold Gu;have :=aD1 s ⟨k,key,0⟩;simp only[Dz,FV,Gt,Jt];omega
def am2 {s:List Aw} {e x:Aw} (h:x∈s.take (Hu s e)):FQ x e=true:=by
 obtain⟨i,hi,rfl⟩:=Gj h;have f:i<Hu s e:=by simp at hi;omega
 have :=List.not_of_lt_findIdx f;rw[aHy];simpa using this
def aeX {s:List Aw} (u:IG s) {e x:Aw} (h:x∈s.drop (Hu s e+bif OU s e then 1 else 0)):FQ e x=true:=by
 generalize j:(Hu s e+bif OU s e then 1 else 0)=n at h;obtain⟨i,hi,rfl⟩:=Gj h;rw[List.getElem_drop];rw[Jt]at hi;by_cases m:Hu s e<s.length
 ·have J:=adS m;cases f:OU s e with
  |true=>
   rw[f]at j;simp only[Bj]at j;have q:IK s[Hu s e] e=true:=aaX
   rw[←(iK q).1];exact KX.1 u _ _ m AA AA
  |false=>
   rw[f]at j;simp only[BO,O6]at j;subst j;have q:IK s[Hu s e] e=false:=aaX
   have z:FQ e s[Hu s e]=true:=by
    cases h:FQ e s[Hu s e]with
    |true=>rfl
    |false=>rw[aLH J h]at q;cases q
   rcases Z7 i with I|I
   ·subst I;simpa using z
   exact aMx z (KX.1 u _ _ m AA AA)
 omega
def VJ {s:List Aw} (h:IG s) (k:Int) (key:ByteArray) (id:Int):IG (Gu s k key id):=by
 have m:IK ⟨k,key,id⟩ ⟨k,key,0⟩=true:=UQ.2 ⟨rfl,rfl⟩;unfold Gu IG;refine ak.2 ⟨h.sublist (List.take_sublist ..),Ot.2 ⟨fun x f=>?_,h.sublist (List.drop_sublist ..)⟩,fun x f y j=>?_⟩
 ·rw[(iK m).1];exact aeX h f
 have q:FQ x ⟨k,key,0⟩=true:=am2 f;rcases F5.1 j with rfl|j
 ·rw[(iK m).2];exact q
 exact aMx q (aeX h j)
structure Px (l:List (List Aw)):Prop where
 len:l.length≤100
 each:∀s∈l,s.length≤100∧IG s
def KN (l:List (List Aw)) (x:Aw):Bool:=l.all fun s=>(GY s x.Kind x.Key).2&&(GY s x.Kind x.Key).1==x.Id
def ao9 (l:List (List Aw)) (x:Aw) (h:Px l):uw l x=some (KN l x):=by
 unfold uw aJN;rw[Ic l (fuel_lt (by have :=h.len;omega)) (fun s=> !((GY s x.Kind x.Key).2&&(GY s x.Kind x.Key).1==x.Id)) false (some true)]
 ·unfold KN;rw[Jq,aAy]
 ·intro k i hi;obtain⟨j,f⟩:=h.each l[i] (EC hi);unfold aCK;rw[DR hi,aDX _ _ _ AA f];simp only[Af];cases(GY l[i] x.Kind x.Key).2<;>simp[bne]
 intro k;unfold aCK;rw[EL]
def JK (l:List (List Aw)):List Aw:=match l with
 | []=>[]
 |s::_=>s.filter (KN l)
def Qz (l:List (List Aw)):List Int:=(l.flatMap fun s=>s.filter fun x=> !KN l x).map (·.Id)
def UC (l:List (List Aw)) (i:Nat):List Aw:=if i=0 then[]else JK l
def OZ (l:List (List Aw)) (i:Nat):List Int:=((l.take i).flatMap fun s=>s.filter fun x=> !KN l x).map (·.Id)
def agp {l:List (List Aw)} {i:Nat} (h:i<l.length):UC l (i+1)=UC l i++(if i=0 then l[i].filter (KN l)else[]):=by
 unfold UC JK;cases l with
 |nil=>simp at h
 |cons s l=>cases i<;>simp
def aJO {l:List (List Aw)} {i:Nat} (h:i<l.length):OZ l (i+1)=OZ l i++(l[i].filter fun x=> !KN l x).map (·.Id):=by
 unfold OZ;rw[X4 h,List.flatMap_append,L6];simp
def aea (l:List (List Aw)):OZ l l.length=Qz l:=by unfold OZ Qz;rw[Il]
def aqw (l:List (List Aw)):UC l l.length=JK l:=by
 unfold UC;cases l with
 |nil=>rfl
 |cons s l=>simp
def abd {l:List (List Aw)} (h:Px l) (i:Nat):(OZ l i).length≤100*i:=by
 induction i with
 |zero=>simp[OZ]
 |succ i f=>
  by_cases hi:i<l.length
  ·rw[aJO hi,Dz,Cb];have :=(h.each _ (EC hi)).1;have :=LJ (fun x=> !KN l x) l[i];omega
  have :OZ l (i+1)=OZ l i:=by unfold OZ;rw[Pv AA,Pv AA]
  rw[this];omega
def aEB {l:List (List Aw)} (h:Px l):(Qz l).length≤10000:=by
 have :=abd h l.length;rw[aea]at this;have :=h.len;omega
def xF {l:List (List Aw)} (h:Px l):(JK l).length≤100:=by
 unfold JK;cases l with
 |nil=>exact EH _
 |cons s l=>exact EZ (LJ _ _) (h.each s (Ez ..)).1
def aKt {l:List (List Aw)} (h:Px l):IG (JK l):=by
 unfold JK;cases l with
 |nil=>exact .nil
 |cons s l=>exact(h.each s (Ez ..)).2.sublist SY
def aMo (l:List (List Aw)) (h:Px l):oq l=some (JK l,FP (Qz l)):=by
 have hlen:=h.len;refine gK.eq ?_;unfold oq acS;refine aI6 (body:=aI4 l) (fun(m:Nat) (a:List Aw) (b:List Int) (c:Int) (d:List (List Aw)) (_:List Aw) (_:List Int)=>∃i:Nat,c=i∧i+m=l.length∧d=l∧a=UC l i∧b=OZ l i) ?_ BA l.length [] [] 0 l [] [] (fuel_lt AA) ⟨0,rfl,AA,rfl,rfl,by simp[OZ]⟩;rintro m a b c d e f k ⟨i,rfl,Z,rfl,rfl,rfl⟩ O;unfold aI4;refine gK.bif (fun hi=>?_) fun hi=>?_
 ·have hi:i<d.length:=FZ
  have hs:=(h.each d[i] (EC hi)).1;have U:=abd h i;rw[D6 hi];simp only[Af,kW];unfold adB
  refine abC (body:=aGc d[i] k (i:Int)) (fun(I:Nat) (a:List Aw) (b:List Int) (c:Int) (s:List (List Aw)) (_:List Aw) (_:List Int) (g:Int)=>
   ∃j:Nat,c=j∧j+I=d[i].length∧s=d∧g=i∧a=UC d i++(if i=0 then(d[i].take j).filter (KN d)else[])∧b=OZ d i++((d[i].take j).filter fun x=> !KN d x).map (·.Id)) ?_ BA d[i].length _ _ _ _ _ _ _ (fuel_lt AA) ⟨0,rfl,AA,rfl,rfl,BM,BM⟩
  rintro I a b c s e2 f2 g k2 ⟨j,rfl,Y,rfl,rfl,rfl,rfl⟩ z;unfold aGc;refine gK.bif (fun u=>?_) fun u=>?_
  ·have u:j<s[i].length:=Og
   have q:s[i].take (j+1)=s[i].take j++[s[i][j]]:=by rw[X4 u]
   rw[D6 u];simp only[Af];rw[ao9 s _ h];simp only[Af];have w:=wrap_succ j AA;have J:=LJ (fun x=> !KN s x) (s[i].take j);have L:=LJ (KN s) (s[i].take j)
   have hst:(UC s i).length≤100:=by unfold UC;split; ·exact EH _
                                    ·exact xF h
   rw[Gt]at J L;cases ha:KN s s[i][j]with
   |false=>
    simp only[KI,Bj];rw[Ef (by simp only[Dz,Cb,QM];omega)];simp only[Af,w];refine z (I-1) _ _ _ _ _ _ _ AA ⟨j+1,rfl,AA,rfl,rfl,?_,?_⟩
    ·rw[q,Ua];simp[ha]
    rw[q,Ua];simp[ha]
   |true=>
    simp only[EU,BO];by_cases M:i=0
    ·subst M;simp only[show(((0:Nat):Int)==0)=true from rfl,Bj,KE];rw[Ef YU];simp only[Af,w];refine z (I-1) _ _ _ _ _ _ _ AA ⟨j+1,rfl,AA,rfl,rfl,?_,?_⟩
     ·rw[q,Ua];simp[ha]
     rw[q,Ua];simp[ha]
    have :((i:Int)==0)=false:=by simpa using M
    rw[this];simp only[BO,w];refine z (I-1) _ _ _ _ _ _ _ AA ⟨j+1,rfl,AA,rfl,rfl,?_,?_⟩
    ·simp[M]
    rw[q,Ua];simp[ha]
  have u:j=s[i].length:=by have :¬j<s[i].length:=Og
                           omega
  subst u;rw[wrap_succ i AA,Il];exact O (m-1) _ _ _ _ _ _ AA ⟨i+1,rfl,AA,rfl,(agp hi).symm,(aJO hi).symm⟩
 have hi:i=d.length:=by have :¬i<d.length:=FZ
                        omega
 subst hi;have :=aEB h;rw[aea,aqw,Xe _ AA];exact .ret rfl
def Ru (s:List Aw):List Int:=s.map (·.Id)
def Et (l:List AP) (s:List Aw):List Int:=Hf (Ru s) (chainOf l (Ru s))
def allOf (l:List AP) (f:List (List Aw)):List Int:=f.foldl (fun a s=>Hf a (Et l s)) []
def KH (l:List AP) (f:List (List Aw)) (x:Int):Nat:=f.countP fun s=>EN (Et l s) x
def OH (l:List AP) (f:List (List Aw)):List Int:=(allOf l f).filter fun x=>decide (KH l f x<f.length)
def J7 (l:List AP) (f:List (List Aw)):List Int:=Hf (FP (Qz f)) (OH l f)
def acW (l:List AP) (s:List Aw):Inc (Et l s):=rD _ _
def aKl (s:List Aw):(Ru s).length=s.length:=Cb _
def aEo (l:List AP) (s:List Aw):(Et l s).length≤s.length+l.length:=by
 have f:=aEm (Ru s) (chainOf l (Ru s));have j:=aAM l (Ru s);rw[aKl]at f;unfold Et;omega
def aEd (l:List AP):∀(f:List (List Aw)) (a:List Int),Inc a→Inc (f.foldl (fun a s=>Hf a (Et l s)) a)∧∀x,x∈f.foldl (fun a s=>Hf a (Et l s)) a↔x∈a∨∃s∈f,x∈Et l s
 | [],a,h=>⟨h,fun x=>BM⟩
 |s::f,a,h=>by
  rw[Fh];obtain⟨m,q⟩:=aEd l f (Hf a (Et l s)) (rD _ _);refine⟨m,fun x=>(q x).trans ?_⟩;rw[Ti];constructor
  ·rintro((h|h)|⟨t,j,h4⟩)
   ·exact .inl h
   ·exact .inr ⟨s,Ez ..,h⟩
   exact .inr ⟨t,G9 _ j,h4⟩
  rintro(h|⟨t,j,h4⟩)
  ·exact .inl (.inl h)
  rcases F5.1 j with rfl|j
  ·exact .inl (.inr h4)
  exact .inr ⟨t,j,h4⟩
def an5 (l:List AP) (f:List (List Aw)):Inc (allOf l f):=(aEd l f [] .nil).1
def aKS {l:List AP} {f:List (List Aw)} {x:Int}:x∈allOf l f↔∃s∈f,x∈Et l s:=by
 unfold allOf;rw[(aEd l f [] .nil).2 x];simp
def afZ (l:List AP) (f:List (List Aw)):Inc (OH l f):=(an5 l f).sublist SY
def cnt_lt {l:List AP} {f:List (List Aw)} {x:Int}:KH l f x<f.length↔∃s∈f,x∉Et l s:=by
 unfold KH;have h:=List.countP_le_length (p:=fun s=>EN (Et l s) x) (l:=f);have u:=List.countP_eq_length (p:=fun s=>EN (Et l s) x) (l:=f);constructor
 ·intro I;by_cases j:∀s∈f,EN (Et l s) x=true
  ·have :=u.2 j;omega
  simp only[Classical.not_forall]at j;obtain⟨s,m,q⟩:=j;exact⟨s,m,fun J=>q (Js.2 J)⟩
 rintro⟨s,m,q⟩;rcases YV (f.countP fun s=>EN (Et l s) x) f.length with z|z
 ·exact z
 exact absurd (Js.1 (u.1 AA s m)) q
def aeJ {l:List AP} {f:List (List Aw)} {x:Int}:x∈OH l f↔(∃s∈f,x∈Et l s)∧∃s∈f,x∉Et l s:=by
 unfold OH;rw[FK,aKS,G8,cnt_lt]
def abh {f:List (List Aw)} {x:Aw}:KN f x=true↔∀s∈f,(GY s x.Kind x.Key).2=true∧(GY s x.Kind x.Key).1=x.Id:=by
 unfold KN;rw[DZ];simp
def aG0 (l:List AP):∀(f:List (List Aw)) (a:List Int),(∀s∈f,s.length≤100)→(f.foldl (fun a s=>Hf a (Et l s)) a).length≤a.length+f.length*(100+l.length)
 | [],a,_=>BM
 |s::f,a,h=>by
  rw[Fh];have m:=aG0 l f (Hf a (Et l s)) fun t j=>h t (G9 _ j);have q:=aEm a (Et l s);have u:=aEo l s;have z:=h s (Ez ..);rw[FV,Sl];omega
def aiw {l:List AP} {f:List (List Aw)} (j:Px f) (z:l.length≤1000):(OH l f).length≤110000:=by
 have m:=aG0 l f [] fun s h=>(j.2 s h).1;have q:=j.1;have u:=LJ (fun x=>decide (KH l f x<f.length)) (allOf l f);have I:f.length*(100+l.length)≤100*1100:=aFy q AA;unfold OH;unfold allOf at u ⊢;simp only[OB]at m;omega
def ajs {s:List Aw} (h:IG s) {x:Aw} (u:x∈s):GY s x.Kind x.Key=(x.Id,true):=by
 unfold GY;cases q:s.find? (fun y=>IK y ⟨x.Kind,x.Key,0⟩)with
 |none=>
  have :=aFu.1 q x u;unfold IK at this;simp at this
 |some y=>
  have z:=uK q;have L:=Qm q;have I:IK y x=true:=by unfold IK at z ⊢;exact z
  have :y=x:=by
   obtain⟨i,hi,rfl⟩:=Gj u;obtain⟨j,J,rfl⟩:=Gj L;rcases qG i j with f|f|f
   ·have m:=KX.1 h i j hi J f;have M:IK s[i] s[j]=true:=by obtain⟨a,b⟩:=UQ.1 I;exact UQ.2 ⟨a.symm,b.symm⟩
    rw[qI M]at m;cases m
   ·subst f;rfl
   have m:=KX.1 h j i J hi f;rw[qI I]at m;cases m
  rw[this]
def aGL {s:List Aw} {k:Int} {key:ByteArray} {n:Int} (h:GY s k key=(n,true)):(⟨k,key,n⟩:Aw)∈s:=by
 unfold GY at h;cases f:s.find? (fun y=>IK y ⟨k,key,0⟩)with
 |none=>rw[f]at h;cases h
 |some y=>
  rw[f]at h;have m:IK y ⟨k,key,0⟩=true:=by have :=uK f;exact this
  have j:=UQ.1 m;have q:=Qm f;obtain⟨a,b,c⟩:=y;cases h;simp only at j;rw[←j.1,←j.2];exact q
def as3 {f:List (List Aw)} {x:Aw} (j:KN f x=true) {s:List Aw} (m:s∈f):x∈s:=by
 obtain⟨q,u⟩:=abh.1 j s m;exact aGL (s:=s) (k:=x.Kind) (key:=x.Key) (n:=x.Id) (by rw[←q,←u])
def alD {f:List (List Aw)} (h:Px f) {x:Aw} (m:∀s∈f,x∈s):KN f x=true:=
 abh.2 fun s j=>by rw[ajs (h.2 s j).2 (m s j)];exact⟨rfl,rfl⟩
def ab1 {f:List (List Aw)} (h:Px f) (m:f≠[]) {x:Aw}:x∈JK f↔∀s∈f,x∈s:=by
 cases f with
 |nil=>exact absurd rfl m
 |cons s f=>
  show x∈s.filter (KN (s::f))↔_;rw[FK];exact⟨fun j t q=>as3 j.2 q,fun j=>⟨j s (Ez ..),alD h j⟩⟩
def aK9 (l:List Int) (h:l.length≤1099511627776):((O8 l).bind fun x=>(VK x).bind fun y=>some y)=some (FP l):=by
 unfold O8 VK;have f:(PX l).length≤1099511627776:=by rw[(UA l).length_eq];exact h
 simp[h,aFV,aCI]
def ake (s:List Aw):s.foldl (fun r x=>r++[x.Id]) []=Ru s:=by
 rw[foldl_append (fun x:Aw=>[x.Id])];unfold Ru;rw[J4]
 induction s with
 |nil=>rfl
 |cons x s f=>rw[Lr,f];rfl
def aoZ (l:List AP) (s:List Aw) (m:l.length≤1000) (ha:XY l) (J:s.length≤100):sV l s=some (Et l s):=by
 unfold sV
 have q:Ia 8 (0:Int) 0 (s.length:Int)=some []:=by
  unfold Ia;rw[Ch aAP];rfl
 rw[q];simp only[Af];unfold aMh;rw[Kr s AA (fun r x=>r++[x.Id]) (fun i r=>r.length≤i) (fun r=>(WS l r).bind fun u=>(DN 8 r u).bind fun z=>(O8 z).bind fun f=>(VK f).bind fun j=>some j) BM]
 ·have L:=aAM l (Ru s);have M:=aKl s;rw[ake,aFg l _ m ha AA];simp only[Af];rw[Ef AA];simp only[Af];rw[aK9 _ LX];unfold Et;rw[jo]
 ·intro k a i h I;refine⟨aFx,?_⟩;unfold aDa;rw[DR h,Ef I9];rfl
 intro k a I;unfold aDa;rw[EL]
def stepM (m:List (Int×Int)) (x:Int):List (Int×Int):=DI m x (BJ (((Bq m x).getD 0)+1))
structure KJ (m:List (Int×Int)) (f:Int→Nat):Prop where
 nodup:(m.map (·.1)).Nodup
 find:∀x,Bq m x=if f x=0 then none else some (f x:Int)
def alM {m:List (Int×Int)} {k v y:Int}:y∈(DI m k v).map (·.1)↔y=k∨y∈m.map (·.1):=by
 induction m with
 |nil=>simp[DI]
 |cons p m f=>
  unfold DI;cases h:k==p.1 with
  |true=>
   have j:k=p.1:=Jp
   simp only[Bj,Jr,F5];rw[j];simp
  |false=>
   simp only[BO,Jr,F5,f];exact⟨fun h=>h.elim (fun e=>.inr (.inl e)) fun h=>h.elim .inl fun h=>.inr (.inr h),fun h=>h.elim (fun e=>.inr (.inl e)) fun h=>h.elim .inl fun h=>.inr (.inr h)⟩
def anH {m:List (Int×Int)} {k v:Int} (h:(m.map (·.1)).Nodup):((DI m k v).map (·.1)).Nodup:=by
 induction m with
 |nil=>simp[DI]
 |cons p m s=>
  have h':=Jy.1 h;unfold DI;cases q:k==p.1 with
  |true=>
   have f:k=p.1:=NS
   simp only[Bj,Jr];rw[f];exact h
  |false=>
   have f:k≠p.1:=NS
   simp only[BO,Jr];refine Jy.2 ⟨fun j=>?_,s h'.2⟩;rcases alM.1 j with e|j
   ·exact f e.symm
   exact h'.1 j
def ahY (m:List (Int×Int)) (k v:Int):(DI m k v).length≤m.length+1:=by
 induction m with
 |nil=>simp[DI]
 |cons p m f=>
  unfold DI;cases k==p.1 with
  |true=>simp
  |false=>simp only[BO,FV];omega
def KJ.step {m:List (Int×Int)} {f:Int→Nat} (h:KJ m f) (x:Int) (s:f x≤1000000):KJ (stepM m x) (fun y=>f y+if y=x then 1 else 0):=by
 refine⟨anH h.nodup,fun y=>?_⟩;unfold stepM;rw[PG,h.find x]
 have e:BJ (((if f x=0 then none else some (f x:Int)).getD 0)+1)=((f x+1:Nat):Int):=by
  by_cases j:f x=0
  ·rw[Ch j,j];rfl
  rw[D8 j];show BJ ((f x:Int)+1)=_;exact wrap_succ _ AA
 by_cases q:y=x
 ·subst q;simp only[TP,Bj,KE];rw[e,D8 AA]
 have :(y==x)=false:=NS
 rw[this];simp only[BO,D8 q,O6];exact h.find y
def KJ.fold:∀(c:List Int) {m:List (Int×Int)} {f:Int→Nat},c.Nodup→KJ m f→(∀x,f x≤1000)→KJ (c.foldl stepM m) (fun y=>f y+if y∈c then 1 else 0)
 | [],m,f,_,h,_=>by
   refine⟨h.nodup,fun x=>?_⟩;simp only[List.foldl_nil,GL,Ip,O6];exact h.find x
 |x::c,m,f,q,h,L=>by
  have j:=Jy.1 q
  have key:∀(c:List Int) (m:List (Int×Int)) (g:Int→Nat),c.Nodup→KJ m g→(∀x∈c,g x≤1000)→KJ (c.foldl stepM m) (fun y=>g y+if y∈c then 1 else 0):=by
   intro c
   induction c with
   |nil=>intro m g _ h _;refine⟨h.nodup,fun x=>?_⟩;simp only[List.foldl_nil,GL,Ip,O6];exact h.find x
   |cons z c M=>
    intro m g q h u;have j:=Jy.1 q
    have I:=M (stepM m z) (fun y=>g y+if y=z then 1 else 0) j.2 (h.step z (by have :=u z (Ez ..);omega)) fun y J=>by
     have s:y≠z:=fun e=>j.1 (e▸J);simp only[D8 s,O6];exact u y (G9 _ J)
    refine⟨I.nodup,fun y=>?_⟩;rw[Fh,I.find y]
    have :(g y+if y=z then 1 else 0)+(if y∈c then 1 else 0)=g y+if y∈z::c then 1 else 0:=by
     by_cases e:y=z
     ·subst e;simp[j.1]
     simp[e]
    simp only[this]
  exact key (x::c) m f q h fun y _=>L y
def aDv :∀(c:List Int) (m:List (Int×Int)),(c.foldl stepM m).length≤m.length+c.length
 | [],m=>BM
 |x::c,m=>by
  have f:=aDv c (stepM m x);have j:=ahY m x (BJ (((Bq m x).getD 0)+1));rw[Fh,FV];unfold stepM at f ⊢;omega
def ZA {l:List Int} (h:Inc l):l.Nodup:=h.imp fun h=>AA
def KJ.mem {m:List (Int×Int)} {f:Int→Nat} (h:KJ m f) {x n:Int}:(x,n)∈m↔f x≠0∧n=f x:=by
 have key:∀m:List (Int×Int),(m.map (·.1)).Nodup→((x,n)∈m↔Bq m x=some n):=by
  intro m
  induction m with
  |nil=>intro _;simp[Bq]
  |cons p m z=>
   intro I;have j:=Jy.1 I;unfold Bq;rw[F5];cases u:x==p.1 with
   |true=>
    have q:x=p.1:=Og
    simp only[Bj,Ju];constructor
    ·rintro(e|hm)
     ·rw[←e]
     exact absurd (F8.2 ⟨_,hm,q⟩) j.1
    intro e;left;rw[q,←e]
   |false=>
    have q:x≠p.1:=Og
    simp only[BO];rw[←z j.2];exact⟨fun h=>h.elim (fun e=>absurd (by rw[←e]) q) id,.inr⟩
 rw[key m h.nodup,h.find x];by_cases s:f x=0
 ·simp[s]
 rw[D8 s];simp only[Ju,ne_eq,s,not_false_eq_true,true_and];exact eq_comm
def aKe {l:List Int} (h:l.Nodup):PX l=FP l:=by
 refine Ld ?_ (Mc l) fun x=>by rw[JD];exact(UA l).mem_iff
 have f:=aAa l;have j:(PX l).Nodup:=(UA l).nodup_iff.2 h;exact(f.and j).imp fun h=>AA
def aGp (n:Int):∀(m:List (Int×Int)) (r:List Int) (f:List (List Aw)),(f.length:Int)=n→r.length+m.length≤1000000→List.foldlM (Uk f) r m=some (r++(m.filter fun p=>decide (p.2<n)).map (·.1))
 | [],r,f,_,_=>BM
 |p::m,r,f,j,s=>by
  simp only[FV]at s;have e:Uk f r p=(bif decide (p.2<n)then(DN 8 r [p.1]).bind fun q=>some q else some r):=by unfold Uk;rw[j]
  rw[SK,e];cases hd:decide (p.2<n)with
  |true=>
   simp only[Bj];rw[Ef I9];simp only[Af];show List.foldlM (Uk f) (r++[p.1]) m=_;rw[aGp n m (r++[p.1]) f j YU,X3,Ch hd];simp
  |false=>
   simp only[BO];show List.foldlM (Uk f) r m=_;rw[aGp n m r f j AA,X3,D8 (by simp[hd])]
def acM (l:List AP) (f:List (List Aw)) (x:Int):KH l f x≤f.length:=List.countP_le_length
def KJ.of_eq {m:List (Int×Int)} {f g:Int→Nat} (h:KJ m f) (e:∀x,f x=g x):KJ m g:=⟨h.nodup,fun x=>by rw[h.find,e]⟩
def amH (l:List AP) (f:List (List Aw)) (hl:l.length≤1000) (ha:XY l) (J:Px f):kF l f=some (OH l f):=by
 unfold kF aaF;have hsl:=J.len;rw[aEZ (a0:=[]) f AA (fun m s=>(Et l s).foldl stepM m) (fun i m=>KJ m (KH l (f.take i))∧m.length≤1100*i) (fun v2=>(Ia 8 (0:Int) 0 (v2.length:Int)).bind fun M=>(List.foldlM (Uk f) M v2).bind Zb) ⟨⟨Xb,fun x=>rfl⟩,EH _⟩]
 ·obtain⟨L,hlen⟩:KJ (f.foldl (fun m s=>(Et l s).foldl stepM m) []) (KH l f)∧(f.foldl (fun m s=>(Et l s).foldl stepM m) []).length≤1100*f.length:=by
   have key:∀(b a:List (List Aw)) (m:List (Int×Int)),(∀s∈b,s.length≤100)→a.length+b.length≤100→KJ m (KH l a)→m.length≤1100*a.length→KJ (b.foldl (fun m s=>(Et l s).foldl stepM m) m) (KH l (a++b))∧(b.foldl (fun m s=>(Et l s).foldl stepM m) m).length≤1100*(a.length+b.length):=by
    intro b
    induction b with
    |nil=>intro a m _ _ z I;simpa using⟨z,I⟩
    |cons s b ih=>
     intro a m hb O z I;rw[Fh,List.append_cons];have hc:=aEo l s;have q:=hb s (Ez ..);have U:=aDv (Et l s) m;simp only[FV]at O ⊢;have :=ih (a++[s]) ((Et l s).foldl stepM m) (fun t ht=>hb t (G9 _ ht)) YU ?_ YU
     ·simpa[MV,Oc 1]using this
     refine(KJ.fold (Et l s) (ZA (acW l s)) z fun x=>by have :=acM l a x;omega).of_eq fun x=>?_;unfold KH;rw[List.countP_append,List.countP_singleton];by_cases u:x∈Et l s
     ·rw[Ch u,Ch (Js.2 u)]
     rw[D8 u,D8 (by rw[PO.2 u];simp)]
   have :=key f [] [] (fun s h=>(J.each s h).1) (by simpa using J.len) ⟨Xb,fun x=>rfl⟩ (EH _);simpa using this
  generalize f.foldl (fun m s=>(Et l s).foldl stepM m) []=m at L hlen
  have hm:Ia 8 (0:Int) 0 (m.length:Int)=some []:=by
   unfold Ia;rw[Ch aAP];rfl
  rw[hm];simp only[Af];rw[aGp (f.length:Int) m [] f rfl Vs];simp only[Af,J4];have Y:((m.filter fun p=>decide (p.2<(f.length:Int))).map (·.1)).Nodup:=L.nodup.sublist (SY.map _);have hle:((m.filter fun p=>decide (p.2<(f.length:Int))).map (·.1)).length≤m.length:=by rw[Cb];exact LJ _ _
  unfold Zb O8;rw[Ch AA];simp only[Af];congr 1;rw[aKe Y];refine Ld (Mc _) (afZ _ _) fun x=>?_;rw[JD,F8];unfold OH;rw[FK,aKS];constructor
  ·rintro⟨⟨y,n⟩,Z,rfl⟩;rw[FK]at Z;obtain⟨z,I⟩:=L.mem.1 Z.1;have U:n<(f.length:Int):=by simpa using Z.2
   subst I;refine⟨?_,E5⟩;have :0<KH l f y:=AA
   obtain⟨s,hs1,hs2⟩:=List.countP_pos_iff.1 this;exact⟨s,hs1,Js.1 hs2⟩
  rintro⟨⟨s,z,I⟩,U⟩;have h4:0<KH l f x:=List.countP_pos_iff.2 ⟨s,z,Js.2 I⟩;refine⟨(x,(KH l f x:Int)),FK.2 ⟨L.mem.2 ⟨AA,rfl⟩,?_⟩,rfl⟩;have h5:KH l f x<f.length:=aBF
  simp;omega
 ·intro k m i h hI;have hc:=aEo l f[i];have q:=(J.each f[i] (EC h)).1;refine⟨⟨?_,?_⟩,?_⟩
  ·refine(KJ.fold (Et l f[i]) (ZA (acW l f[i])) hI.1 fun x=>by have :=acM l (f.take i) x;rw[Gt]at this;omega).of_eq fun x=>?_;rw[X4 h];unfold KH;rw[List.countP_append,List.countP_singleton];by_cases u:x∈Et l f[i]
   ·rw[Ch u,Ch (Js.2 u)]
   rw[D8 u,D8 (by rw[PO.2 u];simp)]
  ·have :=aDv (Et l f[i]) m;have :=hI.2;omega
  unfold sG;rw[DR h,aoZ l _ hl ha q];simp only[Af];unfold aIq;rw[aEZ (Et l f[i]) AA stepM (fun _ _=>True) (fun v8=>k (BJ ((i:Int)+1)) v8) trivial]
  ·intro k2 a j hj _;refine⟨trivial,?_⟩;unfold aAT;rw[DR hj];rfl
  intro k2 a _;unfold aAT;rw[EL]
 intro k m hI;unfold sG;rw[EL]
def af7 (l:List AP) (f:List (List Aw)) (m:l.length≤1000) (ha:XY l) (j:Px f):aAw l f=some (J7 l f):=by
 have q:=aEB j;have s:=RV (Qz f);have u:=aiw j m;unfold aAw;rw[aMo f j,amH l f m ha j];simp only[Af];rw[Ef AA];simp only[Af];rw[aK9 _ LX];unfold J7;rw[jo]
def EI (l:List AP):Prop:=∀e∈l,Gq e
def EI.ao1 {l:List AP} (h:EI l):XY l:=fun e f=>(h e f).auth
def aFA {R A α:Type} {body:(A→Int→Option R)→A→Int→Option R} (l:List α) (q:l.length<BA) (p:α→Bool) (g:Nat→Option R) (rest:Option R) (a0:A)
 (s:∀k (i:Nat) (h:i<l.length),body k a0 (i:Int)=bif p l[i]then g i else k a0 (BJ ((i:Int)+1))) (u:∀k,body k a0 (l.length:Int)=rest):
 aX body BA a0 0=if l.findIdx p<l.length then g (l.findIdx p)else rest:=by
 have J:BA=9223372036854775808:=rfl
 have key:∀n (i:Nat),i+n=l.length→∀m,n<m→aX body m a0 (i:Int)=if(l.drop i).findIdx p+i<l.length then g ((l.drop i).findIdx p+i)else rest:=by
  intro n
  induction n with
  |zero=>
   intro i hi m z;obtain⟨m,rfl⟩:∃j,m=j+1:=⟨m-1,AA⟩
   have :i=l.length:=AA
   subst this;show body (aX body m) _ _=_;rw[u,QX,D8 BM]
  |succ n I=>
   intro i hi m z;obtain⟨m,rfl⟩:∃j,m=j+1:=⟨m-1,AA⟩
   have f:i<l.length:=AA
   show body (aX body m) _ _=_;rw[s _ i f,wrap_succ i AA,I (i+1) AA m AA,NT f,Tj];cases p l[i]with
   |true=>simp only[Bj,Ik];rw[Ch f]
   |false=>
    simp only[BO];rw[show(l.drop (i+1)).findIdx p+(i+1)=(l.drop (i+1)).findIdx p+1+i by omega]
 have :=key l.length 0 AA BA q;simpa using this
def Q7 {s:List Aw} {k:Int} {key:ByteArray} {id:Int} {x:Aw} (h:x∈Gu s k key id):x=⟨k,key,id⟩∨x∈s:=by
 unfold Gu at h;rcases Gp.1 h with h|h
 ·exact .inr (ou h)
 rcases F5.1 h with h|h
 ·exact .inl h
 exact .inr (aFJ h)
def NQ (e:AP):List Aw:=Gu (Gu (Gu [] 1 BZ 0) 3 BZ 0) 2 e.bF 0
def keysOf (e:AP):List Aw:=
 bif e.Kind==1 then[]else bif e.Kind==2 then(bif e.Content.N==3||e.Content.N==1||e.Content.N==2 then Gu (Gu (NQ e) 2 e.Key 0) 4 BZ 0 else Gu (NQ e) 2 e.Key 0)else NQ e
def adO (e:AP):(NQ e).length≤3:=by
 have f:=Si [] 1 BZ 0;have j:=Si (Gu [] 1 BZ 0) 3 BZ 0;have m:=Si (Gu (Gu [] 1 BZ 0) 3 BZ 0) 2 e.bF 0;unfold NQ;simp only[OB]at f;omega
def Zd (e:AP):(keysOf e).length≤5:=by
 have f:=adO e;have j:=Si (NQ e) 2 e.Key 0;have m:=Si (Gu (NQ e) 2 e.Key 0) 4 BZ 0;unfold keysOf;cases e.Kind==1<;>cases e.Kind==2<;>cases(e.Content.N==3||e.Content.N==1||e.Content.N==2)<;>simp only[Bj,BO,OB]<;>omega
def aaC (e:AP):jH e=some (keysOf e):=by
 have j:=adO e;have m:=Si (NQ e) 2 e.Key 0;have f:=Si [] 1 BZ 0;have q:=Si (Gu [] 1 BZ 0) 3 BZ 0;simp only[OB]at f;unfold jH keysOf;rw[X6 [] 1 BZ 0 BM];simp only[Af];rw[X6 _ 3 BZ 0 AA];simp only[Af];rw[X6 _ 2 e.bF 0 AA];simp only[Af];show(bif e.Kind==1 then some []else bif e.Kind==2 then(Q9 (NQ e) 2 e.Key 0).bind _ else eu (NQ e))=_;rw[X6 (NQ e) 2 e.Key 0 AA];simp only[Af];rw[X6 _ 4 BZ 0 AA];unfold eu;cases e.Kind==1<;>cases e.Kind==2<;>cases e.Content.N==3<;>cases e.Content.N==1<;>cases e.Content.N==2<;>rfl
def Ec (k:Aw) (x:AP):Bool:=x.Kind==k.Kind&&decide (x.Key=k.Key)
def Qi (l:List AP) (e:AP):List AP:=(keysOf e).flatMap fun k=>((ofIds l e.bM).find? (Ec k)).toList
def flat_length {α β:Type} {f:α→List β} {n:Nat} (h:∀x,(f x).length≤n):∀l:List α,(l.flatMap f).length≤n*l.length
 | []=>BM
 |x::l=>by
  have j:=h x;have m:=flat_length h l;rw[Lr,Dz,FV,Nat.mul_succ];omega
def aKT (l:List AP) (e:AP):(Qi l e).length≤5:=by
 have j:=flat_length (f:=fun k=>((ofIds l e.bM).find? (Ec k)).toList) (n:=1) (fun k=>toList_le _) (keysOf e);have m:=Zd e;unfold Qi;omega
def aGU {l:List AP} {ids:List Int} {x:AP} (h:x∈ofIds l ids):x∈l:=by
 obtain⟨i,_,h⟩:=RY.1 h;exact Le h
def ajo {l:List AP} {e x:AP} (h:x∈Qi l e):x∈l:=by
 obtain⟨k,_,h⟩:=Rt.1 h;have :(ofIds l e.bM).find? (Ec k)=some x:=Jp
 exact aGU (Qm this)
def IJ (x:Aw):Qn:=⟨x.Kind,x.Key⟩
def aaf (e:AP):oK e=some ((keysOf e).map IJ):=by
 unfold oK;rw[aaC];simp only[Af];have j:=Zd e;unfold aaN;rw[Kr (keysOf e) AA (fun r x=>r++[IJ x]) (fun i r=>r.length≤i) (fun r=>some r) (Dy _)]
 ·rw[foldl_append (fun x=>[IJ x]),J4];congr 1
  induction keysOf e with
  |nil=>rfl
  |cons x s f=>rw[Lr,f];rfl
 ·intro k r i h m;refine⟨aFx,?_⟩;unfold aDC;rw[DR h,Ef I9];rfl
 intro k r _;unfold aDC;rw[EL]
def ae0 (l:List AP) (p:AP→Bool):∀ids:List Int,(ofIds l ids).find? p=(ids.find? fun i=>match EM l i with |some x=>p x|none=>false).bind (EM l)
 | []=>rfl
 |i::ids=>by
  have f:=ae0 l p ids;unfold ofIds at f ⊢;rw[Ns,VO];cases j:EM l i with
  |none=>exact f
  |some x=>
   simp only;rw[VO];cases p x with
   |true=>exact j.symm
   |false=>exact f
def aL0 (l:List AP) (e:AP) (s:l.length≤1000) (u:e.bM.length≤40):oh l e=some (Qi l e):=by
 unfold oh;rw[aaf];simp only[Af];have z:=Zd e;unfold ad4;rw[Kr (a0:=[]) ((keysOf e).map IJ) aBh (fun r k=>r++((ofIds l e.bM).find? fun x=>x.Kind==k.WQ&&decide (x.Key=k.WR)).toList) (fun i r=>r.length≤i) (fun r=>some r) (Dy _)]
 ·congr 1;rw[foldl_append (fun k:Qn=>((ofIds l e.bM).find? fun x=>x.Kind==k.WQ&&decide (x.Key=k.WR)).toList),J4,List.flatMap_map];rfl
 ·intro k r i h I;have J:=toList_le ((ofIds l e.bM).find? fun x=>x.Kind==((keysOf e).map IJ)[i].WQ&&decide (x.Key=((keysOf e).map IJ)[i].WR));refine⟨LX,?_⟩;have hi:i<5:=by rw[Cb]at h;omega
  unfold aGP;rw[DR h];generalize((keysOf e).map IJ)[i]=K;unfold aLx
  rw[aFA e.bM (fuel_lt AA) (fun id=>match EM l id with |some x=>x.Kind==K.WQ&&decide (x.Key=K.WR)|none=>false)
   (fun j=>nH k (i:Int) (r++(match e.bM[j]? with |some id=>(EM l id).toList|none=>[]))) (nH k (i:Int) r)]
  ·rw[ae0,Oh];by_cases f:e.bM.findIdx (fun id=>match EM l id with |some x=>x.Kind==K.WQ&&decide (x.Key=K.WR)|none=>false)<e.bM.length
   ·rw[Ch f,Df f];rfl
   rw[D8 f,Kq AA];simp only[Option.bind_none,Option.toList_none,TJ];rfl
  ·intro k2 j m;unfold aGu;rw[DR m,NU l _ AA,Df m];simp only[Af];cases q:EM l e.bM[j]with
   |none=>rw[RH q];rfl
   |some x=>
    rw[Oo q];simp only[Bj,Qc];unfold U6;rw[Ou];rw[Ef I9];cases x.Kind==K.WQ<;>cases decide (x.Key=K.WR)<;>rfl
  intro k2;unfold aGu;rw[EL]
 intro k r _;unfold aGP;rw[EL]
def kR (c:ByteArray):D9:=bif !(c.toList==BZ.toList)then{ VU with Users:=[⟨c,100⟩] }else VU
def Tz (l:List AP):ByteArray:=match l.find? fun x=>x.Kind==1 with |some x=>x.bF|none=>BZ
def F9 (l:List AP):D9:=match l.find? fun x=>x.Kind==3 with |some x=>x.Content.Levels|none=>kR (Tz l)
def alx (c:ByteArray):wC c=some (kR c):=by
 unfold wC kR vJ;cases c.toList==BZ.toList<;>rfl
def abt (l:List AP) (k:Int) (f:l.length≤1000):jQ l k=some (if l.findIdx (fun e=>e.Kind==k)<l.length then((l.findIdx (fun e=>e.Kind==k):Nat):Int)else -1):=by
 unfold jQ;rw[aFv l AA (fun a0=>aC2 a0 k) (fun e=>e.Kind==k) fun _=>rfl];rfl
def aEe (l:List AP) (j:l.length≤1000) (s:EI l):dL l=some (F9 l,Tz l):=by
 have m:∀c,ZV l c=some (match l.find? fun x=>x.Kind==3 with |some x=>x.Content.Levels|none=>kR c,c):=by
  intro c;unfold ZV;rw[abt l 3 j,Oh];simp only[Af];by_cases h:l.findIdx (fun e=>e.Kind==3)<l.length
  ·rw[Ch h,show decide (((l.findIdx (fun e=>e.Kind==3):Nat):Int)≥0)=true by simp,D6 h,Df h];simp only[Bj,Af];have q:=s _ (EC h);have u:=q.users;have z:=q.kinds;unfold aAD wG;rw[Ef Vs,Ef Vs];rfl
  rw[D8 h,Kq AA,alx];rfl
 unfold dL;rw[abt l 1 j];simp only[Af];by_cases h:l.findIdx (fun e=>e.Kind==1)<l.length
 ·have f:Tz l=l[l.findIdx (fun e=>e.Kind==1)].bF:=by unfold Tz;rw[Oh,Df h]
  rw[Ch h,show decide (((l.findIdx (fun e=>e.Kind==1):Nat):Int)≥0)=true by simp,D6 h];simp only[Bj,Af];rw[m,←f];rfl
 have f:Tz l=BZ:=by unfold Tz;rw[Oh,Kq AA]
 rw[D8 h];show ZV l BZ=_;rw[m,←f];rfl
def Em (v:D9) (u:ByteArray):Int:=match v.Users.find? fun x=>decide (x.User=u)with |some x=>x.N|none=>v.User
def Y2 (v:D9) (u:ByteArray) (h:v.Users.length≤1000):Qw v u=some (Em v u):=by
 unfold Qw aIz Em;rw[Rw v.Users (fuel_lt AA) (fun x=>decide (x.User=u)) (fun i=>some (match v.Users[i]? with |some x=>x.N|none=>0)) (some v.User)]
 ·rw[Oh];by_cases h:v.Users.findIdx (fun x=>decide (x.User=u))<v.Users.length
  ·rw[Ch h,Df h]
  rw[D8 h,Kq AA]
 ·intro k i h;unfold aE8;rw[DR h,Ou,Df h]
 intro k;unfold aE8;rw[EL]
def aAK {l:List AP} (h:EI l):(F9 l).Users.length≤100∧(F9 l).Kinds.length≤100:=by
 unfold F9;cases f:l.find? fun x=>x.Kind==3 with
 |some x=>
  have :=h x (Qm f);exact⟨this.users,this.kinds⟩
 |none=>
  simp only;unfold kR;cases(Tz l).toList==BZ.toList with
  |true=>
   show VU.Users.length≤100∧VU.Kinds.length≤100;exact⟨BU,BU⟩
  |false=>
   show 1≤100∧VU.Kinds.length≤100;exact⟨BU,BU⟩
def aF7 (l:List AP) (e:AP):Int:=Em (F9 (Qi l e)) e.bF
def EI.from {l:List AP} (h:EI l) (e:AP):EI (Qi l e):=fun x f=>h x (ajo f)
def ajS (l:List AP) (e:AP) (j:l.length≤1000) (f:EI l) (m:e.bM.length≤40):zo l e=some (aF7 l e):=by
 have q:=aKT l e;have s:=(aAK (f.from e)).1;unfold zo;rw[aL0 l e j m];simp only[Af];rw[aEe _ AA (f.from e)];simp only[Af];rw[Y2 _ _ AA];rfl
def Yr (e:AP):Bool:=bif e.Kind==2 then(e.Content.N==0||e.Content.N==4)&& !(decide (e.Key=e.bF))else e.Kind==3||e.Kind==4
def ajb (e:AP):uo e=some (Yr e):=by
 unfold uo yj Yr;rw[Ou];by_cases j:e.Kind=2
 ·simp[j];cases e.Content.N==0<;>cases e.Content.N==4<;>rfl
 have f:(e.Kind==2)=false:=MF
 rw[f];cases e.Kind==3<;>cases e.Kind==4<;>rfl
def aJK (l:List Int) (x:Int) (h:l.length≤1099511627776):kY l x=some (if l.findIdx (· ==x)<l.length then((l.findIdx (· ==x):Nat):Int)else -1):=by
 unfold kY aeF;rw[Rw l (fuel_lt h) (· ==x) (fun i=>some (i:Int)) (some (-1))]
 ·split<;>rfl
 ·intro k i hi;unfold aGR;rw[DR hi];have :(x==l[i])=(l[i]==x):=by rw[Oa];simp only[TF];exact eq_comm
  rw[this]
 intro k;unfold aGR;rw[EL]
def aLA (l:List Int) (x:Int):decide (l.findIdx (· ==x)<l.length)=EN l x:=by
 rw[Oa,Js,G8,qF];exact⟨fun⟨y,f,j⟩=>by rw[←(by simpa using j:y=x)];exact f,fun h=>⟨x,h,BM⟩⟩
def lZ (l:List Int) (x:Int) (h:l.length≤1099511627776):ZM l x=some (EN l x):=by
 unfold ZM;rw[aJK l x h,←aLA];by_cases f:l.findIdx (· ==x)<l.length
 ·rw[Ch f,I5 f];simp
 rw[D8 f,Ht f];rfl
def aJc (l:List Int) (x:Int) (h:l.length≤1099511627776):ZY l x=some (EN l x):=by
 unfold ZY;rw[lZ l x h];rfl
def ev (l:List AP) (id:Int):AP:=(IU l id).1
def XQ (l:List AP) (id:Int):Bool:=dM l id&&Yr (ev l id)
def CP (l:List AP) (full:List Int):List Int:=full.filter (XQ l)
def VT (l:List AP) (full:List Int):List Int:=FP (CP l full++full.filter (EN (chainOf l (CP l full))))
def aEg {l:List AP} {full:List Int} {x:Int}:x∈VT l full↔x∈full∧(XQ l x=true∨JZ l (CP l full) x):=by
 unfold VT;rw[JD,Gp,FK,Js,cZ];unfold CP;rw[FK];exact⟨fun h=>h.elim (fun h=>⟨h.1,.inl h.2⟩) fun h=>⟨h.1,.inr h.2⟩,fun⟨h,k⟩=>k.elim (fun k=>.inl ⟨h,k⟩) fun k=>.inr ⟨h,k⟩⟩
def agS (l:List AP) (full:List Int):Inc (VT l full):=Mc _
def aFO (p:Int→Bool):∀(S r:List Int),S.foldl (fun r x=>bif p x then r++[x]else r) r=r++S.filter p
 | [],r=>BM
 |x::S,r=>by
  rw[Fh,aFO p S,X3];cases p x<;>simp
def agG (l:List AP) (full:List Int) (q:l.length≤1000) (s:EI l) (z:full.length≤120000) (f:(CP l full).length≤100000):aB8 l full=some (VT l full):=by
 unfold aB8 acL;rw[Kr (a0:=[]) full AA (fun r x=>bif XQ l x then r++[x]else r) (fun i r=>r.length≤i) (fun r=>(WS l r).bind fun j=>aEQ full j r 0) (Dy _)]
 ·have u:full.foldl (fun r x=>bif XQ l x then r++[x]else r) []=CP l full:=by rw[aFO];rfl
  have I:=aAM l (CP l full);rw[u,aFg l _ q s.ao1 f];simp only[Af];unfold aEQ;rw[Kr full AA (fun r x=>bif EN (chainOf l (CP l full)) x then r++[x]else r) (fun i r=>r.length≤(CP l full).length+i) (fun r=>some (FP r)) (Dy _)]
  ·rw[aFO];rfl
  ·intro k r i h m;refine⟨?_,?_⟩
   ·cases EN (chainOf l (CP l full)) full[i]with
    |false=>show r.length≤(CP l full).length+(i+1);omega
    |true=>show(r++[full[i]]).length≤(CP l full).length+(i+1);simp;omega
   unfold aFe Fn1;rw[DR h,aJc _ _ AA];simp only[Af];rw[Ef I9];cases EN (chainOf l (CP l full)) full[i]<;>rfl
  intro k r m;unfold aFe;rw[EL,Xe _ AA];rfl
 ·intro k r i h m;refine⟨?_,?_⟩
  ·cases XQ l full[i]with
   |false=>show r.length≤i+1;omega
   |true=>show(r++[full[i]]).length≤i+1;simp;omega
  unfold aG4 aA9;rw[DR h,NU l _ AA];simp only[Af];rw[Ef I9];unfold XQ dM ev;rw[ajb,Ws];cases(EM l full[i]).isSome<;>cases Yr (IU l full[i]).1<;>rfl
 intro k r _;unfold aG4;rw[EL]
def JZ.av8 {l:List AP} {ids:List Int} {i x:Int} (hi:i∈ids) (h:JZ l [i] x):JZ l ids x:=by
 induction h with
 |one h f j=>rw[Ho.1 h]at f;exact .one hi f j
 |more h f j m=>exact .more m f j
def JZ.split {l:List AP} {ids:List Int} {x:Int}:JZ l ids x↔∃i∈ids,JZ l [i] x:=by
 constructor
 ·intro h
  induction h with
  |one h f j=>exact⟨_,h,.one (Ho.2 rfl) f j⟩
  |more h f j s=>obtain⟨i,m,q⟩:=s;exact⟨i,m,.more q f j⟩
 rintro⟨i,m,q⟩;exact .av8 m q
def JZ.dM {l:List AP} {ids:List Int} {x:Int} (h:JZ l ids x):dM l x=true:=by cases h<;>assumption
def aeB (l:List AP) (full:List Int):(VT l full).length≤l.length:=
 yF (agS l full) fun x f=>by
  rcases(aEg.1 f).2 with h|h
  ·unfold XQ at h;rw[CZ]at h;exact h.1
  exact h.dM
def En (l:List AP) (id:Int):OX:=⟨id,aF7 l (ev l id),(ev l id).Time,chainOf l [id]⟩
def fP (l:List AP) (left:List Int) (x:Int):Bool:= !left.any fun y=>EN (chainOf l [x]) y
def pV (a b:OX):Bool:=bif a.Gf != b.Gf then decide (a.Gf>b.Gf)else decide (a.yX<b.yX)
def Ij (l:List AP) (left:List Int) (b:Option Int) (x:Int):Option Int:=bif fP l left x&&(match b with |none=>true|some y=>pV (En l x) (En l y))then some x else b
def XA (l:List AP) (left:List Int):Option Int:=left.foldl (Ij l left) none
def wz (l:List AP):Nat→List Int→List Int
 |0,_=>[]
 |n+1,left=>match XA l left with
  |none=>[]
  |some b=>b::wz l n (left.filter (· != b))
def aeC (l:List AP):∀ids:List Int,ids.flatMap (fun id=>bif dM l id then[En l id]else[])=(ids.filter (dM l)).map (En l)
 | []=>rfl
 |i::ids=>by
  rw[Lr,aeC l ids,X3];cases dM l i<;>simp
def alG (l:List AP) (ids:List Int) (q:l.length≤1000) (j:EI l) (hi:ids.length≤100000):xB l ids=some ((qV l ids).map (En l)):=by
 unfold xB;rw[Xe ids AA];simp only[Af];have s:=RV ids;unfold aLn;rw[Kr (a0:=[]) (FP ids) AA (fun r id=>r++bif dM l id then[En l id]else[]) (fun i r=>r.length≤i) (fun r=>some r) (Dy _)]
 ·rw[foldl_append (fun id=>bif dM l id then[En l id]else[]),J4,aeC];rfl
 ·intro k r i h z;refine⟨?_,?_⟩
  ·cases dM l (FP ids)[i]<;>simp <;>omega
  unfold aFk aAQ;rw[DR h,NU l _ AA];simp only[Af];unfold dM;cases f:EM l (FP ids)[i]with
  |none=>rw[RH f];simp
  |some e=>
   have u:=j e (Le f);have m:ev l (FP ids)[i]=e:=by unfold ev;rw[Oo f]
   rw[Oo f];simp only[Bj,Option.isSome_some];rw[ajS l e q j u.auth,aFg l _ q j.ao1 BM];simp only[Af];rw[Ef I9];unfold En;rw[m];rfl
 intro k r _;unfold aFk;rw[EL]
def aMn (l:List AP) (left:List Int):∀(c:List Int) (b:Option Int) {x:Int},c.foldl (Ij l left) b=some x→b=some x∨x∈c
 | [],b,x,h=>.inl h
 |y::c,b,x,h=>by
  rw[Fh]at h;rcases aMn l left c _ h with f|f
  ·have key:∀c:Bool,(bif c then some y else b)=some x→b=some x∨x=y:=fun c j=>by
    cases c with
    |true=>simp only[Bj,Ju]at j;exact .inr j.symm
    |false=>exact .inl j
   rcases key _ f with m|m
   ·exact .inl m
   exact .inr (m▸Ez ..)
  exact .inr (G9 _ f)
def as9 {l:List AP} {left:List Int} {x:Int} (h:XA l left=some x):x∈left:=by
 rcases aMn l left left none h with h|h
 ·cases h
 exact h
def aMu {left:List Int} (s:left.Nodup) {j:Nat} (u:j<left.length):left.take j++left.drop (j+1)=left.filter (· != left[j]):=by
 have e:left=left.take j++left[j]::left.drop (j+1):=by rw[←NT u,aU]
 have f:(left.take j++left[j]::left.drop (j+1)).Nodup:=by rw[←e];exact s
 have q:=mO.1 f;have z:=Jy.1 q.2.1
 have I:(left.take j).filter (· != left[j])=left.take j:=pO.2 fun x m=>by
  have :=q.2.2 x m left[j] (Ez ..);simpa using this
 have J:(left.drop (j+1)).filter (· != left[j])=left.drop (j+1):=pO.2 fun x m=>by
  have :x≠left[j]:=fun e=>z.1 (e▸m);simpa using this
 have :(left.take j++left[j]::left.drop (j+1)).filter (· != left[j])=left.take j++left.drop (j+1):=by
  rw[Ua,X3,I,J];simp
 rw[←e]at this;exact this.symm
def ang {left:List Int} (f:left.Nodup) {b:Int} (m:b∈left):(left.filter (· != b)).length+1=left.length:=by
 obtain⟨j,q,rfl⟩:=Gj m;rw[←aMu f q,Dz,Gt,Jt];omega
def asR (l:List AP) (hl:l.length≤1000):∀(m:Nat) (left f:List Int) (N:Nat),left.length=m→Inc left→(∀x∈left,dM l x=true)→f.length+left.length≤1000000→m<N→aX X9 N (left.map (En l)) f=some (f++wz l m left):=by
 intro m
 induction m with
 |zero=>
  intro left f N hm hi hk hacc hN;obtain⟨N,rfl⟩:∃N',N=N'+1:=⟨N-1,AA⟩
  have :left=[]:=GR hm;subst this;show X9 _ _ _=_;unfold X9 wz;simp
 |succ m ih=>
  intro left f N hm hi hk hacc hN;obtain⟨N,rfl⟩:∃N',N=N'+1:=⟨N-1,AA⟩
  have hll:=yF hi hk;refine gK.eq ?_;show gK (X9 (aX X9 N) _ _) _;have ih':=fun Y acc' h1 h2 h3 h4=>ih Y acc' N h1 h2 h3 h4 AA;generalize aX X9 N=K at ih';unfold X9;rw[show decide (((left.map (En l)).length:Int)>0)=true by rw[Cb];simp;omega];simp only[Bj];unfold ad6;refine Ze (body:=aGd (left.map (En l)) K) (fun m2 a b c=>∃i:Nat,b=i∧i+m2=left.length∧c=f∧((a= -1∧(left.take i).foldl (Ij l left) none=none)∨∃(j:Nat) (u:j<left.length),a=(j:Int)∧(left.take i).foldl (Ij l left) none=some left[j])) ?_ BA left.length (-1) 0 f (fuel_lt AA) ⟨0,rfl,AA,rfl,.inl ⟨rfl,rfl⟩⟩;rintro m2 a b c k ⟨i,rfl,hm2,rfl,hI⟩ z;unfold aGd;by_cases I:i<left.length
  ·have M:i<(left.map (En l)).length:=by rw[Cb];exact I
   rw[dec_lt M,D6 M,QC];simp only[Bj,Af]
   have hst:(left.take (i+1)).foldl (Ij l left) none=Ij l left ((left.take i).foldl (Ij l left) none) left[i]:=by
    rw[X4 I,Yn];rfl
   unfold aLd;have hc:=aAM l [left[i]]
   have hin:∀(k2:Int→Int→List Int→Option (List Int)),aX (WO (left.map (En l)) (En l left[i]) k2 (i:Int) a) BA 0 c=bif fP l left left[i]then(bif decide (a<0)then Wq k2 (i:Int) a true c else(BK (left.map (En l)) a).bind fun Z=>(ZF (En l left[i]) Z).bind fun x28=>Wq k2 (i:Int) a x28 c)else Ym k2 (i:Int) a c:=by
    intro k2
    have key:∀n (j:Nat),j+n=left.length→∀m,n<m→aX (WO (left.map (En l)) (En l left[i]) k2 (i:Int) a) m (j:Int) c=bif !(left.drop j).any (fun y=>EN (chainOf l [left[i]]) y)then(bif decide (a<0)then Wq k2 (i:Int) a true c else(BK (left.map (En l)) a).bind fun Z=>(ZF (En l left[i]) Z).bind fun x28=>Wq k2 (i:Int) a x28 c)else Ym k2 (i:Int) a c:=by
     intro n
     induction n with
     |zero=>
      intro j u m hm;obtain⟨m,rfl⟩:∃m',m=m'+1:=⟨m-1,AA⟩
      have :j=left.length:=AA
      subst this;show WO _ _ _ _ _ _ _ _=_;unfold WO;rw[show decide ((left.length:Int)<((left.map (En l)).length:Int))=false by rw[Cb];exact EP _,QX];rfl
     |succ n ihn=>
      intro j u m hm;obtain⟨m,rfl⟩:∃m',m=m'+1:=⟨m-1,AA⟩
      have hjl:j<left.length:=AA
      have ayb:j<(left.map (En l)).length:=by rw[Cb];exact hjl
      have O:=ihn (j+1) AA m AA;show WO _ _ _ _ _ (aX _ m) _ _=_;generalize aX (WO (left.map (En l)) (En l left[i]) k2 (i:Int) a) m=L at O;unfold WO;rw[DR ayb,QC];show((ZY (chainOf l [left[i]]) left[j]).bind _)=_;rw[aJc _ _ AA,wrap_succ j AA,NT hjl,Y1];simp only[Af];cases EN (chainOf l [left[i]]) left[j]with
      |true=>rfl
      |false=>
       simp only[BO,KT];exact O
    exact key left.length 0 AA BA (fuel_lt AA)
   rw[hin];have hw:=wrap_succ i AA;unfold Wq Ym;rw[hw];cases J:fP l left left[i]with
   |false=>
    simp only[BO];refine z (m2-1) _ _ _ AA ⟨i+1,rfl,AA,rfl,?_⟩;have e:Ij l left ((left.take i).foldl (Ij l left) none) left[i]=(left.take i).foldl (Ij l left) none:=by unfold Ij;rw[J];rfl
    rw[hst,e];exact hI
   |true=>
    simp only[Bj];rcases hI with⟨rfl,U⟩|⟨j,u,rfl,U⟩
    ·rw[show decide ((-1:Int)<0)=true by decide];simp only[Bj];refine z (m2-1) _ _ _ AA ⟨i+1,rfl,AA,rfl,.inr ⟨i,I,rfl,?_⟩⟩;rw[hst,U];unfold Ij;rw[J];rfl
    have q:j<(left.map (En l)).length:=by rw[Cb];exact u
    rw[show decide ((j:Int)<0)=false by simp,D6 q,QC];simp only[BO,Af]
    have e1:ZF (En l left[i]) (En l left[j])=some (pV (En l left[i]) (En l left[j])):=by
     unfold ZF pV;cases(En l left[i]).Gf != (En l left[j]).Gf<;>rfl
    rw[e1];simp only[Af];cases ha:pV (En l left[i]) (En l left[j])with
    |true=>
     simp only[Bj];refine z (m2-1) _ _ _ AA ⟨i+1,rfl,AA,rfl,.inr ⟨i,I,rfl,?_⟩⟩;rw[hst,U];unfold Ij;rw[J];simp only[ha];rfl
    |false=>
     simp only[BO];refine z (m2-1) _ _ _ AA ⟨i+1,rfl,AA,rfl,.inr ⟨j,u,rfl,?_⟩⟩;rw[hst,U];unfold Ij;rw[J];simp only[ha];rfl
  have hie:i=left.length:=AA
  subst hie;rw[show decide ((left.length:Int)<((left.map (En l)).length:Int))=false by rw[Cb];exact EP _];simp only[BO];rw[Il]at hI;have s:wz l (m+1) left=match XA l left with |none=>[]|some b=>b::wz l m (left.filter (· != b)):=rfl
  rcases hI with⟨rfl,U⟩|⟨j,u,rfl,U⟩
  ·rw[show decide ((-1:Int)<0)=true by decide];refine .ret ?_;have h1:XA l left=none:=U;rw[s,h1];simp
  have q:j<(left.map (En l)).length:=by rw[Cb];exact u
  rw[show decide ((j:Int)<0)=false by simp,D6 q,QC];simp only[BO,Af];have h1:XA l left=some left[j]:=U;rw[Ef I9];simp only[Af];rw[aJe (Nat.le_of_lt q),wrap_succ j AA,aEp q];simp only[Af];rw[Ef (by rw[Gt,Jt,Cb];omega)];simp only[Af]
  have e2:(left.map (En l)).take j++(left.map (En l)).drop (j+1)=(left.filter (· != left[j])).map (En l):=by
   rw[←aMu (ZA hi) u,L6,XE,XZ]
  rw[e2];have hwl:=ang (ZA hi) (EC u);rw[ih' (left.filter (· != left[j])) (c++[(En l left[j]).lu]) AA (hi.sublist SY) (fun x hx=>hk x ((FK.1 hx).1)) YU];refine .ret ?_;rw[s,h1,Gy];rfl
def anu (l:List AP) (ids:List Int) (j:l.length≤1000) (m:EI l) (hi:ids.length≤100000):aAF l ids=some (wz l (qV l ids).length (qV l ids)):=by
 have q:(qV l ids).length≤l.length:=yF (aFd l ids) fun x f=>(Vo.1 f).2;unfold aAF;rw[alG l ids j m hi];simp only[Af];unfold ac0;rw[asR l j _ (qV l ids) [] BA rfl (aFd l ids) (fun x f=>(Vo.1 f).2) Vs (fuel_lt AA)];rfl
def aMw {R A B C D:Type} {Q:R→Prop} {body:(A→B→C→D→Option R)→A→B→C→D→Option R} (I:Nat→A→B→C→D→Prop) (z:∀m a b c d k,I m a b c d→(∀f a' j q s,f<m→I f a' j q s→gK (k a' j q s) Q)→gK (body k a b c d) Q):
 ∀n m a b c d,m<n→I m a b c d→gK (Wy body n a b c d) Q
 |0,m,_,_,_,_,h,_=>AA
 |n+1,m,a,b,c,d,h,hi=>z m a b c d _ hi fun f a' j q s h' u=>aMw I z n f a' j q s AA u
def J6 {l:List AP} {x:Int} (h:dM l x=true):EM l x=some (ev l x)∧(ev l x).Id=x:=by
 unfold dM at h;obtain⟨e,f⟩:=U0.1 h;have :ev l x=e:=by unfold ev;rw[Oo f]
 rw[this];exact⟨f,ae4 f⟩
def aEr (l:List AP):∀(n:Nat) (left:List Int) {x:Int},x∈wz l n left→x∈left
 |0,_,_,h=>absurd h GL
 |n+1,left,x,h=>by
  unfold wz at h;cases f:XA l left with
  |none=>rw[f]at h;exact absurd h GL
  |some b=>
   rw[f]at h;rcases F5.1 h with rfl|h
   ·exact as9 f
   exact(FK.1 (aEr l n _ h)).1
def aae (l:List AP):∀(n:Nat) (left:List Int),(wz l n left).length≤n
 |0,_=>Dy _
 |n+1,left=>by
  unfold wz;cases XA l left with
  |none=>exact EH _
  |some b=>have :=aae l n (left.filter (· != b));simp only[FV];omega
def OC (l:List AP) (e:AP):Option Int:=e.bM.find? fun id=>dM l id&&(ev l id).Kind==3
def uQ (l:List AP) (e:AP):Int×Bool:=match OC l e with |some x=>(x,true)|none=>(0,false)
def aJj (l:List AP) (e:AP) (f:l.length≤1000) (j:e.bM.length≤40):l7 l e=some (uQ l e):=by
 unfold l7 aIZ;rw[Rw e.bM (fuel_lt AA) (fun id=>dM l id&&(ev l id).Kind==3) (fun i=>some (match e.bM[i]? with |some x=>(x,true)|none=>(0,false))) (some (0,false))]
 ·unfold uQ OC;rw[Oh];by_cases h:e.bM.findIdx (fun id=>dM l id&&(ev l id).Kind==3)<e.bM.length
  ·rw[Ch h]
  rw[D8 h,Kq AA]
 ·intro k i h;unfold aDi;rw[DR h,NU l _ AA,Df h];simp only[Af];unfold dM ev;rw[Ws];cases(EM l e.bM[i]).isSome<;>rfl
 intro k;unfold aDi;rw[EL]
def Az (l:List AP):Nat→List Int→Int→List Int
 |0,seen,_=>seen
 |n+1,seen,id=>bif EN seen id|| !dM l id then seen else match OC l (ev l id)with
  |none=>seen++[id]
  |some x=>Az l n (seen++[id]) x
def eM (l:List AP) (id:Int):List Int:=Az l l.length [] id
structure Ry (l:List AP) (seen:List Int):Prop where
 nodup:seen.Nodup
 known:∀x∈seen,dM l x=true
def Ry.length {l:List AP} {seen:List Int} (h:Ry l seen):seen.length≤l.length:=by
 rw[←(UA seen).length_eq,aKe h.nodup];exact yF (Mc _) fun x f=>h.known x (JD.1 f)
def Ry.snoc {l:List AP} {seen:List Int} (h:Ry l seen) {id:Int} (j:id∉seen) (m:dM l id=true):Ry l (seen++[id]):=by
 refine⟨mO.2 ⟨h.nodup,BM,fun a ha b q=>?_⟩,fun x f=>?_⟩
 ·rw[Ho.1 q];exact fun e=>j (e▸ha)
 rcases Gp.1 f with f|f
 ·exact h.known x f
 rw[Ho.1 f];exact m
def acG (l:List AP):∀(n:Nat) (seen:List Int) (id:Int),Ry l seen→Ry l (Az l n seen id)
 |0,_,_,h=>h
 |n+1,seen,id,h=>by
  unfold Az;cases f:EN seen id|| !dM l id with
  |true=>exact h
  |false=>
   rw[qX,PO]at f;have j:=h.snoc f.1 (by simpa using f.2);simp only[BO];cases OC l (ev l id)with
   |none=>exact j
   |some x=>exact acG l n _ x j
def aec (l:List AP):∀(n:Nat) (seen:List Int) (id:Int),∃t,Az l n seen id=seen++t
 |0,seen,_=>⟨[],by simp[Az]⟩
 |n+1,seen,id=>by
  unfold Az;cases EN seen id|| !dM l id with
  |true=>exact⟨[],BM⟩
  |false=>
   simp only[BO];cases OC l (ev l id)with
   |none=>exact⟨[id],rfl⟩
   |some x=>
    obtain⟨t,f⟩:=aec l n (seen++[id]) x;exact⟨id::t,by simp only[f,Gy];rfl⟩
def ao3 (l:List AP) (id:Int):(eM l id).length≤l.length:=(acG l _ [] id ⟨Xb,fun x f=>absurd f GL⟩).length
def agW (l:List AP) (U:l.length≤1000) (Y:EI l) (Z v9:List Int):∀(m:Nat) (seen:List Int) (id:Int) (N:Nat),seen.length+m=l.length→Ry l seen→m<N→Dn XM N seen seen Z v9 id l=some (Az l m seen id):=by
 intro m
 induction m with
 |zero=>
  intro seen id N hm q hN;obtain⟨N,rfl⟩:∃N',N=N'+1:=⟨N-1,AA⟩
  have u:=q.length;show XM _ _ _ _ _ _ _=_;unfold XM;rw[lZ _ _ AA,NU l _ AA];simp only[Af];rw[Ws];cases z:EN seen id with
  |true=>rfl
  |false=>
   cases j:(EM l id).isSome with
   |false=>rfl
   |true=>
    have I:=(q.snoc (PO.1 z) j).length;simp only[Dz,QM]at I;omega
 |succ m ih=>
  intro seen id N hm q hN;obtain⟨N,rfl⟩:∃N',N=N'+1:=⟨N-1,AA⟩
  have u:=q.length;show XM (Dn XM N) _ _ _ _ _ _=_;have s:=fun f J h1 I=>ih f J N h1 I AA;generalize Dn XM N=K at s;unfold XM Az;rw[lZ _ _ AA,NU l _ AA];simp only[Af];rw[Ws];cases z:EN seen id with
  |true=>rfl
  |false=>
   cases j:(EM l id).isSome with
   |false=>rw[show dM l id=false from j];rfl
   |true=>
    obtain⟨e,O⟩:=U0.1 j;rw[show dM l id=true from j];simp only[KI,EU,KA,Bj,BO];rw[Ef I9];simp only[Af];unfold aB3;simp only[BO];rw[Ef I9];simp only[Af];have L:(IU l id).1=ev l id:=rfl
    have M:(ev l id).bM.length≤40:=by
     have :ev l id=e:=by unfold ev;rw[Oo O]
     rw[this];exact(Y e (Le O)).auth
    rw[L,aJj l _ U M];simp only[Af];unfold uQ;cases OC l (ev l id)with
    |none=>rfl
    |some x=>exact s (seen++[id]) x YU (q.snoc (PO.1 z) j)
def aj8 (l:List AP) (id:Int) (f:l.length≤1000) (j:EI l):aAe l id=some (eM l id):=by
 unfold aAe o9 aLJ;exact agW l f j [] [] l.length [] id BA BM ⟨Xb,fun x m=>absurd m GL⟩ (fuel_lt AA)
def Zc (f way:List Int):Int:=match way.find? (EN f)with |some x=>((f.findIdx (· ==x):Nat):Int)|none=>(f.length:Int)
def aCP (l:List AP) (f:List Int) (id:Int):Int:=Zc f (eM l id)
def ahU (l:List AP) (f:List Int) (hl:l.length≤1000) (hs:EI l) (hm:f.length≤100000):∀(m:Nat) (seen:List Int) (z id:Int) (N:Nat),seen.length+m=l.length→Ry l seen→seen.find? (EN f)=none→m<N→zJ Vj N seen f z id l=some (Zc f (Az l m seen id)):=by
 have j:∀seen:List Int,seen.find? (EN f)=none→Zc f seen=(f.length:Int):=fun seen h=>by unfold Zc;rw[h]
 intro m
 induction m with
 |zero=>
  intro seen z id N hm O J hN;obtain⟨N,rfl⟩:∃N',N=N'+1:=⟨N-1,AA⟩
  have hwl:=O.length;show Vj _ _ _ _ _ _=_;unfold Vj;rw[lZ _ _ AA,NU l _ AA];simp only[Af];rw[Ws];have Z:Zc f (Az l 0 seen id)=(f.length:Int):=j seen J;rw[Z];cases L:EN seen id with
  |true=>rfl
  |false=>
   cases M:(EM l id).isSome with
   |false=>rfl
   |true=>
    have h2:=(O.snoc (PO.1 L) M).length;simp only[Dz,QM]at h2;omega
 |succ m ih=>
  intro seen z id N hm O J hN;obtain⟨N,rfl⟩:∃N',N=N'+1:=⟨N-1,AA⟩
  have hwl:=O.length;show Vj (zJ Vj N) _ _ _ _ _=_;have U:=fun u z' id' h1 h2 h3=>ih u z' id' N h1 h2 h3 AA;generalize zJ Vj N=K at U;unfold Vj iU;rw[lZ _ _ AA,NU l _ AA,aJK _ _ AA];simp only[Af];rw[Ws];have I:Az l (m+1) seen id=bif EN seen id|| !dM l id then seen else match OC l (ev l id)with |none=>seen++[id]|some x=>Az l m (seen++[id]) x:=rfl
  cases L:EN seen id with
  |true=>rw[I,L];simp only[Bool.true_or,Bj,EU,BO];rw[j seen J]
  |false=>
   cases M:(EM l id).isSome with
   |false=>rw[I,L,show dM l id=false from M];simp only[KT,KI,Bj];rw[j seen J]
   |true=>
    obtain⟨e,Z⟩:=U0.1 M;rw[I,L,show dM l id=true from M];simp only[KI,EU,KA,Bj,BO];have q:=aLA f id;by_cases s:f.findIdx (· ==id)<f.length
    ·rw[Ch s,show decide (((f.findIdx (· ==id):Nat):Int)≥0)=true by simp];simp only[Bj];rw[I5 s]at q
     have hex:∃t,(match OC l (ev l id)with |none=>seen++[id]|some x=>Az l m (seen++[id]) x)=seen++[id]++t:=by
      cases OC l (ev l id)with
      |none=>exact⟨[],BM⟩
      |some x=>exact aec l m (seen++[id]) x
     obtain⟨t,ht⟩:=hex;rw[ht];unfold Zc;rw[nK,nK,J];simp[←q]
    rw[D8 s,show decide ((-1:Int)≥0)=false by decide];simp only[BO];rw[Ht s]at q;rw[Ef I9];simp only[Af];have hev:(IU l id).1=ev l id:=rfl
    have hea:(ev l id).bM.length≤40:=by
     have :ev l id=e:=by unfold ev;rw[Oo Z]
     rw[this];exact(hs e (Le Z)).auth
    have Y:(seen++[id]).find? (EN f)=none:=by rw[nK,J];simp[←q]
    rw[hev,aJj l _ hl hea];simp only[Af];unfold uQ;cases OC l (ev l id)with
    |none=>simp only[KI,Bj];rw[j _ Y]
    |some x=>exact U (seen++[id]) z x YU (O.snoc (PO.1 L) M) Y
def apZ (l:List AP) (f:List Int) (id:Int) (j:l.length≤1000) (m:EI l) (q:f.length≤100000):sD l f id=some (aCP l f id):=by
 unfold sD o9 aIb;exact ahU l f j m q l.length [] 0 id BA BM ⟨Xb,fun x s=>absurd s GL⟩ rfl (fuel_lt AA)
def Lh (l:List AP) (f:List Int) (id:Int):LH:=⟨id,aCP l f id,(ev l id).Time⟩
def aJ0 (x:LH):Int×Int×Int:=(x.lu,x.wY,x.yX)
def YC (x y:LH):Bool:=JH (aJ0 x) (aJ0 y)
def CQ (l:List AP) (f ids:List Int):List Int:=(QY YC ((ids.filter (dM l)).map (Lh l f))).map (·.lu)
def aIp (l:List AP) (f:List Int):∀ids:List Int,ids.flatMap (fun id=>bif dM l id then[Lh l f id]else[])=(ids.filter (dM l)).map (Lh l f)
 | []=>rfl
 |i::ids=>by
  rw[Lr,aIp l f ids,X3];cases dM l i<;>simp
def ao8 (s:List LH) (J:s.length≤1000000) (u:(s.map (·.lu)).Nodup):cD s=some s:=by
 unfold cD;by_cases L:s.length<2
 ·rw[show decide ((s.length:Int)<2)=true by simp;omega];rfl
 rw[show decide ((s.length:Int)<2)=false by simp;omega];simp only[BO];unfold aLv;refine gK.eq ?_;refine Vl (body:=vW) (fun m a b=>∃i:Nat,a=i∧i+m=s.length∧0<i∧b=s) ?_ BA (s.length-1) 1 s (fuel_lt AA) ⟨1,rfl,AA,AA,rfl⟩;rintro m a b k ⟨i,rfl,M,hi,rfl⟩ z;unfold vW;by_cases f:i<b.length
 ·rw[dec_lt f,D6 f];simp only[Bj,Af];have w:BJ ((i:Int)-1)=((i-1:Nat):Int):=PU
  have j:i-1<b.length:=AA
  rw[w,D6 j];simp only[Af]
  have q:b[i].lu≠b[i-1].lu:=by
   have :=KX.1 u (i-1) i aBh aBh AA;simp only[QC]at this;exact fun e=>this e.symm
  have I:iE b[i] b[i-1]=false:=by
   unfold iE;rw[show(b[i].lu==b[i-1].lu)=false by simpa using q];rfl
  rw[I,wrap_succ i AA];exact z (m-1) _ _ AA ⟨i+1,rfl,AA,AA,rfl⟩
 have :i=b.length:=AA
 subst this;rw[EP];exact .ret rfl
def ac2 (l:List AP) (f:List Int) (ids:List Int):(ids.map (Lh l f)).map (·.lu)=ids:=by
 rw[pz];exact List.map_id' ids
def afi (l:List AP) (f ids:List Int) (I:l.length≤1000) (J:EI l) (L:f.length≤100000) (hi:ids.length≤100000) (M:ids.Nodup):aA2 l f ids=some (CQ l f ids):=by
 unfold aA2 aKh;rw[Kr (a0:=[]) ids AA (fun r id=>r++bif dM l id then[Lh l f id]else[]) (fun i r=>r.length≤i) (fun O=>(xw O).bind fun q=>(cD q).bind fun s=>aGe s [] 0) (Dy _)]
 ·rw[foldl_append (fun id=>bif dM l id then[Lh l f id]else[]),J4,aIp];have U:=LJ (dM l) ids;have u:((ids.filter (dM l)).map (Lh l f)).length≤100000:=aBh
  unfold xw xY;rw[Ch AA];simp only[Af];have e:(QY (fun x y:LH=>JH (x.lu,x.wY,x.yX) (y.lu,y.wY,y.yX)) ((ids.filter (dM l)).map (Lh l f)))=QY YC ((ids.filter (dM l)).map (Lh l f)):=rfl;rw[e];unfold CQ;have z:=YK YC ((ids.filter (dM l)).map (Lh l f))
  have j:((QY YC ((ids.filter (dM l)).map (Lh l f))).map (·.lu)).Nodup:=by
   rw[(z.map (·.lu)).nodup_iff,ac2];exact M.sublist SY
  have m:(QY YC ((ids.filter (dM l)).map (Lh l f))).length≤100000:=by rw[z.length_eq];exact u
  generalize QY YC ((ids.filter (dM l)).map (Lh l f))=S at j m;rw[ao8 S AA j];simp only[Af];unfold aGe;rw[Kr (a0:=[]) S AA (fun r x=>r++[x.lu]) (fun i r=>r.length≤i) (fun r=>some r) (Dy _)]
  ·rw[foldl_append (fun x:LH=>[x.lu]),J4];congr 1;clear j m
   induction S with
   |nil=>rfl
   |cons x S Y=>rw[Lr,Y];rfl
  ·intro k r i h Z;refine⟨aFx,?_⟩;unfold aHE;rw[DR h,Ef I9];rfl
  intro k r _;unfold aHE;rw[EL]
 ·intro k r i h Z;refine⟨?_,?_⟩
  ·cases dM l ids[i]<;>simp <;>omega
  unfold aDr zG;rw[DR h,NU l _ AA];simp only[Af];rw[Ws,apZ l f _ I J L];simp only[Af];rw[Ef I9];unfold dM;cases(EM l ids[i]).isSome with
  |true=>rfl
  |false=>simp
 intro k r _;unfold aDr;rw[EL]
def afV {l:List AP} {f ids:List Int} {x:Int}:x∈CQ l f ids↔x∈ids∧dM l x=true:=by
 unfold CQ;rw[((YK YC ((ids.filter (dM l)).map (Lh l f))).map (·.lu)).mem_iff,ac2,FK]
def aqc (l:List AP) (f ids:List Int):(CQ l f ids).length≤ids.length:=by
 unfold CQ;rw[Cb,(YK _ _).length_eq,Cb];exact LJ _ _
def JO (c:Int):Bool:=(decide (c≥97)&&decide (c≤122))||(decide (c≥48)&&decide (c≤57))
def adW (c:Int):eP c=some (JO c):=by
 unfold eP JO;cases decide (c≥97)<;>cases decide (c≤122)<;>cases decide (c≥48)<;>cases decide (c≤57)<;>rfl
def aDN (c:Int):Xv c=some (JO c):=by
 unfold Xv JO;cases decide (c≥97)<;>cases decide (c≤122)<;>cases decide (c≥48)<;>cases decide (c≤57)<;>rfl
def OW (l:List Int) (p:Int→Bool):Bool:=decide ((l.length:Int)≥1)&&decide ((l.length:Int)≤32)&&l.all fun c=>JO c||p c
def isLocal (c:Int):Bool:=c==95||c==46||c==45||c==61
def TY (c:Int):Bool:=c==46||c==45
def UN (l:List Int):Bool:=OW l isLocal
def X5 (l:List Int):Bool:=OW l TY&&JO (l.getD 0 0)&&JO (l.getD (l.length-1) 0)
def mQ {n:Nat} (h:n≤9223372036854775807):n<BA:=aB1
def aKO {s:ByteArray} (j:s.size≤9223372036854775807) (f:Int→Option Bool) (p:Int→Bool) (m:∀c,f c=some (p c)):Xm s f=some (OW (Bg s) p):=by
 have q:aGl s f 0=some ((Bg s).all fun c=>JO c||p c):=by
  unfold aGl;rw[Ic (Bg s) (by rw[Gg];exact mQ j) (fun c=> !(JO c||p c)) false (some true) ?_ ?_,Jq,aAy]
  ·intro k i h;have h':i<s.size:=Uo
   simp only[aIP,dec_lt h',Bj,SI h,adW,m,Af];cases JO (Bg s)[i]<;>cases p (Bg s)[i]<;>rfl
  intro k;simp only[aIP,Gg,EP,BO]
 unfold Xm OW;rw[q,Gg];have u:decide ((s.size:Int)≥1)= !decide ((s.size:Int)<1):=aCf
 have z:decide ((s.size:Int)≤32)= !decide ((s.size:Int)>32):=aI5
 rw[u,z];cases decide ((s.size:Int)<1)<;>cases decide ((s.size:Int)>32)<;>rfl
def aiV {s:ByteArray} (f:s.size≤9223372036854775807):Xm s (fun a0=>qh a0)=some (OW (Bg s) isLocal):=aKO f _ isLocal (fun c=>by unfold qh isLocal;cases c==95<;>cases c==46<;>cases c==45<;>cases c==61<;>rfl)
def agJ {s:ByteArray} (f:s.size≤9223372036854775807):Xm s (fun a0=>lM a0)=some (OW (Bg s) TY):=aKO f _ TY (fun c=>by unfold lM TY;cases c==46<;>cases c==45<;>rfl)
def asl {s:ByteArray} (f:s.size≤9223372036854775807):sU s=some (UN (Bg s)):=by
 unfold sU UN;rw[aiV f];rfl
def sS {s:ByteArray} (h:0<s.size):GH s 0=some ((Bg s).getD 0 0):=by
 have h':0<(Bg s).length:=xX
 rw[akh h'];simp[List.getD,h']
def aLX {s:ByteArray} (h:0<s.size) (j:s.size≤9223372036854775807):GH s (BJ ((s.size:Int)-1))=some ((Bg s).getD ((Bg s).length-1) 0):=by
 have h':s.size-1<(Bg s).length:=by rw[Gg];omega
 rw[NM AA AA,show(s.size:Int)-1=((s.size-1:Nat):Int) by omega,SI h'];have f:(Bg s).length-1=s.size-1:=by rw[Gg]
 rw[f];simp[List.getD,h']
def aLy {l:List Int} {p:Int→Bool} (h:OW l p=true):0<l.length∧l.length≤32:=by
 unfold OW at h;simp only[CZ,G8]at h;omega
def afx {s:ByteArray} (f:s.size≤9223372036854775807):zh s=some (X5 (Bg s)):=by
 unfold zh X5;rw[agJ f];simp only[Af];cases m:OW (Bg s) TY with
 |false=>rfl
 |true=>
  have j:0<s.size:=by have :=(aLy m).1;rwa [Gg]at this
  simp only[Bj,sS j,aLX j f,adW,Af];cases JO ((Bg s).getD 0 0)<;>simp
def akP {s:ByteArray} (f:s.size≤9223372036854775807):zy s=some (bif X5 (Bg s)then 0 else 3):=by
 have m:aD4 s 0=some (bif (Bg s).all fun c=>JO c||TY c then 0 else 3):=by
  unfold aD4;rw[Ic (Bg s) ZN (fun c=> !(JO c||TY c)) 3 (some 0) ?_ ?_,Jq,←aAy]
  ·cases((Bg s).any fun c=> !(JO c||TY c))<;>rfl
  ·intro k i h;have h':i<s.size:=Uo
   simp only[aEM,dec_lt h',Bj,SI h,aDN,Af,TY,bne];cases JO (Bg s)[i]<;>cases(Bg s)[i]==46<;>cases(Bg s)[i]==45<;>rfl
  intro k;simp only[aEM,Gg,EP,BO]
 have q:decide ((s.size:Int)≥1)= !decide ((s.size:Int)<1):=aCf
 have u:decide ((s.size:Int)≤32)= !decide ((s.size:Int)>32):=aI5
 unfold zy X5 OW;rw[m];rw[show((Bg s).length:Int)=(s.size:Int) by rw[Gg],q,u];by_cases z:(s.size:Int)<1
 ·simp[z]
 have j:0<s.size:=AA
 simp only[sS j,aLX j f,aDN,Af];cases decide ((s.size:Int)<1)<;>cases decide ((s.size:Int)>32)<;>cases JO ((Bg s).getD 0 0)<;>cases JO ((Bg s).getD ((Bg s).length-1) 0)<;>cases((Bg s).all fun c=>JO c||TY c)<;>rfl
def aps {s:ByteArray} (f:s.size≤9223372036854775807):aAk s=some (UN (Bg s)):=by
 unfold aAk aLZ;rw[Ic (Bg s) ZN (fun c=> !(JO c||isLocal c)) false (some (decide ((s.size:Int)≥1)&&decide ((s.size:Int)≤32))) ?_ ?_]
 ·unfold UN OW;rw[←aAy,Gg];cases((Bg s).any fun c=> !(JO c||isLocal c))<;>cases decide ((s.size:Int)≥1)<;>cases decide ((s.size:Int)≤32)<;>rfl
 ·intro k i h;have h':i<s.size:=Uo
  simp only[aEK,dec_lt h',Bj,SI h,aDN,Af,isLocal,bne];cases JO (Bg s)[i]<;>cases(Bg s)[i]==95<;>cases(Bg s)[i]==46<;>cases(Bg s)[i]==45<;>cases(Bg s)[i]==61<;>rfl
 intro k;simp only[aEK,Gg,EP,BO];cases decide ((s.size:Int)≥1)<;>cases decide ((s.size:Int)≤32)<;>rfl
def aJP (s:ByteArray):(Bg s).length=s.data.toList.length:=by simp[Bg]
def Ey (s:ByteArray):Nat:=(Bg s).findIdx (· ==58)
def aD8 (s:ByteArray):Ey s≤s.size:=by unfold Ey;rw[←Gg];exact List.findIdx_le_length
def aLs {s:ByteArray} (f:s.size≤9223372036854775807):mP s=some (Ey s:Int):=by
 unfold mP aJI;rw[Rw (Bg s) ZN (· ==58) (fun i=>some (i:Int)) (some (s.size:Int)) ?_ ?_]
 ·have :=aD8 s;by_cases h:(Bg s).findIdx (· ==58)<(Bg s).length
  ·rw[Ch h];rfl
  rw[D8 h];congr 2;unfold Ey at this ⊢;rw[Gg]at h;omega
 ·intro k i h;have h':i<s.size:=Uo
  simp only[aDy,dec_lt h',Bj,SI h,Af,bne];cases(Bg s)[i]==58<;>rfl
 intro k;simp only[aDy,Gg,EP,BO,Af]
def SS (s:ByteArray):ByteArray:=s.extract 1 (Ey s)
def QB (s:ByteArray):ByteArray:=s.extract (Ey s+1) s.size
def RP (s:ByteArray):Bool:=decide (Ey s<s.size)&&UN (Bg (SS s))&&X5 (Bg (QB s))
def Fv (s:ByteArray) (m:Int):Bool:=decide (0<s.size)&&(Bg s).getD 0 0==m&&RP s
def extract_size (s:ByteArray) (a b:Nat):(s.extract a b).size≤s.size:=by rw[aDT];omega
def aKv {s:ByteArray} (h:0<s.size) (f:(Bg s).getD 0 0≠58):1≤Ey s:=by
 unfold Ey;have j:0<(Bg s).length:=xX
 match m:Bg s with
 | []=>rw[m]at j;simp at j
 |c::l=>
  rw[m]at f;simp only[List.getD_cons_zero]at f;rw[Tj,show(c==58)=false from by simpa using f];simp
def aAB {s:ByteArray} (q:s.size≤9223372036854775807) {m:Int} (z:m≠58):Xl s m=some (Fv s m):=by
 unfold Xl Fv;by_cases f:0<s.size
 ·rw[show decide ((s.size:Int)<1)=false from by simp;omega,show decide (0<s.size)=true by simpa using f];simp only[BO,sS f,Af,bne];cases I:(Bg s).getD 0 0==m with
  |false=>rfl
  |true=>
   have u:(Bg s).getD 0 0=m:=XK
   have J:=aKv f (by rw[u];exact z);have L:=aD8 s;simp only[EU,BO,aLs q,Af,Fr];unfold RP;by_cases j:Ey s<s.size
   ·have M:Lp s 1 (Ey s:Int)=some (SS s):=eL (lo:=1) J L
    have O:Lp s (BJ ((Ey s:Int)+1)) (s.size:Int)=some (QB s):=by
     rw[NM AA AA,show(Ey s:Int)+1=((Ey s+1:Nat):Int) by omega];exact eL AA (Dy _)
    rw[show decide ((Ey s:Int)<(s.size:Int))=true from by simpa using j,show decide (Ey s<s.size)=true by simpa using j];have U:(SS s).size≤9223372036854775807:=EZ (extract_size _ _ _) q;have Y:(QB s).size≤9223372036854775807:=EZ (extract_size _ _ _) q;simp only[Bj,M,O,aps U,akP Y,Af];cases UN (Bg (SS s))<;>cases X5 (Bg (QB s))<;>rfl
   rw[show decide ((Ey s:Int)<(s.size:Int))=false from by simpa using j,show decide (Ey s<s.size)=false by simpa using j];rfl
 rw[show decide ((s.size:Int)<1)=true from by simp;omega,show decide (0<s.size)=false by simpa using f];rfl
def splitB (s:ByteArray) (b:Bool):ByteArray×ByteArray×Bool:=bif b then(SS s,QB s,true)else(BZ,BZ,false)
def alP (b c:UInt8):(b==c)=(((b.toNat:Nat):Int)==((c.toNat:Nat):Int)):=by
 by_cases h:b=c
 ·subst h;simp
 have :¬b.toNat=c.toNat:=fun e=>h (UInt8.toNat_inj.1 e);have f:(b==c)=false:=Jp
 rw[f];symm;simp;omega
def aJ3 (s:ByteArray) (c:UInt8):s.data.toList.findIdx (· ==c)=(Bg s).findIdx (· ==((c.toNat:Nat):Int)):=by
 unfold Bg;rw[List.findIdx_map];congr 1;funext b;exact alP b c
def ahW (s:ByteArray):∀x∈Bg s,0≤x∧x<256:=by
 intro x f;unfold Bg at f;rw[F8]at f;obtain⟨c,_,rfl⟩:=f;have :=c.toNat_lt;omega
def getD_mem {s:ByteArray} (h:0<s.size):(Bg s).getD 0 0∈Bg s:=by
 have f:0<(Bg s).length:=xX
 have e:(Bg s).getD 0 0=(Bg s)[0]:=by simp[List.getD,f]
 rw[e];exact EC f
def ahJ (marks:ByteArray) {c:Int} (q:0≤c) (s:c<256):decide (Lib.indexByte marks.data.toList c.toNat.toUInt8<0)= !(Bg marks).contains c:=by
 have e:(((c.toNat.toUInt8).toNat:Nat):Int)=c:=by
  rw[Nat.toUInt8,UInt8.toNat_ofNat'];omega
 rw[aEN,aJ3,e,←aJP marks];by_cases f:c∈Bg marks
 ·have j:(Bg marks).findIdx (· ==c)<(Bg marks).length:=List.findIdx_lt_length_of_exists ⟨c,f,BM⟩;rw[Ch j,show(Bg marks).contains c=true by simpa using f];simp
 have m:¬(Bg marks).findIdx (· ==c)<(Bg marks).length:=fun h=>by
  have :=List.findIdx_getElem (w:=h);simp only[TF]at this;exact f (this▸EC h)
 rw[D8 m,show(Bg marks).contains c=false by simpa using f];rfl
def aK5 (s:ByteArray) (a b:Nat):(s.extract 1 s.size).extract a b=s.extract (1+a) (min (1+b) s.size):=by
 refine bytes_inj ?_;simp only[aIn];have :(Bg s).take s.size=Bg s:=Pv (by rw[Gg];omega);rw[this,List.take_drop,aC9];congr 1;have :min (1+b) s.size=min (1+b) (Bg s).length:=by rw[Gg]
 rw[this,List.take_eq_take_min]
def arp {s:ByteArray} (h:0<s.size) (f:(Bg s).getD 0 0≠58):(Bg (s.extract 1 s.size)).findIdx (· ==58)+1=Ey s:=by
 unfold Ey;rw[aIn];have :(Bg s).take s.size=Bg s:=Pv (by rw[Gg];omega);rw[this];have j:0<(Bg s).length:=xX
 match m:Bg s with
 | []=>rw[m]at j;simp at j
 |c::l=>
  rw[m]at f;simp only[List.getD_cons_zero]at f;rw[Tj,show(c==58)=false from by simpa using f];rfl
def apr {s:ByteArray} (I:s.size≤9223372036854775807) (h:0<s.size) (m:(Bg s).getD 0 0≠58):∃a b,strings_Cut (s.extract 1 s.size) bW=some (a,b,decide (Ey s<s.size))∧(Ey s<s.size→a=SS s∧b=QB s):=by
 have J:=aKv h m;have L:=aD8 s;have M:=arp h m;have j:(s.extract 1 s.size).size=s.size-1:=by rw[aDT];omega
 have q:aBO (s.extract 1 s.size) bW=some (if Ey s<s.size then((Ey s-1:Nat):Int)else -1):=by
  show some (Lib.indexByte (s.extract 1 s.size).data.toList 58)=_;rw[aEN,aJ3,←aJP (s.extract 1 s.size)];show some (if(Bg (s.extract 1 s.size)).findIdx (· ==58)<_ then(((Bg (s.extract 1 s.size)).findIdx (· ==58):Nat):Int)else -1)=_;rw[Gg,j];have e:(Bg (s.extract 1 s.size)).findIdx (· ==58)=Ey s-1:=AA
  rw[e];congr 1;by_cases f:Ey s<s.size
  ·rw[Ch f,Ch AA]
  rw[D8 f,D8 AA]
 unfold strings_Cut aEk;rw[q,Af];by_cases f:Ey s<s.size
 ·rw[Ch f,show decide (((Ey s-1:Nat):Int)≥0)=true from by simp,show decide (Ey s<s.size)=true by simpa using f];have u:Lp (s.extract 1 s.size) 0 ((Ey s-1:Nat):Int)=some ((s.extract 1 s.size).extract 0 (Ey s-1)):=eL (lo:=0) AA AA
  have z:Lp (s.extract 1 s.size) (BJ (((Ey s-1:Nat):Int)+(bW.size:Int))) ((s.extract 1 s.size).size:Int)=some ((s.extract 1 s.size).extract (Ey s) (s.size-1)):=by
   rw[show(bW.size:Int)=1 from rfl,NM AA AA,show((Ey s-1:Nat):Int)+1=((Ey s:Nat):Int) by omega,j];exact eL AA AA
  simp only[Bj,u,z,Af];refine⟨_,_,rfl,fun _=>⟨?_,?_⟩⟩
  ·rw[aK5];unfold SS;congr 1;omega
  rw[aK5];unfold QB;rw[Oc 1 (Ey s)];congr 1;omega
 rw[D8 f,show decide ((-1:Int)≥0)=false from rfl,show decide (Ey s<s.size)=false by simpa using f];exact⟨_,_,rfl,fun h=>absurd h f⟩
def aHA {s:ByteArray} (q:s.size≤9223372036854775807) {marks:ByteArray} (u:∀m∈Bg marks,m≠58):eG s marks=some (splitB s ((Bg marks).any fun m=>Fv s m)):=by
 unfold eG;by_cases j:0<s.size
 ·have z:(s.toList==BZ.toList)=false:=by
   rw[Ou];simp only[Vm];intro e;rw[e]at j;exact absurd j BU
  have I:=ahW s _ (getD_mem j)
  have f:((Bg marks).any fun m=>Fv s m)=((Bg marks).contains ((Bg s).getD 0 0)&&RP s):=by
   unfold Fv;rw[show decide (0<s.size)=true by simpa using j]
   induction Bg marks with
   |nil=>rfl
   |cons m l J=>rw[Y1,J,List.contains_cons];cases(Bg s).getD 0 0==m<;>cases RP s<;>simp
  rw[z,f];simp only[BO,sS j,Af,strings_IndexByte,ahJ marks I.1 I.2];cases L:(Bg marks).contains ((Bg s).getD 0 0)with
  |false=>rfl
  |true=>
   have M:(Bg s).getD 0 0≠58:=u _ (by simpa using L);obtain⟨a,b,O,U⟩:=apr q j M;have Y:Lp s 1 (s.size:Int)=some (s.extract 1 s.size):=eL (lo:=1) AA (Dy _);simp only[EU,BO,Y,O,Af,Fr];unfold RP;cases Z:decide (Ey s<s.size)with
   |false=>rfl
   |true=>
    obtain⟨rfl,rfl⟩:=U (UM Z);have g1:(SS s).size≤9223372036854775807:=EZ (extract_size _ _ _) q;have g2:(QB s).size≤9223372036854775807:=EZ (extract_size _ _ _) q;simp only[EU,BO,asl g1,afx g2,Af];cases UN (Bg (SS s))<;>cases X5 (Bg (QB s))<;>rfl
 have hz:s.size=0:=AA
 have he:s=BZ:=bytes_inj (by
  have h1:Bg s=[]:=GR (by rw[Gg];exact hz)
  rw[h1];rfl)
 have f:((Bg marks).any fun m=>Fv s m)=false:=by
  rw[aAW];intro m _;unfold Fv;rw[show decide (0<s.size)=false by simpa using j];simp
 rw[f,he,show(BZ.toList==BZ.toList)=true from by simp];rfl
def Jv (s:ByteArray):Bool:=Fv s 64||(Fv s 33||false)
def ajP {s:ByteArray} (f:s.size≤9223372036854775807):eG s oU=some (splitB s (Jv s)):=
 aHA f (marks:=oU) (by rw[show Bg oU=[64,33]from rfl];intro m j;simp only[F5,GL,aZ]at j;omega)
def aLw {s:ByteArray} (h:RP s=true):Ey s<s.size:=by unfold RP at h;simp only[CZ,G8]at h;exact h.1.1
def vF {s:ByteArray} (m:s.size≤9223372036854775807):dV s=some (splitB s (Jv s)).2.1∧wX s=some (splitB s (Jv s)).2.1:=by
 have u:Ey s<s.size→Lp s (BJ ((Ey s:Int)+1)) (s.size:Int)=some (QB s):=fun z=>by
  rw[NM AA AA,show(Ey s:Int)+1=((Ey s+1:Nat):Int) by omega];exact eL AA (Dy _)
 unfold dV wX;rw[ajP m,aAB m BU,aAB m BU,aLs m];refine⟨rfl,?_⟩;unfold Jv;cases f:Fv s 64 with
 |true=>
  have q:=aLw (s:=s) (by unfold Fv at f;simp only[CZ]at f;exact f.2);simp only[Af,EU,BO,u q,Bool.true_or];rfl
 |false=>
  cases j:Fv s 33 with
  |true=>
   have q:=aLw (s:=s) (by unfold Fv at j;simp only[CZ]at j;exact j.2);simp only[Af,EU,KI,BO,Bj,u q,KT,Bool.true_or];rfl
  |false=>rfl
def aol {R A α:Type} {body:(Int→A→Option R)→Int→A→Option R} (l:List α) (q:l.length<BA) (p:α→Bool) (g:Nat→Option R) (rest:Option R) (a0:A)
 (s:∀k (i:Nat) (h:i<l.length),body k (i:Int) a0=bif p l[i]then g i else k (BJ ((i:Int)+1)) a0) (u:∀k,body k (l.length:Int) a0=rest):
 aX body BA 0 a0=if l.findIdx p<l.length then g (l.findIdx p)else rest:=by
 have J:BA=9223372036854775808:=rfl
 have key:∀n (i:Nat),i+n=l.length→∀m,n<m→aX body m (i:Int) a0=if(l.drop i).findIdx p+i<l.length then g ((l.drop i).findIdx p+i)else rest:=by
  intro n
  induction n with
  |zero=>
   intro i hi m z;obtain⟨m,rfl⟩:∃j,m=j+1:=⟨m-1,AA⟩
   have :i=l.length:=AA
   subst this;show body (aX body m) _ _=_;rw[u,QX,D8 BM]
  |succ n I=>
   intro i hi m z;obtain⟨m,rfl⟩:∃j,m=j+1:=⟨m-1,AA⟩
   have f:i<l.length:=AA
   show body (aX body m) _ _=_;rw[s _ i f,wrap_succ i AA,I (i+1) AA m AA,NT f,Tj];cases p l[i]with
   |true=>simp only[Bj,Ik];rw[Ch f]
   |false=>
    simp only[BO];rw[show(l.drop (i+1)).findIdx p+(i+1)=(l.drop (i+1)).findIdx p+1+i by omega]
 have :=key l.length 0 AA BA q;simpa using this
def Jm (l:List AP):AP×Bool:=match l.find? fun x=>x.Kind==1 with |some x=>(x,true)|none=>(G5,false)
def am8 (l:List AP) (p:AP→Bool):(if l.findIdx p<l.length then(some (match l[l.findIdx p]? with |some x=>(x,true)|none=>(G5,false)))else some (G5,false))=some (match l.find? p with |some x=>(x,true)|none=>(G5,false)):=by
 rw[Oh];by_cases h:l.findIdx p<l.length
 ·rw[Ch h]
 rw[D8 h,Kq AA]
def abR (l:List AP) (f:l.length≤1000):oJ l=some (Jm l):=by
 unfold oJ acA;rw[aol l (fuel_lt AA) (fun x=>x.Kind==1) (fun i=>some (match l[i]? with |some x=>(x,true)|none=>(G5,false))) (some (G5,false))]
 ·exact am8 l _
 ·intro k i h;unfold aGO;rw[DR h,Df h]
 intro k;unfold aGO;rw[EL]
def OJ (u:ByteArray) (x:AP):Bool:=x.Kind==2&&decide (x.Key=u)
def Jl (l:List AP) (u:ByteArray):Int:=match l.find? (OJ u)with |some x=>x.Content.N|none=>0
def aLW (u:ByteArray) (x:AP):(bif (x.Kind==2)then some (x.Key.toList==u.toList)else some false)=some (OJ u x):=by
 unfold OJ;rw[Ou];cases x.Kind==2<;>rfl
def aCa (l:List AP) (u:ByteArray) (f:l.length≤1000):aJ l u=some (Jl l u):=by
 unfold aJ aLT Jl;rw[Rw l (fuel_lt AA) (OJ u) (fun i=>some (match l[i]? with |some x=>x.Content.N|none=>0)) (some 0)]
 ·rw[Oh];by_cases h:l.findIdx (OJ u)<l.length
  ·rw[Ch h]
  rw[D8 h,Kq AA]
 ·intro k i h;unfold aGE;rw[DR h,D6 h,Df h];simp only[Af];rw[aLW];rfl
 intro k;unfold aGE;rw[EL]
def Yv (e:AP) (l:List AP):Bool:=
 (Jm l).2&&(e.bD.length==1&&(e.bD.getD 0 0==(Jm l).1.Id&&(decide (e.bF=(Jm l).1.bF)&&(decide (e.Key=(Jm l).1.bF)&&(e.Content.N==3&& !l.any (OJ e.Key))))))
def amr (e:AP) (l:List AP) (s:l.length≤1000):wL e l=some (Yv e l):=by
 have u:aH2 l e 0=some (!l.any (OJ e.Key)):=by
  unfold aH2;rw[Ic l (fuel_lt AA) (OJ e.Key) false (some true)]
  ·cases l.any (OJ e.Key)<;>rfl
  ·intro k i h;unfold aDz;rw[DR h,aLW];rfl
  intro k;unfold aDz;rw[EL]
 unfold wL Yv WL;rw[abR l s];simp only[Af];rw[u,Ou,Ou];cases(Jm l).2 with
 |false=>rfl
 |true=>
  by_cases f:e.bD.length=1
  ·have q:0<e.bD.length:=AA
   have j:((e.bD.length:Int) != 1)=false:=UW
   have m:(e.bD.length==1)=true:=Ku
   have z:BK e.bD 0=some (e.bD.getD 0 0):=by
    have :BK e.bD ((0:Nat):Int)=some e.bD[0]:=D6 q;rw[show((0:Nat):Int)=0 from rfl]at this;rw[this];simp[List.getD,q]
   rw[j,m,z];simp only[Af,bne];cases e.bD.getD 0 0==(Jm l).1.Id<;>cases decide (e.bF=(Jm l).1.bF)<;>cases decide (e.Key=(Jm l).1.bF)<;>cases e.Content.N==3<;>rfl
  have j:((e.bD.length:Int) != 1)=true:=E5
  have m:(e.bD.length==1)=false:=Ku
  rw[j,m];rfl
def moveB (f t:Int) (s:Bool):Bool:=
 bif decide (f<0)||decide (f>4)then false else bif t==3 then s&&f != 4 else bif t==0 then f==1||f==2||f==3||(f==4&& !s)else bif t==2 then s&&(f==0||f==2)else bif t==1 then !s&&(f==0||f==2||f==1)else bif t==4 then !s else false
def aqb (f t:Int) (s:Bool):eA f t s=some (moveB f t s):=by
 unfold eA moveB;simp only[Jq,Af,mZ,VX]
def ar5 (f t:Int) (s:Bool):Xw f t s=some (moveB f t s):=by
 rw[←aqb];by_cases j:f<0
 ·unfold Xw eA;rw[I5 j];rfl
 by_cases m:f>4
 ·unfold Xw eA;rw[I5 m];cases decide (f<0)<;>rfl
 by_cases q:t<0
 ·unfold Xw eA;rw[I5 q,Ht j,Ht m,show(t==3)=false by simp;omega,show(t==0)=false by simp;omega,show(t==2)=false by simp;omega,show(t==1)=false by simp;omega,show(t==4)=false by simp;omega];rfl
 by_cases u:t>4
 ·unfold Xw eA;rw[I5 u,Ht q,Ht j,Ht m,show(t==3)=false by simp;omega,show(t==0)=false by simp;omega,show(t==2)=false by simp;omega,show(t==1)=false by simp;omega,show(t==4)=false by simp;omega];rfl
 have z:f=0∨f=1∨f=2∨f=3∨f=4:=AA
 have I:t=0∨t=1∨t=2∨t=3∨t=4:=AA
 rcases z with rfl|rfl|rfl|rfl|rfl<;>rcases I with rfl|rfl|rfl|rfl|rfl<;>cases s<;>decide
def XV (l:List AP):Int×List ByteArray:=match l.find? fun x=>x.Kind==4 with |some x=>(x.Content.N,x.Content.Allow)|none=>(0,[])
def ajx (l:List AP) (j:l.length≤1000) (f:EI l):aAV l=some (XV l):=by
 unfold aAV abo XV;rw[Rw l (fuel_lt AA) (fun x=>x.Kind==4) (fun i=>some (match l[i]? with |some x=>(x.Content.N,x.Content.Allow)|none=>(0,[]))) (some (0,[]))]
 ·rw[Oh];by_cases h:l.findIdx (fun x=>x.Kind==4)<l.length
  ·rw[Ch h]
  rw[D8 h,Kq AA]
 ·intro k i h;have ha:=(f _ (EC h)).allow;unfold aC7;rw[DR h,Df h,Ef Vs];rfl
 intro k;unfold aC7;rw[EL]
def aDA (f now:Int):Int:=bif now==3||f==1 then 0 else bif now==1&&(f==0||f==2||f==3)then 0 else 21
def aHN (f now:Int):Int:=bif f==2&&(now==0||now==2)then 0 else 21
def ar8 (r n:Int):uH r n=some (aDA r n):=by
 unfold uH jW aBC aDA;cases n==3<;>cases r==1<;>cases r==2<;>cases r==3<;>cases r==0<;>cases n==1<;>rfl
def am4 (r n:Int):aAY r n=some (aHN r n):=by
 unfold aAY tZ aHN bne;cases r==2<;>cases n==0<;>cases n==2<;>rfl
def fH (m now:Int) (l:List AP):Int:=bif m==3 then aDA (XV l).1 now else bif m==2 then aHN (XV l).1 now else 0
def aqy (m now:Int) (l:List AP) (f:l.length≤1000) (j:EI l):aAl m now l=some (fH m now l):=by
 unfold aAl fH;rw[ajx l f j];simp only[Af];rw[ar8,am4];cases m==3<;>cases m==2<;>rfl
def Hq (k:Int):Bool:=decide (k≥1)&&decide (k≤10)
def aMJ (k:Int):Yi k=some (Hq k):=by
 unfold Yi Hq;cases decide (k≥1)<;>rfl
def arE (k:Int):YE k=some (Hq k):=by
 unfold YE Hq;cases decide (k≥1)<;>rfl
def dN (v:D9) (k:Int):Int:=match v.Kinds.find? fun x=>x.Kind==k with |some x=>x.N|none=>bif Hq k then v.State else v.Message
def aFH (v:D9) (k:Int) (h:v.Kinds.length≤1000):bJ v k=some (dN v k):=by
 unfold bJ aK4 dN;rw[Rw v.Kinds (fuel_lt AA) (fun x=>x.Kind==k) (fun i=>some (match v.Kinds[i]? with |some x=>x.N|none=>0)) (some (bif Hq k then v.State else v.Message))]
 ·rw[Oh];by_cases h:v.Kinds.findIdx (fun x=>x.Kind==k)<v.Kinds.length
  ·rw[Ch h,Df h]
  rw[D8 h,Kq AA]
 ·intro k2 i h;unfold aHV;rw[DR h,Df h]
 intro k2;unfold aHV;rw[EL,aMJ];cases Hq k<;>rfl
def bg (f j m:Int):Bool:=j==m||(decide (j≤f)&&decide (m≤f))
def numsOf (v:D9):List Int:=[v.User,v.Message,v.State,v.gB,v.jT,v.nX,v.gY]
def aIB (f:Int) (p:Int×Int):Bool:= !bg f p.1 p.2
def Xz (f:Int) (j m:D9) (x:IL):Bool:= !bg f (dN j x.Kind) (dN m x.Kind)
def MO (j:Int) (f m:D9) (q:ByteArray) (x:He):Bool:= !(bg j (Em f x.User) (Em m x.User)&&(Em f x.User==Em m x.User||decide (x.User=q)||decide (Em f x.User<j)))
def aGo (f m:D9) (j:ByteArray):Int:=
 bif ((numsOf f).zip (numsOf m)).any (aIB (Em f j))then 20 else bif (f.Kinds++m.Kinds).any (Xz (Em f j) f m)then 20 else bif (f.Users++m.Users).any (MO (Em f j) f m j)then 20 else 0
def aEv (f j m:Int):Ug j m f=some (!bg f j m):=by
 unfold Ug bg;have q:(j != m)= !(j==m):=rfl;have s:decide (j>f)= !decide (j≤f):=by by_cases h:j≤f<;>simp[h]<;>omega
 have u:decide (m>f)= !decide (m≤f):=by by_cases h:m≤f<;>simp[h]<;>omega
 rw[q,s,u];cases j==m<;>cases decide (j≤f)<;>cases decide (m≤f)<;>rfl
structure yU (v:D9):Prop where
 users:v.Users.length≤100
 kinds:v.Kinds.length≤100
def aDU (a b:D9):((numsOf a).zip (numsOf b)).length=7:=rfl
def ap6 (f m:D9) (q:ByteArray) (U:yU f) (Y:yU m):lX f m q=some (aGo f m q):=by
 have o1:=U.users;have o2:=U.kinds;have n1:=Y.users;have n2:=Y.kinds;unfold lX;rw[Y2 f q AA];unfold y8;simp only[Af];unfold aGo;generalize Z:Em f q=s
 have hU:wW f m s q false 0=some (bif (f.Users++m.Users).any (MO s f m q)then 20 else 0):=by
  unfold wW;rw[aFA ([f.Users,m.Users]:List (List He)) (fuel_lt BM) (fun us=>us.any (MO s f m q)) (fun _=>some 20) (some 0) false]
  ·have e:(f.Users++m.Users).any (MO s f m q)=([f.Users,m.Users]:List (List He)).any (fun us=>us.any (MO s f m q)):=BM
   rw[e]
   have hf:∀L:List (List He),(if L.findIdx (fun us=>us.any (MO s f m q))<L.length then some (20:Int)else some 0)=some (bif L.any (fun us=>us.any (MO s f m q))then 20 else 0):=fun L=>by
    by_cases h:L.findIdx (fun us=>us.any (MO s f m q))<L.length
    ·rw[Ch h];have :L.any (fun us=>us.any (MO s f m q))=true:=GI.2 ((qF).1 h);rw[this];rfl
    rw[D8 h]
    have :L.any (fun us=>us.any (MO s f m q))=false:=by
     rw[Bool.eq_false_iff];exact fun k=>h (qF.2 (GI.1 k))
    rw[this];rfl
   exact hf _
  ·intro k i h
   have J:([f.Users,m.Users]:List (List He))[i].length≤100:=by
    have :([f.Users,m.Users]:List (List He))[i]∈[f.Users,m.Users]:=EC h;simp only[F5,GL,aZ]at this;rcases this with e|e<;>rw[e]<;>assumption
   unfold aAg;rw[show decide ((i:Int)<2)=true by simp only[FV,OB]at h;simp;omega,D6 h];simp only[Bj,Af];generalize([f.Users,m.Users]:List (List He))[i]=us at J;unfold adw;rw[aFA us (fuel_lt AA) (MO s f m q) (fun _=>some 20) (k false (BJ ((i:Int)+1))) false]
   ·by_cases z:us.findIdx (MO s f m q)<us.length
    ·rw[Ch z];have :us.any (MO s f m q)=true:=GI.2 ((qF).1 z);rw[this];rfl
    rw[D8 z]
    have :us.any (MO s f m q)=false:=by
     rw[Bool.eq_false_iff];exact fun k=>z (qF.2 (GI.1 k))
    rw[this];rfl
   ·intro k2 j M;unfold tJ fF;rw[DR M,Y2 f _ AA,Y2 m _ AA];simp only[Af];rw[aEv,Ou];unfold MO;have z:decide (Em f us[j].User≥s)= !decide (Em f us[j].User<s):=by by_cases h:Em f us[j].User<s<;>simp[h]<;>omega
    have h3:(Em f us[j].User != Em m us[j].User)= !(Em f us[j].User==Em m us[j].User):=rfl;simp only[Af];rw[z,h3];cases bg s (Em f us[j].User) (Em m us[j].User)<;>cases Em f us[j].User==Em m us[j].User<;>cases decide (us[j].User=q)<;>cases decide (Em f us[j].User<s)<;>rfl
   intro k2;unfold tJ;rw[EL]
  intro k;unfold aAg fF;rw[show decide (((([f.Users,m.Users]:List (List He)).length:Nat):Int)<2)=false from rfl];rfl
 have hK:aBZ f m s q 0=some (bif (f.Kinds++m.Kinds).any (Xz s f m)then 20 else bif (f.Users++m.Users).any (MO s f m q)then 20 else 0):=by
  unfold aBZ;rw[Ic ([f.Kinds,m.Kinds]:List (List IL)) (fuel_lt BM) (fun u=>u.any (Xz s f m)) 20 (wW f m s q false 0)]
  ·rw[hU];have e:(f.Kinds++m.Kinds).any (Xz s f m)=([f.Kinds,m.Kinds]:List (List IL)).any (fun u=>u.any (Xz s f m)):=BM
   rw[e];cases([f.Kinds,m.Kinds]:List (List IL)).any (fun u=>u.any (Xz s f m))<;>rfl
  ·intro k i h
   have O:([f.Kinds,m.Kinds]:List (List IL))[i].length≤100:=by
    have :([f.Kinds,m.Kinds]:List (List IL))[i]∈[f.Kinds,m.Kinds]:=EC h;simp only[F5,GL,aZ]at this;rcases this with e|e<;>rw[e]<;>assumption
   unfold aAz;rw[show decide ((i:Int)<2)=true by simp only[FV,OB]at h;simp;omega,D6 h];simp only[Bj,Af];generalize([f.Kinds,m.Kinds]:List (List IL))[i]=u at O;unfold aco;rw[Ic u (fuel_lt AA) (Xz s f m) 20 (k (BJ ((i:Int)+1)))]
   ·intro k2 j M;unfold xC;rw[DR M,aFH f _ AA,aFH m _ AA];simp only[Af];rw[aEv];rfl
   intro k2;unfold xC;rw[EL]
  intro k;unfold aAz;rw[show decide (((([f.Kinds,m.Kinds]:List (List IL)).length:Nat):Int)<2)=false from rfl];rfl
 unfold aIj;rw[Ic ((numsOf f).zip (numsOf m)) (by rw[aDU];exact fuel_lt BU) (aIB s) 20 (aBZ f m s q 0)]
 ·rw[hK];cases((numsOf f).zip (numsOf m)).any (aIB s)<;>rfl
 ·intro k i h;have I:i<7:=by rw[aDU]at h;exact h
  have e1:BK [f.User,f.Message,f.State,f.gB,f.jT,f.nX,f.gY] (i:Int)=some ((numsOf f)[i]'(I)):=D6 (l:=numsOf f) I;have e2:BK [m.User,m.Message,m.State,m.gB,m.jT,m.nX,m.gY] (i:Int)=some ((numsOf m)[i]'(I)):=D6 (l:=numsOf m) I;unfold aBa;rw[show decide ((i:Int)<7)=true by simp;omega,e1,e2];simp only[Bj,Af];rw[aEv,aCt];rfl
 intro k;unfold aBa;rw[aDU,show decide (((7:Nat):Int)<7)=false from rfl];rfl
def fA (e:AP) (l:List AP) (now:Int):Int:=
 bif !(Jl l e.bF==3)then 18 else
 bif e.Content.N==1&&decide (Em (F9 l) e.bF<(F9 l).gB)then 20 else
 bif e.Content.N==0&&((now==4&&decide (Em (F9 l) e.bF<(F9 l).nX))||decide (Em (F9 l) e.bF<(F9 l).jT)||decide (Em (F9 l) e.Key≥Em (F9 l) e.bF))then 20 else
 bif e.Content.N==4&&(decide (Em (F9 l) e.bF<(F9 l).nX)||decide (Em (F9 l) e.Key≥Em (F9 l) e.bF))then 20 else 0
def vN (e:AP) (l:List AP):Int:=
 bif Yv e l then 0 else
 bif decide (e.Key=e.bF)&&Jl l e.Key==4 then 19 else
 bif !moveB (Jl l e.Key) e.Content.N (decide (e.Key=e.bF))then 18 else
 bif decide (e.Key=e.bF)then fH e.Content.N (Jl l e.Key) l else fA e l (Jl l e.Key)
def dU (e:AP) (l:List AP):Int:=
 bif decide (Em (F9 l) e.bF<dN (F9 l) e.Kind)then 20 else bif e.Kind==3 then aGo (F9 l) e.Content.Levels e.bF else 0
def aIi (s:ByteArray):ByteArray:=(splitB s (Jv s)).2.1
def P7 (e:AP) (l:List AP):Int:=
 bif e.Kind==1 then(bif !(Jm l).2&&(aIi e.bF).toList==(aIi e.Room).toList then 0 else 17)else
 bif !(Jm l).2 then 17 else bif e.Kind==2 then vN e l else bif !(Jl l e.bF==3)then 18 else dU e l
def as1 {l:List AP} (h:EI l):yU (F9 l):=⟨(aAK h).1,(aAK h).2⟩
def Gq.levels {e:AP} (h:Gq e):yU e.Content.Levels:=⟨h.users,h.kinds⟩
def ap2 (e:AP) (l:List AP) (m:l.length≤1000) (j:EI l) (q:Gq e):aC1 e l=some (dU e l):=by
 have f:=as1 j;have s:=f.users;have u:=f.kinds;unfold aC1 dU;rw[aEe l m j];simp only[Af];rw[Y2 _ _ AA,aFH _ _ AA];simp only[Af];rw[ap6 _ _ _ f q.levels];cases decide (Em (F9 l) e.bF<dN (F9 l) e.Kind)<;>cases e.Kind==3<;>rfl
def Zl (x:Int):Except Value Unit:=.error (.iface 150 (.agg #[.int .i64 x]))
def aLa (x:Int):Xc x=some (Zl x):=rfl
def aDG (b:Bool) (x:Int):Ov b x=some (bif b then .ok ()else Zl x):=by cases b<;>rfl
def aCH (b:Bool) (x:Int) (f:Unit→Option (Except Value Unit)):JY (bif b then .ok ()else Zl x) f=bif b then f ()else some (Zl x):=by cases b<;>rfl
def abm (x:Int) (f:Unit→Option (Except Value Unit)):JY (Zl x) f=some (Zl x):=rfl
def arA (a b:Int):decide (a≥b)= !decide (a<b):=by by_cases h:a<b<;>simp[h]<;>omega
def ahk (e:AP) (l:List AP) (now:Int) (f:l.length≤1000) (j:EI l):(Zn l e now).bind Rj=some (fA e l now):=by
 have u:=(aAK j).1;unfold Zn fA;rw[aCa l _ f,aEe l f j];simp only[Af];rw[Y2 _ _ AA,Y2 _ _ AA];simp only[aDG,Af,aCH,arA]
 have z:decide (Em (F9 l) e.Key<Em (F9 l) e.bF)= !decide (Em (F9 l) e.bF≤Em (F9 l) e.Key):=by
  by_cases h:Em (F9 l) e.Key<Em (F9 l) e.bF<;>simp[h]<;>omega
 have s:(now != 4)= !(now==4):=rfl;rw[s];generalize decide (Em (F9 l) e.Key<Em (F9 l) e.bF)=t;generalize decide (Em (F9 l) e.bF<(F9 l).gB)=i;generalize decide (Em (F9 l) e.bF<(F9 l).nX)=b;generalize decide (Em (F9 l) e.bF<(F9 l).jT)=k;generalize(now==4)=n;cases Jl l e.bF==3 with
 |false=>rfl
 |true=>
  by_cases m:e.Content.N=1
  ·rw[m];cases i<;>rfl
  rw[show(e.Content.N==1)=false by simpa using m];by_cases q:e.Content.N=0
  ·rw[q];cases n<;>cases b<;>cases k<;>cases t<;>rfl
  rw[show(e.Content.N==0)=false by simpa using q];cases e.Content.N==4<;>cases b<;>cases t<;>rfl
def afl (e:AP) (l:List AP) (f:l.length≤1000) (j:EI l):aBA e l=some (vN e l):=by
 unfold aBA vN;rw[amr e l f];simp only[Af];cases Yv e l with
 |true=>rfl
 |false=>
  simp only[BO]
  have q:∀o:Option (Except Value Unit),(o.bind fun u=>(Rj u).bind fun z=>some z)=o.bind Rj:=fun o=>by
   cases o with
   |none=>rfl
   |some x=>cases h:Rj x<;>simp[h]
  rw[q];have m:=ahk e l (Jl l e.Key) f j;unfold aIL;rw[aCa l _ f,Ou];simp only[Af];rw[ar5,aqy _ _ _ f j];simp only[Af,aDG,aLa,aCH,abm,Jq];have I:(Jl l e.Key != 4)= !(Jl l e.Key==4):=rfl;rw[I];generalize Zn l e (Jl l e.Key)=J at m;generalize decide (e.Key=e.bF)=s;cases s with
  |true=>
   cases Jl l e.Key==4 with
   |true=>rfl
   |false=>cases moveB (Jl l e.Key) e.Content.N true<;>rfl
  |false=>
   cases moveB (Jl l e.Key) e.Content.N false with
   |false=>rfl
   |true=>exact m
def aD3 (e:AP) (l:List AP) (f:l.length≤1000) (m:EI l) (j:Gq e):Zt e l=some (P7 e l):=by
 have I:=j.sender;have J:=j.room;unfold Zt P7
 have q:∀o:Option (Except Value Unit),(o.bind fun u=>(Rj u).bind fun z=>some z)=o.bind Rj:=fun o=>by
  cases o with
  |none=>rfl
  |some x=>cases h:Rj x<;>simp[h]
 rw[q];unfold aC5 wR aAs aAv;rw[abR l f,(vF (s:=e.bF) AA).1,(vF (s:=e.Room) AA).1,aCa l _ f,ap2 e l f m j,afl e l f m];simp only[Af,aDG,aLa,aCH,abm];show _=some (bif e.Kind==1 then(bif !(Jm l).2&&(splitB e.bF (Jv e.bF)).2.1.toList==(splitB e.Room (Jv e.Room)).2.1.toList then 0 else 17)else _);cases e.Kind==1 with
 |true=>
  cases(Jm l).2 with
  |true=>rfl
  |false=>cases(splitB e.bF (Jv e.bF)).2.1.toList==(splitB e.Room (Jv e.Room)).2.1.toList<;>rfl
 |false=>
  cases(Jm l).2 with
  |false=>rfl
  |true=>
   cases e.Kind==2 with
   |true=>rfl
   |false=>cases Jl l e.bF==3<;>rfl
def lT (named:List AP) (k:Aw):AP×Bool:=match named.find? (Ec k)with |some x=>(x,true)|none=>(G5,false)
def aQ (l:List AP) (s:List Aw) (e:AP) (k:Aw):AP×Bool:=bif (GY s k.Kind k.Key).2 then IU l (GY s k.Kind k.Key).1 else lT (ofIds l e.bM) k
def UU (l:List AP) (s:List Aw) (e:AP) (k:Aw):List AP:=bif (aQ l s e k).2 then[(aQ l s e k).1]else[]
def SP (l:List AP) (s:List Aw) (e:AP):List AP:=(keysOf e).flatMap (UU l s e)
def aeo (l:List AP) (s:List Aw) (e:AP) (k:Aw):(UU l s e k).length≤1:=by
 unfold UU;cases(aQ l s e k).2<;>simp
def aqN (l:List AP) (s:List Aw) (e:AP):(SP l s e).length≤5:=by
 have j:=flat_length (f:=UU l s e) (n:=1) (aeo l s e) (keysOf e);have m:=Zd e;unfold SP;omega
def afE {l:List AP} {s:List Aw} {e x:AP} (h:x∈SP l s e):x∈l:=by
 obtain⟨k,_,h⟩:=Rt.1 h;unfold UU aQ lT at h;cases m:(GY s k.Kind k.Key).2 with
 |true=>
  rw[m]at h;simp only[Bj]at h;cases f:EM l (GY s k.Kind k.Key).1 with
  |none=>rw[RH f]at h;exact absurd h GL
  |some y=>rw[Oo f]at h;rw[Ho.1 h];exact Le f
 |false=>
  rw[m]at h;simp only[BO]at h;cases j:(ofIds l e.bM).find? (Ec k)with
  |none=>rw[j]at h;exact absurd h GL
  |some y=>rw[j]at h;rw[Ho.1 h];exact aGU (Qm j)
def EI.base {l:List AP} (h:EI l) (s:List Aw) (e:AP):EI (SP l s e):=fun x f=>h x (afE f)
def afQ (named:List AP) (k:Aw) (f:named.length≤1000):xG named k=some (lT named k):=by
 unfold xG;rw[aFv named AA (fun a0=>jk a0 k) (Ec k) fun e=>by unfold jk Ec;rw[Ou];cases e.Kind==k.Kind<;>rfl];exact found_eq named (Ec k) rfl
def ak8 (l:List AP) (s:List Aw) (e:AP) (j:l.length≤1000) (u:e.bM.length≤40) (m:IG s) (f:s.length≤1000000):yx l s e=some (SP l s e):=by
 unfold yx;have z:=zN l e.bM;have I:=Zd e;have q:Ia 376 G5 0 5=some []:=by unfold Ia;rw[Ch aAP];rfl
 rw[alo l _ j AA,q,aaC];simp only[Af];unfold aKM;rw[Kr (keysOf e) AA (fun r k=>r++UU l s e k) (fun i r=>r.length≤i) (fun r=>some r) (Dy _)]
 ·rw[foldl_append (UU l s e),J4];rfl
 ·intro k r i h J;have L:=aeo l s e (keysOf e)[i];refine⟨LX,?_⟩;unfold aI9 aAU aBB;rw[DR h,afQ _ _ AA,aDX s _ _ f m];simp only[Af];rw[NU l _ AA,Ef I9];simp only[Af];rw[Ef I9];unfold UU aQ;cases(GY s (keysOf e)[i].Kind (keysOf e)[i].Key).2 with
  |true=>
   simp only[Bj];cases(IU l (GY s (keysOf e)[i].Kind (keysOf e)[i].Key).1).2 with
   |true=>rfl
   |false=>simp
  |false=>
   simp only[BO];cases(lT (ofIds l e.bM) (keysOf e)[i]).2 with
   |true=>rfl
   |false=>simp
 intro k r _;unfold aI9;rw[EL]
def Qr (l:List AP) (s:List Aw) (id:Int):Bool:=dM l id&&(Hq (ev l id).Kind&&P7 (ev l id) (SP l s (ev l id))==0)
def Nh (l:List AP) (s:List Aw) (id:Int):List Aw:=bif Qr l s id then Gu s (ev l id).Kind (ev l id).Key (ev l id).Id else s
def PD (l:List AP) (s:List Aw) (ids:List Int):List Aw:=ids.foldl (Nh l) s
def aMB {l:List AP} {s:List Aw} (h:IG s) (id:Int):IG (Nh l s id):=by
 unfold Nh;cases Qr l s id with
 |true=>exact VJ h _ _ _
 |false=>exact h
def aE5 {l:List AP}:∀{ids:List Int} {s:List Aw},IG s→IG (PD l s ids)
 | [],_,h=>h
 |id::ids,s,h=>aE5 (ids:=ids) (aMB h id)
def aJR (l:List AP) (s:List Aw) (id:Int):(Nh l s id).length≤s.length+1:=by
 unfold Nh;cases Qr l s id with
 |true=>exact Si _ _ _ _
 |false=>exact Nat.le_succ _
def aCm (l:List AP):∀(ids:List Int) (s:List Aw),(PD l s ids).length≤s.length+ids.length
 | [],s=>Dy _
 |id::ids,s=>by
  have f:=aCm l ids (Nh l s id);have j:=aJR l s id;show(PD l (Nh l s id) ids).length≤_;rw[FV];omega
def amd {l:List AP} (f:EI l) {id:Int} (h:dM l id=true):Gq (ev l id):=f _ (Le (J6 h).1)
def ajt (l:List AP) (s:List Aw) (id:Int) (L:l.length≤1000) (z:EI l) (q:IG s) (j:s.length≤1000000):xQ l s id=some (Nh l s id):=by
 unfold xQ aG6 ku Nh Qr;have f:um s (.error (.iface 317 (.agg #[])):Except Value (List Aw))=some s:=rfl;rw[NU l _ AA];simp only[Af];rw[Ws];cases I:(EM l id).isSome with
 |false=>rw[show dM l id=false from I];exact f
 |true=>
  have m:dM l id=true:=I;have J:=amd z m;have u:(IU l id).1=ev l id:=rfl;rw[m,u,aMJ];simp only[Af,EU,BO,Fr];cases Hq (ev l id).Kind with
  |false=>exact f
  |true=>
   have M:=aqN l s (ev l id);rw[ak8 l s _ L J.auth q j];simp only[Af,EU,BO,Fr];rw[aD3 _ _ AA (z.base s _) J];simp only[Af];rw[X6 s _ _ _ j];unfold bne;cases P7 (ev l id) (SP l s (ev l id))==0 with
   |true=>rfl
   |false=>exact f
def aac (l:List AP) (s:List Aw) (ids:List Int) (m:l.length≤1000) (q:EI l) (f:IG s) (u:s.length+ids.length≤1000000):ZL l s ids=some (PD l s ids):=by
 unfold ZL aBu;rw[Ef Vs];simp only[Af,J4];unfold ab6;rw[Kr ids AA (Nh l) (fun i r=>IG r∧r.length≤s.length+i) (fun r=>some r) ⟨f,Dy _⟩]
 ·rfl
 ·intro k r i h j;have z:=aJR l r ids[i];refine⟨⟨aMB j.1 _,AA⟩,?_⟩;unfold aEY;rw[DR h,ajt l r _ m q j.1 AA];rfl
 intro k r _;unfold aEY;rw[EL]
def KP (l:List AP) (f:List (List Aw)):List Int:=VT l (J7 l f)
def NV (l:List AP) (f:List (List Aw)):List Int:=wz l (qV l (KP l f)).length (qV l (KP l f))
def Iy (l:List AP) (f:List (List Aw)):List Aw:=PD l (JK f) (NV l f)
def VG (l:List AP) (f:List (List Aw)):List Int:=bif (GY (Iy l f) 3 BZ).2 then eM l (GY (Iy l f) 3 BZ).1 else[]
def MZ (l:List AP) (f:List (List Aw)):List Int:=CQ l (VG l f) (Qj (J7 l f) (KP l f))
def aB7 (s a:List Aw):List Aw:=a.foldl (fun s x=>Gu s x.Kind x.Key x.Id) s
def lastOf (l:List AP) (f:List (List Aw)):List Aw:=aB7 (PD l (Iy l f) (MZ l f)) (JK f)
structure La (l:List AP) (sts:List (List Aw)):Prop where
 len:l.length≤100
 small:EI l
 states:Px sts
def aBY {l:List AP} {f:List (List Aw)} (h:La l f):(J7 l f).length≤40000:=by
 have z:=h.len;have I:=aEB h.states;have J:=RV (Qz f);have j:=aG0 l f [] fun s m=>(h.states.2 s m).1;have q:=h.states.1;have u:=LJ (fun x=>decide (KH l f x<f.length)) (allOf l f);have L:f.length*(100+l.length)≤100*200:=aFy q AA;have M:=aEm (FP (Qz f)) (OH l f)
 have O:(OH l f).length≤20000:=by
  unfold OH;unfold allOf at u ⊢;simp only[OB]at j;omega
 unfold J7;omega
def ai1 {l:List AP} {f:List (List Aw)} (h:La l f):(CP l (J7 l f)).length≤40000:=EZ (LJ _ _) (aBY h)
def aJC {l:List AP} {f:List (List Aw)} (h:La l f):(NV l f).length≤100:=by
 have m:=aae l (qV l (KP l f)).length (qV l (KP l f));have q:(qV l (KP l f)).length≤l.length:=yF (aFd _ _) fun x j=>(Vo.1 j).2;have s:=h.len;unfold NV;omega
def aK7 {l:List AP} {f:List (List Aw)} (h:La l f):(Iy l f).length≤200:=by
 have j:=aCm l (NV l f) (JK f);have m:=aJC h;have q:=xF h.states;unfold Iy;omega
def aH8 {l:List AP} {f:List (List Aw)} (h:La l f):IG (Iy l f):=aE5 (aKt h.states)
def aqF {l:List AP} {f:List (List Aw)} (h:La l f):(VG l f).length≤100:=by
 have j:=ao3 l (GY (Iy l f) 3 BZ).1;have m:=h.len;unfold VG;cases(GY (Iy l f) 3 BZ).2 with
 |true=>simp only[Bj];omega
 |false=>exact EH _
def arM {l:List AP} {f:List (List Aw)} (h:La l f):(MZ l f).length≤40000:=by
 have j:=aqc l (VG l f) (Qj (J7 l f) (KP l f));have m:=adM (J7 l f) (KP l f);have q:=aBY h;unfold MZ;omega
def aj3 {l:List AP} {f:List (List Aw)} (h:La l f):qZ (J7 l f) (KP l f) l (Iy l f,NV l f) (JK f,FP (Qz f)) (VG l f)=some ⟨lastOf l f,NV l f,MZ l f⟩:=by
 have q:=h.len;have u:=aBY h;have z:=aeB l (J7 l f);have I:=aqF h;have J:=adM (J7 l f) (KP l f);have L:=aK7 h;have M:=arM h;have O:=xF h.states;unfold qZ aDR aFN;rw[alV _ _ AA (by unfold KP;omega)];simp only[Af];rw[afi l _ _ AA h.small AA AA (ZA (as7 _ _))];simp only[Af];show((ZL l (Iy l f) (MZ l f)).bind _).bind _=_;rw[aac l _ _ AA h.small (aH8 h) AA];simp only[Af];unfold aJA;have U:=aCm l (MZ l f) (Iy l f);show aX _ BA 0 (⟨PD l (Iy l f) (MZ l f),NV l f,MZ l f⟩:N9)=_;rw[aEZ (JK f) AA (fun v x=>({ v with BG:=Gu v.BG x.Kind x.Key x.Id }:N9)) (fun i v=>v.BG.length≤(PD l (Iy l f) (MZ l f)).length+i) (fun v=>some v) (Dy _)]
 ·congr 1;unfold lastOf aB7
  have key:∀(a:List Aw) (v:N9),a.foldl (fun v x=>({ v with BG:=Gu v.BG x.Kind x.Key x.Id }:N9)) v=⟨a.foldl (fun s x=>Gu s x.Kind x.Key x.Id) v.BG,v.YN,v.akL⟩:=by
   intro a
   induction a with
   |nil=>intro v;rfl
   |cons x a j=>intro v;rw[Fh,j];rfl
  rw[key]
 ·intro k v i hi Y;have m:=Si v.BG (JK f)[i].Kind (JK f)[i].Key (JK f)[i].Id;refine⟨by show(Gu _ _ _ _).length≤_;omega,?_⟩;unfold aDY;rw[DR hi,X6 _ _ _ _ AA];rfl
 intro k v _;unfold aDY;rw[EL]
def akN {l:List AP} {f:List (List Aw)} (h:La l f):uJ l f=some ⟨lastOf l f,NV l f,MZ l f⟩:=by
 have q:=h.len;have s:=aBY h;have u:=aeB l (J7 l f);have z:=ai1 h;have I:=aK7 h;have J:=aJC h;have L:=xF h.states;have j:=aj3 h;unfold uJ;rw[aMo f h.states,af7 l f AA h.small.ao1 h.states];simp only[Af];rw[agG l _ AA h.small AA AA];simp only[Af];unfold aHZ aEf;rw[anu l _ AA h.small AA];simp only[Af];have ha:ZL l (JK f) (NV l f)=some (Iy l f):=aac l _ _ AA h.small (aKt h.states) AA;unfold NV KP at ha;rw[ha];simp only[Af];rw[aDX _ _ _ AA (aH8 h)];simp only[Af];rw[aj8 l _ AA h.small];unfold VG at j;cases m:(GY (Iy l f) 3 BZ).2 with
 |true=>rw[m]at j;exact j
 |false=>rw[m]at j;exact j
def adE (a:List Aw) (h:a.length≤1000000):jA a a=some true:=by
 unfold jA;rw[show((a.length:Int) != (a.length:Int))=false by simp];simp only[BO];unfold aKW;have f:a.any (fun _=>false)=false:=by rw[aAW];exact fun _ _ h=>Gz
 rw[Ic a (fuel_lt AA) (fun _=>false) false (some true)]
 ·rw[f];rfl
 ·intro k i hi;unfold aHG iC;rw[dec_lt hi,D6 hi];simp only[Bj,Af];rw[show(a[i].Kind != a[i].Kind)=false by simp,show(!(a[i].Key.toList==a[i].Key.toList))=false by simp,show(a[i].Id != a[i].Id)=false by simp];rfl
 intro k;unfold aHG;rw[EP];rfl
def Wp (l:List AP) (f:List (List Aw)):List Aw:=match f with
 | []=>[]
 | [s]=>s
 |_=>lastOf l f
def acX {l:List AP} {f:List (List Aw)} (h:La l f):Zz l f=some (Wp l f):=by
 match f,h with
 | [],_=>rfl
 | [s],h=>
   have z:=(h.states.2 s (Ez ..)).1;have j:BK [s] 0=some s:=rfl;show((BK [s] 0).bind fun m=>(DN 32 [] m).bind fun q=>some q)=some s;rw[j];simp only[Af];rw[Ef Vs];rfl
 |s::t::f,h=>
  unfold Zz;have j:(((s::t::f).length:Int)==0)=false:=by simp only[FV];simp;omega
  have u:(((s::t::f).length:Int)==1)=false:=by simp only[FV];simp;omega
  rw[j,u,akN h];rfl
def La.of {l:List AP} {f:List (List Aw)} (m:l.length≤14∧EI l) (j:f.length≤100∧∀s∈f,s.length≤20∧IG s):La l f:=
 ⟨by have :=m.1;omega,m.2,⟨j.1,fun s q=>⟨by have :=(j.2 s q).1;omega,(j.2 s q).2⟩⟩⟩
def aH3 {x:Aw}:∀(a s:List Aw),x∈aB7 s a→x∈a∨x∈s
 | [],_,h=>.inr h
 |y::a,s,h=>by
  rcases aH3 a _ h with h|h
  ·exact .inl (G9 _ h)
  rcases Q7 h with h|h
  ·left;rw[h];cases y;exact Ez ..
  exact .inr h
def aMb (l:List AP) (ids:List Int) (x:Aw):Prop:=∃id∈ids,dM l id=true∧Hq (ev l id).Kind=true∧x=⟨(ev l id).Kind,(ev l id).Key,(ev l id).Id⟩
def aCr {l:List AP} {x:Aw}:∀(ids:List Int) (s:List Aw),x∈PD l s ids→x∈s∨aMb l ids x
 | [],_,h=>.inl h
 |id::ids,s,h=>by
  rcases aCr ids _ h with h|⟨j,q,h⟩
  ·have f:x∈bif Qr l s id then Gu s (ev l id).Kind (ev l id).Key (ev l id).Id else s:=h
   cases m:Qr l s id with
   |false=>rw[m]at f;exact .inl f
   |true=>
    rw[m]at f;rcases Q7 f with f|f
    ·unfold Qr at m;simp only[CZ]at m;exact .inr ⟨id,Ez ..,m.1,m.2.1,f⟩
    exact .inl f
  exact .inr ⟨j,G9 _ q,h⟩
def aqu {l:List AP} {f:List (List Aw)} {x:Int} (h:x∈KP l f):x∈J7 l f:=(aEg.1 h).1
def aaZ {l:List AP} {f:List (List Aw)} {x:Aw} (h:x∈lastOf l f):x∈JK f∨aMb l (J7 l f) x:=by
 unfold lastOf at h;rcases aH3 _ _ h with h|h
 ·exact .inl h
 rcases aCr _ _ h with h|⟨j,m,h⟩
 ·unfold Iy at h;rcases aCr _ _ h with h|⟨j,m,h⟩
  ·exact .inl h
  exact .inr ⟨j,aqu (Vo.1 (aEr _ _ _ m)).1,h⟩
 exact .inr ⟨j,(ad3.1 (afV.1 m).1).1,h⟩
def aMC :∀(a s:List Aw),IG s→IG (aB7 s a)
 | [],_,h=>h
 |x::a,s,h=>aMC a _ (VJ h x.Kind x.Key x.Id)
def aev {l:List AP} {f:List (List Aw)} (h:La l f):IG (lastOf l f):=aMC _ _ (aE5 (aH8 h))
structure Hd (l:List AP) (s:List Aw):Prop where
 sorted:IG s
 named:∀x∈s,dM l x.Id=true∧Hq x.Kind=true∧(ev l x.Id).Kind=x.Kind∧(ev l x.Id).Key=x.Key
def Hd.nil (l:List AP):Hd l []:=⟨List.Pairwise.nil,fun _ h=>absurd h GL⟩
def Hd.nodup {l:List AP} {s:List Aw} (h:Hd l s):(s.map (·.Id)).Nodup:=by
 rw[aBD,List.pairwise_map];refine List.Pairwise.imp_of_mem ?_ h.sorted;intro a b ha j f e;obtain⟨_,_,m,k2⟩:=h.named a ha;obtain⟨_,_,q,u⟩:=h.named b j;have z:a.Kind=b.Kind:=by rw[←m,←q,e]
 have I:a.Key=b.Key:=by rw[←k2,←u,e]
 rw[qI (UQ.2 ⟨z,I⟩)]at f;cases f
def Hd.length {l:List AP} {s:List Aw} (h:Hd l s):s.length≤l.length:=by
 have :Ry l (s.map (·.Id)):=⟨h.nodup,fun x f=>by
  obtain⟨y,j,rfl⟩:=F8.1 f
  exact(h.named y j).1⟩
 have :=this.length
 rwa [Cb]at this
def Hd.okay {l:List AP} {f:List (List Aw)} (j:l.length≤100) (q:EI l) (u:f.length≤100) (h:∀s∈f,Hd l s):La l f:=
 ⟨j,q,u,fun s m=>⟨EZ (h s m).length j,(h s m).sorted⟩⟩
def Hd.resolve {l:List AP} {f:List (List Aw)} (j:La l f) (h:∀s∈f,Hd l s):Hd l (Wp l f):=by
 match f,j,h with
 | [],_,_=>exact .nil l
 | [s],_,h=>exact h s (Ez ..)
 |s::t::f,j,h=>
  refine⟨aev j,fun x z=>?_⟩;rcases aaZ z with I|⟨id,_,u,hst,m⟩
  ·exact(h s (Ez ..)).named x ((ab1 j.states (List.cons_ne_nil _ _)).1 I s (Ez ..))
  have q:=J6 u;have J:x.Id=id:=by rw[m];exact q.2
  rw[J];exact⟨u,by rw[m];exact hst,by rw[m],by rw[m]⟩
def Hd.set {l:List AP} {s:List Aw} (h:Hd l s) {e:AP} (m:dM l e.Id=true) (j:ev l e.Id=e) (hst:Hq e.Kind=true):Hd l (Gu s e.Kind e.Key e.Id):=
 ⟨VJ h.sorted _ _ _,fun x f=>by
  rcases Q7 f with rfl|f
  ·exact⟨m,hst,by rw[j],by rw[j]⟩
  exact h.named x f⟩
end Go.Proofs.YtolgdkhlelfpoaaGreat
end
