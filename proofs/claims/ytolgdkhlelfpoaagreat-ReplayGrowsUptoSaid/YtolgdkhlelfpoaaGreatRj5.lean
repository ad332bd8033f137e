/- Part 5 of what the laws' proofs lean on: states of the walk, typed functions of the program and their laws (short forms written by wip/shrink.py; no condition). -/
import Derived.Test.YtolgdkhlelfpoaaGreatRj4
set_option linter.defProp false
set_option linter.unnecessarySimpa false
set_option linter.unusedVariables false
set_option linter.unusedSimpArgs false
section
namespace Go.Proofs.YtolgdkhlelfpoaaGreat
open Go.RowKit
set_option maxRecDepth 20000
set_option maxHeartbeats 4000000
def YO (f:Int) (j:Bq):Option Bool:=(bif (j.Text.toList==BZ.toList)then some true else(Bj f GL).bind fun x3=>some x3).bind fun x1=>(bif x1 then(bif (j.N==0)then some true else(Bj f Gp).bind fun x8=>some x8).bind fun x6=>some x6 else some false).bind fun x4=>(bif x4 then(bif (j.Target==0)then some true else(Bj f Gy).bind fun m=>some m).bind fun q=>some q else some false).bind fun x9=>(bif x9 then(bif (!j.Thread)then some true else(Bj f JE).bind fun s=>some s).bind fun u=>some u else some false).bind fun z=>(bif z then(bif (j.Via.toList==BZ.toList)then some true else(Bj f JG).bind fun I=>some I).bind fun J=>some J else some false).bind fun L=>(bif L then(bif ((j.Allow.length:Int)==0)then some true else(Bj f IW).bind fun M=>some M).bind fun O=>some O else some false).bind fun U=>(bif U then(bif ((j.gB.length:Int)==0)then some true else(Bj f J5).bind fun Y=>some Y).bind fun Z=>some Z else some false).bind fun x29=>(bif x29 then(uw j.Levels).bind fun x36=>(bif x36 then some true else(Bj f JK).bind fun x39=>some x39).bind fun x37=>some x37 else some false).bind fun x34=>some x34
def am3 (dF dQ r) (h:YO dF dQ=some r):BF 315 [AV dF,G5 dQ] [] (Ah r) []:=Am.aH Tryz.func315 rfl<|AX<|AP<|.a 3<|AQ h fun x1 hx1 h=>.mg 8 3 (Ah x1) (.bi hx1 (k2:=fun h=>AQ h fun x3 hx3 h=>.a 1<|.ca (VG dF GL x3 hx3)<|.aW<|CM))<|.a 1<|AQ h fun x4 hx4 h=>.mg 13 7 (Ah x4) (CY hx4 (fun e i=>by subst e;have h:=i;exact .a 3<|AQ h fun x6 hx6 h=>.mg 16 3 (Ah x6) (.bi hx6 (k2:=fun h=>AQ h fun x8 yj h=>.a 1<|.ca (VG dF Gp x8 yj)<|.aW<|CM))<|.aW<|CM))<|.a 1<|AQ h fun x9 CG h=>.mg 22 7 (Ah x9) (CY CG (fun e i=>by subst e;have h:=i;exact .a 3<|AQ h fun x11 f h=>.mg 25 3 (Ah x11) (.bi f (k2:=fun h=>AQ h fun Nr j h=>.a 1<|.ca (VG dF Gy Nr j)<|.aW<|CM))<|.aW<|CM))<|.a 1<|AQ h fun x14 m h=>.mg 31 7 (Ah x14) (CY m (fun e i=>by subst e;have h:=i;exact .a 3<|AQ h fun x16 q h=>.mg 34 3 (Ah x16) (.bi q (k2:=fun h=>AQ h fun x18 s h=>.a 1<|.ca (VG dF JE x18 s)<|.aW<|CM))<|.aW<|CM))<|.a 1<|AQ h fun x19 u h=>.mg 40 7 (Ah x19) (CY u (fun e i=>by subst e;have h:=i;exact .a 3<|AQ h fun x21 z h=>.mg 43 3 (Ah x21) (.bi z (k2:=fun h=>AQ h fun x23 I h=>.a 1<|.ca (VG dF JG x23 I)<|.aW<|CM))<|.aW<|CM))<|.a 1<|AQ h fun x24 J h=>.mg 49 8 (Ah x24) (CY J (fun e i=>by subst e;have h:=i;exact .a 2<|.p (BP CQ dQ.Allow F9 rfl)<|.a 1<|AQ h fun Ed L h=>.mg 53 3 (Ah Ed) (.bi L (k2:=fun h=>AQ h fun x28 M h=>.a 1<|.ca (VG dF IW x28 M)<|.aW<|CM))<|.aW<|CM))<|.a 1<|AQ h fun x29 O h=>.mg 59 8 (Ah x29) (CY O (fun e i=>by subst e;have h:=i;exact .a 2<|.p (BP CQ dQ.gB F9 rfl)<|.a 1<|AQ h fun x31 U h=>.mg 63 3 (Ah x31) (.bi U (k2:=fun h=>AQ h fun x33 Y h=>.a 1<|.ca (VG dF J5 x33 Y)<|.aW<|CM))<|.aW<|CM))<|.a 1<|AQ h fun x34 Z h=>.mg 69 7 (Ah x34) (CY Z (fun e i=>by subst e;have h:=i;exact AQ h fun x36 afi h=>.a 2<|.ca (ani dQ.Levels x36 afi)<|.a 1<|AQ h fun x37 ak9 h=>.mg 73 2 (Ah x37) (CY ak9 (k2:=fun e i=>by subst e;have h:=i;exact AQ h fun x39 hx39 h=>.a 1<|.ca (VG dF JK x39 hx39)<|.aW<|CM))<|.aW<|CM))<|.aW<|CS
def zT (f:Int):Option Bool:=(bif (f==7)then some true else some (f==8)).bind fun m=>(bif m then some true else some (f==9)).bind fun q=>(bif q then some true else some (f==10)).bind fun s=>(bif s then some true else some (f==11)).bind fun u=>(bif u then some true else some (f==12)).bind fun z=>(bif z then some true else some (f==13)).bind fun j=>some j
def aiP (dF r) (h:zT dF=some r):BF 316 [AV dF] [] (Ah r) []:=Am.aH Tryz.func316 rfl<|AX<|AP<|.a 2<|AQ h fun I j h=>.mg 5 3 (Ah I) (.bi j)<|.a 1<|AQ h fun J m h=>.mg 10 2 (Ah J) (CY m)<|.a 1<|AQ h fun L q h=>.mg 14 2 (Ah L) (CY q)<|.a 1<|AQ h fun M s h=>.mg 18 2 (Ah M) (CY s)<|.a 1<|AQ h fun O u h=>.mg 22 2 (Ah O) (CY u)<|.a 1<|AQ h fun z f h=>.mg 26 2 (Ah z) (CY f)<|.aW<|CS
def lY (f:FM) (j:FM) (q:(Int→Option Bool)):Int→Option Bool:=fun m=>(bif decide (m<(f.length:Int))then(BJ f m).bind fun s=>(BJ j m).bind fun u=>(bif (!(s.toList==u.toList))then some false else q (BI (m+1)))else some true)
def aCM (f:FM) (j:FM):Int→Option Bool:=bn (lY f j) BA
def Ub (f:FM) (j:FM):Option Bool:=(bif ((f.length:Int) != (j.length:Int))then some false else aCM f j 0)
def aJ4 (fG fF r) (h:Ub fG fF=some r):BF 134 [Gh fG,Gh fF] [] (Ah r) []:=Am.aH Tryz.func134 rfl<|AX<|Aa<|AP<|.a 1<|.p (BP CQ fG F9 rfl)<|.a 1<|.p (BP CQ fF F9 rfl)<|.aW<|Ae h Bd fun h=>AO.skip<|Aa<|AX<|AO.block<|Du (fun q=>⟨BM 26 [(0,Gh fG),(1,Gh fF),(5,AV q)],[],0⟩) _ _ _ (Ad 26 35 []) h<|fun s u f q h=>Aa<|AP<|.a 2<|.p (BP CQ fG F9 rfl)<|.aW<|Ae h (fun h=>AO.skip<|Aa<|AO.block<|C9 h fun z j I m h=>GK A8 A8 A8 (.a 2<|.p (BN CQ j F9 J3 rfl)<|.a 3<|.p (BN CQ m F9 J3 rfl)<|.a 2<|.nil _)<|Ae h Bd fun h=>AO.skip<|BG<|.a 3<|.nil<|f _ _ (Ad 26 35 []) h) fun h=>Ey
def Un (f:Bq) (j:Bq):Option Bool:=(bif (f.Text.toList==j.Text.toList)then some (f.N==j.N)else some false).bind fun I=>(bif I then some (f.Target==j.Target)else some false).bind fun J=>(bif J then some (f.Thread==j.Thread)else some false).bind fun L=>(bif L then some (f.Via.toList==j.Via.toList)else some false).bind fun M=>(bif M then(Ub f.Allow j.Allow).bind fun m=>some m else some false).bind fun O=>(bif O then(Ub f.gB j.gB).bind fun q=>some q else some false).bind fun s=>(bif s then(Yn f.Levels j.Levels).bind fun u=>some u else some false).bind fun z=>some z
def aDb (fG fF r) (h:Un fG fF=some r):BF 93 [G5 fG,G5 fF] [] (Ah r) []:=Am.aH Tryz.func93 rfl<|AX<|AP<|.a 5<|AQ h fun x1 u h=>.mg 10 6 (Ah x1) (.bi u)<|.a 1<|AQ h fun x3 z h=>.mg 18 5 (Ah x3) (CY z)<|.a 1<|AQ h fun x5 I h=>.mg 25 5 (Ah x5) (CY I)<|.a 1<|AQ h fun x7 J h=>.mg 32 5 (Ah x7) (CY J)<|.a 1<|AQ h fun x9 L h=>.mg 39 5 (Ah x9) (CY L (fun e i=>by subst e;have h:=i;exact AQ h fun M f h=>.a 4<|.ca (aJ4 fG.Allow fF.Allow M f)<|.aW<|CM))<|.a 1<|AQ h fun O j h=>.mg 46 5 (Ah O) (CY j (fun e i=>by subst e;have h:=i;exact AQ h fun U m h=>.a 4<|.ca (aJ4 fG.gB fF.gB U m)<|.aW<|CM))<|.a 1<|AQ h fun Y q h=>.mg 53 5 (Ah Y) (CY q (fun e i=>by subst e;have h:=i;exact AQ h fun Z s h=>.a 4<|.ca (adl fG.Levels fF.Levels Z s)<|.aW<|CM))<|.aW<|CS
def aI4 (f:ByteArray) (m:(Int→Option Int)):Int→Option Int:=fun j=>(bif decide (j<(f.size:Int))then(GI f j).bind fun q=>(bif decide (q<33)then some true else(GI f j).bind fun s=>some (decide (s>126))).bind fun u=>(bif u then some 3 else m (BI (j+1)))else some 0)
def aFZ (f:ByteArray):Int→Option Int:=bn (aI4 f) BA
def ZQ (f:ByteArray):Option Int:=(bif ((f.size:Int)==0)then some 9 else(bif decide ((f.size:Int)>64)then some 7 else aFZ f 0))
def aIq (OU r) (h:ZQ OU=some r):BF 376 [D7 OU] [] (AV r) []:=Am.aH Tryz.func376 rfl<|AX<|Aa<|AX<|Ae h Bd fun h=>AO.skip<|Aa<|AX<|Ae h Bd fun h=>AO.skip<|Aa<|AX<|AO.block<|Du (fun s=>⟨BM 26 [(0,D7 OU),(3,AV s)],[],0⟩) _ _ _ (Ad 26 9 []) h<|fun u I f s h=>Aa<|AX<|Ae h (fun h=>AO.skip<|Aa<|AO.block<|AQ h fun J j h=>AP<|.a 2<|.p (IB (k:=.i64) j FU rfl)<|.a 1<|AQ h fun z m h=>.mg 20 5 (Ah z) (.bi m (k2:=fun h=>AQ h fun L q h=>.a 2<|.p (IB (k:=.i64) q FU rfl)<|.aW<|CM))<|.aY<|Ae h Bd fun h=>AO.skip<|BG<|.a 3<|.nil<|f _ _ (Ad 26 9 []) h) fun h=>Ey
def X8 (j:Int) (f:Bq):Option Int:=(bif (j==9)then(bif (f.Text.toList==BZ.toList)then some 0 else(ZQ f.Text).bind fun m=>some m)else(bif (j==12)then some (f.Text.toList==BZ.toList)else some false).bind fun q=>(bif q then some 9 else(bif decide ((f.Text.size:Int)>400)then some true else(bif (j==12)then some (decide ((f.Text.size:Int)>32))else some false).bind fun s=>some s).bind fun u=>(bif u then some 7 else some 0)))
def ajD (dF dQ r) (h:X8 dF dQ=some r):BF 317 [AV dF,G5 dQ] [] (AV r) []:=Am.aH Tryz.func317 rfl<|AX<|Aa<|AX<|Ae h (fun h=>Aa<|AX<|Ae h Bd fun h=>AO.skip<|AQ h fun s f h=>AP<|.a 2<|.ca (aIq dQ.Text s f)<|.aW<|CS) fun h=>AO.skip<|Aa<|AP<|.a 2<|AQ h fun u j h=>.mg 15 4 (Ah u) (.bi j)<|.aY<|Ae h Bd fun h=>AO.skip<|Aa<|AP<|.a 4<|AQ h fun z m h=>.mg 24 9 (Ah z) (.bi m (k2:=fun h=>.a 2<|AQ h fun I q h=>.mg 27 5 (Ah I) (.bi q)<|.aW<|CM))<|SA
def Xc (f:Bool):Option Int:=(bif (!f)then some 2 else some 0)
def aFS (f:Int) (j:Int) (z:Bool):Option Int:=(bif z then(bif decide (f≥0)then some (decide (f≤3))else some false).bind fun I=>Xc I else(bif (j==8)then(bif decide (f≥0)then some (decide (f≤1000000000))else some false).bind fun m=>Xc m else(bif (j==10)then(bif decide (f≥1)then some (decide (f≤10000))else some false).bind fun q=>Xc q else(bif (j==9)then(bif (f==1)then some true else some (f==2)).bind fun s=>(bif s then some true else some (f==6)).bind fun u=>Xc u else Xc true))))
def Ln (f:Int) (j:Int):Option Int:=(bif (f==2)then(bif decide (j≥0)then some (decide (j≤4))else some false).bind fun m=>Xc m else(bif (f==4)then aFS j f (f==4)else aFS j f (f==5)))
def alA (dF qh r) (h:Ln dF qh=some r):BF 318 [AV dF,AV qh] [] (AV r) []:=Am.aH Tryz.func318 rfl<|AX<|AX<|DJ (fun s=>∃(J:Bool),CJ s ⟨BM 54 [(5,Ah J)],[],0⟩∧Xc J=some r) (by rintro s ⟨J,L,h⟩;exact CZ L<|Aa<|xw)<|fun K3=>AX<|AO.block<|AX<|Ae h (fun h=>BG<|.a 2<|AQ h fun Z M h=>.mg 11 3 (Ah Z) (.bi M)<|.a 1<|.nil<|K3 _ ⟨Z,Ad 54 32 [],h⟩) fun h=>DJ (fun s=>∃(O:Bool),CJ s ⟨BM 54 [(1,AV qh),(5,Ah true),(6,AV dF),(15,Ah O)],[],0⟩∧aFS qh dF O=some r) (by rintro s ⟨O,L,h⟩;exact CZ L<|Ae h (fun h=>BG<|.a 2<|AQ h fun x9 U h=>.mg 20 3 (Ah x9) (.bi U)<|.a 1<|.nil<|K3 _ ⟨x9,Ad 54 32 [],h⟩) fun h=>AX<|Ae h (fun h=>BG<|.a 2<|AQ h fun f j h=>.mg 28 3 (Ah f) (.bi j)<|.a 1<|.nil<|K3 _ ⟨f,Ad 54 32 [],h⟩) fun h=>AX<|Ae h (fun h=>BG<|.a 2<|AQ h fun m q h=>.mg 36 3 (Ah m) (.bi q)<|.a 1<|.nil<|K3 _ ⟨m,Ad 54 32 [],h⟩) fun h=>AX<|Ae h (fun h=>BG<|.a 2<|AQ h fun Y u h=>.mg 44 3 (Ah Y) (.bi u)<|.a 1<|AQ h fun z I h=>.mg 49 2 (Ah z) (CY I)<|.a 1<|.nil<|K3 _ ⟨z,Ad 54 32 [],h⟩) fun h=>AO.skip<|K3 _ ⟨true,Ad 54 32 [],h⟩)<|fun K22=>AX<|Ae h (fun h=>AO.skip<|K22 _ ⟨(dF==4),Ad 54 32866 [],h⟩) fun h=>BG<|.a 2<|.nil<|K22 _ ⟨(dF==5),Ad 54 32866 [],h⟩
def V8 (j:Int) (f:Bq):Option Int:=(Bj j Gy).bind fun m=>(bif m then(bif decide (f.Target<0)then some true else(bif (f.Target==0)then some (j != 11)else some false).bind fun q=>some q).bind fun s=>some s else some false).bind fun u=>(bif u then some 2 else(bif f.Thread then some (f.Target==0)else some false).bind fun z=>(bif z then some 1 else some 0))
def aky (dF dQ r) (h:V8 dF dQ=some r):BF 319 [AV dF,G5 dQ] [] (AV r) []:=Am.aH Tryz.func319 rfl<|AX<|Aa<|AQ h fun u f h=>AP<|.a 1<|.ca (VG dF Gy u f)<|.a 1<|AQ h fun z j h=>.mg 8 12 (Ah z) (CY j (fun e i=>by subst e;have h:=i;exact .a 3<|AQ h fun I m h=>.mg 11 8 (Ah I) (.bi m (k2:=fun h=>.a 3<|AQ h fun J q h=>.mg 15 3 (Ah J) (.bi q)<|.aW<|CM))<|.aW<|CM))<|.aY<|Ae h Bd fun h=>AO.skip<|Aa<|AP<|.a 2<|AQ h fun L s h=>.mg 23 4 (Ah L) (.bi s)<|SA
def X3 (f:Bq):Option Int:=(bif (f.Via.toList==BZ.toList)then some 0 else(bif (f.N != 3)then some 1 else(VX f.Via).bind fun j=>some j))
def ahs (dH r) (h:X3 dH=some r):BF 320 [G5 dH] [] (AV r) []:=Am.aH Tryz.func320 rfl<|AX<|Aa<|AX<|Ae h Bd fun h=>AO.skip<|Aa<|AX<|Ae h Bd fun h=>AO.skip<|AQ h fun j f h=>AP<|.a 2<|.ca (aAz dH.Via j f)<|.aW<|CS
def nC (j:(Int→Option Int)) (m:Int) (f:Bool):Option Int:=(bif f then some 8 else j (BI (m+1)))
def rX (f:Bq) (s:(Int→Option Int)):Int→Option Int:=fun j=>(bif decide (j<(f.Allow.length:Int))then(BJ f.Allow j).bind fun u=>(eB u).bind fun z=>(bif (z != 0)then some 3 else(bif decide (j>0)then(BJ f.Allow j).bind fun m=>(BJ f.Allow (BI (j-1))).bind fun q=>nC s j (Op.bytesLess (m.toList) (q.toList)||m.toList==q.toList)else nC s j false))else some 0)
def aIl (f:Bq):Int→Option Int:=bn (rX f) BA
def Yo (f:Bq):Option Int:=(bif decide ((f.Allow.length:Int)>0)then some (f.N != 3)else some false).bind fun j=>(bif j then some 1 else(bif decide ((f.Allow.length:Int)>100)then some 7 else aIl f 0))
def aiY (dH r) (h:Yo dH=some r):BF 321 [G5 dH] [] (AV r) []:=Am.aH Tryz.func321 rfl<|AX<|Aa<|AP<|.a 2<|.p (BP CQ dH.Allow F9 rfl)<|.a 1<|AQ h fun Y L h=>.mg 8 4 (Ah Y) (.bi L)<|.aY<|Ae h Bd fun h=>AO.skip<|Aa<|AP<|.a 2<|.p (BP CQ dH.Allow F9 rfl)<|.aW<|Ae h Bd fun h=>AO.skip<|Aa<|AX<|AO.block<|Du (fun J=>⟨BM 47 [(1,.ptr 0 0),(3,AV J)],[.box (Ag (EI dH))],0⟩) _ _ _ (Ad 47 10 [(0,true)]) h<|fun Z k6 M J h=>Aa<|AP<|.a 3<|.p (BP CQ dH.Allow F9 rfl)<|.aW<|Ae h (fun h=>AO.skip<|Aa<|AO.block<|Aa<|C9 h fun x8 O x9 U h=>AP<|.a 3<|.p (BN CQ O F9 J3 rfl)<|.a 1<|.ca (aLx x8 x9 U)<|.aW<|Ae h Bd fun h=>AO.skip<|DJ (fun s=>∃(j:Bool),CJ s ⟨BM 47 [(1,.ptr 0 0),(3,AV J),(46,Ah j)],[.box (Ag (EI dH))],0⟩∧nC k6 J j=some r) (by rintro s ⟨j,hs,h⟩;exact CZ hs<|Ae h Bd fun h=>AO.skip<|BG<|.a 3<|.nil<|M _ _ (Ad 47 10 [(0,true)]) h)<|fun m=>FD h (fun f h=>C9 h fun q u z I h=>AO.draw A8 A8 A8 (.a 2<|.c (BR some f)<|.a 3<|.p (BN CQ u F9 J3 rfl)<|.a 5<|.p (BN CQ I F9 J3 rfl)<|.a 3<|.nil _)<|m _ ⟨(Op.bytesLess (q.toList) (z.toList)||q.toList==z.toList),Ad 47 70368744177674 [(0,true)],h⟩) fun f h=>AO.draw A8 A8 A8 (.a 2<|.c (BR some f)<|.a 13<|.nil _)<|m _ ⟨false,Ad 47 70368744177674 [(0,true)],h⟩) fun h=>Ey
def ng (f:FM) (q:(Int→Option Int)):Int→Option Int:=fun j=>(bif decide (j<(f.length:Int))then(BJ f j).bind fun s=>(ZQ s).bind fun m=>(bif (m != 0)then some m else q (BI (j+1)))else some 0)
def aHJ (f:FM):Int→Option Int:=bn (ng f) BA
def QO (f:FM):Option Int:=(bif decide ((f.length:Int)>100)then some 7 else aHJ f 0)
def aKX (aB r) (h:QO aB=some r):BF 322 [Gh aB] [] (AV r) []:=Am.aH Tryz.func322 rfl<|AX<|Aa<|AP<|.a 1<|.p (BP CQ aB F9 rfl)<|.aW<|Ae h Bd fun h=>AO.skip<|Aa<|AX<|AO.block<|Du (fun q=>⟨BM 22 [(0,Gh aB),(3,AV q)],[],0⟩) _ _ _ (Ad 22 9 []) h<|fun z I f q h=>Aa<|AP<|.a 2<|.p (BP CQ aB F9 rfl)<|.aW<|Ae h (fun h=>AO.skip<|Aa<|AO.block<|C9 h fun s j u m h=>AP<|.a 2<|.p (BN CQ j F9 J3 rfl)<|.a 1<|.ca (aIq s u m)<|.aW<|AX<|Ae h Bd fun h=>AO.skip<|BG<|.a 3<|.nil<|f _ _ (Ad 22 9 []) h) fun h=>Ey
def Px (f:Int):Option Bool:=(bif decide (f<(-1000))then some true else some (decide (f>1000))).bind fun j=>some j
def V6 (ab2 r) (h:Px ab2=some r):BF 379 [AV ab2] [] (Ah r) []:=Am.aH Tryz.func379 rfl<|AX<|AP<|.a 2<|AQ h fun j f h=>.mg 5 3 (Ah j) (.bi f)<|.aW<|CS
def bY (f:KG) (q:Int) (s:(Int→Option Int)) (u:Bool):Option Int:=(bif u then some 8 else(BJ f q).bind fun j=>(Px j.N).bind fun m=>(bif m then some 2 else s (BI (q+1))))
def rC (f:KG) (s:(Int→Option Int)):Int→Option Int:=fun j=>(bif decide (j<(f.length:Int))then(BJ f j).bind fun u=>(VX u.User).bind fun z=>(bif (z != 0)then some 3 else(bif decide (j>0)then(BJ f j).bind fun m=>(BJ f (BI (j-1))).bind fun q=>bY f j s (Op.bytesLess (m.User.toList) (q.User.toList)||m.User.toList==q.User.toList)else bY f j s false))else some 0)
def aEA (f:KG):Int→Option Int:=bn (rC f) BA
def Wi (f:KG):Option Int:=(bif decide ((f.length:Int)>100)then some 7 else aEA f 0)
def aqr (aB r) (h:Wi aB=some r):BF 377 [MB aB] [] (AV r) []:=Am.aH Tryz.func377 rfl<|AX<|Aa<|AP<|.a 1<|.p (BP ER aB FY rfl)<|.aW<|Ae h Bd fun h=>AO.skip<|Aa<|AX<|AO.block<|Du (fun L=>⟨BM 42 [(0,MB aB),(3,AV L)],[],0⟩) _ _ _ (Ad 42 9 []) h<|fun J17 k3 M L h=>Aa<|AP<|.a 2<|.p (BP ER aB FY rfl)<|.aW<|Ae h (fun h=>AO.skip<|Aa<|AO.block<|Aa<|C9 h fun x5 O x6 U h=>AP<|.a 2<|.p (BN ER O FY JQ rfl)<|.a 2<|.ca (aAz x5.User x6 U)<|.aW<|Ae h Bd fun h=>AO.skip<|Aa<|DJ (fun s=>∃(Y:Bool),CJ s ⟨BM 42 [(0,MB aB),(3,AV L),(35,Ah Y)],[],0⟩∧bY aB L k3 Y=some r) (by rintro s ⟨Y,hs,h⟩;exact CZ hs<|Ae h Bd fun h=>AO.skip<|C9 h fun Z j x11 m h=>AP<|.a 2<|.p (BN ER j FY JQ rfl)<|.a 2<|.ca (V6 Z.N x11 m)<|.aY<|Ae h Bd fun h=>AO.skip<|BG<|.a 3<|.nil<|M _ _ (Ad 42 9 []) h)<|fun q=>FD h (fun f h=>C9 h fun u z I J h=>AO.draw A8 A8 A8 (.a 2<|.c (BR some f)<|.a 2<|.p (BN ER z FY JQ rfl)<|.a 5<|.p (BN ER J FY JQ rfl)<|.a 4<|.nil _)<|q _ ⟨(Op.bytesLess (u.User.toList) (I.User.toList)||u.User.toList==I.User.toList),Ad 42 34359738377 [],h⟩) fun f h=>AO.draw A8 A8 A8 (.a 2<|.c (BR some f)<|.a 13<|.nil _)<|q _ ⟨false,Ad 42 34359738377 [],h⟩) fun h=>Ey
def aAI (f:KL) (q:Int) (s:(Int→Option Int)) (u:Bool):Option Int:=(bif u then some 8 else(BJ f q).bind fun j=>(Px j.N).bind fun m=>(bif m then some 2 else s (BI (q+1))))
def aBe (f:KL) (s:(Int→Option Int)):Int→Option Int:=fun j=>(bif decide (j<(f.length:Int))then(BJ f j).bind fun u=>(bF u.Kind).bind fun z=>(bif (!z)then some 1 else(bif decide (j>0)then(BJ f j).bind fun m=>(BJ f (BI (j-1))).bind fun q=>aAI f j s (decide (m.Kind≤q.Kind))else aAI f j s false))else some 0)
def aCf (f:KL):Int→Option Int:=bn (aBe f) BA
def XF (f:KL):Option Int:=(bif decide ((f.length:Int)>100)then some 7 else aCf f 0)
def amT (aB r) (h:XF aB=some r):BF 378 [MX aB] [] (AV r) []:=Am.aH Tryz.func378 rfl<|AX<|Aa<|AP<|.a 1<|.p (BP EX aB FW rfl)<|.aW<|Ae h Bd fun h=>AO.skip<|Aa<|AX<|AO.block<|Du (fun I=>⟨BM 42 [(0,MX aB),(3,AV I)],[],0⟩) _ _ _ (Ad 42 9 []) h<|fun J17 k3 J I h=>Aa<|AP<|.a 2<|.p (BP EX aB FW rfl)<|.aW<|Ae h (fun h=>AO.skip<|Aa<|AO.block<|Aa<|C9 h fun x5 L x6 M h=>AP<|.a 2<|.p (BN EX L FW JY rfl)<|.a 2<|.ca (aeQ x5.Kind x6 M)<|.aW<|Ae h Bd fun h=>AO.skip<|Aa<|DJ (fun s=>∃(O:Bool),CJ s ⟨BM 42 [(0,MX aB),(3,AV I),(35,Ah O)],[],0⟩∧aAI aB I k3 O=some r) (by rintro s ⟨O,hs,h⟩;exact CZ hs<|Ae h Bd fun h=>AO.skip<|C9 h fun U j Y m h=>AP<|.a 2<|.p (BN EX j FW JY rfl)<|.a 2<|.ca (V6 U.N Y m)<|.aY<|Ae h Bd fun h=>AO.skip<|BG<|.a 3<|.nil<|J _ _ (Ad 42 9 []) h)<|fun q=>FD h (fun f h=>C9 h fun Z u x16 z h=>AO.draw A8 A8 A8 (.a 2<|.c (BR some f)<|.a 2<|.p (BN EX u FW JY rfl)<|.a 5<|.p (BN EX z FW JY rfl)<|.a 4<|.nil _)<|q _ ⟨(decide (Z.Kind≤x16.Kind)),Ad 42 34359738377 [],h⟩) fun f h=>AO.draw A8 A8 A8 (.a 2<|.c (BR some f)<|.a 13<|.nil _)<|q _ ⟨false,Ad 42 34359738377 [],h⟩) fun h=>Ey
def WT (f:D8):Option Int:=(Wi f.Users).bind fun M=>(bif (M != 0)then some M else(XF f.Kinds).bind fun O=>(bif (O != 0)then some O else(Px f.User).bind fun U=>(bif U then some true else(Px f.Message).bind fun Y=>some Y).bind fun Z=>(bif Z then some true else(Px f.State).bind fun j=>some j).bind fun x9=>(bif x9 then some true else(Px f.fV).bind fun m=>some m).bind fun q=>(bif q then some true else(Px f.jH).bind fun s=>some s).bind fun u=>(bif u then some true else(Px f.nD).bind fun z=>some z).bind fun I=>(bif I then some true else(Px f.gQ).bind fun J=>some J).bind fun L=>(bif L then some 2 else some 0)))
def afd (aB r) (h:WT aB=some r):BF 323 [Ji aB] [] (AV r) []:=Am.aH Tryz.func323 rfl<|AX<|Aa<|AQ h fun x1 L h=>AP<|.a 2<|.ca (aqr aB.Users x1 L)<|.aW<|AX<|Ae h Bd fun h=>AO.skip<|Aa<|AQ h fun x3 M h=>AP<|.a 2<|.ca (amT aB.Kinds x3 M)<|.aW<|AX<|Ae h Bd fun h=>AO.skip<|Aa<|AQ h fun x5 O h=>AP<|.a 2<|.ca (V6 aB.User x5 O)<|.a 1<|AQ h fun x6 U h=>.mg 21 3 (Ah x6) (CY U (k2:=fun e i=>by subst e;have h:=i;exact AQ h fun x8 Y h=>.a 2<|.ca (V6 aB.Message x8 Y)<|.aW<|CM))<|.a 1<|AQ h fun x9 Z h=>.mg 26 3 (Ah x9) (CY Z (k2:=fun e i=>by subst e;have h:=i;exact AQ h fun x11 f h=>.a 2<|.ca (V6 aB.State x11 f)<|.aW<|CM))<|.a 1<|AQ h fun x12 j h=>.mg 31 3 (Ah x12) (CY j (k2:=fun e i=>by subst e;have h:=i;exact AQ h fun x14 m h=>.a 2<|.ca (V6 aB.fV x14 m)<|.aW<|CM))<|.a 1<|AQ h fun x15 q h=>.mg 36 3 (Ah x15) (CY q (k2:=fun e i=>by subst e;have h:=i;exact AQ h fun x17 s h=>.a 2<|.ca (V6 aB.jH x17 s)<|.aW<|CM))<|.a 1<|AQ h fun x18 u h=>.mg 41 3 (Ah x18) (CY u (k2:=fun e i=>by subst e;have h:=i;exact AQ h fun Jk z h=>.a 2<|.ca (V6 aB.nD Jk z)<|.aW<|CM))<|.a 1<|AQ h fun x21 I h=>.mg 46 3 (Ah x21) (CY I (k2:=fun e i=>by subst e;have h:=i;exact AQ h fun x23 J h=>.a 2<|.ca (V6 aB.gQ x23 J)<|.aW<|CM))<|SA
def IG (j:Int) (f:Bq):Option Int:=(bF j).bind fun M=>(bif (!M)then some true else(YO j f).bind fun O=>some (!O)).bind fun U=>(bif U then some 1 else(zT j).bind fun Y=>(bif Y then(Un f Dq).bind fun Z=>some Z else some false).bind fun x7=>(bif x7 then some 0 else(X8 j f).bind fun m=>(bif (m != 0)then some m else(Ln j f.N).bind fun q=>(bif (q != 0)then some q else(V8 j f).bind fun s=>(bif (s != 0)then some s else(X3 f).bind fun u=>(bif (u != 0)then some u else(bif (j==4)then(Yo f).bind fun J=>some J else(QO f.Allow).bind fun z=>(bif (z != 0)then some z else(QO f.gB).bind fun I=>(bif (I != 0)then some I else(WT f.Levels).bind fun L=>some L)))))))))
def apy (dF dQ r) (h:IG dF dQ=some r):BF 242 [AV dF,G5 dQ] [] (AV r) []:=Am.aH Tryz.func242 rfl<|AX<|Aa<|AQ h fun x1 J h=>AP<|.a 1<|.ca (aeQ dF x1 J)<|.a 1<|AQ h fun x2 L h=>.mg 14 5 (Ah x2) (.bi L (k2:=fun h=>AQ h fun x4 M h=>.a 2<|.ca (am3 dF dQ x4 M)<|.aW<|CM))<|.aY<|Ae h Bd fun h=>AO.skip<|Aa<|AQ h fun x6 O h=>AP<|.a 1<|.ca (aiP dF x6 O)<|.a 1<|AQ h fun x7 U h=>.mg 23 3 (Ah x7) (CY U (fun e i=>by subst e;have h:=i;exact AQ h fun x9 Y h=>.a 2<|.ca (aDb dQ Dq x9 Y)<|.aW<|CM))<|.aY<|Ae h Bd fun h=>AO.skip<|Aa<|AQ h fun Z f h=>AP<|.a 2<|.ca (ajD dF dQ Z f)<|.aW<|AX<|Ae h Bd fun h=>AO.skip<|Aa<|AQ h fun Nr j h=>AP<|.a 3<|.ca (alA dF dQ.N Nr j)<|.aW<|AX<|Ae h Bd fun h=>AO.skip<|Aa<|AQ h fun x15 m h=>AP<|.a 2<|.ca (aky dF dQ x15 m)<|.aW<|AX<|Ae h Bd fun h=>AO.skip<|Aa<|AQ h fun x17 q h=>AP<|.a 1<|.ca (ahs dQ x17 q)<|.aW<|AX<|Ae h Bd fun h=>AO.skip<|Aa<|AX<|Ae h (fun h=>AQ h fun Jk s h=>AP<|.a 1<|.ca (aiY dQ Jk s)<|.aW<|CS) fun h=>AO.skip<|Aa<|AQ h fun x21 u h=>AP<|.a 2<|.ca (aKX dQ.Allow x21 u)<|.aW<|AX<|Ae h Bd fun h=>AO.skip<|Aa<|AQ h fun x23 z h=>AP<|.a 2<|.ca (aKX dQ.gB x23 z)<|.aW<|AX<|Ae h Bd fun h=>AO.skip<|AQ h fun x25 I h=>AP<|.a 2<|.ca (afd dQ.Levels x25 I)<|.aW<|CS
def Zw (f:AU):Option Int:=(aA0 f).bind fun j=>(bif (j != 0)then some j else(IG f.Kind f.Content).bind fun m=>some m)
def ajm (aO r) (h:Zw aO=some r):BF 185 [Di aO] [] (AV r) []:=Am.aH Tryz.func185 rfl<|AX<|Aa<|AQ h fun m f h=>AP<|.a 1<|.ca (apX aO m f)<|.aW<|AX<|Ae h Bd fun h=>AO.skip<|AQ h fun q j h=>AP<|.a 4<|.ca (apy aO.Kind aO.Content q j)<|.aW<|CS
def UW  (q:(Int→AZ→Option AZ)):Int→AZ→Option AZ:=fun f m=>(bif decide (f≥128)then(UA f 128).bind fun s=>(DU 1 m [IntKind.u8.wrap (IntKind.u64.wrap (s+128))]).bind fun u=>(qL .u64 f 128).bind fun z=>q z u else(DU 1 m [IntKind.u8.wrap f]).bind fun j=>some j)
def aMY  :Int→AZ→Option AZ:=aX (UW) BA
def aBd (f:Int):Option AZ:=aMY f []
def nY (f:Int):Option AZ:=(N7 .shl .u64 (IntKind.u64.wrap f) 1).bind fun j=>(bif decide (f<0)then aBd (Xx .u64 j)else aBd j)
def aJK (ab2 r) (h:nY ab2=some r):BF 382 [AV ab2] [] (.aS 0) [(BU r)]:=Am.aH Tryz.func382 rfl<|AP<|.e [(BU [])] (Cc 5 1 rfl)<|.aY<|AQ h fun m q h=>AP<|.a 2<|.p (uZ (k:=.u64) (k':=.u64) q rfl)<|.aW<|DJ (fun s=>∃(z:Int),CJ s ⟨BM 28 [(3,.d ((Zc .u64) z))],[],0⟩∧aBd z=some r) (by rintro s ⟨z,Z,h⟩;exact CZ Z<|AP<|.e [(BU [])] (Cc 5 1 rfl)<|.aY<|Aa<|AO.block<|Dy (fun I Y=>⟨BM 28 [(3,.d ((Zc .u64) I)),(4,.aS 0)],[(BU Y)],0⟩) _ _ _ _ (Ad 28 24 [(0,true)]) h<|fun J11 k5 J I Y h=>Aa<|AX<|Ae h (fun h=>AO.skip<|AO.block<|C9 h fun x7 L x8 M h=>AP<|.a 2<|.p (aCu (k:=.u64) L rfl)<|.a 2<|.p (EG Ht OY [CV (IntKind.u8.wrap (IntKind.u64.wrap (x7+128)))] rfl)<|.e [.dead,(BU x8)] (ED (k:=0) CV M Ht A8 (fun _=>rfl) BX rfl)<|.aW<|AQ h fun x9 O h=>BG<|.a 1<|.p (asW (k:=.u64) O rfl)<|.a 1<|.nil<|J _ _ _ (Ad 28 24 [(1,true)]) h) fun h=>AO.exit<|AQ h fun U f h=>AP<|.a 3<|.p (EG Ht OY [CV (IntKind.u8.wrap I)] rfl)<|.e [.dead,(BU U)] (ED (k:=0) CV f Ht A8 (fun _=>rfl) BX rfl)<|.aW<|PS)<|fun j=>AX<|Ae h (fun h=>BG<|.a 1<|.p (aMP (k:=.u64) (u:=m) rfl)<|.a 1<|.nil<|j _ ⟨(Xx .u64 m),Ad 28 8 [],h⟩) fun h=>AO.skip<|j _ ⟨m,Ad 28 8 [],h⟩
def JM (f:AZ) (j:Int):Option AZ:=(DU 1 [] f).bind fun m=>(nY j).bind fun q=>(DU 1 m q).bind fun s=>some s
def LY (fE qh r) (h:JM fE qh=some r):BF 327 [GH fE,AV qh] [] (.aS 0) [(BU r)]:=Am.aH Tryz.func327 rfl<|AP<|.e [(BU [])] (Cc 5 1 rfl)<|.aY<|Pv h fun q f s j u m h=>AP<|.e [(BU []),(BU [])] (KC Ht OY [] rfl)<|.a 1<|.e [(BU []),.dead,(BU q)] (ED (k:=1) CV f Ht A8 (fun _=>rfl) BX rfl)<|.a 1<|.ca (aJK qh s j).view<|.e [(BU []),.dead,.dead,(BU u)] (ED (k:=2) CV m Ht A8 (fun _=>rfl) BX rfl)<|.aW<|xJ
def P6 (j:AZ) (f:ByteArray):Option AZ:=(JM j (f.size:Int)).bind fun m=>(DU 1 m (Bf f)).bind fun q=>some q
def U0 (fE iM r) (h:P6 fE iM=some r):BF 328 [GH fE,D7 iM] [] (.aS 0) [(BU r)]:=Am.aH Tryz.func328 rfl<|AP<|.e [(BU [])] (Cc 5 1 rfl)<|.aY<|C9 h fun m f q j h=>AP<|.a 3<|.e (x:=.aS 1) [(BU []),(BU m)] (Nq [GH fE,AV (iM.size:Int)] (LY fE (iM.size:Int) m f) rfl)<|.a 1<|.p (afC (s:=iM) FU Ul zI rfl)<|.e [(BU []),.dead,(BU q)] (ED (k:=1) CV j Ht A8 (fun _=>rfl) BX rfl)<|.aW<|L6
def aV (j:AZ) (f:Bool):Option AZ:=(DU 1 [] j).bind fun m=>(bif f then(DU 1 m [1]).bind fun q=>some q else(DU 1 m [0]).bind fun s=>some s)
def aeG (fE JJ r) (h:aV fE JJ=some r):BF 329 [GH fE,Ah JJ] [] (.aS 0) [(BU r)]:=Am.aH Tryz.func329 rfl<|AP<|.e [(BU [])] (Cc 5 1 rfl)<|.aY<|AQ h fun q f h=>AP<|.e [(BU []),(BU [])] (KC Ht OY [] rfl)<|.a 1<|.e [(BU []),.dead,(BU q)] (ED (k:=1) CV f Ht A8 (fun _=>rfl) BX rfl)<|.aW<|Aa<|AX<|Ae h (fun h=>AQ h fun s j h=>AP<|.a 1<|.p (EG Ht OY [CV 1] rfl)<|.e [(BU []),.dead,.dead,(BU s)] (ED (k:=2) CV j Ht A8 (fun _=>rfl) BX rfl)<|.aW<|xJ) fun h=>AO.skip<|AQ h fun u m h=>AP<|.a 1<|.p (EG Ht OY [CV 0] rfl)<|.e [(BU []),.dead,.dead,(BU u)] (ED (k:=2) CV m Ht A8 (fun _=>rfl) BX rfl)<|.aW<|xJ
def Wp (f:FM) (q:(AZ→Int→Option AZ)):AZ→Int→Option AZ:=fun m j=>(bif decide (j<(f.length:Int))then(BJ f j).bind fun s=>(P6 m s).bind fun u=>q u (BI (j+1))else some m)
def acU (f:FM):AZ→Int→Option AZ:=aX (Wp f) BA
def cZ (j:AZ) (f:FM):Option AZ:=(JM j (f.length:Int)).bind fun m=>acU f m 0
def aLJ (fE dh r) (h:cZ fE dh=some r):BF 380 [GH fE,Gh dh] [] (.aS 0) [(BU r)]:=Am.aH Tryz.func380 rfl<|AP<|.e [(BU [])] (Cc 5 1 rfl)<|.aY<|AQ h fun z j h=>AP<|.a 2<|.p (BP CQ dh F9 rfl)<|.e (x:=.aS 1) [(BU []),(BU z)] (Nq [GH fE,AV (dh.length:Int)] (LY fE (dh.length:Int) z j) rfl)<|.aW<|Aa<|AX<|AO.block<|Dy (fun f I=>⟨BM 24 [(1,Gh dh),(5,.aS 0),(6,AV I)],[(BU f)],0⟩) _ _ _ _ (Ad 24 98 [(1,true)]) h<|fun M O m f I h=>Aa<|AP<|.a 2<|.p (BP CQ dh F9 rfl)<|.aW<|Ae h (fun h=>AO.skip<|Aa<|AO.block<|C9 h fun q s J u h=>BG<|.a 3<|.p (BN CQ s F9 J3 rfl)<|.a 1<|.e [(BU f),(BU J)] (IZ (dO:=[.aS 0,D7 q]) (eH:=[.d (.sl (List.map CV f)),D7 q]) (U0 f q J u) (fun x L=>by obtain⟨a,_,rfl⟩:=F7.1 L;rfl) aHr ⟨⟨5,1,List.map CV f,A8,rfl⟩,rfl,trivial⟩ rfl rfl)<|.a 1<|.nil<|BG<|.a 3<|.nil<|m _ _ _ (Ad 24 98 [(1,true)]) h) fun h=>OL
def aDO (f:D8):Option AZ:=some [f.User,f.Message,f.State,f.fV,f.jH,f.nD,f.gQ]
def agN (aB r) (h:aDO aB=some r):BF 381 [Ji aB] [] (.aS 0) [(BL r)]:=Am.aH Tryz.func381 rfl<|AP<|.a 1<|.e [.box (Ag (EY aB)),(BL [])] (Cc 3 1 rfl)<|.aY<|AP<|.a 14<|.e [.box (Ag (EY aB)),(BL []),(BL [aB.User,aB.Message,aB.State,aB.fV,aB.jH,aB.nD,aB.gQ])] (KC EU zero3 [AY aB.User,AY aB.Message,AY aB.State,AY aB.fV,AY aB.jH,AY aB.nD,AY aB.gQ] rfl)<|.aW<|L6
def uV (j:AZ) (q:(AZ→Int→Option AZ)):AZ→Int→Option AZ:=fun m f=>(bif decide (f<(j.length:Int))then(BJ j f).bind fun s=>(JM m s).bind fun u=>q u (BI (f+1))else some m)
def aGH (f:AZ):AZ→Int→Option AZ:=aX (uV f) BA
def aAC (f:Bq) (q:(AZ→Int→Option AZ)):AZ→Int→Option AZ:=fun m j=>(bif decide (j<(f.Levels.Kinds.length:Int))then(BJ f.Levels.Kinds j).bind fun s=>(JM m s.Kind).bind fun u=>(BJ f.Levels.Kinds j).bind fun z=>(JM u z.N).bind fun I=>q I (BI (j+1))else(aDO f.Levels).bind fun J=>aGH J m 0)
def aG5 (f:Bq):AZ→Int→Option AZ:=aX (aAC f) BA
def aBV (f:Bq) (m:(AZ→Int→Option AZ)):AZ→Int→Option AZ:=fun J j=>(bif decide (j<(f.Levels.Users.length:Int))then(BJ f.Levels.Users j).bind fun q=>(P6 J q.User).bind fun s=>(BJ f.Levels.Users j).bind fun u=>(JM s u.N).bind fun z=>m z (BI (j+1))else(JM J (f.Levels.Kinds.length:Int)).bind fun I=>aG5 f I 0)
def abx (f:Bq):AZ→Int→Option AZ:=aX (aBV f) BA
def qF (f:Bq):Option AZ:=(P6 [] f.Text).bind fun j=>(JM j f.N).bind fun m=>(JM m f.Target).bind fun q=>(aV q f.Thread).bind fun s=>(P6 s f.Via).bind fun u=>(cZ u f.Allow).bind fun z=>(cZ z f.gB).bind fun I=>(JM I (f.Levels.Users.length:Int)).bind fun J=>abx f J 0
def aMB (dH r) (h:qF dH=some r):BF 324 [G5 dH] [] (.aS 0) [(BU r)]:=Am.aH Tryz.func324 rfl<|AP<|.a 1<|.e [.box (Ag (EI dH)),(BU [])] (Cc 5 1 rfl)<|.aY<|AQ h fun u hx1 h=>AP<|.a 2<|.e (x:=.aS 2) [.box (Ag (EI dH)),(BU []),(BU u)] (Nq [.d (.lit (.slice none 0 0)),D7 dH.Text] (U0 [] dH.Text u hx1) rfl)<|.aW<|AQ h fun z hx2 h=>AP<|.a 3<|.e [.box (Ag (EI dH)),(BU []),(BU u),(BU z)] (IZ (dO:=[.aS 2,AV dH.N]) (eH:=[.d (.sl (List.map CV u)),AV dH.N]) (LY u dH.N z hx2) (fun x f=>Oh) WR ⟨⟨5,1,List.map CV u,A8,rfl⟩,rfl,trivial⟩ rfl rfl)<|.aW<|AQ h fun J hx3 h=>AP<|.a 3<|.e [.box (Ag (EI dH)),(BU []),(BU u),(BU z),(BU J)] (IZ (dO:=[.aS 3,AV dH.Target]) (eH:=[.d (.sl (List.map CV z)),AV dH.Target]) (LY z dH.Target J hx3) (fun x f=>Oh) WR ⟨⟨5,1,List.map CV z,A8,rfl⟩,rfl,trivial⟩ rfl rfl)<|.aW<|AQ h fun L hx4 h=>AP<|.a 3<|.e [.box (Ag (EI dH)),(BU []),(BU u),(BU z),(BU J),(BU L)] (IZ (dO:=[.aS 4,Ah dH.Thread]) (eH:=[.d (.sl (List.map CV J)),Ah dH.Thread]) (aeG J dH.Thread L hx4) (fun x f=>Oh) aey ⟨⟨5,1,List.map CV J,A8,rfl⟩,rfl,trivial⟩ rfl rfl)<|.aW<|AQ h fun M hx5 h=>AP<|.a 3<|.e [.box (Ag (EI dH)),(BU []),(BU u),(BU z),(BU J),(BU L),(BU M)] (IZ (dO:=[.aS 5,D7 dH.Via]) (eH:=[.d (.sl (List.map CV L)),D7 dH.Via]) (U0 L dH.Via M hx5) (fun x f=>Oh) aHr ⟨⟨5,1,List.map CV L,A8,rfl⟩,rfl,trivial⟩ rfl rfl)<|.aW<|AQ h fun O hx6 h=>AP<|.a 3<|.e [.box (Ag (EI dH)),(BU []),(BU u),(BU z),(BU J),(BU L),(BU M),(BU O)] (IZ (dO:=[.aS 6,Gh dH.Allow]) (eH:=[.d (.sl (List.map CV M)),Gh dH.Allow]) (aLJ M dH.Allow O hx6) (fun x f=>Oh) aMs ⟨⟨5,1,List.map CV M,A8,rfl⟩,rfl,trivial⟩ rfl rfl)<|.aW<|AQ h fun x7 hx7 h=>AP<|.a 3<|.e [.box (Ag (EI dH)),(BU []),(BU u),(BU z),(BU J),(BU L),(BU M),(BU O),(BU x7)] (IZ (dO:=[.aS 7,Gh dH.gB]) (eH:=[.d (.sl (List.map CV O)),Gh dH.gB]) (aLJ O dH.gB x7 hx7) (fun x f=>Oh) aMs ⟨⟨5,1,List.map CV O,A8,rfl⟩,rfl,trivial⟩ rfl rfl)<|.aW<|AX<|AQ h fun x8 yj h=>AP<|.a 3<|.p (BP ER dH.Levels.Users FY rfl)<|.e [.box (Ag (EI dH)),(BU []),(BU u),(BU z),(BU J),(BU L),(BU M),(BU O),(BU x7),.box (Ag (EY dH.Levels)),(BU x8)] (IZ (dO:=[.aS 8,AV (dH.Levels.Users.length:Int)]) (eH:=[.d (.sl (List.map CV x7)),AV (dH.Levels.Users.length:Int)]) (LY x7 (dH.Levels.Users.length:Int) x8 yj) (fun x f=>Oh) WR ⟨⟨5,1,List.map CV x7,A8,rfl⟩,rfl,trivial⟩ rfl rfl)<|.aW<|Aa<|AX<|AO.block<|Dy (fun I v10=>⟨BM 109 [(3,.aS 0),(4,.ptr 1 0),(5,AV v10)],[(BU I),.box (Ag (EY dH.Levels))],0⟩) _ _ _ _ (Ad 109 56 [(10,true),(9,true)]) h<|fun J35 k11 aym I v10 h=>Aa<|AP<|.a 3<|.p (BP ER dH.Levels.Users FY rfl)<|.aW<|Ae h (fun h=>AO.skip<|Aa<|AO.block<|C9 h fun U asG m ak8 h=>AP<|.a 4<|.p (BN ER asG FY JQ rfl)<|.a 2<|.e [(BU I),.box (Ag (EY dH.Levels)),(BU m)] (IZ (dO:=[.aS 0,D7 U.User]) (eH:=[.d (.sl (List.map CV I)),D7 U.User]) (U0 I U.User m ak8) (fun x f=>Oh) aHr ⟨⟨5,1,List.map CV I,A8,rfl⟩,rfl,trivial⟩ rfl rfl)<|.aW<|C9 h fun Y afh x16 hx16 h=>BG<|.a 4<|.p (BN ER afh FY JQ rfl)<|.a 2<|.e [(BU I),.box (Ag (EY dH.Levels)),(BU m),(BU x16)] (IZ (dO:=[.aS 2,AV Y.N]) (eH:=[.d (.sl (List.map CV m)),AV Y.N]) (LY m Y.N x16 hx16) (fun x f=>Oh) WR ⟨⟨5,1,List.map CV m,A8,rfl⟩,rfl,trivial⟩ rfl rfl)<|.a 1<|.nil<|BG<|.a 3<|.nil<|aym _ _ _ (Ad 109 56 [(3,true),(1,true)]) h) fun h=>AO.exit<|AQ h fun x17 ae3 h=>AP<|.a 3<|.p (BP EX dH.Levels.Kinds FW rfl)<|.e [(BU I),.box (Ag (EY dH.Levels)),(BU x17)] (IZ (dO:=[.aS 0,AV (dH.Levels.Kinds.length:Int)]) (eH:=[.d (.sl (List.map CV I)),AV (dH.Levels.Kinds.length:Int)]) (LY I (dH.Levels.Kinds.length:Int) x17 ae3) (fun x f=>Oh) WR ⟨⟨5,1,List.map CV I,A8,rfl⟩,rfl,trivial⟩ rfl rfl)<|.aW<|Aa<|AX<|AO.block<|Dy (fun j v19=>⟨BM 109 [(3,.aS 0),(4,.ptr 1 0),(6,AV v19)],[(BU j),.box (Ag (EY dH.Levels))],0⟩) _ _ _ _ (Ad 109 88 [(2,true),(1,true)]) h<|fun J34 k20 ayn j v19 h=>Aa<|AP<|.a 3<|.p (BP EX dH.Levels.Kinds FW rfl)<|.aW<|Ae h (fun h=>AO.skip<|Aa<|AO.block<|C9 h fun Z ae1 q ae2 h=>AP<|.a 4<|.p (BN EX ae1 FW JY rfl)<|.a 2<|.e [(BU j),.box (Ag (EY dH.Levels)),(BU q)] (IZ (dO:=[.aS 0,AV Z.Kind]) (eH:=[.d (.sl (List.map CV j)),AV Z.Kind]) (LY j Z.Kind q ae2) (fun x f=>Oh) WR ⟨⟨5,1,List.map CV j,A8,rfl⟩,rfl,trivial⟩ rfl rfl)<|.aW<|C9 h fun x24 hx24 x25 hx25 h=>BG<|.a 4<|.p (BN EX hx24 FW JY rfl)<|.a 2<|.e [(BU j),.box (Ag (EY dH.Levels)),(BU q),(BU x25)] (IZ (dO:=[.aS 2,AV x24.N]) (eH:=[.d (.sl (List.map CV q)),AV x24.N]) (LY q x24.N x25 hx25) (fun x f=>Oh) WR ⟨⟨5,1,List.map CV q,A8,rfl⟩,rfl,trivial⟩ rfl rfl)<|.a 1<|.nil<|BG<|.a 3<|.nil<|ayn _ _ _ (Ad 109 88 [(3,true),(1,true)]) h) fun h=>AO.exit<|AQ h fun Ed F5 h=>AP<|.a 1<|.ca (agN dH.Levels Ed F5).view<|.aW<|Aa<|AX<|AO.block<|Dy (fun s v28=>⟨BM 109 [(3,.aS 0),(7,Bz Ed),(8,AV v28)],[(BU s)],0⟩) _ _ _ _ (Ad 109 392 [(0,true)]) h<|fun J33 k29 ak5 s v28 h=>Aa<|AP<|.a 2<|.p (BP AY Ed Bl rfl)<|.aW<|Ae h (fun h=>AO.skip<|Aa<|AO.block<|C9 h fun x31 hx31 x32 hx32 h=>BG<|.a 3<|.p (BN AY hx31 Bl D6 rfl)<|.a 1<|.e [(BU s),(BU x32)] (IZ (dO:=[.aS 0,AV x31]) (eH:=[.d (.sl (List.map CV s)),AV x31]) (LY s x31 x32 hx32) (fun x f=>Oh) WR ⟨⟨5,1,List.map CV s,A8,rfl⟩,rfl,trivial⟩ rfl rfl)<|.a 1<|.nil<|BG<|.a 3<|.nil<|ak5 _ _ _ (Ad 109 392 [(1,true)]) h) fun h=>OL
def aDQ  :Option Int:=some 860922984064492325
def ah9  (r:Int) (h:aDQ=some r):BF 326 [] [] (AV r) []:=Am.aH Tryz.func326 rfl<|Xa
def aGs (f:AZ) (q:(Int→Int→Option Int)):Int→Int→Option Int:=fun m j=>(bif decide (j<(f.length:Int))then(BJ f j).bind fun s=>(UA (IntKind.u64.wrap ((E5 .xor .u64 m (IntKind.u64.wrap s))*1099511628211)) 4611686018427387904).bind fun u=>q u (BI (j+1))else some (BI m))
def aJ7 (f:AZ):Int→Int→Option Int:=aX (aGs f) BA
def aEG (f:Int) (j:AZ):Option Int:=(UA (IntKind.u64.wrap f) 4611686018427387904).bind fun m=>aJ7 j m 0
def ap4 (ahE fF r) (h:aEG ahE fF=some r):BF 325 [AV ahE,GH fF] [] (AV r) []:=Am.aH Tryz.func325 rfl<|AX<|AQ h fun J f h=>AP<|.a 2<|.p (aCu (k:=.u64) f rfl)<|.aW<|Aa<|AX<|AO.block<|Dy (fun j z=>⟨BM 27 [(1,GH fF),(5,.d ((Zc .u64) j)),(6,AV z)],[],0⟩) _ _ _ _ (Ad 27 98 []) h<|fun L M m j z h=>Aa<|AP<|.a 2<|.p (BP CV fF Ul rfl)<|.aW<|Ae h (fun h=>AO.skip<|Aa<|AO.block<|C9 h fun I q O s h=>BG<|.a 3<|.p (BN CV q Ul aED rfl)<|.a 2<|.p (aJB (k:=.u64) (u:=j) (v:=(IntKind.u64.wrap I)) rfl)<|.a 1<|.p (aCu (k:=.u64) s rfl)<|.a 1<|.nil<|BG<|.a 3<|.nil<|m _ _ _ (Ad 27 98 []) h) fun h=>Ey
def je (f:AZ):Option Int:=(aDQ).bind fun j=>(aEG j f).bind fun m=>some m
def acF (fE r) (h:je fE=some r):BF 244 [GH fE] [] (AV r) []:=Am.aH Tryz.func244 rfl<|AX<|C9 h fun m f q j h=>AP<|.ca (ah9  m f)<|.a 1<|.ca (ap4 m fE q j)<|.aW<|CS
def aA7 (f:AU):Option Int:=(qF f.Content).bind fun j=>(je j).bind fun m=>some m
def ag3 (aO r) (h:aA7 aO=some r):BF 243 [Di aO] [] (AV r) []:=Am.aH Tryz.func243 rfl<|AX<|C9 h fun m f q j h=>AP<|.a 2<|.ca (aMB aO.Content m f).view<|.ca (acF m q j)<|.aW<|CS
def Rch (f:AU):Option Bool:=(aA7 f).bind fun j=>some (j==f.Hash)
def aJe (aO r) (h:Rch aO=some r):BF 186 [Di aO] [] (Ah r) []:=Am.aH Tryz.func186 rfl<|AX<|AQ h fun j f h=>GK A8 A8 A8 (.a 1<|.ca (ag3 aO j f)<|.a 4<|.nil _)<|CS
def jQ (j:Int) (f:Bq):Option Bq:=(bif (j==1)then some f else(bif (j==2)then some ({ Dq with N:=f.N,Via:=f.Via })else(bif (j==3)then some ({ Dq with Levels:=f.Levels })else(bif (j==4)then some ({ Dq with N:=f.N,Allow:=f.Allow })else(bif (j==5)then some ({ Dq with N:=f.N })else(bif (j==6)then some ({ Dq with Allow:=f.Allow,gB:=f.gB })else(bif (j==14)then some ({ Dq with Target:=f.Target })else some Dq)))))))
def aaP (dF dQ r) (h:jQ dF dQ=some r):BF 94 [AV dF,G5 dQ] [] (G5 r) []:=Am.aH Tryz.func94 rfl<|AX<|Aa<|AX<|AO.block<|AX<|Ae h (fun h=>AX<|AO.ret<|by rw[←CU h];exact⟨[G5 dQ],[],⟨⟨1,Ag (EI dQ),true,16,A8,A8,A8,QZ,Ee A8,QK,A8⟩,trivial⟩,A8,A8,A8⟩) fun h=>AX<|Ae h (fun h=>AX<|AO.ret<|by rw[←CU h];exact⟨[G5 ({ Dq with N:=dQ.N,Via:=dQ.Via })],[],⟨⟨1,Ag (EI ({ Dq with N:=dQ.N,Via:=dQ.Via })),true,16,A8,A8,A8,QZ,Ee A8,QK,A8⟩,trivial⟩,A8,A8,A8⟩) fun h=>AX<|Ae h (fun h=>AX<|AO.ret<|by rw[←CU h];exact⟨[G5 ({ Dq with Levels:=dQ.Levels })],[],⟨⟨1,Ag (EI ({ Dq with Levels:=dQ.Levels })),true,16,A8,A8,A8,QZ,Ee A8,QK,A8⟩,trivial⟩,A8,A8,A8⟩) fun h=>AX<|Ae h (fun h=>AX<|AO.ret<|by rw[←CU h];exact⟨[G5 ({ Dq with N:=dQ.N,Allow:=dQ.Allow })],[],⟨⟨1,Ag (EI ({ Dq with N:=dQ.N,Allow:=dQ.Allow })),true,16,A8,A8,A8,QZ,Ee A8,QK,A8⟩,trivial⟩,A8,A8,A8⟩) fun h=>AX<|Ae h (fun h=>AX<|AO.ret<|by rw[←CU h];exact⟨[G5 ({ Dq with N:=dQ.N })],[],⟨⟨1,Ag (EI ({ Dq with N:=dQ.N })),true,16,A8,A8,A8,QZ,Ee A8,QK,A8⟩,trivial⟩,A8,A8,A8⟩) fun h=>AX<|Ae h (fun h=>AX<|AO.ret<|by rw[←CU h];exact⟨[G5 ({ Dq with Allow:=dQ.Allow,gB:=dQ.gB })],[],⟨⟨1,Ag (EI ({ Dq with Allow:=dQ.Allow,gB:=dQ.gB })),true,16,A8,A8,A8,QZ,Ee A8,QK,A8⟩,trivial⟩,A8,A8,A8⟩) fun h=>AX<|Ae h (fun h=>AX<|AO.ret<|by rw[←CU h];exact⟨[G5 ({ Dq with Target:=dQ.Target })],[],⟨⟨1,Ag (EI ({ Dq with Target:=dQ.Target })),true,16,A8,A8,A8,QZ,Ee A8,QK,A8⟩,trivial⟩,A8,A8,A8⟩) fun h=>AO.skip<|AX<|AO.ret<|by rw[←CU h];exact⟨[G5 Dq],[],⟨⟨1,Ag (EI Dq),true,16,A8,A8,A8,QZ,Ee A8,QK,A8⟩,trivial⟩,A8,A8,A8⟩
def Uj (f:AU):Option AU:=(jQ f.Kind f.Content).bind fun j=>some ({ f with Content:=j })
def aHz (aO r) (h:Uj aO=some r):BF 51 [Di aO] [] (Di r) []:=Am.aH Tryz.func51 rfl<|AX<|AQ h fun f j h=>AP<|.a 4<|.ca (aaP aO.Kind aO.Content f j)<|aaH
def aDY (f:AZ) (q:(AZ→Int→Option AZ)):AZ→Int→Option AZ:=fun m j=>(bif decide (j<(f.length:Int))then(BJ f j).bind fun s=>(nY s).bind fun u=>(DU 1 m u).bind fun z=>q z (BI (j+1))else some m)
def aM2 (f:AZ):AZ→Int→Option AZ:=aX (aDY f) BA
def Zy (j:AZ) (f:AZ):Option AZ:=(JM j (f.length:Int)).bind fun m=>aM2 f m 0
def aeJ (fE dh r) (h:Zy fE dh=some r):BF 330 [GH fE,Bz dh] [] (.aS 0) [(BU r)]:=Am.aH Tryz.func330 rfl<|AP<|.e [(BU [])] (Cc 5 1 rfl)<|.aY<|AQ h fun u f h=>AP<|.a 2<|.p (BP AY dh Bl rfl)<|.e (x:=.aS 1) [(BU []),(BU u)] (Nq [GH fE,AV (dh.length:Int)] (LY fE (dh.length:Int) u f) rfl)<|.aW<|Aa<|AX<|AO.block<|Dy (fun z I=>⟨BM 25 [(1,Bz dh),(5,.aS 0),(6,AV I)],[(BU z)],0⟩) _ _ _ _ (Ad 25 98 [(1,true)]) h<|fun O U j z I h=>Aa<|AP<|.a 2<|.p (BP AY dh Bl rfl)<|.aW<|Ae h (fun h=>AO.skip<|Aa<|AO.block<|Pv h fun J m L q M s h=>BG<|.a 3<|.p (BN AY m Bl D6 rfl)<|.a 1<|.ca (aJK J L q).view<|.e [.dead,(BU M)] (ED (k:=0) CV s Ht A8 (fun _=>rfl) BX rfl)<|.a 1<|.nil<|BG<|.a 3<|.nil<|j _ _ _ (Ad 25 98 [(1,true)]) h) fun h=>OL
def qI (f:AU):Option AZ:=(JM [] f.Id).bind fun I=>(P6 I f.Room).bind fun J=>(P6 J f.bC).bind fun L=>(JM L f.Kind).bind fun M=>(aV M f.State).bind fun O=>(P6 O f.Key).bind fun U=>(JM U f.Time).bind fun Y=>(JM Y f.Depth).bind fun Z=>(Zy Z f.bD).bind fun x9=>(Zy x9 f.bJ).bind fun j=>(qF f.Content).bind fun m=>(P6 j (OE m)).bind fun q=>(JM q f.Hash).bind fun s=>(P6 s f.nV.Server).bind fun u=>(JM u f.nV.Sum).bind fun z=>some z
def asM (aO r) (h:qI aO=some r):BF 245 [Di aO] [] (.aS 0) [(BU r)]:=Am.aH Tryz.func245 rfl<|AP<|.a 1<|.e [.box (Ag (Aq aO)),(BU [])] (Cc 5 1 rfl)<|.aY<|AQ h fun U Y h=>AP<|.a 2<|.p (x:=(GH U)) (aeZ [.d (.lit (.slice none 0 0)),AV aO.Id] (LY [] aO.Id U Y).view rfl)<|.aW<|AQ h fun x2 Z h=>AP<|.a 3<|.ca (U0 U aO.Room x2 Z).view<|.aW<|AQ h fun x3 hx3 h=>AP<|.a 3<|.ca (U0 x2 aO.bC x3 hx3).view<|.aW<|AQ h fun x4 hx4 h=>AP<|.a 3<|.ca (LY x3 aO.Kind x4 hx4).view<|.aW<|AQ h fun x5 hx5 h=>AP<|.a 3<|.ca (aeG x4 aO.State x5 hx5).view<|.aW<|AQ h fun x6 hx6 h=>AP<|.a 3<|.ca (U0 x5 aO.Key x6 hx6).view<|.aW<|AQ h fun x7 hx7 h=>AP<|.a 3<|.ca (LY x6 aO.Time x7 hx7).view<|.aW<|AQ h fun x8 yj h=>AP<|.a 3<|.ca (LY x7 aO.Depth x8 yj).view<|.aW<|AQ h fun x9 CG h=>AP<|.a 3<|.ca (aeJ x8 aO.bD x9 CG).view<|.aW<|AQ h fun m q h=>AP<|.a 3<|.ca (aeJ x9 aO.bJ m q).view<|.aW<|C9 h fun f s u z h=>AP<|.a 3<|.ca (aMB aO.Content f s).view<|.p (aaD (l:=f) Ul zI FU rfl)<|.ca (U0 m (OE f) u z).view<|.aW<|AQ h fun I J h=>AP<|.a 3<|.ca (LY u aO.Hash I J).view<|.aW<|AQ h fun j L h=>AP<|.a 4<|.ca (U0 I aO.nV.Server j L).view<|.aW<|AQ h fun M O h=>AP<|.a 4<|.e (x:=.aS 2) [.box (Ag (Aq aO)),(BU []),(BU M)] (Nq [GH j,AV aO.nV.Sum] (LY j aO.nV.Sum M O) rfl)<|.aW<|L6
def aC0 (f:AU):Option Int:=(Uj f).bind fun j=>(qI ({ { j with Id:=0 }with nV:=Z8 })).bind fun m=>(je m).bind fun q=>some q
def alr (aO r) (h:aC0 aO=some r):BF 187 [Di aO] [] (AV r) []:=Am.aH Tryz.func187 rfl<|AX<|AQ h fun s f h=>AP<|.a 1<|.ca (aHz aO s f)<|.aW<|AX<|C9 h fun q j u m h=>AP<|.a 1<|.ca (asM _ q j).view<|.ca (acF q u m)<|.aW<|CS
def aAD (f:ByteArray):Option ByteArray:=(YF f 64).bind fun j=>(bif (!j)then(YF f 33).bind fun m=>some (!m)else some false).bind fun q=>(bif q then some BZ else(qc f).bind fun s=>(Lj f (BI (s+1)) ((f).size)).bind fun u=>some u)
def aJw (zL r) (h:aAD zL=some r):BF 188 [D7 zL] [] (D7 r) []:=Am.aH Tryz.func188 rfl<|AX<|Aa<|AQ h fun u f h=>AP<|.a 1<|.ca (aBP zL 64 u f)<|.a 1<|AQ h fun z j h=>.mg 6 4 (Ah z) (.bi j (fun h=>AQ h fun I m h=>.a 1<|.ca (aBP zL 33 I m)<|.aW<|CM))<|.aY<|Ae h Bd fun h=>AO.skip<|C9 h fun J q M s h=>AP<|.a 2<|.ca (aeb zL J q)<|.a 1<|.p (dS s (by intro L;cases L) (fun _=>rfl) FU rfl)<|.aW<|CS
def aAT (f:Bool):Option Int:=(bif f then some 12 else some 0)
def ZX (f:AU) (m:Bool):Option Int:=(bif m then some 6 else(aC0 f).bind fun q=>(bif (q != f.Id)then some 11 else(aAD f.bC).bind fun j=>(bif (!(f.nV.Server.toList==j.toList))then aAT true else aAT (f.nV.Sum != f.Id))))
def aBk (f:AU):Option Int:=(Zw f).bind fun s=>(bif (s != 0)then some s else(Rch f).bind fun j=>(bif (!j)then(jQ f.Kind f.Content).bind fun m=>(Un f.Content m).bind fun q=>ZX f (!q)else ZX f false))
def akB (aO r) (h:aBk aO=some r):BF 131 [Di aO] [] (AV r) []:=Am.aH Tryz.func131 rfl<|AX<|Aa<|AQ h fun x1 U h=>AP<|.a 1<|.ca (ajm aO x1 U)<|.aW<|AX<|Ae h Bd fun h=>AO.skip<|Aa<|DJ (fun s=>∃(Y:Bool),CJ s ⟨BM 43 [(1,.ptr 0 0),(22,Ah Y)],[.box (Ag (Aq aO))],0⟩∧ZX aO Y=some r) (by rintro s ⟨Y,Z,h⟩;exact CZ Z<|Ae h Bd fun h=>AO.skip<|Aa<|AQ h fun x5 hx5 h=>GK A8 A8 A8 (.a 1<|.ca (alr aO x5 hx5)<|.a 3<|.nil _)<|Ae h Bd fun h=>AO.skip<|Aa<|DJ (fun s=>∃(v7:Bool),CJ s ⟨BM 43 [(42,Ah v7)],[],0⟩∧aAT v7=some r) (by rintro s ⟨v7,Z,h⟩;exact CZ Z<|Ae h Bd fun h=>ND)<|fun K9=>AQ h fun u m h=>FD h (fun f h=>AO.draw A8 A8 A8 (.a 5<|.ca (aJw aO.bC u m)<|.a 1<|.c (BR some f)<|.a 7<|.nil _)<|K9 _ ⟨true,Ad 43 4398046511104 [],h⟩) fun f h=>AO.draw A8 A8 A8 (.a 5<|.ca (aJw aO.bC u m)<|.a 1<|.c (BR some f)<|.a 7<|.nil _)<|K9 _ ⟨(aO.nV.Sum != aO.Id),Ad 43 4398046511104 [],h⟩)<|fun z=>AQ h fun I q h=>FD h (fun j h=>C9 h fun J L M O h=>AO.draw A8 A8 A8 (.a 1<|.ca (aJe aO I q)<|.a 1<|.c (BR some j)<|.a 6<|.ca (aaP aO.Kind aO.Content J L)<|.ca (aDb aO.Content J M O)<|.a 2<|.nil _)<|z _ ⟨(!M),Ad 43 4194306 [(0,true)],h⟩) fun j h=>AO.draw A8 A8 A8 (.a 1<|.ca (aJe aO I q)<|.a 1<|.c (BR some j)<|.a 10<|.nil _)<|z _ ⟨false,Ad 43 4194306 [(0,true)],h⟩
def aFI (f:Au) (m:(Int→Option Int)):Int→Option Int:=fun j=>(bif decide (j<(f.length:Int))then(BJ f (BI (j-1))).bind fun q=>(BJ f j).bind fun s=>(bif decide (q.Id≥s.Id)then some 8 else m (BI (j+1)))else some 0)
def aGm (f:Au):Int→Option Int:=bn (aFI f) BA
def aEM (f:Au) (s:(Int→Option Int)):Int→Option Int:=fun j=>(bif decide (j<(f.length:Int))then(BJ f j).bind fun m=>(BJ f 0).bind fun q=>(bif (!(m.Room.toList==q.Room.toList))then some 13 else s (BI (j+1)))else aGm f 1)
def aEn (f:Au):Int→Option Int:=bn (aEM f) BA
def aFK (f:Au) (q:(Int→Option Int)):Int→Option Int:=fun j=>(bif decide (j<(f.length:Int))then(BJ f j).bind fun s=>(aBk s).bind fun m=>(bif (m != 0)then some m else q (BI (j+1)))else aEn f 1)
def aaG (f:Au):Int→Option Int:=bn (aFK f) BA
def Yk (f:Au):Option Int:=(bif decide ((f.length:Int)>2000)then some 7 else aaG f 0)
def aem (aB r) (h:Yk aB=some r):BF 91 [BQ aB] [] (AV r) []:=Am.aH Tryz.func91 rfl<|AX<|Aa<|AP<|.a 1<|.p (BP Aq aB Cx rfl)<|.aW<|Ae h Bd fun h=>AO.skip<|Aa<|AX<|AO.block<|Du (fun M=>⟨BM 58 [(0,BQ aB),(3,AV M)],[],0⟩) _ _ _ (Ad 58 9 []) h<|fun U k3 z M h=>Aa<|AP<|.a 2<|.p (BP Aq aB Cx rfl)<|.aW<|Ae h (fun h=>AO.skip<|Aa<|AO.block<|C9 h fun Y I Z J h=>AP<|.a 2<|.p (BN Aq I Cx DZ rfl)<|.a 1<|.ca (akB Y Z J)<|.aW<|AX<|Ae h Bd fun h=>AO.skip<|BG<|.a 3<|.nil<|z _ _ (Ad 58 9 []) h) fun h=>AO.exit<|Aa<|AX<|AO.block<|Du (fun O=>⟨BM 58 [(0,BQ aB),(5,AV O)],[],0⟩) _ _ _ (Ad 58 33 []) h<|fun J21 k9 L O h=>Aa<|AP<|.a 2<|.p (BP Aq aB Cx rfl)<|.aW<|Ae h (fun h=>AO.skip<|Aa<|AO.block<|C9 h fun x11 f x12 j h=>GK A8 A8 A8 (.a 2<|.p (BN Aq f Cx DZ rfl)<|.a 3<|.p (BN Aq j Cx DZ rfl)<|.a 3<|.nil _)<|Ae h Bd fun h=>AO.skip<|BG<|.a 3<|.nil<|L _ _ (Ad 58 33 []) h) fun h=>AO.exit<|Aa<|AX<|AO.block<|Du (fun m=>⟨BM 58 [(0,BQ aB),(6,AV m)],[],0⟩) _ _ _ (Ad 58 65 []) h<|fun J20 k15 q m h=>Aa<|AP<|.a 2<|.p (BP Aq aB Cx rfl)<|.aW<|Ae h (fun h=>AO.skip<|Aa<|AO.block<|C9 h fun x17 s x18 u h=>GK A8 A8 A8 (.a 3<|.p (BN Aq s Cx DZ rfl)<|.a 4<|.p (BN Aq u Cx DZ rfl)<|.a 3<|.nil _)<|Ae h Bd fun h=>AO.skip<|BG<|.a 3<|.nil<|q _ _ (Ad 58 65 []) h) fun h=>Ey
def SL (q:Int) (m:Int) (s:(Int→AZ→Option AZ)):Int→AZ→Option AZ:=fun f j=>(bif decide (f>q)then(BJ j (BI (f-1))).bind fun u=>(BJ j f).bind fun z=>s (BI (f-1)) (j.set (f).toNat u)else(BJ j q).bind fun I=>some (j.set (q).toNat m))
def akh (j:Int) (f:Int):Int→AZ→Option AZ:=aX (SL j f) BA
def aDd (f:AZ) (j:Int) (k2:(Int→Option AZ)):Int→Option AZ:=fun m=>(bif decide (m<(f.length:Int))then(BJ f m).bind fun s=>some (decide (s<j))else some false).bind fun u=>(bif u then k2 (BI (m+1))else(bif decide (m<(f.length:Int))then(BJ f m).bind fun z=>some (z==j)else some false).bind fun I=>(bif I then some f else(DU 8 f [j]).bind fun q=>akh m j (BI ((q.length:Int)-1)) q))
def acQ (f:AZ) (j:Int):Int→Option AZ:=bn (aDd f j) BA
def Zm (f:AZ) (j:Int):Option AZ:=acQ f j 0
def aIS (aB qh r) (h:Zm aB qh=some r):BF 248 [.aS 0,AV qh] [(BL aB)] (.aS 1) [.dead,(BL r)]:=Am.aH Tryz.func248 rfl<|AP<|.e [(BL aB),(BL [])] (Cc 3 1 rfl)<|.aY<|AX<|Aa<|AO.block<|Du (fun I=>⟨BM 59 [(0,.aS 1),(1,AV qh),(5,AV I)],[.dead,(BL aB)],1⟩) _ _ _ (Ad 59 35 [(0,false),(0,true)]) h<|fun J20 k2 Y I h=>Aa<|AP<|.a 2<|.p (O5 (k:=1) (e':=3) (s:=1) AY aB A8 Bl rfl)<|.a 1<|AQ h fun x3 Z h=>.mg 11 7 (Ah x3) (.bi Z (fun h=>AQ h fun x5 J h=>.a 2<|.p (LX (e':=3) (kd:=.i64) AY J (k:=1) A8 Bl D6 rfl)<|.p (x:=(AV x5)) (RH (e:=3) (size:=1) (k:=1) (i:=(I).toNat) (off:=0) AY A8 A8 (IV J).2 D6 (Ee A8) (fun _=>rfl) rfl)<|.aW<|CM))<|.aY<|Ae h (fun h=>AO.skip<|AO.block<|BG<|.a 3<|.nil<|Y _ _ (Ad 59 35 [(0,false),(1,true)]) h) fun h=>AO.exit<|Aa<|AP<|.a 2<|.p (O5 (k:=1) (e':=3) (s:=1) AY aB A8 Bl rfl)<|.a 1<|AQ h fun x7 hx7 h=>.mg 25 7 (Ah x7) (.bi hx7 (fun h=>AQ h fun x9 L h=>.a 2<|.p (LX (e':=3) (kd:=.i64) AY L (k:=1) A8 Bl D6 rfl)<|.p (x:=(AV x9)) (RH (e:=3) (size:=1) (k:=1) (i:=(I).toNat) (off:=0) AY A8 A8 (IV L).2 D6 (Ee A8) (fun _=>rfl) rfl)<|.aW<|CM))<|.aY<|Ae h (fun h=>AX<|aBx) fun h=>AO.skip<|AQ h fun M O h=>AP<|.a 2<|.p (EG EU zero3 [AY qh] rfl)<|.e [.dead,.dead,(BL M)] (ED (k:=1) AY O EU A8 (fun _=>rfl) BX rfl)<|.aW<|Aa<|AP<|.a 1<|.p (O5 (k:=2) (e':=3) (s:=1) AY M A8 Bl rfl)<|.aW<|AO.block<|Dy (fun f j=>⟨BM 59 [(0,.aS 1),(1,AV qh),(5,AV I),(6,AV f)],[.dead,(BL j)],1⟩) _ _ _ _ (Ad 59 99 [(0,false),(2,true)]) h<|fun J19 k14 U f j h=>Aa<|AX<|Ae h (fun h=>AO.skip<|Aa<|AO.block<|C9 h fun m q x17 u h=>BG<|.a 5<|.p (LX (e':=3) (kd:=.i64) AY q (k:=1) A8 Bl D6 rfl)<|.p (x:=(AV m)) (RH (e:=3) (size:=1) (k:=1) (i:=(BI (f-1)).toNat) (off:=0) AY A8 A8 (IV q).2 D6 (Ee A8) (fun _=>rfl) rfl)<|.p (LX (e':=3) (kd:=.i64) AY u (k:=1) A8 Bl D6 rfl)<|.e [.dead,(BL (j.set (f).toNat m))] (ZU (e:=3) (size:=1) (v:=(AV m)) (k:=1) (i:=(f).toNat) (off:=0) (a':=m) AY A8 (IV u).2 A8 (D6).size A8 (Ee A8) A8 (fun _=>rfl) rfl)<|.nil<|BG<|.a 3<|.nil<|U _ _ _ (Ad 59 99 [(0,false),(1,true)]) h) fun h=>AO.exit<|AQ h fun x18 z h=>AP<|.a 3<|.p (LX (e':=3) (kd:=.i64) AY z (k:=1) A8 Bl D6 rfl)<|.e [.dead,(BL (j.set (I).toNat qh))] (ZU (e:=3) (size:=1) (v:=(AV qh)) (k:=1) (i:=(I).toNat) (off:=0) (a':=qh) AY A8 (IV z).2 A8 (D6).size A8 (Ee A8) A8 (fun _=>rfl) rfl)<|.aY<|AX<|aBx
def aEk (f:Au) (q:Int) (L:(AZ→Int→Option AZ)) (s:(AZ→Int→Option AZ)):AZ→Int→Option AZ:=fun m j=>(BJ f q).bind fun u=>(bif decide (j<(u.bJ.length:Int))then(BJ f q).bind fun z=>(BJ z.bJ j).bind fun I=>(Zm m I).bind fun J=>s J (BI (j+1))else L m (BI (q+1)))
def uO (f:Au) (j:Int) (m:(AZ→Int→Option AZ)):AZ→Int→Option AZ:=aX (aEk f j m) BA
def aFB (f:Au) (j:Int) (I:(AZ→Int→Option AZ)) (J:(AZ→Int→Option AZ)):AZ→Int→Option AZ:=fun z m=>(BJ f j).bind fun L=>(bif decide (m<(L.bD.length:Int))then(BJ f j).bind fun q=>(BJ q.bD m).bind fun s=>(Zm z s).bind fun u=>J u (BI (m+1))else uO f j I z 0)
def aEC (f:Au) (j:Int) (m:(AZ→Int→Option AZ)):AZ→Int→Option AZ:=aX (aFB f j m) BA
def aEl (f:Au) (q:(AZ→Int→Option AZ)):AZ→Int→Option AZ:=fun j m=>(bif decide (m<(f.length:Int))then aEC f m q j 0 else some j)
def aJ1 (f:Au):AZ→Int→Option AZ:=aX (aEl f) BA
def vM (f:Au):Option AZ:=aJ1 f [] 0
def akv (aB r) (h:vM aB=some r):BF 190 [BQ aB] [] (.aS 0) [(BL r)]:=Am.aH Tryz.func190 rfl<|AP<|.e [(BL [])] (Cc 3 1 rfl)<|.aY<|AP<|.e [(BL []),(BL [])] (Cc 3 1 rfl)<|.aY<|Aa<|AX<|AO.block<|Dy (fun v1 Z=>⟨BM 54 [(0,BQ aB),(3,.aS 0),(4,AV Z)],[(BL v1)],0⟩) _ _ _ _ (Ad 54 25 [(1,true)]) h<|fun J23 k3 hk3 v1 Z h=>Aa<|AP<|.a 2<|.p (BP Aq aB Cx rfl)<|.aW<|Ae h (fun h=>AO.skip<|Aa<|AO.block<|Aa<|AX<|AO.block<|Dy (fun v5 v6=>⟨BM 54 [(0,BQ aB),(3,.aS 0),(4,AV Z),(5,AV v6)],[(BL v5)],0⟩) _ _ _ _ (Ad 54 57 [(0,true)]) h<|fun J22 k7 hk7 v5 v6 h=>Aa<|AQ h fun x8 yj h=>AP<|.a 3<|.p (BN Aq yj Cx DZ rfl)<|.a 2<|.p (BP AY x8.bD Bl rfl)<|.aW<|Ae h (fun h=>AO.skip<|Aa<|AO.block<|Pv h fun x10 j m q s u h=>BG<|.a 3<|.p (BN Aq j Cx DZ rfl)<|.a 3<|.p (BN AY q Bl D6 rfl)<|.a 1<|.e (x:=.aS 1) [.dead,(BL s)] (Df [.ent 0] [.aS 0,AV m] (aIS v5 m s u) rfl)<|.a 1<|.nil<|BG<|.a 3<|.nil<|hk7 _ _ _ (Ad 54 57 [(1,true)]) h) fun h=>AO.exit<|AX<|AO.block<|Dy (fun f z=>⟨BM 54 [(0,BQ aB),(3,.aS 0),(4,AV Z),(6,AV z)],[(BL f)],0⟩) _ _ _ _ (Ad 54 89 [(0,true)]) h<|fun J21 k15 I f z h=>Aa<|AQ h fun x16 J h=>AP<|.a 3<|.p (BN Aq J Cx DZ rfl)<|.a 2<|.p (BP AY x16.bJ Bl rfl)<|.aW<|Ae h (fun h=>AO.skip<|Aa<|AO.block<|Pv h fun x18 L M O U Y h=>BG<|.a 3<|.p (BN Aq L Cx DZ rfl)<|.a 3<|.p (BN AY O Bl D6 rfl)<|.a 1<|.e (x:=.aS 1) [.dead,(BL U)] (Df [.ent 0] [.aS 0,AV M] (aIS f M U Y) rfl)<|.a 1<|.nil<|BG<|.a 3<|.nil<|I _ _ _ (Ad 54 89 [(1,true)]) h) fun h=>AO.exit<|BG<|.a 3<|.nil<|hk3 _ _ _ (Ad 54 25 [(0,true)]) h) fun h=>OL
def aD8 (f:Au) (j:Int) (k2:(Int→Option Int)):Int→Option Int:=fun m=>(bif decide (m<(f.length:Int))then(BJ f m).bind fun q=>(bif (q.Id==j)then some m else k2 (BI (m+1)))else some (-1))
def aJh (j:Au) (f:Int):Int→Option Int:=bn (aD8 j f) BA
def l7 (j:Au) (f:Int):Option Int:=aJh j f 0
def aLt (aB eU r) (h:l7 aB eU=some r):BF 69 [BQ aB,AV eU] [] (AV r) []:=Am.aH Tryz.func69 rfl<|AX<|Aa<|AX<|AO.block<|Du (fun m=>⟨BM 20 [(0,BQ aB),(1,AV eU),(5,AV m)],[],0⟩) _ _ _ (Ad 20 35 []) h<|fun q k2 f m h=>Aa<|AP<|.a 2<|.p (BP Aq aB Cx rfl)<|.aW<|Ae h (fun h=>AO.skip<|Aa<|AO.block<|AQ h fun s j h=>AP<|.a 2<|.p (BN Aq j Cx DZ rfl)<|.aW<|Ae h Bd fun h=>AO.skip<|BG<|.a 3<|.nil<|f _ _ (Ad 20 35 []) h) fun h=>Ey
def aCA (f:(AZ→Int→Option AZ)) (j:Int) (m:AZ):Option AZ:=f m (BI (j+1))
def aGa (f:AZ) (j:Au) (z:(AZ→Int→Option AZ)):AZ→Int→Option AZ:=fun q m=>(bif decide (m<(f.length:Int))then(BJ f m).bind fun I=>(l7 j I).bind fun J=>(bif decide (J<0)then(BJ f m).bind fun s=>(Zm q s).bind fun u=>aCA z m u else aCA z m q)else some q)
def abU (f:AZ) (j:Au):AZ→Int→Option AZ:=aX (aGa f j) BA
def aBi (j:Au) (f:AZ):Option AZ:=abU f j [] 0
def alP (aB fZ r) (h:aBi aB fZ=some r):BF 189 [BQ aB,Bz fZ] [] (.aS 0) [(BL r)]:=Am.aH Tryz.func189 rfl<|AP<|.e [(BL [])] (Cc 3 1 rfl)<|.aY<|AP<|.e [(BL []),(BL [])] (Cc 3 1 rfl)<|.aY<|Aa<|AX<|AO.block<|Dy (fun u z=>⟨BM 27 [(0,BQ aB),(1,Bz fZ),(5,.aS 0),(6,AV z)],[(BL u)],0⟩) _ _ _ _ (Ad 27 99 [(1,true)]) h<|fun O U I u z h=>Aa<|AP<|.a 2<|.p (BP AY fZ Bl rfl)<|.aW<|Ae h (fun h=>AO.skip<|DJ (fun s=>∃(J:(List Int)),CJ s ⟨BM 27 [(0,BQ aB),(1,Bz fZ),(5,.aS 0),(6,AV z)],[(BL J)],0⟩∧aCA U z J=some r) (by rintro s ⟨J,Y,h⟩;exact CZ Y<|BG<|.a 3<|.nil<|I _ _ _ (Ad 27 99 [(0,true)]) h)<|fun K6=>AO.block<|C9 h fun Z L x8 M h=>AP<|.a 3<|.p (BN AY L Bl D6 rfl)<|.a 1<|.ca (aLt aB Z x8 M)<|.aW<|Ae h (fun h=>C9 h fun j m f q h=>BG<|.a 3<|.p (BN AY m Bl D6 rfl)<|.a 1<|.e (x:=.aS 1) [.dead,(BL f)] (Df [.ent 0] [.aS 0,AV j] (aIS u j f q) rfl)<|.a 1<|.nil<|K6 _ ⟨f,Ad 27 99 [(1,true)],h⟩) fun h=>AO.skip<|K6 _ ⟨u,Ad 27 99 [(0,true)],h⟩) fun h=>OL
def aB2 (f:Au):Option Bool:=(vM f).bind fun j=>(aBi f j).bind fun m=>some ((m.length:Int)==0)
def an6 (aB r) (h:aB2 aB=some r):BF 132 [BQ aB] [] (Ah r) []:=Am.aH Tryz.func132 rfl<|AX<|C9 h fun m f q j h=>AP<|.a 2<|.ca (akv aB m f).view<|.ca (alP aB m q j).view<|.p (BP AY q Bl rfl)<|.aW<|CS
def Zi (f:Au) (j:Int):Option (AU×Bool):=(l7 f j).bind fun m=>(bif decide (m<0)then some (G6,false)else(BJ f m).bind fun q=>some (q,true))
def aCn (aB eU r) (h:Zi aB eU=some r):BF 29 [BQ aB,AV eU] [] (.eF [Di r.1,Ah r.2]) []:=Am.aH Tryz.func29 rfl<|AX<|AQ h fun s f h=>AP<|.a 2<|.ca (aLt aB eU s f)<|.aW<|Aa<|AX<|Ae h (fun h=>AX<|AO.ret<|ac2) fun h=>AO.skip<|AQ h fun q m h=>AP<|.a 2<|.p (BN Aq m Cx DZ rfl)<|.aW<|AO.ret<|aKp
def aAH (f:AU) (m:Au) (u:(Bool→Int→Option Bool)):Bool→Int→Option Bool:=fun q j=>(bif decide (j<(f.bD.length:Int))then(BJ f.bD j).bind fun z=>(Zi m z).bind fun s=>(bif decide (s.1.Depth≥f.Depth)then some false else(bif q then some true else some (s.1.Depth==(BI (f.Depth-1)))).bind fun I=>u I (BI (j+1)))else some q)
def aAx (f:AU) (j:Au):Bool→Int→Option Bool:=aX (aAH f j) BA
def xP (f:AU) (j:Au) (q:(Int→Option Bool)):Int→Option Bool:=fun m=>(bif decide (m<(f.bJ.length:Int))then(BJ f.bJ m).bind fun s=>(Zi j s).bind fun u=>(bif decide (u.1.Depth≥f.Depth)then some false else q (BI (m+1)))else aAx f j ((f.bD.length:Int)==0) 0)
def aFi (f:AU) (j:Au):Int→Option Bool:=bn (xP f j) BA
def mF (j:Au) (f:AU):Option Bool:=(bif ((f.bD.length:Int)==0)then some (f.Depth != 1)else some false).bind fun m=>(bif m then some false else aFi f j 0)
def akl (aB fJ r) (h:mF aB fJ=some r):BF 133 [BQ aB,Di fJ] [] (Ah r) []:=by
 refine Am.aH Tryz.func133 rfl ?_;unfold mF at h;refine AX<|Aa<|AP<|.a 2<|.p (BP AY fJ.bD Bl rfl)<|.a 1<|?_;obtain⟨x1,I,h⟩:=DN h;refine .mg 16 4 (Ah x1) ?_ ?_
 ·rcases aEv I with⟨f,h⟩|⟨f,h⟩
  ·refine .c (BR some f)<|.aM 4 ?_;obtain rfl:=CU h;kernel_rfl
  refine .c (BR some f)<|.aM 4 ?_;obtain rfl:=CU h;kernel_rfl
 refine .aY<|Ae h (fun h=>?_) fun h=>?_
 ·refine AP<|.aM 1 ?_;rw[←CU h];exact .ret (EK [])
 refine AO.skip<|Aa<|AX<|AO.block ?_;refine Du (fun Z=>⟨BM 79 [(0,BQ aB),(3,.ptr 0 0),(5,AV Z)],[.box (Ag (Aq fJ))],0⟩) _ _ _ (Ad 79 41 [(0,true)]) h ?_;clear h;intro J20 k5 J Z h;unfold xP at h;refine Aa<|AP<|.a 3<|.p (BP AY fJ.bJ Bl rfl)<|.aW<|Ae h (fun h=>?_) fun h=>?_
 ·refine AO.skip<|Aa<|AO.block ?_;obtain⟨x7,L,x8,M,h⟩:=Z5 h;refine AP<|.a 4<|.p (BN AY L Bl D6 rfl)<|.a 1<|.ca (aCn aB x7 x8 M)<|.aW<|AX<|Ae h (fun h=>?_) fun h=>?_
  ·refine AP<|.aM 1 ?_;rw[←CU h];exact .ret (EK [])
  refine AO.skip<|BG<|.a 3<|.nil ?_;exact J _ _ (Ad 79 41 [(0,true)]) h
 refine AO.exit<|AP<|.a 2<|.p (BP AY fJ.bD Bl rfl)<|.aW<|Aa<|AX<|AO.block ?_;refine Dy (fun j m=>⟨BM 79 [(0,BQ aB),(3,.ptr 0 0),(8,Ah j),(9,AV m)],[.box (Ag (Aq fJ))],0⟩) _ _ _ _ (Ad 79 777 [(0,true)]) h ?_;clear h;intro J19 k12 q j m h;unfold aAH at h;refine Aa<|AP<|.a 3<|.p (BP AY fJ.bD Bl rfl)<|.aW<|Ae h (fun h=>?_) fun h=>?_
 ·refine AO.skip<|Aa<|AO.block ?_;obtain⟨O,s,U,u,h⟩:=Z5 h;refine AP<|.a 4<|.p (BN AY s Bl D6 rfl)<|.a 1<|.ca (aCn aB O U u)<|.aW<|Aa<|AX<|Ae h (fun h=>?_) fun h=>?_
  ·refine AP<|.aM 1 ?_;rw[←CU h];exact .ret (EK [])
  refine AO.skip<|BG<|.a 2<|?_;obtain⟨Y,z,h⟩:=DN h;refine .mg 71 6 (Ah Y) ?_ ?_
  ·replace h:=z;cases j with
   |true=>
    replace h:=iZ rfl h;refine .aM 7 ?_;obtain rfl:=CU h;kernel_rfl
   |false=>
    replace h:=oD rfl h;refine .aM 7 ?_;obtain rfl:=CU h;kernel_rfl
  refine .a 1<|.nil<|BG<|.a 3<|.nil ?_;exact q _ _ _ (Ad 79 777 [(0,true)]) h
 refine AO.exit<|AP<|.aM 2 ?_;rw[←CU h];exact .ret (EK [])
def aIK (f:Au) (m:(Int→Option Int)):Int→Option Int:=fun j=>(bif decide (j<(f.length:Int))then(BJ f j).bind fun q=>(mF f q).bind fun s=>(bif (!s)then some 15 else m (BI (j+1)))else some 0)
def aDj (f:Au):Int→Option Int:=bn (aIK f) BA
def aB0 (f:Au):Option Int:=(aB2 f).bind fun j=>(bif (!j)then some 14 else aDj f 0)
def aoS (aB r) (h:aB0 aB=some r):BF 92 [BQ aB] [] (AV r) []:=Am.aH Tryz.func92 rfl<|AX<|Aa<|AQ h fun u f h=>AP<|.a 1<|.ca (an6 aB u f)<|.aW<|Ae h Bd fun h=>AO.skip<|Aa<|AX<|AO.block<|Du (fun s=>⟨BM 20 [(0,BQ aB),(3,AV s)],[],0⟩) _ _ _ (Ad 20 9 []) h<|fun J L j s h=>Aa<|AP<|.a 2<|.p (BP Aq aB Cx rfl)<|.aW<|Ae h (fun h=>AO.skip<|Aa<|AO.block<|C9 h fun z m I q h=>AP<|.a 3<|.p (BN Aq m Cx DZ rfl)<|.a 1<|.ca (akl aB z I q)<|.aW<|Ae h Bd fun h=>AO.skip<|BG<|.a 3<|.nil<|j _ _ (Ad 20 9 []) h) fun h=>Ey
def gU (f:Au):Option Bool:=(Yk f).bind fun j=>(bif (j==0)then(aB0 f).bind fun m=>some (m==0)else some false).bind fun q=>some q
def zy (aB r) (h:gU aB=some r):BF 49 [BQ aB] [] (Ah r) []:=Am.aH Tryz.func49 rfl<|AX<|AQ h fun q f h=>AP<|.a 1<|.ca (aem aB q f)<|.a 1<|AQ h fun s j h=>.mg 6 4 (Ah s) (.bi j (fun h=>AQ h fun u m h=>.a 1<|.ca (aoS aB u m)<|.aW<|CM))<|.aW<|CS
end Go.Proofs.YtolgdkhlelfpoaaGreat
end
section
namespace Go.Proofs.YtolgdkhlelfpoaaGreat
open Go.RowKit
set_option maxRecDepth 20000
set_option maxHeartbeats 4000000
def aQ (f:Int) (m:Int) (j:Bool):Option Bool:=(bif decide (f<0)then some true else some (decide (f>4))).bind fun O=>(bif O then some false else(bif (m==3)then(bif j then some (f != 4)else some false).bind fun U=>some U else(bif (m==0)then(bif (f==1)then some true else some (f==2)).bind fun Y=>(bif Y then some true else some (f==3)).bind fun q=>(bif q then some true else(bif (f==4)then some (!j)else some false).bind fun s=>some s).bind fun u=>some u else(bif (m==2)then(bif j then(bif (f==0)then some true else some (f==2)).bind fun z=>some z else some false).bind fun I=>some I else(bif (m==1)then(bif (!j)then(bif (f==0)then some true else some (f==2)).bind fun J=>(bif J then some true else some (f==1)).bind fun L=>some L else some false).bind fun M=>some M else(bif (m==4)then some (!j)else some false))))))
def lS (f:(Int→Option Bool)) (j:Int) (m:Bool):Option Bool:=(bif m then some false else f (BI (j+1)))
def aEq (f:Bg) (j:Bg) (q:(Int→Option Bool)):Int→Option Bool:=fun m=>(bif decide (m<(f.length:Int))then(BJ f m).bind fun J=>(BJ j m).bind fun L=>(bif (J.Kind != L.Kind)then lS q m true else(BJ f m).bind fun s=>(BJ j m).bind fun u=>(bif (!(s.Key.toList==u.Key.toList))then lS q m true else(BJ f m).bind fun z=>(BJ j m).bind fun I=>lS q m (z.Id != I.Id)))else some true)
def aKD (f:Bg) (j:Bg):Int→Option Bool:=bn (aEq f j) BA
def iE (f:Bg) (j:Bg):Option Bool:=(bif ((f.length:Int) != (j.length:Int))then some false else aKD f j 0)
def aGM (fG fF r) (h:iE fG fF=some r):BF 37 [Dp fG,Dp fF] [] (Ah r) []:=Am.aH Tryz.func37 rfl<|AX<|Aa<|AP<|.a 1<|.p (BP BD fG Gl rfl)<|.a 1<|.p (BP BD fF Gl rfl)<|.aW<|Ae h Bd fun h=>AO.skip<|Aa<|AX<|AO.block<|Du (fun L=>⟨BM 54 [(0,Dp fG),(1,Dp fF),(5,AV L)],[],0⟩) _ _ _ (Ad 54 35 []) h<|fun Z k3 M L h=>Aa<|AP<|.a 2<|.p (BP BD fG Gl rfl)<|.aW<|Ae h (fun h=>AO.skip<|Aa<|AO.block<|DJ (fun s=>∃(O:Bool),CJ s ⟨BM 54 [(0,Dp fG),(1,Dp fF),(5,AV L),(53,Ah O)],[],0⟩∧lS k3 L O=some r) (by rintro s ⟨O,hs,h⟩;exact CZ hs<|Ae h Bd fun h=>AO.skip<|BG<|.a 3<|.nil<|M _ _ (Ad 54 35 []) h)<|fun K7=>C9 h fun x8 u x9 z h=>FD h (fun f h=>AO.draw A8 A8 A8 (.a 2<|.p (BN BD u Gl IL rfl)<|.a 4<|.p (BN BD z Gl IL rfl)<|.a 3<|.c (BR some f)<|.a 25<|.nil _)<|K7 _ ⟨true,Ad 54 9007199254741027 [],h⟩) fun f h=>C9 h fun x11 m x12 q h=>FD h (fun j h=>AO.draw A8 A8 A8 (.a 2<|.p (BN BD u Gl IL rfl)<|.a 4<|.p (BN BD z Gl IL rfl)<|.a 3<|.c (BR some f)<|.a 2<|.p (BN BD m Gl IL rfl)<|.a 4<|.p (BN BD q Gl IL rfl)<|.a 4<|.c (BR some j)<|.a 12<|.nil _)<|K7 _ ⟨true,Ad 54 9007199254741027 [],h⟩) fun j h=>C9 h fun U I Y J h=>AO.draw A8 A8 A8 (.a 2<|.p (BN BD u Gl IL rfl)<|.a 4<|.p (BN BD z Gl IL rfl)<|.a 3<|.c (BR some f)<|.a 2<|.p (BN BD m Gl IL rfl)<|.a 4<|.p (BN BD q Gl IL rfl)<|.a 4<|.c (BR some j)<|.a 2<|.p (BN BD I Gl IL rfl)<|.a 4<|.p (BN BD J Gl IL rfl)<|.a 4<|.nil _)<|K7 _ ⟨(U.Id != Y.Id),Ad 54 9007199254741027 [],h⟩) fun h=>Ey
end Go.Proofs.YtolgdkhlelfpoaaGreat
end
section
namespace Go.Proofs.YtolgdkhlelfpoaaGreat
open Go.RowKit
set_option maxRecDepth 20000
set_option maxHeartbeats 4000000
def aDa (f:AZ) (j:AZ) (q:(Int→Option Bool)):Int→Option Bool:=fun m=>(bif decide (m<(f.length:Int))then(BJ f m).bind fun s=>(BJ j m).bind fun u=>(bif (s != u)then some false else q (BI (m+1)))else some true)
def aMy (f:AZ) (j:AZ):Int→Option Bool:=bn (aDa f j) BA
def oh (f:AZ) (j:AZ):Option Bool:=(bif ((f.length:Int) != (j.length:Int))then some false else aMy f j 0)
def aaI (fG fF r) (h:oh fG fF=some r):BF 17 [Bz fG,Bz fF] [] (Ah r) []:=Am.aH Tryz.func17 rfl<|AX<|Aa<|AP<|.a 1<|.p (BP AY fG Bl rfl)<|.a 1<|.p (BP AY fF Bl rfl)<|.aW<|Ae h Bd fun h=>AO.skip<|Aa<|AX<|AO.block<|Du (fun q=>⟨BM 26 [(0,Bz fG),(1,Bz fF),(5,AV q)],[],0⟩) _ _ _ (Ad 26 35 []) h<|fun s u f q h=>Aa<|AP<|.a 2<|.p (BP AY fG Bl rfl)<|.aW<|Ae h (fun h=>AO.skip<|Aa<|AO.block<|C9 h fun z j I m h=>GK A8 A8 A8 (.a 2<|.p (BN AY j Bl D6 rfl)<|.a 3<|.p (BN AY m Bl D6 rfl)<|.a 2<|.nil _)<|Ae h Bd fun h=>AO.skip<|BG<|.a 3<|.nil<|f _ _ (Ad 26 35 []) h) fun h=>Ey
def Opu (f:AU) (j:AU):Option Bool:=(bif (f.Id==j.Id)then some (f.Room.toList==j.Room.toList)else some false).bind fun Y=>(bif Y then some (f.bC.toList==j.bC.toList)else some false).bind fun Z=>(bif Z then some (f.Kind==j.Kind)else some false).bind fun x5=>(bif x5 then some (f.State==j.State)else some false).bind fun x7=>(bif x7 then some (f.Key.toList==j.Key.toList)else some false).bind fun x9=>(bif x9 then some (f.Time==j.Time)else some false).bind fun m=>(bif m then some (f.Depth==j.Depth)else some false).bind fun q=>(bif q then(oh f.bD j.bD).bind fun s=>some s else some false).bind fun u=>(bif u then(oh f.bJ j.bJ).bind fun z=>some z else some false).bind fun I=>(bif I then(Un f.Content j.Content).bind fun J=>some J else some false).bind fun L=>(bif L then some (f.Hash==j.Hash)else some false).bind fun M=>(bif M then some (f.nV.Server.toList==j.nV.Server.toList)else some false).bind fun O=>(bif O then some (f.nV.Sum==j.nV.Sum)else some false).bind fun U=>some U
def ahN (fG fF r) (h:Opu fG fF=some r):BF 50 [Di fG,Di fF] [] (Ah r) []:=Am.aH Tryz.func50 rfl<|AX<|AP<|.a 5<|AQ h fun x1 O h=>.mg 10 6 (Ah x1) (.bi O)<|.a 1<|AQ h fun x3 U h=>.mg 18 5 (Ah x3) (CY U)<|.a 1<|AQ h fun x5 Y h=>.mg 25 5 (Ah x5) (CY Y)<|.a 1<|AQ h fun x7 Z h=>.mg 32 5 (Ah x7) (CY Z)<|.a 1<|AQ h fun x9 CG h=>.mg 39 5 (Ah x9) (CY CG)<|.a 1<|AQ h fun x11 f h=>.mg 46 5 (Ah x11) (CY f)<|.a 1<|AQ h fun Nr j h=>.mg 53 5 (Ah Nr) (CY j)<|.a 1<|AQ h fun x15 m h=>.mg 60 5 (Ah x15) (CY m (fun e i=>by subst e;have h:=i;exact AQ h fun x17 q h=>.a 4<|.ca (aaI fG.bD fF.bD x17 q)<|.aW<|CM))<|.a 1<|AQ h fun x18 s h=>.mg 67 5 (Ah x18) (CY s (fun e i=>by subst e;have h:=i;exact AQ h fun Jk u h=>.a 4<|.ca (aaI fG.bJ fF.bJ Jk u)<|.aW<|CM))<|.a 1<|AQ h fun x21 z h=>.mg 74 5 (Ah x21) (CY z (fun e i=>by subst e;have h:=i;exact AQ h fun x23 I h=>.a 4<|.ca (aDb fG.Content fF.Content x23 I)<|.aW<|CM))<|.a 1<|AQ h fun x24 J h=>.mg 81 5 (Ah x24) (CY J)<|.a 1<|AQ h fun Ed L h=>.mg 88 7 (Ah Ed) (CY L)<|.a 1<|AQ h fun x28 M h=>.mg 97 7 (Ah x28) (CY M)<|.aW<|CS
def jK (f:(Int→Option Bool)) (j:Int) (m:Bool):Option Bool:=(bif m then some false else f (BI (j+1)))
def aDZ (f:Au) (Z:(Au×Int)) (m:(Int→Option Bool)):Int→Option Bool:=fun j=>(bif decide (j<(f.length:Int))then(BJ f j).bind fun u=>(WC f u.Id).bind fun q=>(BJ f j).bind fun z=>(WC Z.1 z.Id).bind fun s=>(bif (q.2 != s.2)then jK m j true else(iE q.1 s.1).bind fun I=>(bif (!I)then jK m j true else(BJ f j).bind fun J=>(Yy f J.Id).bind fun L=>(BJ f j).bind fun M=>(Yy Z.1 M.Id).bind fun O=>(iE L O).bind fun U=>jK m j (!U)))else(dA).bind fun Y=>some Y)
def aBn (f:Au) (j:(Au×Int)):Int→Option Bool:=bn (aDZ f j) BA
def NG (j:Au) (f:AU) (s:Bool):Option Bool:=(bif s then(dA).bind fun u=>some u else(Qn j f).bind fun m=>(bif (m.2 != 0)then some true else(gU m.1).bind fun z=>some (!z)).bind fun I=>(bif I then(dA).bind fun q=>some q else aBn j m 0))
def aBM (j:Au) (f:AU):Option Bool:=(Zi j f.Id).bind fun I=>(aIF j).bind fun m=>(bif (!m)then NG j f true else(gU j).bind fun q=>(bif (!q)then NG j f true else(bif I.2 then(Uj I.1).bind fun s=>(Uj f).bind fun u=>(Opu s u).bind fun z=>NG j f (!z)else NG j f false)))
def agH (aB zo r) (h:aBM aB zo=some r):BF 12 [BQ aB,Di zo] [] (Ah r) []:=Am.aH Tryz.func12 rfl<|AX<|AQ h fun x1 hx1 h=>AP<|.a 3<|.ca (aCn aB zo.Id x1 hx1)<|.aW<|Aa<|DJ (fun s=>∃(v2:Bool),CJ s ⟨BM 109 [(0,BQ aB),(3,.ptr 0 0),(39,Ah v2)],[.box (Ag (Aq zo))],0⟩∧NG aB zo v2=some r) (by rintro s ⟨v2,hs,h⟩;exact CZ hs<|Ae h (fun h=>AQ h fun x4 hx4 h=>AP<|.ca (aDK  x4 hx4)<|.aW<|CS) fun h=>AO.skip<|AQ h fun J hx5 h=>AP<|.a 2<|.e (x:=.eF [.aS 1,AV J.2]) [.box (Ag (Aq zo)),(Dh J.1)] (Df [] [BQ aB,Di zo] (xR aB zo J hx5) rfl)<|.a 2<|.conv _ (LH (e:=55) (s:=29) 1 (xs:=List.map Aq J.1) A8)<|.aW<|Aa<|AP<|.a 2<|AQ h fun x6 hx6 h=>.mg 49 4 (Ah x6) (.bi hx6 (k2:=fun h=>AQ h fun x8 yj h=>.a 1<|.ca (zy J.1 x8 yj)<|.aW<|CM))<|.aY<|Ae h (fun h=>AQ h fun x10 ak4 h=>AP<|.ca (aDK  x10 ak4)<|.aW<|CS) fun h=>AO.skip<|Aa<|AX<|AO.block<|Du (fun L=>⟨BM 109 [(0,BQ aB),(7,BQ J.1),(9,AV L)],[],0⟩) _ _ _ (Ad 109 641 []) h<|fun J30 k12 hk12 L h=>Aa<|AP<|.a 2<|.p (BP Aq aB Cx rfl)<|.aW<|Ae h (fun h=>AO.skip<|Aa<|AO.block<|C9 h fun x14 ak8 Y afh h=>AP<|.a 3<|.p (BN Aq ak8 Cx DZ rfl)<|.a 2<|.ca (wQ aB x14.Id Y afh)<|.aW<|C9 h fun x16 hx16 Z ae3 h=>AP<|.a 3<|.p (BN Aq hx16 Cx DZ rfl)<|.a 2<|.ca (wQ J.1 x16.Id Z ae3)<|.aW<|DJ (fun s=>∃(v18:Bool),CJ s ⟨BM 109 [(0,BQ aB),(7,BQ J.1),(9,AV L),(107,Ah v18)],[],0⟩∧jK k12 L v18=some r) (by rintro s ⟨v18,hs,h⟩;exact CZ hs<|Ae h Bd fun h=>AO.skip<|BG<|.a 3<|.nil<|hk12 _ _ (Ad 109 641 []) h)<|fun K20=>FD h (fun j h=>AO.draw A8 A8 A8 (.a 3<|.c (BR some j)<|.a 23<|.nil _)<|K20 _ ⟨true,Ad 109 162259276829213363391578010288769 [],h⟩) fun j h=>AQ h fun ML U h=>FD h (fun u h=>AO.draw A8 A8 A8 (.a 3<|.c (BR some j)<|.a 2<|.ca (aGM Y.1 Z.1 ML U)<|.a 2<|.c (BR some u)<|.a 17<|.nil _)<|K20 _ ⟨true,Ad 109 162259276829213363391578010288769 [],h⟩) fun u h=>Pv h fun x24 hx24 x25 hx25 Ed F5 h=>C9 h fun x27 hx27 x28 hx28 h=>AO.draw A8 A8 A8 (.a 3<|.c (BR some j)<|.a 2<|.ca (aGM Y.1 Z.1 ML U)<|.a 2<|.c (BR some u)<|.a 3<|.p (BN Aq hx24 Cx DZ rfl)<|.a 2<|.ca (aE6 aB x24.Id x25 hx25)<|.a 3<|.p (BN Aq F5 Cx DZ rfl)<|.a 2<|.ca (aE6 J.1 Ed.Id x27 hx27)<|.ca (aGM x25 x27 x28 hx28)<|.a 2<|.nil _)<|K20 _ ⟨(!x28),Ad 109 162259276829213363391578010288769 [],h⟩) fun h=>AO.exit<|AQ h fun x29 hx29 h=>AP<|.ca (aDK  x29 hx29)<|.aW<|CS)<|fun M=>AQ h fun O m h=>FD h (fun f h=>AO.draw A8 A8 A8 (.a 1<|.ca (vF aB O m)<|.a 1<|.c (BR some f)<|.a 15<|.nil _)<|M _ ⟨true,Ad 109 549755813897 [(0,true)],h⟩) fun f h=>AQ h fun x34 z h=>FD h (fun q h=>AO.draw A8 A8 A8 (.a 1<|.ca (vF aB O m)<|.a 1<|.c (BR some f)<|.a 1<|.ca (zy aB x34 z)<|.a 2<|.c (BR some q)<|.a 10<|.nil _)<|M _ ⟨true,Ad 109 549755813897 [(0,true)],h⟩) fun q h=>FD h (fun I h=>Pv h fun x37 ak9 x38 hx38 x39 hx39 h=>AO.draw A8 A8 A8 (.a 1<|.ca (vF aB O m)<|.a 1<|.c (BR some f)<|.a 1<|.ca (zy aB x34 z)<|.a 2<|.c (BR some q)<|.a 1<|.c (BR some I)<|.a 1<|.ca (aHz x1.1 x37 ak9)<|.a 1<|.ca (aHz zo x38 hx38)<|.ca (ahN x37 x38 x39 hx39)<|.a 3<|.nil _)<|M _ ⟨(!x39),Ad 109 549755813897 [(0,true)],h⟩) fun I h=>AO.draw A8 A8 A8 (.a 1<|.ca (vF aB O m)<|.a 1<|.c (BR some f)<|.a 1<|.ca (zy aB x34 z)<|.a 2<|.c (BR some q)<|.a 1<|.c (BR some I)<|.a 8<|.nil _)<|M _ ⟨false,Ad 109 549755813897 [(0,true)],h⟩
end Go.Proofs.YtolgdkhlelfpoaaGreat
end
section
namespace Go.Proofs.YtolgdkhlelfpoaaGreat
open Go.RowKit
def cu (l:List Int) (h:l.length≤1099511627776):St l=some (Fj l):=by
 unfold St aA3 OD U9;rw[Et E8];have f:(Pg l).length≤1099511627776:=by rw[(Uw l).length_eq];exact h
 simp[h,aGp,aDM]
def Sj (l:List Int):(Fj l).length≤l.length:=by
 rw[←aDM];exact Dn (Lib.compact_length_le _) BK
def aMn (a b:List Int):(RP a b).length≤a.length:=by
 unfold RP;exact Dn (Nk _ _) (Sj a)
def aEI (a b:List Int):(H6 a b).length≤a.length+b.length:=by
 rw[jM];exact Dn (Sj _) BK
def ajE (a b:Int):cmp_Less_int a b=some (decide (a<b)):=by
 simp[cmp_Less_int,cmp_isNaN_int]
def ags (l:List Int) (x:Int) (hi:Inc l) (hn:l.length≤1099511627776):gy (wO l x) (fun r=>r.2=EZ l x):=by
 unfold wO aMV;refine YE (fun(m:Nat) (a b:Int)=>∃i j:Nat,a=i∧b=j∧i≤j∧j≤l.length∧m=j-i∧(∀q,(f:q<i)→(hl:q<l.length)→l[q]<x)∧(∀q,(f:j≤q)→(hl:q<l.length)→x≤l[q])) ?_ BA l.length 0 (l.length:Int) aHs ⟨0,l.length,rfl,rfl,EF _,Dw _,rfl,fun q f=>AL,fun q f hl=>AL⟩;rintro m a b k ⟨i,j,rfl,rfl,hij,hj,rfl,O,h2⟩ hk;unfold aLC;refine gy.bif (fun e=>?_) fun e=>?_
 ·have U:i<j:=PY
  have w1:BI ((i:Int)+(j:Int))=((i+j:Nat):Int):=QF
  have w2:IntKind.u64.wrap ((i+j:Nat):Int)=((i+j:Nat):Int):=by rw[dn];omega
  have w3:N7 .shr .u64 ((i+j:Nat):Int) 1=some (((i+j)/2:Nat):Int):=by
   have e0:((i+j:Nat):Int).fdiv (2^(min (1:Int).toNat IntKind.u64.bits))=(((i+j)/2:Nat):Int):=by
    have :(2:Int)^(min (1:Int).toNat IntKind.u64.bits)=2:=rfl;rw[this,aLI _ AL];omega
   unfold N7;rw[D9 AL];exact BR some e0
  have w4:BI (((i+j)/2:Nat):Int)=(((i+j)/2:Nat):Int):=QF
  have s:(i+j)/2<l.length:=AL
  rw[w1,w2,w3];simp only[Af];rw[w4,DI s];simp only[Af];rw[ajE,wrap_succ _ AL];simp only[Af];have mono:∀p q,(I:p<l.length)→(f:q<l.length)→p<q→l[p]<l[q]:=fun p q I f u=>KQ.1 hi p q I f u;refine gy.bif (fun Y=>?_) fun Y=>?_
  ·have z:l[(i+j)/2]<x:=by simpa using Y
   refine hk (j-((i+j)/2+1)) _ _ AL ⟨(i+j)/2+1,j,rfl,rfl,AL,hj,rfl,fun q f hl=>?_,h2⟩;by_cases eq:q=(i+j)/2
   ·subst eq;exact z
   have :=mono q ((i+j)/2) hl s AL;omega
  have z:¬l[(i+j)/2]<x:=by simpa using Y
  refine hk ((i+j)/2-i) _ _ AL ⟨i,(i+j)/2,rfl,rfl,AL,AL,rfl,O,fun q f hl=>?_⟩;by_cases eq:q=(i+j)/2
  ·subst eq;omega
  have :=mono ((i+j)/2) q s hl AL;omega
 have U:¬i<j:=PY
 have J:i=j:=AL
 subst J;have mono:∀p q,(I:p<l.length)→(f:q<l.length)→p<q→l[p]<l[q]:=fun p q I f u=>KQ.1 hi p q I f u;by_cases hl:i<l.length
 ·rw[show decide ((i:Int)<(l.length:Int))=true by simpa using hl,DI hl];simp only[Bh,Af];by_cases z:l[i]=x
  ·have M:(l[i]==x)=true:=Qw
   rw[M];refine .ret ?_;exact(LW.2 (z▸Eh hl)).symm
  have M:(l[i]==x)=false:=Qw
  rw[M]
  have Z:EZ l x=false:=Ox.2 fun s=>by
   obtain⟨q,f,e5⟩:=Hf s;rcases nX q i with L|L|L
   ·have :=O q L f;omega
   ·subst L;exact z e5
   have :=mono i q hl f L;have :=h2 i (Dw _) hl;omega
  simp[aBS,Z,gy]
 rw[show decide ((i:Int)<(l.length:Int))=false by simpa using hl];refine .ret ?_;refine(Ox.2 fun s=>?_).symm;obtain⟨q,f,M⟩:=Hf s;have :=O q AL f;omega
def ar2 {l b:List Int} {i:Nat} (h:i<l.length):(l.take (i+1)).filter (fun x=> !EZ b x)=(l.take i).filter (fun x=> !EZ b x)++(if EZ b l[i]then[]else[l[i]]):=by
 rw[RD h,Ws];cases f:EZ b l[i]<;>simp[f]
def akO (a b:List Int) (h:a.length≤274877906944) (J:b.length≤274877906944):xM a b=some (RP a b):=by
 unfold xM;rw[cu b AL,cu a AL];simp only[Af];have ha:=Sj a;have L:=Sj b;have j:=Nj b
 have u:RP a b=((Fj a).take (Fj a).length).filter (fun x=> !EZ (Fj b) x):=by
  rw[Jy];unfold RP;congr 1;funext x;congr 1;by_cases f:x∈b
  ·rw[LW.2 f,LW.2 (Kv.2 f)]
  rw[Ox.2 f,Ox.2 (fun h=>f (Kv.1 h))]
 rw[u];generalize Fj a=S at *;generalize Fj b=S2 at *;refine gy.eq ?_;unfold adH;refine RS S.length aHs (fun i v=>v=(S.take i).filter (fun x=> !EZ S2 x)) BK ?_ ?_
 ·rintro i v k hi rfl m;have q:=wrap_succ i AL;have z:((S.take i).filter (fun x=> !EZ S2 x)).length≤i:=Dn (Nk _ _) E8;have hst:=ar2 (b:=S2) hi;unfold aHR aC2;rw[show decide ((i:Int)<(S.length:Int))=true by simpa using hi,DI hi];simp only[Bh,Af];refine(ags S2 S[i] j AL).bind ?_;rintro r I;rw[I];cases s:EZ S2 S[i]with
  |true=>
   simp only[ES,BO,q];exact m _ (by rw[hst];simp[s])
  |false=>
   simp only[Jm,Bh,q];rw[Et Ij];exact m _ (by rw[hst];simp[s])
 rintro v k rfl;unfold aHR;rw[show decide ((S.length:Int)<(S.length:Int))=false by simp];exact .ret rfl
def ae7 (p:Int→Bool):∀(l:List Int) (i:Nat),i≤l.length→(∀j,(h:j<i)→(hl:j<l.length)→p l[j]=true)→(∀h:i<l.length,p l[i]=false)→l.takeWhile p=l.take i∧l.dropWhile p=l.drop i
 | [],i,h,_,_=>by simp at h;subst h;simp
 |a::l,0,_,_,f=>by
  have :=f BK;simp at this;simp[this]
 |a::l,i+1,h,h1,f=>by
  have m:=h1 0 AL BK;simp at m;have :=ae7 p l i Jf (fun j q hl=>by have :=h1 (j+1) AL KX;simpa using this) (fun hl=>by have :=f KX;simpa using this);simp[m,this.1,this.2]
def lU (l:List Int) (x:Int):(put l x).length≤l.length+1:=by
 unfold put;split
 ·omega
 rw[Dx,FK];have :=BR List.length (oW (p:=(decide<| · <x)) (l:=l));rw[Dx]at this;omega
def aBs :∀(l a:List Int),(l.foldl put a).length≤a.length+l.length
 | [],a=>BK
 |x::l,a=>by
  have f:=aBs l (put a x);have j:=lU a x;simp only[Fa,FK];omega
def bG (a b:List Int):Bool:=decide (a=b)
def abh (a b:List Int) (h:a.length≤1099511627776):oh a b=some (bG a b):=by
 unfold oh;refine gy.eq (gy.bif (fun e=>?_) fun e=>?_)
 ·refine .ret ?_;have :a≠b:=fun e'=>by subst e';simp at e
  simp[bG,this]
 have hl:a.length=b.length:=by have :(a.length:Int)=b.length:=PY
                               omega
 unfold aMy;refine xK a.length aHs (fun i=>∀j,(z:j<i)→(f:j<a.length)→(m:j<b.length)→a[j]=b[j]) (fun j z=>AL) ?_ ?_
 ·intro i k hi q I;have s:i<b.length:=AL
  unfold aDa;rw[show decide ((i:Int)<(a.length:Int))=true by simpa using hi,DI hi,DI s,wrap_succ i AL];simp only[Bh,Af];refine gy.bif (fun e=>.ret ?_) fun e=>I fun j z f m=>?_
  ·have u:a[i]≠b[i]:=PY
   have :a≠b:=fun e'=>by subst e';exact u rfl
   simp[bG,this]
  by_cases J:j=i
  ·subst J;simpa using e
  exact q j AL f m
 intro k q;unfold aDa;rw[show decide ((a.length:Int)<(a.length:Int))=false by simp];refine .ret ?_;have :a=b:=Z9 hl fun j f m=>q j f f m;simp[bG,this]
end Go.Proofs.YtolgdkhlelfpoaaGreat
end
section
namespace Go.Proofs.YtolgdkhlelfpoaaGreat
open Go.RowKit
variable {α : Type}
def JZ {R:Type} (c:Bool) (x y:R):(bif c then some x else some y)=some (bif c then x else y):=by cases c<;>rfl
def yh {A R:Type} (c:Bool) (x y:Option A) (f:A→Option R):(bif c then x else y).bind f=bif c then x.bind f else y.bind f:=by cases c<;>rfl
def iV (a b:Bool):(bif a then true else b)=(a||b):=by cases a<;>rfl
def VL (a b:Bool):(bif a then b else false)=(a&&b):=by cases a<;>rfl
def Sm {s:ByteArray} {i:Nat} (h:i<(Bf s).length):GI s (i:Int)=some (Bf s)[i]:=by
 unfold GI;rw[Cb (aCQ i)];have h':i<s.size:=Ur
 have e:s[i]? =some s[i]:=by simp[h']
 simp only[Vw,e,HY,Bf,TD];rfl
def apA {s:ByteArray} (h:0<(Bf s).length):GI s 0=some (Bf s)[0]:=Sm (i:=0) h
def IC {R α:Type} {body:(Int→Option R)→Int→Option R} (l:List α) (hl:l.length<BA) (p:α→Bool) (bad:R) (rest:Option R)
 (q:∀k (i:Nat) (h:i<l.length),body k (i:Int)=bif p l[i]then some bad else k (BI ((i:Int)+1))) (s:∀k,body k (l.length:Int)=rest):
 bn body BA 0=bif l.any p then some bad else rest:=by
 have I:BA=9223372036854775808:=rfl
 have key:∀n (i:Nat),i+n=l.length→∀m,n<m→bn body m (i:Int)=bif (l.drop i).any p then some bad else rest:=by
  intro n
  induction n with
  |zero=>
   intro i hi m u;obtain⟨m,rfl⟩:∃j,m=j+1:=⟨m-1,AL⟩
   have :i=l.length:=AL
   subst this;show body (bn body m) _=_;rw[s,QG];rfl
  |succ n z=>
   intro i hi m u;obtain⟨m,rfl⟩:∃j,m=j+1:=⟨m-1,AL⟩
   have f:i<l.length:=AL
   show body (bn body m) _=_;rw[q _ i f,wrap_succ i AL,z (i+1) AL m AL,NI f,YA];cases p l[i]<;>rfl
 have :=key l.length 0 AL BA hl;simpa using this
def bytes_inj {s t:ByteArray} (h:Bf s=Bf t):s=t:=by
 have hd:s.data.toList=t.data.toList:=by
  unfold Bf at h;refine List.map_inj_right (f:=fun c:UInt8=>(c.toNat:Int)) (fun a b j=>?_) |>.1 h;exact UInt8.toNat_inj.1 AL
 obtain⟨⟨a⟩⟩:=s;obtain⟨⟨b⟩⟩:=t;simp only at hd;rw[hd]
def toList_inj {s t:ByteArray} (h:s.toList=t.toList):s=t:=by
 rw[ByteArray.toList_eq,ByteArray.toList_eq]at h;obtain⟨⟨a⟩⟩:=s;obtain⟨⟨b⟩⟩:=t;simp only at h;rw[h]
def Om {s t:ByteArray}:(s.toList==t.toList)=decide (s=t):=by
 by_cases h:s=t
 ·subst h;simp
 have :s.toList≠t.toList:=fun e=>h (toList_inj e);simp[h,this]
def QH {R α:Type} {body:(Int→Option R)→Int→Option R} (l:List α) (hl:l.length<BA) (q:α→Bool) (g:Nat→Option R) (rest:Option R)
 (s:∀k (i:Nat) (h:i<l.length),body k (i:Int)=bif q l[i]then g i else k (BI ((i:Int)+1))) (u:∀k,body k (l.length:Int)=rest):
 bn body BA 0=if l.findIdx q<l.length then g (l.findIdx q)else rest:=by
 have J:BA=9223372036854775808:=rfl
 have key:∀n (i:Nat),i+n=l.length→∀m,n<m→bn body m (i:Int)=if(l.drop i).findIdx q+i<l.length then g ((l.drop i).findIdx q+i)else rest:=by
  intro n
  induction n with
  |zero=>
   intro i hi m z;obtain⟨m,rfl⟩:∃j,m=j+1:=⟨m-1,AL⟩
   have :i=l.length:=AL
   subst this;show body (bn body m) _=_;rw[u,QG,D9 AL]
  |succ n I=>
   intro i hi m z;obtain⟨m,rfl⟩:∃j,m=j+1:=⟨m-1,AL⟩
   have f:i<l.length:=AL
   show body (bn body m) _=_;rw[s _ i f,wrap_succ i AL,I (i+1) AL m AL,NI f,Ru];cases q l[i]with
   |true=>simp[f]
   |false=>simp only[BO];rw[show(l.drop (i+1)).findIdx q+(i+1)=(l.drop (i+1)).findIdx q+1+i by omega]
 have :=key l.length 0 AL BA hl;simpa using this
def Zp {s:ByteArray} {lo hi:Nat} (f:lo≤hi) (j:hi≤s.size):Lj s (lo:Int) (hi:Int)=some (s.extract lo hi):=by
 unfold Lj;rw[Cb ⟨AL,AL,AL⟩];simp
def aeK (s:ByteArray) (a b:Nat):Bf (s.extract a b)=((Bf s).take b).drop a:=by
 simp[Bf,ByteArray.data_extract,Y6,WY,List.extract_eq_drop_take']
def ug (l:List α) (q:α→Bool):(bif l.any (fun c=> !q c)then false else true)=l.all q:=by
 have :l.any (fun c=> !q c)= !l.all q:=by simp[List.not_all_eq_any_not]
 rw[this];cases l.all q<;>rfl
def aFf :∀(l:List UInt8) (c:UInt8),Lib.indexByte l c=if l.findIdx (· ==c)<l.length then((l.findIdx (· ==c):Nat):Int)else -1
 | [],c=>rfl
 |b::l,c=>by
  unfold Lib.indexByte;rw[Ru];cases h:b==c with
  |true=>simp
  |false=>
   rw[aFf l c];simp only[SE,Jl,BO,FK];by_cases hl:l.findIdx (· ==c)<l.length
   ·simp only[hl,KD,show l.findIdx (· ==c)+1<l.length+1 by omega];have :(((l.findIdx (· ==c):Nat):Int)== -1)=false:=BK
    simp[this]
   simp[hl,show ¬l.findIdx (· ==c)+1<l.length+1 by omega]
end Go.Proofs.YtolgdkhlelfpoaaGreat
end
section
namespace Go.Proofs.YtolgdkhlelfpoaaGreat
open Go.RowKit
structure H8 (e:AU):Prop where
 prev:e.bD.length≤40
 auth:e.bJ.length≤40
 allow:e.Content.Allow.length≤100
 deny:e.Content.gB.length≤100
 users:e.Content.Levels.Users.length≤100
 kinds:e.Content.Levels.Kinds.length≤100
 room:e.Room.size≤2000
 sender:e.bC.size≤2000
 key:e.Key.size≤2000
 text:e.Content.Text.size≤2000
 via:e.Content.Via.size≤2000
 server:e.nV.Server.size≤2000
 allows:∀x∈e.Content.Allow,x.size≤2000
 denies:∀x∈e.Content.gB,x.size≤2000
 names:∀x∈e.Content.Levels.Users,x.User.size≤2000
def aew {α:Type} {l:List α} {P:α→Prop} (h:∀j,(hl:j<l.length)→P l[j]):∀x∈l,P x:=fun x f=>by
 obtain⟨j,m,rfl⟩:=Hf f;exact h j m
def DW {α R:Type} {l:List α} {i:Nat} (h:i<l.length) (f:α→Option R) (z:Option R):(bif decide ((i:Int)<(l.length:Int))then(BJ l (i:Int)).bind f else z)=f l[i]:=by
 rw[show decide ((i:Int)<(l.length:Int))=true by simpa using h,DI h];rfl
def EP {α R:Type} {l:List α} (y z:Option R):(bif decide ((l.length:Int)<(l.length:Int))then y else z)=z:=by
 rw[show decide ((l.length:Int)<(l.length:Int))=false by simp];rfl
def fuel_lt {n:Nat} (h:n≤1099511627776):n<BA:=aAh
def dec_lt {i n:Nat} (h:i<n):decide ((i:Int)<(n:Int))=true:=Jf
def EH (n:Nat):decide ((n:Int)<(n:Int))=false:=BK
def KI {R A α:Type} {body:(A→Int→Option R)→A→Int→Option R} (l:List α) (hl:l.length≤1099511627776) (step:A→α→A) (I:Nat→A→Prop) (f:A→Option R) {a0:A} (s:I 0 a0)
 (u:∀k a (i:Nat) (h:i<l.length),I i a→I (i+1) (step a l[i])∧body k a (i:Int)=k (step a l[i]) (BI ((i:Int)+1)))
 (z:∀k a,I l.length a→body k a (l.length:Int)=f a):aX body BA a0 0=f (l.foldl step a0):=by
 have key:∀n (i:Nat) (a:A),i+n=l.length→I i a→∀m,n<m→aX body m a (i:Int)=f ((l.drop i).foldl step a):=by
  intro n
  induction n with
  |zero=>
   intro i a hi ha m J;obtain⟨m,rfl⟩:∃q,m=q+1:=⟨m-1,AL⟩
   have :i=l.length:=AL
   subst this;show body (aX body m) _ _=_;rw[z _ _ ha,QG];rfl
  |succ n L=>
   intro i a hi ha m J;obtain⟨m,rfl⟩:∃q,m=q+1:=⟨m-1,AL⟩
   have j:i<l.length:=AL
   obtain⟨M,O⟩:=u (aX body m) a i j ha;show body (aX body m) _ _=_;rw[O,wrap_succ i AL,L (i+1) _ AL M m AL,NI j,Fa]
 have :=key l.length 0 a0 AL s BA (fuel_lt hl);simpa using this
def aDl {R A α:Type} {body:(Int→A→Option R)→Int→A→Option R} (l:List α) (hl:l.length≤1099511627776) (step:A→α→A) (I:Nat→A→Prop) (f:A→Option R) {a0:A} (s:I 0 a0)
 (u:∀k a (i:Nat) (h:i<l.length),I i a→I (i+1) (step a l[i])∧body k (i:Int) a=k (BI ((i:Int)+1)) (step a l[i]))
 (z:∀k a,I l.length a→body k (l.length:Int) a=f a):aX body BA 0 a0=f (l.foldl step a0):=by
 have key:∀n (i:Nat) (a:A),i+n=l.length→I i a→∀m,n<m→aX body m (i:Int) a=f ((l.drop i).foldl step a):=by
  intro n
  induction n with
  |zero=>
   intro i a hi ha m J;obtain⟨m,rfl⟩:∃q,m=q+1:=⟨m-1,AL⟩
   have :i=l.length:=AL
   subst this;show body (aX body m) _ _=_;rw[z _ _ ha,QG];rfl
  |succ n L=>
   intro i a hi ha m J;obtain⟨m,rfl⟩:∃q,m=q+1:=⟨m-1,AL⟩
   have j:i<l.length:=AL
   obtain⟨M,O⟩:=u (aX body m) a i j ha;show body (aX body m) _ _=_;rw[O,wrap_succ i AL,L (i+1) _ AL M m AL,NI j,Fa]
 have :=key l.length 0 a0 AL s BA (fuel_lt hl);simpa using this
def O9 {α:Type} (p:α→Bool):∀l:List α,l.find? p=l[l.findIdx p]?
 | []=>rfl
 |x::l=>by
  rw[U3,Ru];cases h:p x with
  |true=>rfl
  |false=>simp[O9 p l]
def EO (l:List AU) (id:Int):Option AU:=l.find? fun e=>e.Id==id
def IE (l:List AU) (id:Int):AU×Bool:=match EO l id with
 |some e=>(e,true)
 |none=>(G6,false)
def aa9 {l:List AU} {id:Int} {e:AU} (h:EO l id=some e):e.Id=id:=by
 have :=zJ h;simpa using this
def Jz {l:List AU} {id:Int} {e:AU} (h:EO l id=some e):e∈l:=Ri h
def SP (l:List AU) (id:Int):(IE l id).2=(EO l id).isSome:=by
 unfold IE;cases EO l id<;>rfl
def aBj (l:List AU) (hl:l.length≤1099511627776) (f:AU→Option Bool) (p:AU→Bool) (j:∀e,f e=some (p e)):
 aF l f=some (if l.findIdx p<l.length then((l.findIdx p:Nat):Int)else -1):=by
 unfold aF ac7;rw[QH l (fuel_lt hl) p (fun i=>some (i:Int)) (some (-1))]
 ·split<;>rfl
 ·intro k i h;unfold aEW;rw[DW h,j];rfl
 intro k;unfold aEW;rw[EP]
def found_eq (l:List AU) (p:AU→Bool) {n:Int} (f:n=if l.findIdx p<l.length then((l.findIdx p:Nat):Int)else -1):
 (bif decide (n<0)then some (G6,false)else(BJ l n).bind fun j=>some (j,true))=some (match l.find? p with |some e=>(e,true)|none=>(G6,false)):=by
 subst f;rw[O9];by_cases h:l.findIdx p<l.length
 ·rw[Cb h,Dl h,show decide (((l.findIdx p:Nat):Int)<0)=false by simp,DI h];rfl
 rw[D9 h,Jp AL];rfl
def NM (l:List AU) (id:Int) (hl:l.length≤1099511627776):MW l id=some (IE l id):=by
 unfold MW Zx qj;rw[aBj l hl _ (fun e=>e.Id==id) fun _=>rfl];exact found_eq l _ rfl
def aK8 (l:List AU) (id:Int) (hl:l.length≤1099511627776):l7 l id=some (if l.findIdx (fun e=>e.Id==id)<l.length then((l.findIdx (fun e=>e.Id==id):Nat):Int)else -1):=by
 unfold l7 aJh;rw[QH l (fuel_lt hl) (fun e=>e.Id==id) (fun i=>some (i:Int)) (some (-1))]
 ·split<;>rfl
 ·intro k i h;unfold aD8;rw[DW h]
 intro k;unfold aD8;rw[EP]
def aF8 (l:List AU) (id:Int) (hl:l.length≤1099511627776):Zi l id=some (IE l id):=by
 unfold Zi;rw[aK8 l id hl];exact found_eq l _ rfl
def ofIds (l:List AU) (ids:List Int):List AU:=ids.filterMap (EO l)
def foldl_append {α β:Type} (f:α→List β):∀(l:List α) (a:List β),l.foldl (fun r x=>r++f x) a=a++l.flatMap f
 | [],a=>BK
 |x::l,a=>by rw[Fa,foldl_append f l,KW,Gu]
def aIk (l:List AU):∀ids,ofIds l ids=ids.flatMap fun id=>(EO l id).toList
 | []=>rfl
 |id::ids=>by
  unfold ofIds;rw[Na,KW,←aIk l ids];cases EO l id<;>rfl
def toList_le {α:Type} (o:Option α):o.toList.length≤1:=by cases o<;>simp
def OQ {l:List AU} {id:Int} {e:AU} (h:EO l id=some e):IE l id=(e,true):=by unfold IE;rw[h]
def SG {l:List AU} {id:Int} (h:EO l id=none):IE l id=(G6,false):=by unfold IE;rw[h]
def aCF (l:List AU) (ids:List Int):(ofIds l ids).length≤ids.length:=List.length_filterMap_le ..
def ajX (l:List AU) (ids:List Int):ids.foldl (fun r id=>r++(EO l id).toList) []=ofIds l ids:=by
 rw[foldl_append (fun id=>(EO l id).toList),aIk];rfl
def an8 (l:List AU) (ids:List Int) (hl:l.length≤1000) (hi:ids.length≤1000000):yK l ids=some (ofIds l ids):=by
 unfold yK
 have j:IK 376 G6 0 (ids.length:Int)=some []:=by
  unfold IK;rw[Cb aBa];rfl
 rw[j];simp only[Af];unfold aL4;rw[KI ids AL (fun r id=>r++(EO l id).toList) (fun i r=>r.length≤i) (fun r=>some r) BK]
 ·rw[ajX]
 ·intro k a i h m;have q:=toList_le (EO l ids[i]);refine⟨JL,?_⟩;unfold aG6 uT;rw[DW h,NM l _ AL];cases f:EO l ids[i]with
  |none=>simp[SG f]
  |some e=>
   rw[OQ f];simp only[Af,Bh,SS];rw[Et Ij];rfl
 intro k a m;unfold aG6;rw[EP]
def aMt {α:Type} (l:List α) (i:Nat) (x:α) (h:i<l.length):l.set i x=l.take i++x::l.drop (i+1):=aI3▸by simp[h]
def aLn {α:Type} (A:List α) (g:α) (D:List α) {n:Nat} (h:A.length=n):(A++g::D).take n=A∧(A++g::D).drop (n+1)=D:=by
 subst h;simp
def aHl (l:List Int) (x:Int) (hi:Inc l) (hl:l.length≤1000000):Zm l x=some (put l x):=by
 refine gy.eq ?_;unfold Zm acQ
 have I:∀i,i≤l.length→(∀j,(O:j<i)→(hl:j<l.length)→l[j]<x)→(∀h:i<l.length,x<l[i])→put l x=l.take i++x::l.drop i:=by
  intro i hi' Y L;obtain⟨e1,M⟩:=ae7 (decide<| · <x) l i hi' (fun j O hl=>by simpa using Y j O hl) (fun hl=>by have :=L hl;simp;omega)
  have hno:EZ l x=false:=Ox.2 fun hm=>by
   obtain⟨q,hq,e4⟩:=Hf hm;rcases Yl q i with h5|h5
   ·have :=Y q h5 hq;omega
   have h6:=L AL;rcases Yl i q with h7|h7
   ·have :=KQ.1 hi i q AL hq h7;omega
   have :q=i:=AL
   subst this;omega
  unfold put;rw[hno,e1,M];rfl
 have s:∀i,i≤l.length→∀d,d≤l.length-i→∀m,d<m→gy (aX (SL (i:Int) x) m ((i+d:Nat):Int) (l.take (i+d)++(l++[x]).getD (i+d) 0::l.drop (i+d))) (· =l.take i++x::l.drop i):=by
  intro i u d
  induction d with
  |zero=>
   intro _ m hm;obtain⟨m,rfl⟩:∃m',m=m'+1:=⟨m-1,AL⟩
   show gy (SL (i:Int) x (aX (SL (i:Int) x) m) _ _) _;generalize aX (SL (i:Int) x) m=k;unfold SL;rw[show decide (((i+0:Nat):Int)>(i:Int))=false by simp];simp only[BO,OM];have hlen:i<(l.take i++(l++[x]).getD i 0::l.drop i).length:=E8
   rw[DI hlen];refine .ret ?_;rw[Vw,aMt _ _ _ hlen];simp[aGJ,List.drop_append,iH u]
  |succ d ih=>
   intro hd m hm;obtain⟨m,rfl⟩:∃m',m=m'+1:=⟨m-1,AL⟩
   have U:=ih AL m AL;show gy (SL (i:Int) x (aX (SL (i:Int) x) m) _ _) _;generalize aX (SL (i:Int) x) m=k at U ⊢;unfold SL;rw[show decide (((i+(d+1):Nat):Int)>(i:Int))=true by simp;omega];simp only[Bh];have w:BI (((i+(d+1):Nat):Int)-1)=((i+d:Nat):Int):=QF
   have z:i+d<l.length:=AL
   have hL:(l.take (i+(d+1))++(l++[x]).getD (i+(d+1)) 0::l.drop (i+(d+1))).length=l.length+1:=E8
   have Y:i+d<(l.take (i+(d+1))++(l++[x]).getD (i+(d+1)) 0::l.drop (i+(d+1))).length:=AL
   have L:i+(d+1)<(l.take (i+(d+1))++(l++[x]).getD (i+(d+1)) 0::l.drop (i+(d+1))).length:=AL
   rw[w,DI Y];simp only[Af];rw[DI L];simp only[Af]
   have hg:(l.take (i+(d+1))++(l++[x]).getD (i+(d+1)) 0::l.drop (i+(d+1)))[i+d]=l[i+d]:=by
    rw[List.getElem_append_left E8];simp
   rw[hg,Vw,aMt _ _ _ L]
   have e:(l.take (i+(d+1))++(l++[x]).getD (i+(d+1)) 0::l.drop (i+(d+1))).take (i+(d+1))++l[i+d]::(l.take (i+(d+1))++(l++[x]).getD (i+(d+1)) 0::l.drop (i+(d+1))).drop (i+(d+1)+1)=l.take (i+d)++(l++[x]).getD (i+d) 0::l.drop (i+d):=by
    have ht:(l.take (i+(d+1))).length=i+(d+1):=E8
    rw[(aLn _ _ _ ht).1,(aLn _ _ _ ht).2];have h3:(l++[x]).getD (i+d) 0=l[i+d]:=by simp[List.getD,Fr z,z]
    rw[h3,show i+(d+1)=i+d+1 by omega,RD z,NI z,Gu];rfl
   rw[e];exact U
 have f:l++[x]=l.take l.length++(l++[x]).getD l.length 0::l.drop l.length:=BK
 refine xK l.length (fuel_lt AL) (fun i=>∀j,(O:j<i)→(hl:j<l.length)→l[j]<x) (fun j O=>AL) ?_ ?_
 ·intro i k u Z hk;unfold aDd;rw[show decide ((i:Int)<(l.length:Int))=true by simpa using u,DI u];simp only[Bh,Af];refine gy.bif (fun e=>?_) fun e=>?_
  ·rw[wrap_succ i AL];refine hk fun j O hl'=>?_;by_cases ej:j=i
   ·subst ej;simpa using e
   exact Z j AL hl'
  have hge:¬l[i]<x:=PY
  refine gy.bif (fun M=>?_) fun M=>?_
  ·have hx:l[i]=x:=jg
   refine .ret ?_;unfold put;rw[LW.2 (hx▸Eh u)];rfl
  have hx:l[i]≠x:=jg
  rw[Et Ij];simp only[Af];rw[I i AL Z (fun _=>AL)];have w:BI (((l++[x]).length:Int)-1)=((i+(l.length-i):Nat):Int):=aIA
  rw[w];have J:=s i AL (l.length-i) (Dw _) BA (fuel_lt AL);rw[show i+(l.length-i)=l.length by omega]at J ⊢;rw[←f]at J;exact J
 intro k Z;unfold aDd;rw[show decide ((l.length:Int)<(l.length:Int))=false by simp];simp only[BO,Af];rw[Et Ij];simp only[Af];rw[I l.length (Dw _) Z (fun h=>AL)];have w:BI (((l++[x]).length:Int)-1)=((l.length+0:Nat):Int):=aIA
 rw[w];have J:=s l.length (Dw _) 0 AL BA (fuel_lt AL);rw[OM]at J ⊢;rw[←f]at J;exact J
def dM (l:List AU) (id:Int):Bool:=(EO l id).isSome
def jE (l:List AU) (ids:List Int):List Int:=ids.foldl (fun r id=>bif dM l id then r else put r id) []
def qN (l:List AU) (ids:List Int):List Int:=(Fj ids).filter (dM l)
def W9 {l:List AU} {ids:List Int} {x:Int}:x∈qN l ids↔x∈ids∧dM l x=true:=by unfold qN;rw[G7,Kv]
def aEa (l:List AU) (ids:List Int):Inc (qN l ids):=(Nj ids).sublist Um
def aDf (l:List AU):∀(ids r:List Int),Inc r→Inc (ids.foldl (fun r id=>bif dM l id then r else put r id) r)∧∀x,x∈ids.foldl (fun r id=>bif dM l id then r else put r id) r↔x∈r∨x∈ids∧dM l x=false
 | [],r,h=>⟨h,fun x=>BK⟩
 |id::ids,r,h=>by
  rw[Fa];cases q:dM l id with
  |true=>
   obtain⟨j,m⟩:=aDf l ids r h;refine⟨j,fun x=>(m x).trans ⟨fun h=>?_,fun h=>?_⟩⟩
   ·rcases h with h|h
    ·exact .inl h
    exact .inr ⟨G9 _ h.1,h.2⟩
   rcases h with h|⟨h,f⟩
   ·exact .inl h
   rcases Ew.1 h with rfl|h
   ·rw[q]at f;cases f
   exact .inr ⟨h,f⟩
  |false=>
   obtain⟨j,m⟩:=aDf l ids (put r id) (aT h);refine⟨j,fun x=>(m x).trans ?_⟩;rw[aIG,Ew];constructor
   ·rintro((h|rfl)|h)
    ·exact .inl h
    ·exact .inr ⟨.inl rfl,q⟩
    exact .inr ⟨.inr h.1,h.2⟩
   rintro(h|⟨rfl|h,f⟩)
   ·exact .inl (.inl h)
   ·exact .inl (.inr rfl)
   exact .inr ⟨h,f⟩
def aIo {l:List AU} {ids:List Int} {x:Int}:x∈jE l ids↔x∈ids∧dM l x=false:=by
 unfold jE;rw[(aDf l ids [] .nil).2 x];simp
def akA (l:List AU) (ids:List Int) (hl:l.length≤1000) (hi:ids.length≤100000):aBi l ids=some (jE l ids):=by
 unfold aBi abU;rw[KI ids AL (fun r id=>bif dM l id then r else put r id) (fun i r=>Inc r∧r.length≤i) (fun r=>some r) ⟨.nil,Dw _⟩]
 ·rfl
 ·intro k a i h f;have q:=aK8 l ids[i] AL
  have m:dM l ids[i]=decide (l.findIdx (fun e=>e.Id==ids[i])<l.length):=by
   unfold dM EO;rw[O9];by_cases h:l.findIdx (fun e=>e.Id==ids[i])<l.length
   ·rw[Dl h,He h];rfl
   rw[Jp AL,Gv h];rfl
  refine⟨?_,?_⟩
  ·cases dM l ids[i]with
   |true=>exact⟨f.1,by have :=f.2;show a.length≤i+1;omega⟩
   |false=>exact⟨aT f.1,by have :=lU a ids[i];have :=f.2;show(put a ids[i]).length≤i+1;omega⟩
  unfold aGa aCA;rw[DW h,q];simp only[Af];by_cases j:l.findIdx (fun e=>e.Id==ids[i])<l.length
  ·rw[Cb j,m,He j,show decide (((l.findIdx (fun e=>e.Id==ids[i]):Nat):Int)<0)=false by simp];rfl
  rw[D9 j,m,Gv j,DI h];simp only[show decide ((-1:Int)<0)=true by decide,Bh,BO,Af];rw[aHl a _ f.1 (by have :=f.2;omega)];rfl
 intro k a f;unfold aGa;rw[EP]
def jl (l:List AU) (id:Int):List Int:=(IE l id).1.bJ
def Y4 (l:List AU) (r:List Int) (x:Int):List Int:=bif dM l x then put r x else r
def Ja (l:List AU) (ids:List Int):List Int:=ids.foldl (fun r id=>(jl l id).foldl (Y4 l) r) []
def aH1 (l:List AU):∀(xs r:List Int),Inc r→Inc (xs.foldl (Y4 l) r)∧(∀x,x∈xs.foldl (Y4 l) r↔x∈r∨x∈xs∧dM l x=true)∧(xs.foldl (Y4 l) r).length≤r.length+xs.length
 | [],r,h=>⟨h,fun x=>BK,BK⟩
 |y::xs,r,h=>by
  rw[Fa];unfold Y4;cases s:dM l y with
  |true=>
   obtain⟨m,q,f⟩:=aH1 l xs (put r y) (aT h);refine⟨m,fun x=>(q x).trans ?_,?_⟩
   ·rw[aIG,Ew];constructor
    ·rintro((h|rfl)|h)
     ·exact .inl h
     ·exact .inr ⟨.inl rfl,s⟩
     exact .inr ⟨.inr h.1,h.2⟩
    rintro(h|⟨rfl|h,j⟩)
    ·exact .inl (.inl h)
    ·exact .inl (.inr rfl)
    exact .inr ⟨h,j⟩
   have :=lU r y;simp only[FK,Bh]at f ⊢;exact Dn f AL
  |false=>
   obtain⟨m,q,f⟩:=aH1 l xs r h;refine⟨m,fun x=>(q x).trans ⟨fun h=>?_,fun h=>?_⟩,?_⟩
   ·rcases h with h|h
    ·exact .inl h
    exact .inr ⟨G9 _ h.1,h.2⟩
   ·rcases h with h|⟨h,j⟩
    ·exact .inl h
    rcases Ew.1 h with rfl|h
    ·rw[s]at j;cases j
    exact .inr ⟨h,j⟩
   simp only[FK,BO]at f ⊢;exact Dn f AL
def aCw (l:List AU):∀(ids r:List Int),Inc r→Inc (ids.foldl (fun r id=>(jl l id).foldl (Y4 l) r) r)∧∀x,x∈ids.foldl (fun r id=>(jl l id).foldl (Y4 l) r) r↔x∈r∨dM l x=true∧∃id∈ids,x∈jl l id
 | [],r,h=>⟨h,fun x=>BK⟩
 |id::ids,r,h=>by
  rw[Fa];obtain⟨j,m,_⟩:=aH1 l (jl l id) r h;obtain⟨q,s⟩:=aCw l ids _ j;refine⟨q,fun x=>(s x).trans ?_⟩;rw[m x];constructor
  ·rintro((h|h)|⟨h3,i,f,h5⟩)
   ·exact .inl h
   ·exact .inr ⟨h.2,id,FB ..,h.1⟩
   exact .inr ⟨h3,i,G9 _ f,h5⟩
  rintro(h|⟨h3,i,f,h5⟩)
  ·exact .inl (.inl h)
  rcases Ew.1 f with rfl|f
  ·exact .inl (.inr ⟨h5,h3⟩)
  exact .inr ⟨h3,i,f,h5⟩
def aDV (l:List AU) (ids:List Int):Inc (Ja l ids):=(aCw l ids [] .nil).1
def Uz {l:List AU} {ids:List Int} {x:Int}:x∈Ja l ids↔dM l x=true∧∃id∈ids,x∈jl l id:=by
 unfold Ja;rw[(aCw l ids [] .nil).2 x];simp
def chainOf (l:List AU) (ids:List Int):List Int:=l.foldl (fun s _=>H6 s (Ja l s)) (Ja l (qN l ids))
inductive JR (l:List AU) (ids:List Int):Int→Prop
 |one {i x:Int} (h:i∈ids) (hx:x∈jl l i) (hk:dM l x=true):JR l ids x
 |more {y x:Int} (h:JR l ids y) (hx:x∈jl l y) (hk:dM l x=true):JR l ids x
def anX {l:List AU} {i x:Int} (h:x∈jl l i):dM l i=true:=by
 unfold jl at h;unfold dM;cases f:EO l i with
 |none=>rw[SG f]at h;cases h
 |some e=>rfl
def aA9 {s t:List Int} (j:Inc s) (m:Inc t) (h:∀x∈s,x∈t):s.length≤t.length∧(t.length≤s.length→s=t):=by
 have e:s=t.filter (fun x=>EZ s x):=YU j (m.sublist Um) fun x=>by
  rw[G7,LW];exact⟨fun f=>⟨h x f,f⟩,fun f=>f.2⟩
 have hl:=Nk (fun x=>EZ s x) t;refine⟨by rw[e];exact hl,fun q=>?_⟩;have u:(t.filter (fun x=>EZ s x)).length=t.length:=by have :=BR List.length e;omega
 rw[e];exact pI.2 (List.length_filter_eq_length_iff.1 u)
def TS (l:List AU):List Int:=Fj (l.map (·.Id))
def rW {l:List AU} {x:Int} (h:dM l x=true):x∈TS l:=by
 unfold dM at h;obtain⟨e,f⟩:=Rz.1 h;exact Kv.2 (F7.2 ⟨e,Jz f,aa9 f⟩)
def rU (l:List AU):∀(l':List AU) (s:List Int),Inc s→(∀x∈s,dM l x=true)→
 Inc (l'.foldl (fun s _=>H6 s (Ja l s)) s)∧(∀x∈l'.foldl (fun s _=>H6 s (Ja l s)) s,dM l x=true)∧(∀x∈s,x∈l'.foldl (fun s _=>H6 s (Ja l s)) s)∧
 ((TS l).length≤s.length+l'.length→∀x∈Ja l (l'.foldl (fun s _=>H6 s (Ja l s)) s),x∈l'.foldl (fun s _=>H6 s (Ja l s)) s)
 | [],s,u,z=>⟨u,z,fun _ h=>h,fun hlen x j=>by
     have I:=(aA9 u (Nj _) (fun x j=>rW (z x j))).2 (by show(TS l).length≤s.length;simpa using hlen);have m:=rW (Uz.1 j).1;unfold TS at m
     rw[←I]at m;exact m⟩
 |e::l',s,u,z=>by
  rw[Fa]
  have J:∀x∈H6 s (Ja l s),dM l x=true:=fun x j=>by
   rcases Rq.1 j with h|h
   ·exact z x h
   exact(Uz.1 h).1
  obtain⟨I,m,L,M⟩:=rU l l' (H6 s (Ja l s)) (aAb _ _) J;refine⟨I,m,fun x j=>L x (Rq.2 (.inl j)),fun hlen=>?_⟩;have q:=aA9 u (aAb s (Ja l s)) fun x j=>Rq.2 (.inl j);by_cases f:s=H6 s (Ja l s)
  ·
   have hst:∀(l':List AU),l'.foldl (fun s _=>H6 s (Ja l s)) s=s:=by
    intro l'
    induction l' with
    |nil=>rfl
    |cons e l' O=>rw[Fa,←f,O]
   rw[←f,hst];intro x j;rw[f];exact Rq.2 (.inr j)
  ·refine M ?_
   have :s.length<(H6 s (Ja l s)).length:=by
    rcases Yl s.length (H6 s (Ja l s)).length with h|h
    ·exact h
    exact absurd (q.2 h) f
   simp only[FK]at hlen;omega
def aBT (l:List AU) (ids:List Int):Inc (chainOf l ids):=(rU l l _ (aDV _ _) fun _ f=>(Uz.1 f).1).1
def amA {l:List AU} {ids:List Int} {x:Int} (h:x∈chainOf l ids):dM l x=true:=(rU l l _ (aDV _ _) fun _ f=>(Uz.1 f).1).2.1 x h
def aJI (l:List AU) (ids:List Int):∀(l':List AU) (s:List Int),(∀x∈s,JR l ids x)→∀x∈l'.foldl (fun s _=>H6 s (Ja l s)) s,JR l ids x
 | [],s,h=>h
 |e::l',s,h=>by
  rw[Fa];refine aJI l ids l' _ fun x f=>?_;rcases Rq.1 f with f|f
  ·exact h x f
  obtain⟨j,y,m,q⟩:=Uz.1 f;exact .more (h y m) q j
def bU {l:List AU} {ids:List Int} {x:Int}:x∈chainOf l ids↔JR l ids x:=by
 constructor
 ·refine aJI l ids l _ (fun x f=>?_) x;obtain⟨q,y,s,j⟩:=Uz.1 f;exact .one (W9.1 s).1 j q
 obtain⟨q,s,j,u⟩:=rU l l _ (aDV l (qN l ids)) fun _ f=>(Uz.1 f).1
 have hlen:(TS l).length≤(Ja l (qN l ids)).length+l.length:=by
  have :=Sj (l.map (·.Id));unfold TS;simp only[Ch]at this;omega
 have z:=u hlen;intro h
 induction h with
 |one h f m=>exact j _ (Uz.2 ⟨m,_,W9.2 ⟨h,anX f⟩,f⟩)
 |more h f m I=>exact z _ (Uz.2 ⟨m,_,I,f⟩)
def aAd (l:List AU) (ids:List Int):(chainOf l ids).length≤l.length:=by
 have f:=(aA9 (t:=TS l) (aBT l ids) (Nj _) fun x j=>rW (amA j)).1;have m:=Sj (l.map fun e:AU=>e.Id);unfold TS at f;simp only[Ch]at m;omega
def XZ (l:List AU):Prop:=∀e∈l,e.bJ.length≤40
def aGj {l:List AU} (h:XZ l) (id:Int):(jl l id).length≤40:=by
 unfold jl;cases f:EO l id with
 |none=>rw[SG f];exact EF _
 |some e=>rw[OQ f];exact h e (Jz f)
def yD {l:List AU} {r:List Int} (hi:Inc r) (h:∀x∈r,dM l x=true):r.length≤l.length:=by
 have f:=(aA9 (t:=TS l) hi (Nj _) fun x j=>rW (h x j)).1;have m:=Sj (l.map fun e:AU=>e.Id);unfold TS at f;simp only[Ch]at m;omega
section
variable {R A B C D E F G : Type} {Q : R → Prop}
def vT {body:(A→B→C→Option R)→A→B→C→Option R} (I:Nat→A→B→C→Prop) (u:∀m a b c k,I m a b c→(∀f a' j q,f<m→I f a' j q→gy (k a' j q) Q)→gy (body k a b c) Q):
 ∀n m a b c,m<n→I m a b c→gy (AA body n a b c) Q
 |0,m,_,_,_,h,_=>AL
 |n+1,m,a,b,c,h,hi=>u m a b c _ hi fun f a' j q h' s=>vT I u n f a' j q AL s
def aF3 {body:(A→B→C→D→E→Option R)→A→B→C→D→E→Option R} (I:Nat→A→B→C→D→E→Prop) (z:∀m a b c d e k,I m a b c d e→(∀f a' j q s e',f<m→I f a' j q s e'→gy (k a' j q s e') Q)→gy (body k a b c d e) Q):
 ∀n m a b c d e,m<n→I m a b c d e→gy (zC body n a b c d e) Q
 |0,m,_,_,_,_,_,h,_=>AL
 |n+1,m,a,b,c,d,e,h,hi=>z m a b c d e _ hi fun f a' j q s e' h' u=>aF3 I z n f a' j q s e' AL u
def aFA {body:(A→B→C→D→E→F→Option R)→A→B→C→D→E→F→Option R} (I:Nat→A→B→C→D→E→F→Prop) (L:∀m a b c d e f k,I m a b c d e f→(∀j a' q s u e' z,j<m→I j a' q s u e' z→gy (k a' q s u e' z) Q)→gy (body k a b c d e f) Q):
 ∀n m a b c d e f,m<n→I m a b c d e f→gy (CX body n a b c d e f) Q
 |0,m,_,_,_,_,_,_,h,_=>AL
 |n+1,m,a,b,c,d,e,f,h,hi=>L m a b c d e f _ hi fun j a' q s u e' z h' J=>aFA I L n j a' q s u e' z AL J
def aKJ {body:(A→B→C→D→E→F→G→Option R)→A→B→C→D→E→F→G→Option R} (I:Nat→A→B→C→D→E→F→G→Prop) (M:∀m a b c d e f g k,I m a b c d e f g→(∀j a' q s u e' z J,j<m→I j a' q s u e' z J→gy (k a' q s u e' z J) Q)→gy (body k a b c d e f g) Q):
 ∀n m a b c d e f g,m<n→I m a b c d e f g→gy (Wy body n a b c d e f g) Q
 |0,m,_,_,_,_,_,_,_,h,_=>AL
 |n+1,m,a,b,c,d,e,f,g,h,hi=>M m a b c d e f g _ hi fun j a' q s u e' z J h' L=>aKJ I M n j a' q s u e' z J AL L
end
def Pm {V:Type}:∀(m:List (Int×V)) (k k':Int) (v:V),Bv (DK m k v) k'=bif k'==k then some v else Bv m k'
 | [],k,k',v=>by
   unfold DK Bv;rfl
 |p::m,k,k',v=>by
  unfold DK;cases h:k==p.1 with
  |true=>
   have f:k=p.1:=Jf
   subst f;simp only[Bh,Bv];cases k'==p.1<;>rfl
  |false=>
   have f:k≠p.1:=Jf
   simp only[BO,Bv,Pm m k k' v];cases j:k'==p.1 with
   |true=>
    have q:k'=p.1:=Ou
    subst q;have :(p.1==k)=false:=by simpa using fun e:p.1=k=>f e.symm
    rw[this];rfl
   |false=>rfl
def WE (l:List AU) (m:List (Int×Int)):Prop:=∀id,(Bv m id=none∧EO l id=none)∨∃(n:Nat) (e:AU),Bv m id=some (n:Int)∧EO l id=some e∧l[n]? =some e
def WE.isSome {l:List AU} {m:List (Int×Int)} (h:WE l m) (id:Int):(Bv m id).isSome=dM l id:=by
 unfold dM;rcases h id with⟨f,j⟩|⟨n,e,f,j,_⟩<;>rw[f,j]<;>rfl
def WE.get {l:List AU} {m:List (Int×Int)} (h:WE l m) {id:Int} {e:AU} (j:EO l id=some e):BJ l ((Bv m id).getD 0)=some e:=by
 rcases h id with⟨_,f⟩|⟨n,e',q,f,s⟩
 ·rw[j]at f;cases f
 rw[j]at f;cases f;rw[q];show BJ l (n:Int)=_;rw[rO,s]
def uj (l:List AU) (hl:l.length≤1000):gy (XC l) (WE l):=by
 unfold XC adq
 refine YE (fun m a b=>∃i:Nat,a=(i:Int)-1∧m=i∧i≤l.length∧∀id,(Bv b id=none∧(l.drop i).find? (fun e=>e.Id==id)=none)∨∃(n:Nat) (e:AU),Bv b id=some (n:Int)∧(l.drop i).find? (fun e=>e.Id==id)=some e∧l[n]? =some e) ?_ BA l.length _ _ (fuel_lt AL)
  ⟨l.length,QF,rfl,Dw _,fun id=>.inl ⟨rfl,BK⟩⟩
 rintro m a b k ⟨i,rfl,I,hi,h⟩ s;unfold aKu;refine gy.bif (fun e=>?_) fun e=>?_
 ·have q:0<i:=by have :=PK e;omega
  have f:i-1<l.length:=AL
  have u:(i:Int)-1=((i-1:Nat):Int):=AL
  rw[u,DI f];simp only[Af];refine s (i-1) _ _ AL ⟨i-1,QF,rfl,AL,fun id=>?_⟩;rw[Pm,NI f,show i-1+1=i by omega,U3];cases j:l[i-1].Id==id with
  |true=>
   have :(id==l[i-1].Id)=true:=by have :l[i-1].Id=id:=Ou
                                  simp[this]
   rw[this];exact .inr ⟨i-1,l[i-1],rfl,rfl,WU⟩
  |false=>
   have :(id==l[i-1].Id)=false:=by have :l[i-1].Id≠id:=Ou
                                   simpa using fun e:id=l[i-1].Id=>this e.symm
   rw[this];exact h id
 have z:i=0:=by have :=JI e;omega
 subst z;refine .ret fun id=>?_;have :=h id;rw[jY]at this;exact this
inductive SY (l:List AU) (from_:List Int):Int→Prop
 |one {x:Int} (h:x∈from_) (hk:dM l x=true):SY l from_ x
 |more {y x:Int} (h:SY l from_ y) (hx:x∈jl l y) (hk:dM l x=true):SY l from_ x
def SY.dM {l:List AU} {f:List Int} {x:Int} (h:SY l f x):dM l x=true:=by cases h<;>assumption
def ahL {r:List Int} {x:Int} (h:x∉r):(put r x).length=r.length+1:=by
 unfold put;rw[D9 (by rw[LW];exact h),Dx,FK];have :=BR List.length (oW (p:=(decide<| · <x)) (l:=r));rw[Dx]at this;omega
def aht (r:List Int) (x:Int):Fj (r++[x])=put (Fj r) x:=by unfold Fj;rw[YQ];rfl
structure anE (l:List AU) (from_ next aoU:List Int) (i:Nat) (out later:List Int) (found level:List (Int×Bool)):Prop where
 found:∀x,(Bv found x).getD false=true↔x∈out
 level:∀x,(Bv level x).getD false=true→x∈out
 nodup:(Fj out).length=out.length
 rch:∀x∈out,SY l from_ x
 seen:∀x∈next.take i,dM l x=true→x∈out
 sub:∀x∈aoU,x∈out
 ref:∀y∈out,y∈aoU∨∀x∈jl l y,x∈later
 back:∀x∈later,∃y∈out,x∈jl l y
 size:later.length+40*aoU.length≤40*out.length
 same:out.length=aoU.length→later=[]
def aDo {l:List AU} {f:List Int} (h:(Fj f).length=f.length) (j:∀x∈f,dM l x=true):f.length≤l.length:=by
 rw[←h];exact yD (Nj f) fun x m=>j x (Kv.1 m)
def aoD (l:List AU) {x:Int} {e:AU} (h:EO l x=some e):Wn e=some (jl l x):=by
 unfold Wn jl;rw[OQ h]
def aee (l:List AU) (j:List Int) (hl:l.length≤1000) (ha:XZ l) (hf:j.length≤10000000):
 gy (qx l j fun a0=>Wn a0) (fun r=>Inc r∧∀x,x∈r↔SY l j x):=by
 unfold qx;refine(uj l hl).bind fun at_ U=>?_;unfold aaN
 refine aF3 (fun m s next at' found level=>at'=at_∧m=2*(l.length-s.length)+(if next=[]then 0 else 1)∧next.length≤10000000∧(∀x,(Bv found x).getD false=true↔x∈s)∧(Fj s).length=s.length∧
  (∀x∈s,SY l j x)∧(∀x∈next,dM l x=true→SY l j x)∧(∀x∈j,dM l x=true→x∈s∨x∈next)∧(∀y∈s,∀x∈jl l y,dM l x=true→x∈s∨x∈next)) ?_ BA (2*(l.length-([]:List Int).length)+(if j=[]then 0 else 1)) _ _ _ _ _ ?_ ?_
 ·rintro m s next at2 found level k ⟨Y,rfl,hn,h1,h2,h3,h4,h5,h6⟩ J;subst Y;unfold aJD;have hol:=aDo h2 fun x f=>(h3 x f).dM;refine gy.bif (fun e=>?_) fun e=>?_
  ·have hne:next≠[]:=by
    rintro rfl;simp at e
   unfold aMQ;refine aFA (body:=aCX next l (fun a0=>Wn a0) k) (fun(m:Nat) (o la:List Int) (c:Int) (d:List (Int×Int)) (fo le:List (Int×Bool))=>∃i:Nat,c=i∧i+m=next.length∧d=at2∧anE l j next s i o la fo le) ?_ BA next.length _ _ _ _ _ _ aAh ?_
   ·rintro m o la c d fo le k2 ⟨i,rfl,hm,rfl,q⟩ M;unfold aCX;refine gy.bif (fun e=>?_) fun e=>?_
    ·have hi:i<next.length:=PY
     have w:=wrap_succ i AL;have Z:=aDo q.nodup fun x f=>(q.rch x f).dM;rw[DI hi];simp only[Af];rw[U.isSome];unfold uP;have z:next.take (i+1)=next.take i++[next[i]]:=by rw[RD hi]
     cases O:dM l next[i]with
     |false=>
      simp only[Jm,Bh,Af,w];refine M (m-1) _ _ _ _ _ _ AL ⟨i+1,rfl,AL,rfl,{ q with seen:=fun x f J=>?_ }⟩;rw[z,Gf]at f;rcases f with f|f
      ·exact q.seen x f J
      rw[Ho.1 f,O]at J;cases J
     |true=>
      simp only[ES,BO,Af];by_cases L:next[i]∈o
      ·rw[(q.found next[i]).2 L];simp only[Bh,Af,w];refine M (m-1) _ _ _ _ _ _ AL ⟨i+1,rfl,AL,rfl,{ q with seen:=fun x f J=>?_ }⟩;rw[z,Gf]at f;rcases f with f|f
       ·exact q.seen x f J
       rw[Ho.1 f];exact L
      have f1:(Bv fo next[i]).getD false=false:=by
       cases h:(Bv fo next[i]).getD false with
       |false=>rfl
       |true=>exact absurd ((q.found _).1 h) L
      have f2:(Bv le next[i]).getD false=false:=by
       cases h:(Bv le next[i]).getD false with
       |false=>rfl
       |true=>exact absurd (q.level _ h) L
      rw[f1,f2];simp only[BO,Af];obtain⟨ev,hev⟩:=Rz.1 (show(EO l next[i]).isSome=true from O);rw[Et Ij];simp only[Af];rw[U.get hev];simp only[Af];rw[aoD l hev];simp only[Af];have hau:=aGj ha next[i];have hsz:=q.size;rw[Et AL];simp only[Af,w];refine M (m-1) _ _ _ _ _ _ AL ⟨i+1,rfl,AL,rfl,?_⟩;have hnx:SY l j next[i]:=h4 _ (Eh hi) O;refine⟨fun x=>?_,fun x f=>?_,?_,fun x f=>?_,fun x f J=>?_,fun x f=>aC8 _ (q.sub x f),fun y I=>?_,fun x f=>?_,?_,fun h=>?_⟩
      ·rw[Pm,Gf,Ho];cases f:x==next[i]with
       |true=>simp only[Bh,Lc,true_iff];exact .inr RJ
       |false=>simp only[BO];rw[q.found x];exact⟨.inl,fun h=>h.elim id fun h=>by simp[h]at f⟩
      ·rw[Pm]at f;rw[Gf,Ho];cases hxe:x==next[i]with
       |true=>exact .inr (by simpa using hxe)
       |false=>rw[hxe]at f;exact .inl (q.level x f)
      ·rw[aht,ahL (fun h=>L (Kv.1 h)),q.nodup];simp
      ·rcases Gf.1 f with f|f
       ·exact q.rch x f
       rw[Ho.1 f];exact hnx
      ·rw[z,Gf]at f;rcases f with f|f
       ·exact aC8 _ (q.seen x f J)
       exact aHG _ f
      ·rcases Gf.1 I with I|I
       ·exact(q.ref y I).imp id fun h x f=>aC8 _ (h x f)
       rw[Ho.1 I];exact .inr fun x f=>aHG _ f
      ·rcases Gf.1 f with f|f
       ·obtain⟨y,I,h⟩:=q.back x f;exact⟨y,aC8 _ I,h⟩
       exact⟨next[i],aHG _ (Ho.2 rfl),f⟩
      ·simp only[Dx,PE];omega
      have :=q.size;simp only[Dx,PE]at h;omega
    have hi:i=next.length:=by have :¬i<next.length:=PY
                              omega
    subst hi;have Z:=aDo q.nodup fun x f=>(q.rch x f).dM;have hsz:=q.size;refine J (2*(l.length-o.length)+(if la=[]then 0 else 1)) _ _ _ _ _ ?_ ⟨rfl,rfl,AL,q.found,q.nodup,q.rch,fun x f u=>?_,fun x f u=>?_,fun y I x f u=>?_⟩
    ·rw[D9 hne];have hle:s.length≤o.length:=AL
     rcases Yl s.length o.length with h|h
     ·split<;>omega
     have :=q.same AL;rw[Cb this];omega
    ·obtain⟨y,I,h⟩:=q.back x f;exact .more (q.rch y I) h u
    ·rcases h5 x f u with h|h
     ·exact .inl (q.sub x h)
     exact .inl (q.seen x (by rw[Jy];exact h) u)
    rcases q.ref y I with h|h
    ·rcases h6 y h x f u with h|h
     ·exact .inl (q.sub x h)
     exact .inl (q.seen x (by rw[Jy];exact h) u)
    exact .inr (h x f)
   exact⟨0,rfl,AL,rfl,⟨h1,fun x f=>by simp[Bv]at f,h2,h3,fun x f=>SH,fun _ h=>h,fun y I=>.inl I,fun x f=>(GR f).elim,BK,fun _=>rfl⟩⟩
  have hz:next=[]:=by
   cases next with
   |nil=>rfl
   |cons a b=>simp at e
  subst hz;rw[cu s AL];refine .ret ⟨Nj _,fun x=>?_⟩;rw[Kv];refine⟨h3 x,fun h=>?_⟩
  induction h with
  |one h u=>exact(h5 _ h u).elim id fun h=>(GR h).elim
  |more h f u ih=>exact(h6 _ ih _ f u).elim id fun h=>(GR h).elim
 ·have :BA=9223372036854775808:=rfl;split<;>(simp only[Nh];omega)
 exact⟨rfl,rfl,hf,fun x=>by simp[Bv],rfl,fun x f=>(GR f).elim,fun x f J=>.one f J,fun x f _=>.inr f,fun y I=>(GR I).elim⟩
def aIB (l:List AU) (ids:List Int) (hl:l.length≤1000) (ha:XZ l) (hi:ids.length≤100000):X0 l ids=some (chainOf l ids):=by
 refine gy.eq ?_;unfold X0;refine(uj l hl).bind fun at_ j=>?_;unfold aJk;rw[KI ids AL (fun r id=>r++jl l id) (fun i r=>r.length≤40*i) (fun r=>(qx l r fun a0=>Wn a0).bind fun u=>some u) BK]
 ·rw[foldl_append (jl l),J4]
  have hlen:(ids.flatMap (jl l)).length≤40*ids.length:=by
   have key:∀ids:List Int,(ids.flatMap (jl l)).length≤40*ids.length:=by
    intro ids
    induction ids with
    |nil=>simp
    |cons x ids s=>have :=aGj ha x;rw[KW,Dx,FK];omega
   exact key ids
  refine(aee l _ hl ha AL).bind fun r z=>.ret ?_;refine YU z.1 (aBT l ids) fun x=>(z.2 x).trans (Iff.trans ?_ bU.symm);constructor
  ·intro h
   induction h with
   |one h f=>
    obtain⟨i,hi,h⟩:=Qj.1 h;exact .one hi h f
   |more h m f s=>exact .more s m f
  intro h
  induction h with
  |one h m f=>exact .one (Qj.2 ⟨_,h,m⟩) f
  |more h m f s=>exact .more s m f
 ·intro k r i h J;have I:=aGj ha ids[i];refine⟨by simp only[Dx];omega,?_⟩;unfold aFo yO;rw[DW h,j.isSome];cases f:dM l ids[i]with
  |false=>
   have :jl l ids[i]=[]:=by
    unfold jl;rw[SG (by unfold dM at f;simpa using f)];rfl
   rw[this,S9];rfl
  |true=>
   obtain⟨ev,q⟩:=Rz.1 (show(EO l ids[i]).isSome=true from f);simp only[Bh];rw[j.get q];simp only[Af];have :jl l ids[i]=ev.bJ:=by unfold jl;rw[OQ q]
   rw[←this,Et AL];rfl
 intro k r _;unfold aFo;rw[EP]
def aDP :∀x:List UInt8,Op.bytesLess x x=false
 | []=>rfl
 |a::x=>by
  unfold Op.bytesLess;rw[aDP x];simp
def aMa :∀{x y z:List UInt8},Op.bytesLess x y=true→Op.bytesLess y z=true→Op.bytesLess x z=true
 |_,_,[],_,h=>aAN
 | [],_,_::_,_,_=>rfl
 |_::_,[],_::_,h,_=>aAN
 |a::x,b::y,c::z,h,k=>by
  simp only[Op.bytesLess,ZM,CP,Fl,PX]at h k ⊢;rcases h with h|⟨rfl,h⟩<;>rcases k with k|⟨rfl,k⟩
  ·exact .inl (UInt8.lt_trans h k)
  ·exact .inl h
  ·exact .inl k
  exact .inr ⟨rfl,aMa h k⟩
def aco :∀{x y:List UInt8},Op.bytesLess x y=false→Op.bytesLess y x=false→x=y
 | [],[],_,_=>rfl
 | [],_::_,h,_=>aAN
 |_::_,[],_,h=>aAN
 |a::x,b::y,h,k=>by
  simp only[Op.bytesLess,kC,aGE,X5,Y5]at h k;have e:a=b:=UInt8.le_antisymm (UInt8.not_lt.1 k.1) (UInt8.not_lt.1 h.1);subst e;have f:=h.2.resolve_left (fun h=>h rfl);have k2:=k.2.resolve_left (fun h=>h rfl);rw[aco f k2]
def FP (a b:Az):Bool:=decide (a.Kind<b.Kind)||(a.Kind==b.Kind&&Op.bytesLess a.Key.toList b.Key.toList)
def I7 (a b:Az):Bool:=a.Kind==b.Kind&&decide (a.Key=b.Key)
def agd (a:Az):FP a a=false:=by unfold FP;rw[aDP];simp
def abw {a b c:Az} (h:FP a b=true) (k:FP b c=true):FP a c=true:=by
 unfold FP at *;simp only[ZM,CP,Fl,PX]at *;rcases h with h|⟨j,f⟩<;>rcases k with k|⟨m,k2⟩
 ·exact .inl AL
 ·exact .inl AL
 ·exact .inl AL
 exact .inr ⟨AL,aMa f k2⟩
def UU {a b:Az}:I7 a b=true↔a.Kind=b.Kind∧a.Key=b.Key:=by unfold I7;simp
def abE {a b:Az} (h:FP a b=false) (k:FP b a=false):I7 a b=true:=by
 unfold FP at *;simp only[kC,aGE,X5,Y5]at *;have e:a.Kind=b.Kind:=AL
 rw[UU];exact⟨e,toList_inj (aco (h.2.resolve_left fun n=>n e) (k.2.resolve_left fun n=>n e.symm))⟩
def nE {a b:Az} (h:I7 a b=true):FP a b=false:=by
 obtain⟨f,j⟩:=UU.1 h;unfold FP;rw[f,j,aDP];simp
def jc {a b c:Az} (h:I7 a b=true):FP a c=FP b c∧FP c a=FP c b:=by
 obtain⟨f,j⟩:=UU.1 h;unfold FP;rw[f,j];exact⟨rfl,rfl⟩
def apf (a b:Az):qW a b=some (FP a b):=by
 unfold qW FP;cases f:decide (a.Kind<b.Kind)<;>cases j:a.Kind==b.Kind<;>rfl
def H7 (s:List Az) (e:Az):Nat:=s.findIdx fun x=> !FP x e
def Nw (s:List Az) (e:Az):Bool:=match s[H7 s e]? with
 |some x=>I7 x e
 |none=>false
def aGg (s:List Az) (e:Az):H7 s e≤s.length:=rG
def aK5 {s:List Az} {e:Az} (h:H7 s e<s.length):FP s[H7 s e] e=false:=by
 have :=List.findIdx_getElem (w:=h);unfold H7;simpa using this
def aeR (s:List Az) (k:Int) (key:ByteArray) (u:s.length≤1000000):lK s k key=some (((H7 s ⟨k,key,0⟩:Nat):Int),Nw s ⟨k,key,0⟩):=by
 unfold lK aHc ae4;generalize z:(⟨k,key,0⟩:Az)=e
 have j:bn (vk s (fun a0=>iU a0 e) (fun a0=>mV a0 e)) BA 0=some (((H7 s e:Nat):Int),Nw s e):=by
  rw[QH s (fuel_lt AL) (fun x=> !FP x e) (fun i=>some (((i:Nat):Int),match s[i]? with |some x=> !FP e x|none=>false)) (some (((s.length:Nat):Int),false))]
  ·split
   ·rename_i h;congr 2;unfold Nw H7;rw[Dl h];have m:FP s[s.findIdx fun x=> !FP x e] e=false:=aK5 h;show(!FP e s[s.findIdx fun x=> !FP x e])=I7 s[s.findIdx fun x=> !FP x e] e;cases f:FP e s[s.findIdx fun x=> !FP x e]with
    |false=>rw[abE m f];rfl
    |true=>
     cases q:I7 s[s.findIdx fun x=> !FP x e] e with
     |false=>rfl
     |true=>rw[(jc q).2,agd]at f;cases f
   rename_i h;have h':H7 s e=s.length:=by have :=aGg s e;unfold H7 at *;omega
   have f:Nw s e=false:=by unfold Nw;rw[h',Jp (Dw _)]
   rw[h',f]
  ·intro k2 i h;unfold vk;rw[DW h,DW h];simp only[iU,mV,apf,Af];rw[Dl h];cases FP s[i] e<;>rfl
  intro k2;unfold vk;rw[EP,EP];rfl
 rw[j];rfl
def I5 (s:List Az):Prop:=s.Pairwise fun a b=>FP a b=true
def GX (s:List Az) (k:Int) (key:ByteArray):Int×Bool:=match s.find? fun x=>I7 x ⟨k,key,0⟩with
 |some x=>(x.Id,true)
 |none=>(0,false)
def aoQ {s:List Az} (h:I5 s) (e:Az):s.find? (fun x=>I7 x e)=match s[H7 s e]? with |some x=>if I7 x e then some x else none|none=>none:=by
 induction s with
 |nil=>rfl
 |cons a s q=>
  have h':=PD.1 h;unfold H7;rw[U3,Ru];cases j:FP a e with
  |true=>
   have f:I7 a e=false:=by
    cases f:I7 a e with
    |false=>rfl
    |true=>rw[nE f]at j;cases j
   rw[f];simp only[ES,BO,zn];exact q h'.2
  |false=>
   simp only[Jm,Bh,aE9];cases f:I7 a e with
   |true=>rfl
   |false=>
    simp only[SE,Jl];refine aCe.2 fun x u z=>?_;have m:=h'.1 x u;rw[(jc z).2,j]at m;cases m
def aHQ (s:List Az) (k:Int) (key:ByteArray) (f:s.length≤1000000) (h:I5 s):YS s k key=some (GX s k key):=by
 unfold YS;rw[aeR s k key f];simp only[Af];unfold GX Nw;rw[aoQ h];by_cases hl:H7 s ⟨k,key,0⟩<s.length
 ·rw[Dl hl];simp only;cases j:I7 s[H7 s ⟨k,key,0⟩] ⟨k,key,0⟩with
  |true=>simp only[Bh,KD];rw[DI hl];rfl
  |false=>rfl
 rw[Jp AL];rfl
def Gq (s:List Az) (k:Int) (key:ByteArray) (id:Int):List Az:=
 s.take (H7 s ⟨k,key,0⟩)++⟨k,key,id⟩::s.drop (H7 s ⟨k,key,0⟩+bif Nw s ⟨k,key,0⟩then 1 else 0)
def alX {s:List Az} {e:Az} (h:Nw s e=true):H7 s e<s.length:=by
 unfold Nw at h;by_cases hl:H7 s e<s.length
 ·exact hl
 rw[Jp AL]at h;cases h
def aLk {α:Type} {l:List α} {i:Nat} (hi:i≤l.length):MS l 0 (i:Int)=some (l.take i):=by
 have :=aBg (l:=l) (lo:=0) (hi:=i) AL hi;simpa using this
def aIN {α:Type} {l:List α} {i:Nat} (hi:i≤l.length):MS l (i:Int) (l.length:Int)=some (l.drop i):=by
 rw[aBg (l:=l) (lo:=i) (hi:=l.length) hi AL];congr 1;exact Ns BK
def VY (s:List Az) (k:Int) (key:ByteArray) (id:Int) (j:s.length≤1000000):QL s k key id=some (Gq s k key id):=by
 unfold QL;rw[aeR s k key j];simp only[Af];have f:=aGg s ⟨k,key,0⟩;unfold zX Gq;rw[aLk f];simp only[Af];rw[Et E8];simp only[Af,J4];rw[Et E8];simp only[Af];cases m:Nw s ⟨k,key,0⟩with
 |true=>
  have hl:=alX m;simp only[Bh];rw[wrap_succ _ AL,aIN hl];simp only[Af];rw[Et E8];simp
 |false=>
  simp only[BO];rw[aIN f];simp only[Af];rw[Et E8];simp
def Rw (s:List Az) (k:Int) (key:ByteArray) (id:Int):(Gq s k key id).length≤s.length+1:=by
 unfold Gq;have :=aGg s ⟨k,key,0⟩;simp only[Dx,FK,Gx,Jc];omega
def ar7 {s:List Az} {e x:Az} (h:x∈s.take (H7 s e)):FP x e=true:=by
 obtain⟨i,hi,rfl⟩:=Hf h;have f:i<H7 s e:=by simp at hi;omega
 have :=List.not_of_lt_findIdx f;rw[aHy];simpa using this
def adW {s:List Az} (q:I5 s) {e x:Az} (h:x∈s.drop (H7 s e+bif Nw s e then 1 else 0)):FP e x=true:=by
 generalize j:(H7 s e+bif Nw s e then 1 else 0)=n at h;obtain⟨i,hi,rfl⟩:=Hf h;rw[List.getElem_drop];rw[Jc]at hi;by_cases hl:H7 s e<s.length
 ·have I:=aK5 hl;cases f:Nw s e with
  |true=>
   rw[f]at j;simp only[Bh]at j;have m:I7 s[H7 s e] e=true:=aeA
   rw[←(jc m).1];exact KQ.1 q _ _ hl AL AL
  |false=>
   rw[f]at j;simp only[BO,OM]at j;subst j;have m:I7 s[H7 s e] e=false:=aeA
   have u:FP e s[H7 s e]=true:=by
    cases h:FP e s[H7 s e]with
    |true=>rfl
    |false=>rw[abE I h]at m;cases m
   rcases XW i with z|z
   ·subst z;simpa using u
   exact abw u (KQ.1 q _ _ hl AL AL)
 omega
def U5 {s:List Az} (h:I5 s) (k:Int) (key:ByteArray) (id:Int):I5 (Gq s k key id):=by
 have m:I7 ⟨k,key,id⟩ ⟨k,key,0⟩=true:=UU.2 ⟨rfl,rfl⟩;unfold Gq I5;refine Zr.2 ⟨h.sublist (List.take_sublist ..),PD.2 ⟨fun x f=>?_,h.sublist (List.drop_sublist ..)⟩,fun x f y j=>?_⟩
 ·rw[(jc m).1];exact adW h f
 have q:FP x ⟨k,key,0⟩=true:=ar7 f;rcases Ew.1 j with rfl|j
 ·rw[(jc m).2];exact q
 exact abw q (adW h j)
structure Pe (l:List (List Az)):Prop where
 len:l.length≤100
 each:∀s∈l,s.length≤100∧I5 s
def KZ (l:List (List Az)) (x:Az):Bool:=l.all fun s=>(GX s x.Kind x.Key).2&&(GX s x.Kind x.Key).1==x.Id
def aqB (l:List (List Az)) (x:Az) (h:Pe l):xX l x=some (KZ l x):=by
 unfold xX aLy;rw[IC l (fuel_lt (by have :=h.len;omega)) (fun s=> !((GX s x.Kind x.Key).2&&(GX s x.Kind x.Key).1==x.Id)) false (some true)]
 ·unfold KZ;rw[JZ,ug]
 ·intro k i hi;obtain⟨j,f⟩:=h.each l[i] (Eh hi);unfold aCb;rw[DW hi,aHQ _ _ _ AL f];simp only[Af];cases(GX l[i] x.Kind x.Key).2<;>simp[bne]
 intro k;unfold aCb;rw[EP]
def JA (l:List (List Az)):List Az:=match l with
 | []=>[]
 |s::_=>s.filter (KZ l)
def QY (l:List (List Az)):List Int:=(l.flatMap fun s=>s.filter fun x=> !KZ l x).map (·.Id)
def VD (l:List (List Az)) (i:Nat):List Az:=if i=0 then[]else JA l
def OW (l:List (List Az)) (i:Nat):List Int:=((l.take i).flatMap fun s=>s.filter fun x=> !KZ l x).map (·.Id)
def ajL {l:List (List Az)} {i:Nat} (h:i<l.length):VD l (i+1)=VD l i++(if i=0 then l[i].filter (KZ l)else[]):=by
 unfold VD JA;cases l with
 |nil=>simp at h
 |cons s l=>cases i<;>simp
def aat {l:List (List Az)} {i:Nat} (h:i<l.length):OW l (i+1)=OW l i++(l[i].filter fun x=> !KZ l x).map (·.Id):=by
 unfold OW;rw[RD h,List.flatMap_append,I9];simp
def abI (l:List (List Az)):OW l l.length=QY l:=by unfold OW QY;rw[Jy]
def aiu (l:List (List Az)):VD l l.length=JA l:=by
 unfold VD;cases l with
 |nil=>rfl
 |cons s l=>simp
def aJo {l:List (List Az)} (h:Pe l) (i:Nat):(OW l i).length≤100*i:=by
 induction i with
 |zero=>simp[OW]
 |succ i f=>
  by_cases hi:i<l.length
  ·rw[aat hi,Dx,Ch];have :=(h.each _ (Eh hi)).1;have :=Nk (fun x=> !KZ l x) l[i];omega
  have :OW l (i+1)=OW l i:=by unfold OW;rw[Ns AL,Ns AL]
  rw[this];omega
def aDE {l:List (List Az)} (h:Pe l):(QY l).length≤10000:=by
 have :=aJo h l.length;rw[abI]at this;have :=h.len;omega
def aAr {l:List (List Az)} (h:Pe l):(JA l).length≤100:=by
 unfold JA;cases l with
 |nil=>exact EF _
 |cons s l=>exact Dn (Nk _ _) (h.each s (FB ..)).1
def acJ {l:List (List Az)} (h:Pe l):I5 (JA l):=by
 unfold JA;cases l with
 |nil=>exact .nil
 |cons s l=>exact(h.each s (FB ..)).2.sublist Um
def aa2 (l:List (List Az)) (h:Pe l):kX l=some (JA l,Fj (QY l)):=by
 have hlen:=h.len;refine gy.eq ?_;unfold kX aLQ;refine aFA (body:=aHB l) (fun(m:Nat) (a:List Az) (b:List Int) (c:Int) (d:List (List Az)) (_:List Az) (_:List Int)=>∃i:Nat,c=i∧i+m=l.length∧d=l∧a=VD l i∧b=OW l i) ?_ BA l.length [] [] 0 l [] [] (fuel_lt AL) ⟨0,rfl,AL,rfl,rfl,by simp[OW]⟩;rintro m a b c d e f k ⟨i,rfl,Z,rfl,rfl,rfl⟩ O;unfold aHB;refine gy.bif (fun hi=>?_) fun hi=>?_
 ·have hi:i<d.length:=FX
  have hs:=(h.each d[i] (Eh hi)).1;have U:=aJo h i;rw[DI hi];simp only[Af,jA];unfold acO
  refine aKJ (body:=aGq d[i] k (i:Int)) (fun(I:Nat) (a:List Az) (b:List Int) (c:Int) (s:List (List Az)) (_:List Az) (_:List Int) (g:Int)=>
   ∃j:Nat,c=j∧j+I=d[i].length∧s=d∧g=i∧a=VD d i++(if i=0 then(d[i].take j).filter (KZ d)else[])∧b=OW d i++((d[i].take j).filter fun x=> !KZ d x).map (·.Id)) ?_ BA d[i].length _ _ _ _ _ _ _ (fuel_lt AL) ⟨0,rfl,AL,rfl,rfl,BK,BK⟩
  rintro I a b c s e2 f2 g k2 ⟨j,rfl,Y,rfl,rfl,rfl,rfl⟩ z;unfold aGq;refine gy.bif (fun u=>?_) fun u=>?_
  ·have u:j<s[i].length:=Md
   have q:s[i].take (j+1)=s[i].take j++[s[i][j]]:=by rw[RD u]
   rw[DI u];simp only[Af];rw[aqB s _ h];simp only[Af];have w:=wrap_succ j AL;have J:=Nk (fun x=> !KZ s x) (s[i].take j);have L:=Nk (KZ s) (s[i].take j)
   have hst:(VD s i).length≤100:=by unfold VD;split; ·exact EF _
                                    ·exact aAr h
   rw[Gx]at J L;cases ha:KZ s s[i][j]with
   |false=>
    simp only[Jm,Bh];rw[Et (by simp only[Dx,Ch,PE];omega)];simp only[Af,w];refine z (I-1) _ _ _ _ _ _ _ AL ⟨j+1,rfl,AL,rfl,rfl,?_,?_⟩
    ·rw[q,Ws];simp[ha]
    rw[q,Ws];simp[ha]
   |true=>
    simp only[ES,BO];by_cases M:i=0
    ·subst M;simp only[show(((0:Nat):Int)==0)=true from rfl,Bh,KD];rw[Et Xe];simp only[Af,w];refine z (I-1) _ _ _ _ _ _ _ AL ⟨j+1,rfl,AL,rfl,rfl,?_,?_⟩
     ·rw[q,Ws];simp[ha]
     rw[q,Ws];simp[ha]
    have :((i:Int)==0)=false:=jg
    rw[this];simp only[BO,w];refine z (I-1) _ _ _ _ _ _ _ AL ⟨j+1,rfl,AL,rfl,rfl,?_,?_⟩
    ·simp[M]
    rw[q,Ws];simp[ha]
  have u:j=s[i].length:=by have :¬j<s[i].length:=Md
                           omega
  subst u;rw[wrap_succ i AL,Jy];exact O (m-1) _ _ _ _ _ _ AL ⟨i+1,rfl,AL,rfl,(ajL hi).symm,(aat hi).symm⟩
 have hi:i=d.length:=by have :¬i<d.length:=FX
                        omega
 subst hi;have :=aDE h;rw[abI,aiu,cu _ AL];exact .ret rfl
def Qd (s:List Az):List Int:=s.map (·.Id)
def F8 (l:List AU) (s:List Az):List Int:=H6 (Qd s) (chainOf l (Qd s))
def allOf (l:List AU) (f:List (List Az)):List Int:=f.foldl (fun a s=>H6 a (F8 l s)) []
def Jw (l:List AU) (f:List (List Az)) (x:Int):Nat:=f.countP fun s=>EZ (F8 l s) x
def O7 (l:List AU) (f:List (List Az)):List Int:=(allOf l f).filter fun x=>decide (Jw l f x<f.length)
def Iy (l:List AU) (f:List (List Az)):List Int:=H6 (Fj (QY f)) (O7 l f)
def aeD (l:List AU) (s:List Az):Inc (F8 l s):=aAb _ _
def aJ0 (s:List Az):(Qd s).length=s.length:=Ch _
def aEP (l:List AU) (s:List Az):(F8 l s).length≤s.length+l.length:=by
 have f:=aEI (Qd s) (chainOf l (Qd s));have j:=aAd l (Qd s);rw[aJ0]at f;unfold F8;omega
def aHD (l:List AU):∀(f:List (List Az)) (a:List Int),Inc a→Inc (f.foldl (fun a s=>H6 a (F8 l s)) a)∧∀x,x∈f.foldl (fun a s=>H6 a (F8 l s)) a↔x∈a∨∃s∈f,x∈F8 l s
 | [],a,h=>⟨h,fun x=>BK⟩
 |s::f,a,h=>by
  rw[Fa];obtain⟨m,q⟩:=aHD l f (H6 a (F8 l s)) (aAb _ _);refine⟨m,fun x=>(q x).trans ?_⟩;rw[Rq];constructor
  ·rintro((h|h)|⟨t,j,h4⟩)
   ·exact .inl h
   ·exact .inr ⟨s,FB ..,h⟩
   exact .inr ⟨t,G9 _ j,h4⟩
  rintro(h|⟨t,j,h4⟩)
  ·exact .inl (.inl h)
  rcases Ew.1 j with rfl|j
  ·exact .inl (.inr h4)
  exact .inr ⟨t,j,h4⟩
def akJ (l:List AU) (f:List (List Az)):Inc (allOf l f):=(aHD l f [] .nil).1
def aK2 {l:List AU} {f:List (List Az)} {x:Int}:x∈allOf l f↔∃s∈f,x∈F8 l s:=by
 unfold allOf;rw[(aHD l f [] .nil).2 x];simp
def asB (l:List AU) (f:List (List Az)):Inc (O7 l f):=(akJ l f).sublist Um
def cnt_lt {l:List AU} {f:List (List Az)} {x:Int}:Jw l f x<f.length↔∃s∈f,x∉F8 l s:=by
 unfold Jw;have h:=List.countP_le_length (p:=fun s=>EZ (F8 l s) x) (l:=f);have u:=List.countP_eq_length (p:=fun s=>EZ (F8 l s) x) (l:=f);constructor
 ·intro I;by_cases j:∀s∈f,EZ (F8 l s) x=true
  ·have :=u.2 j;omega
  simp only[Classical.not_forall]at j;obtain⟨s,m,q⟩:=j;exact⟨s,m,fun J=>q (LW.2 J)⟩
 rintro⟨s,m,q⟩;rcases Yl (f.countP fun s=>EZ (F8 l s) x) f.length with z|z
 ·exact z
 exact absurd (LW.1 (u.1 AL s m)) q
def acr {l:List AU} {f:List (List Az)} {x:Int}:x∈O7 l f↔(∃s∈f,x∈F8 l s)∧∃s∈f,x∉F8 l s:=by
 unfold O7;rw[G7,aK2,Fl,cnt_lt]
def aJT {f:List (List Az)} {x:Az}:KZ f x=true↔∀s∈f,(GX s x.Kind x.Key).2=true∧(GX s x.Kind x.Key).1=x.Id:=by
 unfold KZ;rw[Dk];simp
def aHP (l:List AU):∀(f:List (List Az)) (a:List Int),(∀s∈f,s.length≤100)→(f.foldl (fun a s=>H6 a (F8 l s)) a).length≤a.length+f.length*(100+l.length)
 | [],a,_=>BK
 |s::f,a,h=>by
  rw[Fa];have m:=aHP l f (H6 a (F8 l s)) fun t j=>h t (G9 _ j);have q:=aEI a (F8 l s);have u:=aEP l s;have z:=h s (FB ..);rw[FK,Sl];omega
def ap2 {l:List AU} {f:List (List Az)} (j:Pe f) (hl:l.length≤1000):(O7 l f).length≤110000:=by
 have m:=aHP l f [] fun s h=>(j.2 s h).1;have q:=j.1;have u:=Nk (fun x=>decide (Jw l f x<f.length)) (allOf l f);have z:f.length*(100+l.length)≤100*1100:=aCW q AL;unfold O7;unfold allOf at u ⊢;simp only[Nh]at m;omega
def arB {s:List Az} (h:I5 s) {x:Az} (u:x∈s):GX s x.Kind x.Key=(x.Id,true):=by
 unfold GX;cases q:s.find? (fun y=>I7 y ⟨x.Kind,x.Key,0⟩)with
 |none=>
  have :=aCe.1 q x u;unfold I7 at this;simp at this
 |some y=>
  have z:=zJ q;have L:=Ri q;have I:I7 y x=true:=by unfold I7 at z ⊢;exact z
  have :y=x:=by
   obtain⟨i,hi,rfl⟩:=Hf u;obtain⟨j,J,rfl⟩:=Hf L;rcases nX i j with f|f|f
   ·have m:=KQ.1 h i j hi J f;have M:I7 s[i] s[j]=true:=by obtain⟨a,b⟩:=UU.1 I;exact UU.2 ⟨a.symm,b.symm⟩
    rw[nE M]at m;cases m
   ·subst f;rfl
   have m:=KQ.1 h j i J hi f;rw[nE I]at m;cases m
  rw[this]
def aHZ {s:List Az} {k:Int} {key:ByteArray} {n:Int} (h:GX s k key=(n,true)):(⟨k,key,n⟩:Az)∈s:=by
 unfold GX at h;cases f:s.find? (fun y=>I7 y ⟨k,key,0⟩)with
 |none=>rw[f]at h;cases h
 |some y=>
  rw[f]at h;have m:I7 y ⟨k,key,0⟩=true:=by have :=zJ f;exact this
  have j:=UU.1 m;have q:=Ri f;obtain⟨a,b,c⟩:=y;cases h;simp only at j;rw[←j.1,←j.2];exact q
def anj {f:List (List Az)} {x:Az} (j:KZ f x=true) {s:List Az} (m:s∈f):x∈s:=by
 obtain⟨q,u⟩:=aJT.1 j s m;exact aHZ (s:=s) (k:=x.Kind) (key:=x.Key) (n:=x.Id) (by rw[←q,←u])
def ag9 {f:List (List Az)} (h:Pe f) {x:Az} (m:∀s∈f,x∈s):KZ f x=true:=
 aJT.2 fun s j=>by rw[arB (h.2 s j).2 (m s j)];exact⟨rfl,rfl⟩
def aMo {f:List (List Az)} (h:Pe f) (m:f≠[]) {x:Az}:x∈JA f↔∀s∈f,x∈s:=by
 cases f with
 |nil=>exact absurd rfl m
 |cons s f=>
  show x∈s.filter (KZ (s::f))↔_;rw[G7];exact⟨fun j t q=>anj j.2 q,fun j=>⟨j s (FB ..),ag9 h j⟩⟩
def aeN (l:List Int) (h:l.length≤1099511627776):((OD l).bind fun x=>(U9 x).bind fun y=>some y)=some (Fj l):=by
 unfold OD U9;have f:(Pg l).length≤1099511627776:=by rw[(Uw l).length_eq];exact h
 simp[h,aGp,aDM]
def anH (s:List Az):s.foldl (fun r x=>r++[x.Id]) []=Qd s:=by
 rw[foldl_append (fun x:Az=>[x.Id])];unfold Qd;rw[J4]
 induction s with
 |nil=>rfl
 |cons x s f=>rw[KW,f];rfl
def arv (l:List AU) (s:List Az) (hl:l.length≤1000) (ha:XZ l) (I:s.length≤100):aAw l s=some (F8 l s):=by
 unfold aAw
 have m:IK 8 (0:Int) 0 (s.length:Int)=some []:=by
  unfold IK;rw[Cb aBa];rfl
 rw[m];simp only[Af];unfold abb;rw[KI s AL (fun r x=>r++[x.Id]) (fun i r=>r.length≤i) (fun r=>(X0 l r).bind fun q=>(DU 8 r q).bind fun u=>(OD u).bind fun f=>(U9 f).bind fun j=>some j) BK]
 ·have J:=aAd l (Qd s);have L:=aJ0 s;rw[anH,aIB l _ hl ha AL];simp only[Af];rw[Et AL];simp only[Af];rw[aeN _ JL];unfold F8;rw[jM]
 ·intro k a i h z;refine⟨aEt,?_⟩;unfold aIE;rw[DW h,Et Ij];rfl
 intro k a z;unfold aIE;rw[EP]
def stepM (m:List (Int×Int)) (x:Int):List (Int×Int):=DK m x (BI (((Bv m x).getD 0)+1))
structure Ju (m:List (Int×Int)) (f:Int→Nat):Prop where
 nodup:(m.map (·.1)).Nodup
 find:∀x,Bv m x=if f x=0 then none else some (f x:Int)
def amu {m:List (Int×Int)} {k v y:Int}:y∈(DK m k v).map (·.1)↔y=k∨y∈m.map (·.1):=by
 induction m with
 |nil=>simp[DK]
 |cons p m f=>
  unfold DK;cases h:k==p.1 with
  |true=>
   have j:k=p.1:=Jf
   simp only[Bh,JD,Ew];rw[j];simp
  |false=>
   simp only[BO,JD,Ew,f];exact⟨fun h=>h.elim (fun e=>.inr (.inl e)) fun h=>h.elim .inl fun h=>.inr (.inr h),fun h=>h.elim (fun e=>.inr (.inl e)) fun h=>h.elim .inl fun h=>.inr (.inr h)⟩
def aqp {m:List (Int×Int)} {k v:Int} (h:(m.map (·.1)).Nodup):((DK m k v).map (·.1)).Nodup:=by
 induction m with
 |nil=>simp[DK]
 |cons p m s=>
  have h':=Jr.1 h;unfold DK;cases q:k==p.1 with
  |true=>
   have f:k=p.1:=KH
   simp only[Bh,JD];rw[f];exact h
  |false=>
   have f:k≠p.1:=KH
   simp only[BO,JD];refine Jr.2 ⟨fun j=>?_,s h'.2⟩;rcases amu.1 j with e|j
   ·exact f e.symm
   exact h'.1 j
def an4 (m:List (Int×Int)) (k v:Int):(DK m k v).length≤m.length+1:=by
 induction m with
 |nil=>simp[DK]
 |cons p m f=>
  unfold DK;cases k==p.1 with
  |true=>simp
  |false=>simp only[BO,FK];omega
def Ju.step {m:List (Int×Int)} {f:Int→Nat} (h:Ju m f) (x:Int) (s:f x≤1000000):Ju (stepM m x) (fun y=>f y+if y=x then 1 else 0):=by
 refine⟨aqp h.nodup,fun y=>?_⟩;unfold stepM;rw[Pm,h.find x]
 have e:BI (((if f x=0 then none else some (f x:Int)).getD 0)+1)=((f x+1:Nat):Int):=by
  by_cases j:f x=0
  ·rw[Cb j,j];rfl
  rw[D9 j];show BI ((f x:Int)+1)=_;exact wrap_succ _ AL
 by_cases q:y=x
 ·subst q;simp only[Vl,Bh,KD];rw[e,D9 AL]
 have :(y==x)=false:=KH
 rw[this];simp only[BO,D9 q,OM];exact h.find y
def Ju.fold:∀(c:List Int) {m:List (Int×Int)} {f:Int→Nat},c.Nodup→Ju m f→(∀x,f x≤1000)→Ju (c.foldl stepM m) (fun y=>f y+if y∈c then 1 else 0)
 | [],m,f,_,h,_=>by
   refine⟨h.nodup,fun x=>?_⟩;simp only[List.foldl_nil,GR,Jl,OM];exact h.find x
 |x::c,m,f,q,h,L=>by
  have j:=Jr.1 q
  have key:∀(c:List Int) (m:List (Int×Int)) (g:Int→Nat),c.Nodup→Ju m g→(∀x∈c,g x≤1000)→Ju (c.foldl stepM m) (fun y=>g y+if y∈c then 1 else 0):=by
   intro c
   induction c with
   |nil=>intro m g _ h _;refine⟨h.nodup,fun x=>?_⟩;simp only[List.foldl_nil,GR,Jl,OM];exact h.find x
   |cons z c M=>
    intro m g q h u;have j:=Jr.1 q
    have I:=M (stepM m z) (fun y=>g y+if y=z then 1 else 0) j.2 (h.step z (by have :=u z (FB ..);omega)) fun y J=>by
     have s:y≠z:=fun e=>j.1 (e▸J);simp only[D9 s,OM];exact u y (G9 _ J)
    refine⟨I.nodup,fun y=>?_⟩;rw[Fa,I.find y]
    have :(g y+if y=z then 1 else 0)+(if y∈c then 1 else 0)=g y+if y∈z::c then 1 else 0:=by
     by_cases e:y=z
     ·subst e;simp[j.1]
     simp[e]
    simp only[this]
  exact key (x::c) m f q h fun y _=>L y
def aDy :∀(c:List Int) (m:List (Int×Int)),(c.foldl stepM m).length≤m.length+c.length
 | [],m=>BK
 |x::c,m=>by
  have f:=aDy c (stepM m x);have j:=an4 m x (BI (((Bv m x).getD 0)+1));rw[Fa,FK];unfold stepM at f ⊢;omega
def bf {l:List Int} (h:Inc l):l.Nodup:=h.imp fun h=>AL
def Ju.mem {m:List (Int×Int)} {f:Int→Nat} (h:Ju m f) {x n:Int}:(x,n)∈m↔f x≠0∧n=f x:=by
 have key:∀m:List (Int×Int),(m.map (·.1)).Nodup→((x,n)∈m↔Bv m x=some n):=by
  intro m
  induction m with
  |nil=>intro _;simp[Bv]
  |cons p m z=>
   intro I;have j:=Jr.1 I;unfold Bv;rw[Ew];cases u:x==p.1 with
   |true=>
    have q:x=p.1:=Md
    simp only[Bh,Jq];constructor
    ·rintro(e|hm)
     ·rw[←e]
     exact absurd (F7.2 ⟨_,hm,q⟩) j.1
    intro e;left;rw[q,←e]
   |false=>
    have q:x≠p.1:=Md
    simp only[BO];rw[←z j.2];exact⟨fun h=>h.elim (fun e=>absurd (by rw[←e]) q) id,.inr⟩
 rw[key m h.nodup,h.find x];by_cases s:f x=0
 ·simp[s]
 rw[D9 s];simp only[Jq,ne_eq,s,not_false_eq_true,true_and];exact eq_comm
def aea {l:List Int} (h:l.Nodup):Pg l=Fj l:=by
 refine YU ?_ (Nj l) fun x=>by rw[Kv];exact(Uw l).mem_iff
 have f:=aB1 l;have j:(Pg l).Nodup:=(Uw l).nodup_iff.2 h;exact(f.and j).imp fun h=>AL
def aHE (n:Int):∀(m:List (Int×Int)) (r:List Int) (f:List (List Az)),(f.length:Int)=n→r.length+m.length≤1000000→List.foldlM (V4 f) r m=some (r++(m.filter fun p=>decide (p.2<n)).map (·.1))
 | [],r,f,_,_=>BK
 |p::m,r,f,j,s=>by
  simp only[FK]at s;have e:V4 f r p=(bif decide (p.2<n)then(DU 8 r [p.1]).bind fun q=>some q else some r):=by unfold V4;rw[j]
  rw[Ro,e];cases hd:decide (p.2<n)with
  |true=>
   simp only[Bh];rw[Et Ij];simp only[Af];show List.foldlM (V4 f) (r++[p.1]) m=_;rw[aHE n m (r++[p.1]) f j Xe,Vs,Cb hd];simp
  |false=>
   simp only[BO];show List.foldlM (V4 f) r m=_;rw[aHE n m r f j AL,Vs,D9 (by simp[hd])]
def acL (l:List AU) (f:List (List Az)) (x:Int):Jw l f x≤f.length:=List.countP_le_length
def Ju.of_eq {m:List (Int×Int)} {f g:Int→Nat} (h:Ju m f) (e:∀x,f x=g x):Ju m g:=⟨h.nodup,fun x=>by rw[h.find,e]⟩
def ah8 (l:List AU) (f:List (List Az)) (hl:l.length≤1000) (ha:XZ l) (J:Pe f):qJ l f=some (O7 l f):=by
 unfold qJ acA;have hsl:=J.len;rw[aDl (a0:=[]) f AL (fun m s=>(F8 l s).foldl stepM m) (fun i m=>Ju m (Jw l (f.take i))∧m.length≤1100*i) (fun v2=>(IK 8 (0:Int) 0 (v2.length:Int)).bind fun M=>(List.foldlM (V4 f) M v2).bind Zn) ⟨⟨Xj,fun x=>rfl⟩,EF _⟩]
 ·obtain⟨L,hlen⟩:Ju (f.foldl (fun m s=>(F8 l s).foldl stepM m) []) (Jw l f)∧(f.foldl (fun m s=>(F8 l s).foldl stepM m) []).length≤1100*f.length:=by
   have key:∀(b a:List (List Az)) (m:List (Int×Int)),(∀s∈b,s.length≤100)→a.length+b.length≤100→Ju m (Jw l a)→m.length≤1100*a.length→Ju (b.foldl (fun m s=>(F8 l s).foldl stepM m) m) (Jw l (a++b))∧(b.foldl (fun m s=>(F8 l s).foldl stepM m) m).length≤1100*(a.length+b.length):=by
    intro b
    induction b with
    |nil=>intro a m _ _ z I;simpa using⟨z,I⟩
    |cons s b ih=>
     intro a m hb O z I;rw[Fa,List.append_cons];have hc:=aEP l s;have q:=hb s (FB ..);have U:=aDy (F8 l s) m;simp only[FK]at O ⊢;have :=ih (a++[s]) ((F8 l s).foldl stepM m) (fun t ht=>hb t (G9 _ ht)) Xe ?_ Xe
     ·simpa[MH,P7 1]using this
     refine(Ju.fold (F8 l s) (bf (aeD l s)) z fun x=>by have :=acL l a x;omega).of_eq fun x=>?_;unfold Jw;rw[List.countP_append,List.countP_singleton];by_cases u:x∈F8 l s
     ·rw[Cb u,Cb (LW.2 u)]
     rw[D9 u,D9 (by rw[Ox.2 u];simp)]
   have :=key f [] [] (fun s h=>(J.each s h).1) (by simpa using J.len) ⟨Xj,fun x=>rfl⟩ (EF _);simpa using this
  generalize f.foldl (fun m s=>(F8 l s).foldl stepM m) []=m at L hlen
  have hm:IK 8 (0:Int) 0 (m.length:Int)=some []:=by
   unfold IK;rw[Cb aBa];rfl
  rw[hm];simp only[Af];rw[aHE (f.length:Int) m [] f rfl VU];simp only[Af,J4];have Y:((m.filter fun p=>decide (p.2<(f.length:Int))).map (·.1)).Nodup:=L.nodup.sublist (Um.map _);have hle:((m.filter fun p=>decide (p.2<(f.length:Int))).map (·.1)).length≤m.length:=by rw[Ch];exact Nk _ _
  unfold Zn OD;rw[Cb AL];simp only[Af];congr 1;rw[aea Y];refine YU (Nj _) (asB _ _) fun x=>?_;rw[Kv,F7];unfold O7;rw[G7,aK2];constructor
  ·rintro⟨⟨y,n⟩,Z,rfl⟩;rw[G7]at Z;obtain⟨z,I⟩:=L.mem.1 Z.1;have U:n<(f.length:Int):=by simpa using Z.2
   subst I;refine⟨?_,E8⟩;have :0<Jw l f y:=AL
   obtain⟨s,hs1,hs2⟩:=List.countP_pos_iff.1 this;exact⟨s,hs1,LW.1 hs2⟩
  rintro⟨⟨s,z,I⟩,U⟩;have h4:0<Jw l f x:=List.countP_pos_iff.2 ⟨s,z,LW.2 I⟩;refine⟨(x,(Jw l f x:Int)),G7.2 ⟨L.mem.2 ⟨AL,rfl⟩,?_⟩,rfl⟩;have h5:Jw l f x<f.length:=aBD
  simp;omega
 ·intro k m i h hI;have hc:=aEP l f[i];have q:=(J.each f[i] (Eh h)).1;refine⟨⟨?_,?_⟩,?_⟩
  ·refine(Ju.fold (F8 l f[i]) (bf (aeD l f[i])) hI.1 fun x=>by have :=acL l (f.take i) x;rw[Gx]at this;omega).of_eq fun x=>?_;rw[RD h];unfold Jw;rw[List.countP_append,List.countP_singleton];by_cases u:x∈F8 l f[i]
   ·rw[Cb u,Cb (LW.2 u)]
   rw[D9 u,D9 (by rw[Ox.2 u];simp)]
  ·have :=aDy (F8 l f[i]) m;have :=hI.2;omega
  unfold rF;rw[DW h,arv l _ hl ha q];simp only[Af];unfold aKR;rw[aDl (F8 l f[i]) AL stepM (fun _ _=>True) (fun v8=>k (BI ((i:Int)+1)) v8) trivial]
  ·intro k2 a j hj _;refine⟨trivial,?_⟩;unfold vO;rw[DW hj];rfl
  intro k2 a _;unfold vO;rw[EP]
 intro k m hI;unfold rF;rw[EP]
def aen (l:List AU) (f:List (List Az)) (hl:l.length≤1000) (ha:XZ l) (j:Pe f):xu l f=some (Iy l f):=by
 have m:=aDE j;have q:=Sj (QY f);have s:=ap2 j hl;unfold xu;rw[aa2 f j,ah8 l f hl ha j];simp only[Af];rw[Et AL];simp only[Af];rw[aeN _ JL];unfold Iy;rw[jM]
def EM (l:List AU):Prop:=∀e∈l,H8 e
def EM.ao1 {l:List AU} (h:EM l):XZ l:=fun e f=>(h e f).auth
def aI1 {R A α:Type} {body:(A→Int→Option R)→A→Int→Option R} (l:List α) (hl:l.length<BA) (p:α→Bool) (g:Nat→Option R) (rest:Option R) (a0:A)
 (q:∀k (i:Nat) (h:i<l.length),body k a0 (i:Int)=bif p l[i]then g i else k a0 (BI ((i:Int)+1))) (s:∀k,body k a0 (l.length:Int)=rest):
 aX body BA a0 0=if l.findIdx p<l.length then g (l.findIdx p)else rest:=by
 have I:BA=9223372036854775808:=rfl
 have key:∀n (i:Nat),i+n=l.length→∀m,n<m→aX body m a0 (i:Int)=if(l.drop i).findIdx p+i<l.length then g ((l.drop i).findIdx p+i)else rest:=by
  intro n
  induction n with
  |zero=>
   intro i hi m u;obtain⟨m,rfl⟩:∃j,m=j+1:=⟨m-1,AL⟩
   have :i=l.length:=AL
   subst this;show body (aX body m) _ _=_;rw[s,QG,D9 BK]
  |succ n z=>
   intro i hi m u;obtain⟨m,rfl⟩:∃j,m=j+1:=⟨m-1,AL⟩
   have f:i<l.length:=AL
   show body (aX body m) _ _=_;rw[q _ i f,wrap_succ i AL,z (i+1) AL m AL,NI f,Ru];cases p l[i]with
   |true=>simp only[Bh,Ie];rw[Cb f]
   |false=>
    simp only[BO];rw[show(l.drop (i+1)).findIdx p+(i+1)=(l.drop (i+1)).findIdx p+1+i by omega]
 have :=key l.length 0 AL BA hl;simpa using this
def Q5 {s:List Az} {k:Int} {key:ByteArray} {id:Int} {x:Az} (h:x∈Gq s k key id):x=⟨k,key,id⟩∨x∈s:=by
 unfold Gq at h;rcases Gf.1 h with h|h
 ·exact .inr (Zz h)
 rcases Ew.1 h with h|h
 ·exact .inl h
 exact .inr (aBo h)
def NJ (e:AU):List Az:=Gq (Gq (Gq [] 1 BZ 0) 3 BZ 0) 2 e.bC 0
def keysOf (e:AU):List Az:=
 bif e.Kind==1 then[]else bif e.Kind==2 then(bif e.Content.N==3||e.Content.N==1||e.Content.N==2 then Gq (Gq (NJ e) 2 e.Key 0) 4 BZ 0 else Gq (NJ e) 2 e.Key 0)else NJ e
def aaq (e:AU):(NJ e).length≤3:=by
 have f:=Rw [] 1 BZ 0;have j:=Rw (Gq [] 1 BZ 0) 3 BZ 0;have m:=Rw (Gq (Gq [] 1 BZ 0) 3 BZ 0) 2 e.bC 0;unfold NJ;simp only[Nh]at f;omega
def Zj (e:AU):(keysOf e).length≤5:=by
 have f:=aaq e;have j:=Rw (NJ e) 2 e.Key 0;have m:=Rw (Gq (NJ e) 2 e.Key 0) 4 BZ 0;unfold keysOf;cases e.Kind==1<;>cases e.Kind==2<;>cases(e.Content.N==3||e.Content.N==1||e.Content.N==2)<;>simp only[Bh,BO,Nh]<;>omega
def aKK (e:AU):jk e=some (keysOf e):=by
 have j:=aaq e;have m:=Rw (NJ e) 2 e.Key 0;have f:=Rw [] 1 BZ 0;have q:=Rw (Gq [] 1 BZ 0) 3 BZ 0;simp only[Nh]at f;unfold jk keysOf;rw[VY [] 1 BZ 0 BK];simp only[Af];rw[VY _ 3 BZ 0 AL];simp only[Af];rw[VY _ 2 e.bC 0 AL];simp only[Af];show(bif e.Kind==1 then some []else bif e.Kind==2 then(QL (NJ e) 2 e.Key 0).bind _ else ZL (NJ e))=_;rw[VY (NJ e) 2 e.Key 0 AL];simp only[Af];rw[VY _ 4 BZ 0 AL];unfold ZL;cases e.Kind==1<;>cases e.Kind==2<;>cases e.Content.N==3<;>cases e.Content.N==1<;>cases e.Content.N==2<;>rfl
def Ea (k:Az) (x:AU):Bool:=x.Kind==k.Kind&&decide (x.Key=k.Key)
def Rf (l:List AU) (e:AU):List AU:=(keysOf e).flatMap fun k=>((ofIds l e.bJ).find? (Ea k)).toList
def flat_length {α β:Type} {f:α→List β} {n:Nat} (h:∀x,(f x).length≤n):∀l:List α,(l.flatMap f).length≤n*l.length
 | []=>BK
 |x::l=>by
  have j:=h x;have m:=flat_length h l;rw[KW,Dx,FK,Nat.mul_succ];omega
def adB (l:List AU) (e:AU):(Rf l e).length≤5:=by
 have j:=flat_length (f:=fun k=>((ofIds l e.bJ).find? (Ea k)).toList) (n:=1) (fun k=>toList_le _) (keysOf e);have m:=Zj e;unfold Rf;omega
def aFy {l:List AU} {ids:List Int} {x:AU} (h:x∈ofIds l ids):x∈l:=by
 obtain⟨i,_,h⟩:=Qi.1 h;exact Jz h
def amQ {l:List AU} {e x:AU} (h:x∈Rf l e):x∈l:=by
 obtain⟨k,_,h⟩:=Qj.1 h;have :(ofIds l e.bJ).find? (Ea k)=some x:=Jf
 exact aFy (Ri this)
def I8 (x:Az):Qc:=⟨x.Kind,x.Key⟩
def aKT (e:AU):iD e=some ((keysOf e).map I8):=by
 unfold iD;rw[aKK];simp only[Af];have j:=Zj e;unfold abT;rw[KI (keysOf e) AL (fun r x=>r++[I8 x]) (fun i r=>r.length≤i) (fun r=>some r) (Dw _)]
 ·rw[foldl_append (fun x=>[I8 x]),J4];congr 1
  induction keysOf e with
  |nil=>rfl
  |cons x s f=>rw[KW,f];rfl
 ·intro k r i h m;refine⟨aEt,?_⟩;unfold aET;rw[DW h,Et Ij];rfl
 intro k r _;unfold aET;rw[EP]
def aaE (l:List AU) (p:AU→Bool):∀ids:List Int,(ofIds l ids).find? p=(ids.find? fun i=>match EO l i with |some x=>p x|none=>false).bind (EO l)
 | []=>rfl
 |i::ids=>by
  have f:=aaE l p ids;unfold ofIds at f ⊢;rw[Na,U3];cases j:EO l i with
  |none=>exact f
  |some x=>
   simp only;rw[U3];cases p x with
   |true=>exact j.symm
   |false=>exact f
def aMx (l:List AU) (e:AU) (hl:l.length≤1000) (s:e.bJ.length≤40):iL l e=some (Rf l e):=by
 unfold iL;rw[aKT];simp only[Af];have u:=Zj e;unfold aas;rw[KI (a0:=[]) ((keysOf e).map I8) aAE (fun r k=>r++((ofIds l e.bJ).find? fun x=>x.Kind==k.WO&&decide (x.Key=k.WQ)).toList) (fun i r=>r.length≤i) (fun r=>some r) (Dw _)]
 ·congr 1;rw[foldl_append (fun k:Qc=>((ofIds l e.bJ).find? fun x=>x.Kind==k.WO&&decide (x.Key=k.WQ)).toList),J4,List.flatMap_map];rfl
 ·intro k r i h z;have I:=toList_le ((ofIds l e.bJ).find? fun x=>x.Kind==((keysOf e).map I8)[i].WO&&decide (x.Key=((keysOf e).map I8)[i].WQ));refine⟨JL,?_⟩;have hi:i<5:=by rw[Ch]at h;omega
  unfold aIO;rw[DW h];generalize((keysOf e).map I8)[i]=K;unfold aKz
  rw[aI1 e.bJ (fuel_lt AL) (fun id=>match EO l id with |some x=>x.Kind==K.WO&&decide (x.Key=K.WQ)|none=>false)
   (fun j=>iO k (i:Int) (r++(match e.bJ[j]? with |some id=>(EO l id).toList|none=>[]))) (iO k (i:Int) r)]
  ·rw[aaE,O9];by_cases f:e.bJ.findIdx (fun id=>match EO l id with |some x=>x.Kind==K.WO&&decide (x.Key=K.WQ)|none=>false)<e.bJ.length
   ·rw[Cb f,Dl f];rfl
   rw[D9 f,Jp AL];simp only[Option.bind_none,Option.toList_none,S9];rfl
  ·intro k2 j m;unfold aGT;rw[DW m,NM l _ AL,Dl m];simp only[Af];cases q:EO l e.bJ[j]with
   |none=>rw[SG q];rfl
   |some x=>
    rw[OQ q];simp only[Bh,SS];unfold Uo;rw[Om];rw[Et Ij];cases x.Kind==K.WO<;>cases decide (x.Key=K.WQ)<;>rfl
  intro k2;unfold aGT;rw[EP]
 intro k r _;unfold aIO;rw[EP]
def gZ (c:ByteArray):D8:=bif !(c.toList==BZ.toList)then{ V9 with Users:=[⟨c,100⟩] }else V9
def SV (l:List AU):ByteArray:=match l.find? fun x=>x.Kind==1 with |some x=>x.bC|none=>BZ
def FI (l:List AU):D8:=match l.find? fun x=>x.Kind==3 with |some x=>x.Content.Levels|none=>gZ (SV l)
def ald (c:ByteArray):vS c=some (gZ c):=by
 unfold vS gZ Mid;cases c.toList==BZ.toList<;>rfl
def aIc (l:List AU) (k:Int) (hl:l.length≤1000):lH l k=some (if l.findIdx (fun e=>e.Kind==k)<l.length then((l.findIdx (fun e=>e.Kind==k):Nat):Int)else -1):=by
 unfold lH;rw[aBj l AL (fun a0=>tH a0 k) (fun e=>e.Kind==k) fun _=>rfl];rfl
def aHj (l:List AU) (hl:l.length≤1000) (q:EM l):aG l=some (FI l,SV l):=by
 have j:∀c,bK l c=some (match l.find? fun x=>x.Kind==3 with |some x=>x.Content.Levels|none=>gZ c,c):=by
  intro c;unfold bK;rw[aIc l 3 hl,O9];simp only[Af];by_cases h:l.findIdx (fun e=>e.Kind==3)<l.length
  ·rw[Cb h,show decide (((l.findIdx (fun e=>e.Kind==3):Nat):Int)≥0)=true by simp,DI h,Dl h];simp only[Bh,Af];have m:=q _ (Eh h);have s:=m.users;have u:=m.kinds;unfold yP yU;rw[Et VU,Et VU];rfl
  rw[D9 h,Jp AL,ald];rfl
 unfold aG;rw[aIc l 1 hl];simp only[Af];by_cases h:l.findIdx (fun e=>e.Kind==1)<l.length
 ·have f:SV l=l[l.findIdx (fun e=>e.Kind==1)].bC:=by unfold SV;rw[O9,Dl h]
  rw[Cb h,show decide (((l.findIdx (fun e=>e.Kind==1):Nat):Int)≥0)=true by simp,DI h];simp only[Bh,Af];rw[j,←f];rfl
 have f:SV l=BZ:=by unfold SV;rw[O9,Jp AL]
 rw[D9 h];show bK l BZ=_;rw[j,←f];rfl
def Em (v:D8) (u:ByteArray):Int:=match v.Users.find? fun x=>decide (x.User=u)with |some x=>x.N|none=>v.User
def Z4 (v:D8) (u:ByteArray) (h:v.Users.length≤1000):Qk v u=some (Em v u):=by
 unfold Qk abv Em;rw[QH v.Users (fuel_lt AL) (fun x=>decide (x.User=u)) (fun i=>some (match v.Users[i]? with |some x=>x.N|none=>0)) (some v.User)]
 ·rw[O9];by_cases h:v.Users.findIdx (fun x=>decide (x.User=u))<v.Users.length
  ·rw[Cb h,Dl h]
  rw[D9 h,Jp AL]
 ·intro k i h;unfold aCV;rw[DW h,Om,Dl h]
 intro k;unfold aCV;rw[EP]
def aBY {l:List AU} (h:EM l):(FI l).Users.length≤100∧(FI l).Kinds.length≤100:=by
 unfold FI;cases f:l.find? fun x=>x.Kind==3 with
 |some x=>
  have :=h x (Ri f);exact⟨this.users,this.kinds⟩
 |none=>
  simp only;unfold gZ;cases(SV l).toList==BZ.toList with
  |true=>
   show V9.Users.length≤100∧V9.Kinds.length≤100;exact⟨BX,BX⟩
  |false=>
   show 1≤100∧V9.Kinds.length≤100;exact⟨BX,BX⟩
def aDv (l:List AU) (e:AU):Int:=Em (FI (Rf l e)) e.bC
def EM.from {l:List AU} (h:EM l) (e:AU):EM (Rf l e):=fun x f=>h x (amQ f)
def agt (l:List AU) (e:AU) (hl:l.length≤1000) (f:EM l) (j:e.bJ.length≤40):Fn2 l e=some (aDv l e):=by
 have m:=adB l e;have q:=(aBY (f.from e)).1;unfold Fn2;rw[aMx l e hl j];simp only[Af];rw[aHj _ AL (f.from e)];simp only[Af];rw[Z4 _ _ AL];rfl
def Yq (e:AU):Bool:=bif e.Kind==2 then(e.Content.N==0||e.Content.N==4)&& !(decide (e.Key=e.bC))else e.Kind==3||e.Kind==4
def aqz (e:AU):vN e=some (Yq e):=by
 unfold vN ru Yq;rw[Om];by_cases j:e.Kind=2
 ·simp[j];cases e.Content.N==0<;>cases e.Content.N==4<;>rfl
 have f:(e.Kind==2)=false:=Ou
 rw[f];cases e.Kind==3<;>cases e.Kind==4<;>rfl
def aIy (l:List Int) (x:Int) (h:l.length≤1099511627776):kV l x=some (if l.findIdx (· ==x)<l.length then((l.findIdx (· ==x):Nat):Int)else -1):=by
 unfold kV aJA;rw[QH l (fuel_lt h) (· ==x) (fun i=>some (i:Int)) (some (-1))]
 ·split<;>rfl
 ·intro k i hi;unfold aH8;rw[DW hi];have :(x==l[i])=(l[i]==x):=by rw[Qa];simp only[PX];exact eq_comm
  rw[this]
 intro k;unfold aH8;rw[EP]
def abC (l:List Int) (x:Int):decide (l.findIdx (· ==x)<l.length)=EZ l x:=by
 rw[Qa,LW,Fl,Xp];exact⟨fun⟨y,f,j⟩=>by rw[←(by simpa using j:y=x)];exact f,fun h=>⟨x,h,BK⟩⟩
def o7 (l:List Int) (x:Int) (h:l.length≤1099511627776):Zg l x=some (EZ l x):=by
 unfold Zg;rw[aIy l x h,←abC];by_cases hl:l.findIdx (· ==x)<l.length
 ·rw[Cb hl,He hl];simp
 rw[D9 hl,Gv hl];rfl
def ad4 (l:List Int) (x:Int) (h:l.length≤1099511627776):dZ l x=some (EZ l x):=by
 unfold dZ;rw[o7 l x h];rfl
def ev (l:List AU) (id:Int):AU:=(IE l id).1
def X7 (l:List AU) (id:Int):Bool:=dM l id&&Yq (ev l id)
def Ce (l:List AU) (full:List Int):List Int:=full.filter (X7 l)
def VR (l:List AU) (full:List Int):List Int:=Fj (Ce l full++full.filter (EZ (chainOf l (Ce l full))))
def aGP {l:List AU} {full:List Int} {x:Int}:x∈VR l full↔x∈full∧(X7 l x=true∨JR l (Ce l full) x):=by
 unfold VR;rw[Kv,Gf,G7,LW,bU];unfold Ce;rw[G7];exact⟨fun h=>h.elim (fun h=>⟨h.1,.inl h.2⟩) fun h=>⟨h.1,.inr h.2⟩,fun⟨h,k⟩=>k.elim (fun k=>.inl ⟨h,k⟩) fun k=>.inr ⟨h,k⟩⟩
def ajF (l:List AU) (full:List Int):Inc (VR l full):=Nj _
def aH6 (p:Int→Bool):∀(S r:List Int),S.foldl (fun r x=>bif p x then r++[x]else r) r=r++S.filter p
 | [],r=>BK
 |x::S,r=>by
  rw[Fa,aH6 p S,Vs];cases p x<;>simp
def alx (l:List AU) (full:List Int) (hl:l.length≤1000) (q:EM l) (u:full.length≤120000) (f:(Ce l full).length≤100000):aAm l full=some (VR l full):=by
 unfold aAm aL5;rw[KI (a0:=[]) full AL (fun r x=>bif X7 l x then r++[x]else r) (fun i r=>r.length≤i) (fun r=>(X0 l r).bind fun j=>aDq full j r 0) (Dw _)]
 ·have s:full.foldl (fun r x=>bif X7 l x then r++[x]else r) []=Ce l full:=by rw[aH6];rfl
  have z:=aAd l (Ce l full);rw[s,aIB l _ hl q.ao1 f];simp only[Af];unfold aDq;rw[KI full AL (fun r x=>bif EZ (chainOf l (Ce l full)) x then r++[x]else r) (fun i r=>r.length≤(Ce l full).length+i) (fun r=>some (Fj r)) (Dw _)]
  ·rw[aH6];rfl
  ·intro k r i h m;refine⟨?_,?_⟩
   ·cases EZ (chainOf l (Ce l full)) full[i]with
    |false=>show r.length≤(Ce l full).length+(i+1);omega
    |true=>show(r++[full[i]]).length≤(Ce l full).length+(i+1);simp;omega
   unfold aF6 yC;rw[DW h,ad4 _ _ AL];simp only[Af];rw[Et Ij];cases EZ (chainOf l (Ce l full)) full[i]<;>rfl
  intro k r m;unfold aF6;rw[EP,cu _ AL];rfl
 ·intro k r i h m;refine⟨?_,?_⟩
  ·cases X7 l full[i]with
   |false=>show r.length≤i+1;omega
   |true=>show(r++[full[i]]).length≤i+1;simp;omega
  unfold aHV yX;rw[DW h,NM l _ AL];simp only[Af];rw[Et Ij];unfold X7 dM ev;rw[aqz,SP];cases(EO l full[i]).isSome<;>cases Yq (IE l full[i]).1<;>rfl
 intro k r _;unfold aHV;rw[EP]
def JR.awk {l:List AU} {ids:List Int} {i x:Int} (hi:i∈ids) (h:JR l [i] x):JR l ids x:=by
 induction h with
 |one h f j=>rw[Ho.1 h]at f;exact .one hi f j
 |more h f j m=>exact .more m f j
def JR.split {l:List AU} {ids:List Int} {x:Int}:JR l ids x↔∃i∈ids,JR l [i] x:=by
 constructor
 ·intro h
  induction h with
  |one h f j=>exact⟨_,h,.one (Ho.2 rfl) f j⟩
  |more h f j s=>obtain⟨i,m,q⟩:=s;exact⟨i,m,.more q f j⟩
 rintro⟨i,m,q⟩;exact .awk m q
def JR.dM {l:List AU} {ids:List Int} {x:Int} (h:JR l ids x):dM l x=true:=by cases h<;>assumption
def aLD (l:List AU) (full:List Int):(VR l full).length≤l.length:=
 yD (ajF l full) fun x f=>by
  rcases(aGP.1 f).2 with h|h
  ·unfold X7 at h;rw[CP]at h;exact h.1
  exact h.dM
def Eu (l:List AU) (id:Int):Oi:=⟨id,aDv l (ev l id),(ev l id).Time,chainOf l [id]⟩
def cO (l:List AU) (left:List Int) (x:Int):Bool:= !left.any fun y=>EZ (chainOf l [x]) y
def jy (a b:Oi):Bool:=bif a.FQ != b.FQ then decide (a.FQ>b.FQ)else decide (a.yS<b.yS)
def Ik (l:List AU) (left:List Int) (b:Option Int) (x:Int):Option Int:=bif cO l left x&&(match b with |none=>true|some y=>jy (Eu l x) (Eu l y))then some x else b
def XH (l:List AU) (left:List Int):Option Int:=left.foldl (Ik l left) none
def vV (l:List AU):Nat→List Int→List Int
 |0,_=>[]
 |n+1,left=>match XH l left with
  |none=>[]
  |some b=>b::vV l n (left.filter (· != b))
def adX (l:List AU):∀ids:List Int,ids.flatMap (fun id=>bif dM l id then[Eu l id]else[])=(ids.filter (dM l)).map (Eu l)
 | []=>rfl
 |i::ids=>by
  rw[KW,adX l ids,Vs];cases dM l i<;>simp
def ajK (l:List AU) (ids:List Int) (hl:l.length≤1000) (j:EM l) (hi:ids.length≤100000):wz l ids=some ((qN l ids).map (Eu l)):=by
 unfold wz;rw[cu ids AL];simp only[Af];have q:=Sj ids;unfold aJc;rw[KI (a0:=[]) (Fj ids) AL (fun r id=>r++bif dM l id then[Eu l id]else[]) (fun i r=>r.length≤i) (fun r=>some r) (Dw _)]
 ·rw[foldl_append (fun id=>bif dM l id then[Eu l id]else[]),J4,adX];rfl
 ·intro k r i h u;refine⟨?_,?_⟩
  ·cases dM l (Fj ids)[i]<;>simp <;>omega
  unfold aFY zD;rw[DW h,NM l _ AL];simp only[Af];unfold dM;cases f:EO l (Fj ids)[i]with
  |none=>rw[SG f];simp
  |some e=>
   have s:=j e (Jz f);have m:ev l (Fj ids)[i]=e:=by unfold ev;rw[OQ f]
   rw[OQ f];simp only[Bh,Option.isSome_some];rw[agt l e hl j s.auth,aIB l _ hl j.ao1 BK];simp only[Af];rw[Et Ij];unfold Eu;rw[m];rfl
 intro k r _;unfold aFY;rw[EP]
def aJu (l:List AU) (left:List Int):∀(c:List Int) (b:Option Int) {x:Int},c.foldl (Ik l left) b=some x→b=some x∨x∈c
 | [],b,x,h=>.inl h
 |y::c,b,x,h=>by
  rw[Fa]at h;rcases aJu l left c _ h with f|f
  ·have key:∀c:Bool,(bif c then some y else b)=some x→b=some x∨x=y:=fun c j=>by
    cases c with
    |true=>simp only[Bh,Jq]at j;exact .inr j.symm
    |false=>exact .inl j
   rcases key _ f with m|m
   ·exact .inl m
   exact .inr (m▸FB ..)
  exact .inr (G9 _ f)
def aiL {l:List AU} {left:List Int} {x:Int} (h:XH l left=some x):x∈left:=by
 rcases aJu l left left none h with h|h
 ·cases h
 exact h
def aeF {left:List Int} (s:left.Nodup) {j:Nat} (u:j<left.length):left.take j++left.drop (j+1)=left.filter (· != left[j]):=by
 have e:left=left.take j++left[j]::left.drop (j+1):=by rw[←NI u,VF]
 have f:(left.take j++left[j]::left.drop (j+1)).Nodup:=by rw[←e];exact s
 have q:=jX.1 f;have z:=Jr.1 q.2.1
 have I:(left.take j).filter (· != left[j])=left.take j:=pI.2 fun x m=>by
  have :=q.2.2 x m left[j] (FB ..);simpa using this
 have J:(left.drop (j+1)).filter (· != left[j])=left.drop (j+1):=pI.2 fun x m=>by
  have :x≠left[j]:=fun e=>z.1 (e▸m);simpa using this
 have :(left.take j++left[j]::left.drop (j+1)).filter (· != left[j])=left.take j++left.drop (j+1):=by
  rw[Ws,Vs,I,J];simp
 rw[←e]at this;exact this.symm
def aoX {left:List Int} (f:left.Nodup) {b:Int} (m:b∈left):(left.filter (· != b)).length+1=left.length:=by
 obtain⟨j,q,rfl⟩:=Hf m;rw[←aeF f q,Dx,Gx,Jc];omega
def ahc (l:List AU) (hl:l.length≤1000):∀(m:Nat) (left f:List Int) (N:Nat),left.length=m→Inc left→(∀x∈left,dM l x=true)→f.length+left.length≤1000000→m<N→aX VP N (left.map (Eu l)) f=some (f++vV l m left):=by
 intro m
 induction m with
 |zero=>
  intro left f N hm hi hk hacc hN;obtain⟨N,rfl⟩:∃N',N=N'+1:=⟨N-1,AL⟩
  have :left=[]:=GY hm;subst this;show VP _ _ _=_;unfold VP vV;simp
 |succ m ih=>
  intro left f N hm hi hk hacc hN;obtain⟨N,rfl⟩:∃N',N=N'+1:=⟨N-1,AL⟩
  have hll:=yD hi hk;refine gy.eq ?_;show gy (VP (aX VP N) _ _) _;have ih':=fun Y acc' h1 h2 h3 h4=>ih Y acc' N h1 h2 h3 h4 AL;generalize aX VP N=K at ih';unfold VP;rw[show decide (((left.map (Eu l)).length:Int)>0)=true by rw[Ch];simp;omega];simp only[Bh];unfold aK7;refine vT (body:=aFJ (left.map (Eu l)) K) (fun m2 a b c=>∃i:Nat,b=i∧i+m2=left.length∧c=f∧((a= -1∧(left.take i).foldl (Ik l left) none=none)∨∃(j:Nat) (u:j<left.length),a=(j:Int)∧(left.take i).foldl (Ik l left) none=some left[j])) ?_ BA left.length (-1) 0 f (fuel_lt AL) ⟨0,rfl,AL,rfl,.inl ⟨rfl,rfl⟩⟩;rintro m2 a b c k ⟨i,rfl,hm2,rfl,hI⟩ z;unfold aFJ;by_cases I:i<left.length
  ·have M:i<(left.map (Eu l)).length:=by rw[Ch];exact I
   rw[dec_lt M,DI M,TD];simp only[Bh,Af]
   have hst:(left.take (i+1)).foldl (Ik l left) none=Ik l left ((left.take i).foldl (Ik l left) none) left[i]:=by
    rw[RD I,YQ];rfl
   unfold aJs;have hc:=aAd l [left[i]]
   have hin:∀(k2:Int→Int→List Int→Option (List Int)),aX (Vf (left.map (Eu l)) (Eu l left[i]) k2 (i:Int) a) BA 0 c=bif cO l left left[i]then(bif decide (a<0)then Wj k2 (i:Int) a true c else(BJ (left.map (Eu l)) a).bind fun Z=>(ZB (Eu l left[i]) Z).bind fun x28=>Wj k2 (i:Int) a x28 c)else Yb k2 (i:Int) a c:=by
    intro k2
    have key:∀n (j:Nat),j+n=left.length→∀m,n<m→aX (Vf (left.map (Eu l)) (Eu l left[i]) k2 (i:Int) a) m (j:Int) c=bif !(left.drop j).any (fun y=>EZ (chainOf l [left[i]]) y)then(bif decide (a<0)then Wj k2 (i:Int) a true c else(BJ (left.map (Eu l)) a).bind fun Z=>(ZB (Eu l left[i]) Z).bind fun x28=>Wj k2 (i:Int) a x28 c)else Yb k2 (i:Int) a c:=by
     intro n
     induction n with
     |zero=>
      intro j u m hm;obtain⟨m,rfl⟩:∃m',m=m'+1:=⟨m-1,AL⟩
      have :j=left.length:=AL
      subst this;show Vf _ _ _ _ _ _ _ _=_;unfold Vf;rw[show decide ((left.length:Int)<((left.map (Eu l)).length:Int))=false by rw[Ch];exact EH _,QG];rfl
     |succ n ihn=>
      intro j u m hm;obtain⟨m,rfl⟩:∃m',m=m'+1:=⟨m-1,AL⟩
      have hjl:j<left.length:=AL
      have ayo:j<(left.map (Eu l)).length:=by rw[Ch];exact hjl
      have O:=ihn (j+1) AL m AL;show Vf _ _ _ _ _ (aX _ m) _ _=_;generalize aX (Vf (left.map (Eu l)) (Eu l left[i]) k2 (i:Int) a) m=L at O;unfold Vf;rw[DW ayo,TD];show((dZ (chainOf l [left[i]]) left[j]).bind _)=_;rw[ad4 _ _ AL,wrap_succ j AL,NI hjl,YA];simp only[Af];cases EZ (chainOf l [left[i]]) left[j]with
      |true=>rfl
      |false=>
       simp only[BO,KU];exact O
    exact key left.length 0 AL BA (fuel_lt AL)
   rw[hin];have hw:=wrap_succ i AL;unfold Wj Yb;rw[hw];cases J:cO l left left[i]with
   |false=>
    simp only[BO];refine z (m2-1) _ _ _ AL ⟨i+1,rfl,AL,rfl,?_⟩;have e:Ik l left ((left.take i).foldl (Ik l left) none) left[i]=(left.take i).foldl (Ik l left) none:=by unfold Ik;rw[J];rfl
    rw[hst,e];exact hI
   |true=>
    simp only[Bh];rcases hI with⟨rfl,U⟩|⟨j,u,rfl,U⟩
    ·rw[show decide ((-1:Int)<0)=true by decide];simp only[Bh];refine z (m2-1) _ _ _ AL ⟨i+1,rfl,AL,rfl,.inr ⟨i,I,rfl,?_⟩⟩;rw[hst,U];unfold Ik;rw[J];rfl
    have q:j<(left.map (Eu l)).length:=by rw[Ch];exact u
    rw[show decide ((j:Int)<0)=false by simp,DI q,TD];simp only[BO,Af]
    have e1:ZB (Eu l left[i]) (Eu l left[j])=some (jy (Eu l left[i]) (Eu l left[j])):=by
     unfold ZB jy;cases(Eu l left[i]).FQ != (Eu l left[j]).FQ<;>rfl
    rw[e1];simp only[Af];cases ha:jy (Eu l left[i]) (Eu l left[j])with
    |true=>
     simp only[Bh];refine z (m2-1) _ _ _ AL ⟨i+1,rfl,AL,rfl,.inr ⟨i,I,rfl,?_⟩⟩;rw[hst,U];unfold Ik;rw[J];simp only[ha];rfl
    |false=>
     simp only[BO];refine z (m2-1) _ _ _ AL ⟨i+1,rfl,AL,rfl,.inr ⟨j,u,rfl,?_⟩⟩;rw[hst,U];unfold Ik;rw[J];simp only[ha];rfl
  have hie:i=left.length:=AL
  subst hie;rw[show decide ((left.length:Int)<((left.map (Eu l)).length:Int))=false by rw[Ch];exact EH _];simp only[BO];rw[Jy]at hI;have s:vV l (m+1) left=match XH l left with |none=>[]|some b=>b::vV l m (left.filter (· != b)):=rfl
  rcases hI with⟨rfl,U⟩|⟨j,u,rfl,U⟩
  ·rw[show decide ((-1:Int)<0)=true by decide];refine .ret ?_;have h1:XH l left=none:=U;rw[s,h1];simp
  have q:j<(left.map (Eu l)).length:=by rw[Ch];exact u
  rw[show decide ((j:Int)<0)=false by simp,DI q,TD];simp only[BO,Af];have h1:XH l left=some left[j]:=U;rw[Et Ij];simp only[Af];rw[aLk (Nat.le_of_lt q),wrap_succ j AL,aIN q];simp only[Af];rw[Et (by rw[Gx,Jc,Ch];omega)];simp only[Af]
  have e2:(left.map (Eu l)).take j++(left.map (Eu l)).drop (j+1)=(left.filter (· != left[j])).map (Eu l):=by
   rw[←aeF (bf hi) u,I9,WY,Y6]
  rw[e2];have hwl:=aoX (bf hi) (Eh u);rw[ih' (left.filter (· != left[j])) (c++[(Eu l left[j]).lg]) AL (hi.sublist Um) (fun x hx=>hk x ((G7.1 hx).1)) Xe];refine .ret ?_;rw[s,h1,Gu];rfl
def agw (l:List AU) (ids:List Int) (hl:l.length≤1000) (j:EM l) (hi:ids.length≤100000):aAe l ids=some (vV l (qN l ids).length (qN l ids)):=by
 have m:(qN l ids).length≤l.length:=yD (aEa l ids) fun x f=>(W9.1 f).2;unfold aAe;rw[ajK l ids hl j hi];simp only[Af];unfold aMe;rw[ahc l hl _ (qN l ids) [] BA rfl (aEa l ids) (fun x f=>(W9.1 f).2) VU (fuel_lt AL)];rfl
def adQ {R A B C D:Type} {Q:R→Prop} {body:(A→B→C→D→Option R)→A→B→C→D→Option R} (I:Nat→A→B→C→D→Prop) (z:∀m a b c d k,I m a b c d→(∀f a' j q s,f<m→I f a' j q s→gy (k a' j q s) Q)→gy (body k a b c d) Q):
 ∀n m a b c d,m<n→I m a b c d→gy (Wx body n a b c d) Q
 |0,m,_,_,_,_,h,_=>AL
 |n+1,m,a,b,c,d,h,hi=>z m a b c d _ hi fun f a' j q s h' u=>adQ I z n f a' j q s AL u
def Ic {l:List AU} {x:Int} (h:dM l x=true):EO l x=some (ev l x)∧(ev l x).Id=x:=by
 unfold dM at h;obtain⟨e,f⟩:=Rz.1 h;have :ev l x=e:=by unfold ev;rw[OQ f]
 rw[this];exact⟨f,aa9 f⟩
def aDw (l:List AU):∀(n:Nat) (left:List Int) {x:Int},x∈vV l n left→x∈left
 |0,_,_,h=>absurd h GR
 |n+1,left,x,h=>by
  unfold vV at h;cases f:XH l left with
  |none=>rw[f]at h;exact absurd h GR
  |some b=>
   rw[f]at h;rcases Ew.1 h with rfl|h
   ·exact aiL f
   exact(G7.1 (aDw l n _ h)).1
def aeY (l:List AU):∀(n:Nat) (left:List Int),(vV l n left).length≤n
 |0,_=>Dw _
 |n+1,left=>by
  unfold vV;cases XH l left with
  |none=>exact EF _
  |some b=>have :=aeY l n (left.filter (· != b));simp only[FK];omega
def Nl (l:List AU) (e:AU):Option Int:=e.bJ.find? fun id=>dM l id&&(ev l id).Kind==3
def aC4 (l:List AU) (e:AU):Int×Bool:=match Nl l e with |some x=>(x,true)|none=>(0,false)
def aeH (l:List AU) (e:AU) (hl:l.length≤1000) (f:e.bJ.length≤40):pJ l e=some (aC4 l e):=by
 unfold pJ aa5;rw[QH e.bJ (fuel_lt AL) (fun id=>dM l id&&(ev l id).Kind==3) (fun i=>some (match e.bJ[i]? with |some x=>(x,true)|none=>(0,false))) (some (0,false))]
 ·unfold aC4 Nl;rw[O9];by_cases h:e.bJ.findIdx (fun id=>dM l id&&(ev l id).Kind==3)<e.bJ.length
  ·rw[Cb h]
  rw[D9 h,Jp AL]
 ·intro k i h;unfold aG2;rw[DW h,NM l _ AL,Dl h];simp only[Af];unfold dM ev;rw[SP];cases(EO l e.bJ[i]).isSome<;>rfl
 intro k;unfold aG2;rw[EP]
def Ap (l:List AU):Nat→List Int→Int→List Int
 |0,seen,_=>seen
 |n+1,seen,id=>bif EZ seen id|| !dM l id then seen else match Nl l (ev l id)with
  |none=>seen++[id]
  |some x=>Ap l n (seen++[id]) x
def bI (l:List AU) (id:Int):List Int:=Ap l l.length [] id
structure SC (l:List AU) (seen:List Int):Prop where
 nodup:seen.Nodup
 known:∀x∈seen,dM l x=true
def SC.length {l:List AU} {seen:List Int} (h:SC l seen):seen.length≤l.length:=by
 rw[←(Uw seen).length_eq,aea h.nodup];exact yD (Nj _) fun x f=>h.known x (Kv.1 f)
def SC.snoc {l:List AU} {seen:List Int} (h:SC l seen) {id:Int} (j:id∉seen) (m:dM l id=true):SC l (seen++[id]):=by
 refine⟨jX.2 ⟨h.nodup,BK,fun a ha b q=>?_⟩,fun x f=>?_⟩
 ·rw[Ho.1 q];exact fun e=>j (e▸ha)
 rcases Gf.1 f with f|f
 ·exact h.known x f
 rw[Ho.1 f];exact m
def aJv (l:List AU):∀(n:Nat) (seen:List Int) (id:Int),SC l seen→SC l (Ap l n seen id)
 |0,_,_,h=>h
 |n+1,seen,id,h=>by
  unfold Ap;cases f:EZ seen id|| !dM l id with
  |true=>exact h
  |false=>
   rw[kC,Ox]at f;have j:=h.snoc f.1 (by simpa using f.2);simp only[BO];cases Nl l (ev l id)with
   |none=>exact j
   |some x=>exact aJv l n _ x j
def aJX (l:List AU):∀(n:Nat) (seen:List Int) (id:Int),∃t,Ap l n seen id=seen++t
 |0,seen,_=>⟨[],by simp[Ap]⟩
 |n+1,seen,id=>by
  unfold Ap;cases EZ seen id|| !dM l id with
  |true=>exact⟨[],BK⟩
  |false=>
   simp only[BO];cases Nl l (ev l id)with
   |none=>exact⟨[id],rfl⟩
   |some x=>
    obtain⟨t,f⟩:=aJX l n (seen++[id]) x;exact⟨id::t,by simp only[f,Gu];rfl⟩
def arQ (l:List AU) (id:Int):(bI l id).length≤l.length:=(aJv l _ [] id ⟨Xj,fun x f=>absurd f GR⟩).length
def asa (l:List AU) (hl:l.length≤1000) (U:EM l) (Y Z:List Int):∀(m:Nat) (seen:List Int) (id:Int) (N:Nat),seen.length+m=l.length→SC l seen→m<N→CX WM N seen seen Y Z id l=some (Ap l m seen id):=by
 intro m
 induction m with
 |zero=>
  intro seen id N hm q hN;obtain⟨N,rfl⟩:∃N',N=N'+1:=⟨N-1,AL⟩
  have u:=q.length;show WM _ _ _ _ _ _ _=_;unfold WM;rw[o7 _ _ AL,NM l _ AL];simp only[Af];rw[SP];cases z:EZ seen id with
  |true=>rfl
  |false=>
   cases j:(EO l id).isSome with
   |false=>rfl
   |true=>
    have I:=(q.snoc (Ox.1 z) j).length;simp only[Dx,PE]at I;omega
 |succ m ih=>
  intro seen id N hm q hN;obtain⟨N,rfl⟩:∃N',N=N'+1:=⟨N-1,AL⟩
  have u:=q.length;show WM (CX WM N) _ _ _ _ _ _=_;have s:=fun f J h1 I=>ih f J N h1 I AL;generalize CX WM N=K at s;unfold WM Ap;rw[o7 _ _ AL,NM l _ AL];simp only[Af];rw[SP];cases z:EZ seen id with
  |true=>rfl
  |false=>
   cases j:(EO l id).isSome with
   |false=>rw[show dM l id=false from j];rfl
   |true=>
    obtain⟨e,O⟩:=Rz.1 j;rw[show dM l id=true from j];simp only[Jm,ES,KN,Bh,BO];rw[Et Ij];simp only[Af];unfold vC;simp only[BO];rw[Et Ij];simp only[Af];have L:(IE l id).1=ev l id:=rfl
    have M:(ev l id).bJ.length≤40:=by
     have :ev l id=e:=by unfold ev;rw[OQ O]
     rw[this];exact(U e (Jz O)).auth
    rw[L,aeH l _ hl M];simp only[Af];unfold aC4;cases Nl l (ev l id)with
    |none=>rfl
    |some x=>exact s (seen++[id]) x Xe (q.snoc (Ox.1 z) j)
def ak7 (l:List AU) (id:Int) (hl:l.length≤1000) (f:EM l):aAQ l id=some (bI l id):=by
 unfold aAQ iQ aKg;exact asa l hl f [] [] l.length [] id BA BK ⟨Xj,fun x j=>absurd j GR⟩ (fuel_lt AL)
def aP (f way:List Int):Int:=match way.find? (EZ f)with |some x=>((f.findIdx (· ==x):Nat):Int)|none=>(f.length:Int)
def aCx (l:List AU) (f:List Int) (id:Int):Int:=aP f (bI l id)
def aof (l:List AU) (f:List Int) (hl:l.length≤1000) (hs:EM l) (hm:f.length≤100000):∀(m:Nat) (seen:List Int) (z id:Int) (N:Nat),seen.length+m=l.length→SC l seen→seen.find? (EZ f)=none→m<N→zC Ve N seen f z id l=some (aP f (Ap l m seen id)):=by
 have j:∀seen:List Int,seen.find? (EZ f)=none→aP f seen=(f.length:Int):=fun seen h=>by unfold aP;rw[h]
 intro m
 induction m with
 |zero=>
  intro seen z id N hm O J hN;obtain⟨N,rfl⟩:∃N',N=N'+1:=⟨N-1,AL⟩
  have hwl:=O.length;show Ve _ _ _ _ _ _=_;unfold Ve;rw[o7 _ _ AL,NM l _ AL];simp only[Af];rw[SP];have Z:aP f (Ap l 0 seen id)=(f.length:Int):=j seen J;rw[Z];cases L:EZ seen id with
  |true=>rfl
  |false=>
   cases M:(EO l id).isSome with
   |false=>rfl
   |true=>
    have h2:=(O.snoc (Ox.1 L) M).length;simp only[Dx,PE]at h2;omega
 |succ m ih=>
  intro seen z id N hm O J hN;obtain⟨N,rfl⟩:∃N',N=N'+1:=⟨N-1,AL⟩
  have hwl:=O.length;show Ve (zC Ve N) _ _ _ _ _=_;have U:=fun u z' id' h1 h2 h3=>ih u z' id' N h1 h2 h3 AL;generalize zC Ve N=K at U;unfold Ve iF;rw[o7 _ _ AL,NM l _ AL,aIy _ _ AL];simp only[Af];rw[SP];have I:Ap l (m+1) seen id=bif EZ seen id|| !dM l id then seen else match Nl l (ev l id)with |none=>seen++[id]|some x=>Ap l m (seen++[id]) x:=rfl
  cases L:EZ seen id with
  |true=>rw[I,L];simp only[Bool.true_or,Bh,ES,BO];rw[j seen J]
  |false=>
   cases M:(EO l id).isSome with
   |false=>rw[I,L,show dM l id=false from M];simp only[KU,Jm,Bh];rw[j seen J]
   |true=>
    obtain⟨e,Z⟩:=Rz.1 M;rw[I,L,show dM l id=true from M];simp only[Jm,ES,KN,Bh,BO];have q:=abC f id;by_cases s:f.findIdx (· ==id)<f.length
    ·rw[Cb s,show decide (((f.findIdx (· ==id):Nat):Int)≥0)=true by simp];simp only[Bh];rw[He s]at q
     have hex:∃t,(match Nl l (ev l id)with |none=>seen++[id]|some x=>Ap l m (seen++[id]) x)=seen++[id]++t:=by
      cases Nl l (ev l id)with
      |none=>exact⟨[],BK⟩
      |some x=>exact aJX l m (seen++[id]) x
     obtain⟨t,ht⟩:=hex;rw[ht];unfold aP;rw[kY,kY,J];simp[←q]
    rw[D9 s,show decide ((-1:Int)≥0)=false by decide];simp only[BO];rw[Gv s]at q;rw[Et Ij];simp only[Af];have hev:(IE l id).1=ev l id:=rfl
    have hea:(ev l id).bJ.length≤40:=by
     have :ev l id=e:=by unfold ev;rw[OQ Z]
     rw[this];exact(hs e (Jz Z)).auth
    have Y:(seen++[id]).find? (EZ f)=none:=by rw[kY,J];simp[←q]
    rw[hev,aeH l _ hl hea];simp only[Af];unfold aC4;cases Nl l (ev l id)with
    |none=>simp only[Jm,Bh];rw[j _ Y]
    |some x=>exact U (seen++[id]) z x Xe (O.snoc (Ox.1 L) M) Y
def apC (l:List AU) (f:List Int) (id:Int) (hl:l.length≤1000) (j:EM l) (m:f.length≤100000):tu l f id=some (aCx l f id):=by
 unfold tu iQ abN;exact aof l f hl j m l.length [] 0 id BA BK ⟨Xj,fun x q=>absurd q GR⟩ rfl (fuel_lt AL)
def LQ (l:List AU) (f:List Int) (id:Int):Kq:=⟨id,aCx l f id,(ev l id).Time⟩
def adu (x:Kq):Int×Int×Int:=(x.lg,x.wU,x.yS)
def YL (x y:Kq):Bool:=J7 (adu x) (adu y)
def Ci (l:List AU) (f ids:List Int):List Int:=(QB YL ((ids.filter (dM l)).map (LQ l f))).map (·.lg)
def ae0 (l:List AU) (f:List Int):∀ids:List Int,ids.flatMap (fun id=>bif dM l id then[LQ l f id]else[])=(ids.filter (dM l)).map (LQ l f)
 | []=>rfl
 |i::ids=>by
  rw[KW,ae0 l f ids,Vs];cases dM l i<;>simp
def ahF (s:List Kq) (J:s.length≤1000000) (u:(s.map (·.lg)).Nodup):eS s=some s:=by
 unfold eS;by_cases L:s.length<2
 ·rw[show decide ((s.length:Int)<2)=true by simp;omega];rfl
 rw[show decide ((s.length:Int)<2)=false by simp;omega];simp only[BO];unfold aM0;refine gy.eq ?_;refine YE (body:=Src) (fun m a b=>∃i:Nat,a=i∧i+m=s.length∧0<i∧b=s) ?_ BA (s.length-1) 1 s (fuel_lt AL) ⟨1,rfl,AL,AL,rfl⟩;rintro m a b k ⟨i,rfl,M,hi,rfl⟩ z;unfold Src;by_cases f:i<b.length
 ·rw[dec_lt f,DI f];simp only[Bh,Af];have w:BI ((i:Int)-1)=((i-1:Nat):Int):=QF
  have j:i-1<b.length:=AL
  rw[w,DI j];simp only[Af]
  have q:b[i].lg≠b[i-1].lg:=by
   have :=KQ.1 u (i-1) i aAE aAE AL;simp only[TD]at this;exact fun e=>this e.symm
  have I:oI b[i] b[i-1]=false:=by
   unfold oI;rw[show(b[i].lg==b[i-1].lg)=false by simpa using q];rfl
  rw[I,wrap_succ i AL];exact z (m-1) _ _ AL ⟨i+1,rfl,AL,AL,rfl⟩
 have :i=b.length:=AL
 subst this;rw[EH];exact .ret rfl
def abK (l:List AU) (f:List Int) (ids:List Int):(ids.map (LQ l f)).map (·.lg)=ids:=by
 rw[ZI];exact List.map_id' ids
def akt (l:List AU) (f ids:List Int) (hl:l.length≤1000) (I:EM l) (J:f.length≤100000) (hi:ids.length≤100000) (L:ids.Nodup):wJ l f ids=some (Ci l f ids):=by
 unfold wJ acS;rw[KI (a0:=[]) ids AL (fun r id=>r++bif dM l id then[LQ l f id]else[]) (fun i r=>r.length≤i) (fun M=>(aAf M).bind fun q=>(eS q).bind fun s=>aEu s [] 0) (Dw _)]
 ·rw[foldl_append (fun id=>bif dM l id then[LQ l f id]else[]),J4,ae0];have O:=Nk (dM l) ids;have u:((ids.filter (dM l)).map (LQ l f)).length≤100000:=aAE
  unfold aAf zK;rw[Cb AL];simp only[Af];have e:(QB (fun x y:Kq=>J7 (x.lg,x.wU,x.yS) (y.lg,y.wU,y.yS)) ((ids.filter (dM l)).map (LQ l f)))=QB YL ((ids.filter (dM l)).map (LQ l f)):=rfl;rw[e];unfold Ci;have z:=Xt YL ((ids.filter (dM l)).map (LQ l f))
  have j:((QB YL ((ids.filter (dM l)).map (LQ l f))).map (·.lg)).Nodup:=by
   rw[(z.map (·.lg)).nodup_iff,abK];exact L.sublist Um
  have m:(QB YL ((ids.filter (dM l)).map (LQ l f))).length≤100000:=by rw[z.length_eq];exact u
  generalize QB YL ((ids.filter (dM l)).map (LQ l f))=S at j m;rw[ahF S AL j];simp only[Af];unfold aEu;rw[KI (a0:=[]) S AL (fun r x=>r++[x.lg]) (fun i r=>r.length≤i) (fun r=>some r) (Dw _)]
  ·rw[foldl_append (fun x:Kq=>[x.lg]),J4];congr 1;clear j m
   induction S with
   |nil=>rfl
   |cons x S U=>rw[KW,U];rfl
  ·intro k r i h Y;refine⟨aEt,?_⟩;unfold aFu;rw[DW h,Et Ij];rfl
  intro k r _;unfold aFu;rw[EP]
 ·intro k r i h Y;refine⟨?_,?_⟩
  ·cases dM l ids[i]<;>simp <;>omega
  unfold aES zu;rw[DW h,NM l _ AL];simp only[Af];rw[SP,apC l f _ hl I J];simp only[Af];rw[Et Ij];unfold dM;cases(EO l ids[i]).isSome with
  |true=>rfl
  |false=>simp
 intro k r _;unfold aES;rw[EP]
def aqG {l:List AU} {f ids:List Int} {x:Int}:x∈Ci l f ids↔x∈ids∧dM l x=true:=by
 unfold Ci;rw[((Xt YL ((ids.filter (dM l)).map (LQ l f))).map (·.lg)).mem_iff,abK,G7]
def aqK (l:List AU) (f ids:List Int):(Ci l f ids).length≤ids.length:=by
 unfold Ci;rw[Ch,(Xt _ _).length_eq,Ch];exact Nk _ _
def J9 (c:Int):Bool:=(decide (c≥97)&&decide (c≤122))||(decide (c≥48)&&decide (c≤57))
def aMS (c:Int):fO c=some (J9 c):=by
 unfold fO J9;cases decide (c≥97)<;>cases decide (c≤122)<;>cases decide (c≥48)<;>cases decide (c≤57)<;>rfl
def aGC (c:Int):YW c=some (J9 c):=by
 unfold YW J9;cases decide (c≥97)<;>cases decide (c≤122)<;>cases decide (c≥48)<;>cases decide (c≤57)<;>rfl
def OT (l:List Int) (p:Int→Bool):Bool:=decide ((l.length:Int)≥1)&&decide ((l.length:Int)≤32)&&l.all fun c=>J9 c||p c
def isLocal (c:Int):Bool:=c==95||c==46||c==45||c==61
def SX (c:Int):Bool:=c==46||c==45
def U4 (l:List Int):Bool:=OT l isLocal
def Va (l:List Int):Bool:=OT l SX&&J9 (l.getD 0 0)&&J9 (l.getD (l.length-1) 0)
def pO {n:Nat} (h:n≤9223372036854775807):n<BA:=aAh
def aLc {s:ByteArray} (j:s.size≤9223372036854775807) (f:Int→Option Bool) (p:Int→Bool) (m:∀c,f c=some (p c)):Yu s f=some (OT (Bf s) p):=by
 have hl:aGh s f 0=some ((Bf s).all fun c=>J9 c||p c):=by
  unfold aGh;rw[IC (Bf s) (by rw[GV];exact pO j) (fun c=> !(J9 c||p c)) false (some true) ?_ ?_,JZ,ug]
  ·intro k i h;have h':i<s.size:=Ur
   simp only[aEc,dec_lt h',Bh,Sm h,aMS,m,Af];cases J9 (Bf s)[i]<;>cases p (Bf s)[i]<;>rfl
  intro k;simp only[aEc,GV,EH,BO]
 unfold Yu OT;rw[hl,GV];have q:decide ((s.size:Int)≥1)= !decide ((s.size:Int)<1):=aHq
 have u:decide ((s.size:Int)≤32)= !decide ((s.size:Int)>32):=aE7
 rw[q,u];cases decide ((s.size:Int)<1)<;>cases decide ((s.size:Int)>32)<;>rfl
def amX {s:ByteArray} (f:s.size≤9223372036854775807):Yu s (fun a0=>lM a0)=some (OT (Bf s) isLocal):=aLc f _ isLocal (fun c=>by unfold lM isLocal;cases c==95<;>cases c==46<;>cases c==45<;>cases c==61<;>rfl)
def aqh {s:ByteArray} (f:s.size≤9223372036854775807):Yu s (fun a0=>qH a0)=some (OT (Bf s) SX):=aLc f _ SX (fun c=>by unfold qH SX;cases c==46<;>cases c==45<;>rfl)
def ahl {s:ByteArray} (f:s.size≤9223372036854775807):zH s=some (U4 (Bf s)):=by
 unfold zH U4;rw[amX f];rfl
def uF {s:ByteArray} (h:0<s.size):GI s 0=some ((Bf s).getD 0 0):=by
 have h':0<(Bf s).length:=vI
 rw[apA h'];simp[List.getD,h']
def aKS {s:ByteArray} (h:0<s.size) (j:s.size≤9223372036854775807):GI s (BI ((s.size:Int)-1))=some ((Bf s).getD ((Bf s).length-1) 0):=by
 have h':s.size-1<(Bf s).length:=by rw[GV];omega
 rw[Mc AL AL,show(s.size:Int)-1=((s.size-1:Nat):Int) by omega,Sm h'];have f:(Bf s).length-1=s.size-1:=by rw[GV]
 rw[f];simp[List.getD,h']
def abq {l:List Int} {p:Int→Bool} (h:OT l p=true):0<l.length∧l.length≤32:=by
 unfold OT at h;simp only[CP,Fl]at h;omega
def agb {s:ByteArray} (f:s.size≤9223372036854775807):aAv s=some (Va (Bf s)):=by
 unfold aAv Va;rw[aqh f];simp only[Af];cases m:OT (Bf s) SX with
 |false=>rfl
 |true=>
  have j:0<s.size:=by have :=(abq m).1;rwa [GV]at this
  simp only[Bh,uF j,aKS j f,aMS,Af];cases J9 ((Bf s).getD 0 0)<;>simp
def afw {s:ByteArray} (f:s.size≤9223372036854775807):uh s=some (bif Va (Bf s)then 0 else 3):=by
 have hl:aDN s 0=some (bif (Bf s).all fun c=>J9 c||SX c then 0 else 3):=by
  unfold aDN;rw[IC (Bf s) gV (fun c=> !(J9 c||SX c)) 3 (some 0) ?_ ?_,JZ,←ug]
  ·cases((Bf s).any fun c=> !(J9 c||SX c))<;>rfl
  ·intro k i h;have h':i<s.size:=Ur
   simp only[aIL,dec_lt h',Bh,Sm h,aGC,Af,SX,bne];cases J9 (Bf s)[i]<;>cases(Bf s)[i]==46<;>cases(Bf s)[i]==45<;>rfl
  intro k;simp only[aIL,GV,EH,BO]
 have m:decide ((s.size:Int)≥1)= !decide ((s.size:Int)<1):=aHq
 have q:decide ((s.size:Int)≤32)= !decide ((s.size:Int)>32):=aE7
 unfold uh Va OT;rw[hl];rw[show((Bf s).length:Int)=(s.size:Int) by rw[GV],m,q];by_cases u:(s.size:Int)<1
 ·simp[u]
 have j:0<s.size:=AL
 simp only[uF j,aKS j f,aGC,Af];cases decide ((s.size:Int)<1)<;>cases decide ((s.size:Int)>32)<;>cases J9 ((Bf s).getD 0 0)<;>cases J9 ((Bf s).getD ((Bf s).length-1) 0)<;>cases((Bf s).all fun c=>J9 c||SX c)<;>rfl
def akz {s:ByteArray} (f:s.size≤9223372036854775807):aBt s=some (U4 (Bf s)):=by
 unfold aBt aMv;rw[IC (Bf s) gV (fun c=> !(J9 c||isLocal c)) false (some (decide ((s.size:Int)≥1)&&decide ((s.size:Int)≤32))) ?_ ?_]
 ·unfold U4 OT;rw[←ug,GV];cases((Bf s).any fun c=> !(J9 c||isLocal c))<;>cases decide ((s.size:Int)≥1)<;>cases decide ((s.size:Int)≤32)<;>rfl
 ·intro k i h;have h':i<s.size:=Ur
  simp only[aGe,dec_lt h',Bh,Sm h,aGC,Af,isLocal,bne];cases J9 (Bf s)[i]<;>cases(Bf s)[i]==95<;>cases(Bf s)[i]==46<;>cases(Bf s)[i]==45<;>cases(Bf s)[i]==61<;>rfl
 intro k;simp only[aGe,GV,EH,BO];cases decide ((s.size:Int)≥1)<;>cases decide ((s.size:Int)≤32)<;>rfl
def aMh (s:ByteArray):(Bf s).length=s.data.toList.length:=by simp[Bf]
def Ez (s:ByteArray):Nat:=(Bf s).findIdx (· ==58)
def aD0 (s:ByteArray):Ez s≤s.size:=by unfold Ez;rw[←GV];exact rG
def acf {s:ByteArray} (f:s.size≤9223372036854775807):qc s=some (Ez s:Int):=by
 unfold qc acd;rw[QH (Bf s) gV (· ==58) (fun i=>some (i:Int)) (some (s.size:Int)) ?_ ?_]
 ·have :=aD0 s;by_cases h:(Bf s).findIdx (· ==58)<(Bf s).length
  ·rw[Cb h];rfl
  rw[D9 h];congr 2;unfold Ez at this ⊢;rw[GV]at h;omega
 ·intro k i h;have h':i<s.size:=Ur
  simp only[aIY,dec_lt h',Bh,Sm h,Af,bne];cases(Bf s)[i]==58<;>rfl
 intro k;simp only[aIY,GV,EH,BO,Af]
def SQ (s:ByteArray):ByteArray:=s.extract 1 (Ez s)
def QX (s:ByteArray):ByteArray:=s.extract (Ez s+1) s.size
def Qe (s:ByteArray):Bool:=decide (Ez s<s.size)&&U4 (Bf (SQ s))&&Va (Bf (QX s))
def Fz (s:ByteArray) (m:Int):Bool:=decide (0<s.size)&&(Bf s).getD 0 0==m&&Qe s
def extract_size (s:ByteArray) (a b:Nat):(s.extract a b).size≤s.size:=by rw[aEZ];omega
def aac {s:ByteArray} (h:0<s.size) (f:(Bf s).getD 0 0≠58):1≤Ez s:=by
 unfold Ez;have hl:0<(Bf s).length:=vI
 match j:Bf s with
 | []=>rw[j]at hl;simp at hl
 |c::l=>
  rw[j]at f;simp only[List.getD_cons_zero]at f;rw[Ru,show(c==58)=false from by simpa using f];simp
def aBz {s:ByteArray} (q:s.size≤9223372036854775807) {m:Int} (z:m≠58):YF s m=some (Fz s m):=by
 unfold YF Fz;by_cases f:0<s.size
 ·rw[show decide ((s.size:Int)<1)=false from by simp;omega,show decide (0<s.size)=true by simpa using f];simp only[BO,uF f,Af,bne];cases I:(Bf s).getD 0 0==m with
  |false=>rfl
  |true=>
   have u:(Bf s).getD 0 0=m:=sD
   have J:=aac f (by rw[u];exact z);have L:=aD0 s;simp only[ES,BO,acf q,Af,G8];unfold Qe;by_cases j:Ez s<s.size
   ·have M:Lj s 1 (Ez s:Int)=some (SQ s):=Zp (lo:=1) J L
    have O:Lj s (BI ((Ez s:Int)+1)) (s.size:Int)=some (QX s):=by
     rw[Mc AL AL,show(Ez s:Int)+1=((Ez s+1:Nat):Int) by omega];exact Zp AL (Dw _)
    rw[show decide ((Ez s:Int)<(s.size:Int))=true from by simpa using j,show decide (Ez s<s.size)=true by simpa using j];have U:(SQ s).size≤9223372036854775807:=Dn (extract_size _ _ _) q;have Y:(QX s).size≤9223372036854775807:=Dn (extract_size _ _ _) q;simp only[Bh,M,O,akz U,afw Y,Af];cases U4 (Bf (SQ s))<;>cases Va (Bf (QX s))<;>rfl
   rw[show decide ((Ez s:Int)<(s.size:Int))=false from by simpa using j,show decide (Ez s<s.size)=false by simpa using j];rfl
 rw[show decide ((s.size:Int)<1)=true from by simp;omega,show decide (0<s.size)=false by simpa using f];rfl
def splitB (s:ByteArray) (b:Bool):ByteArray×ByteArray×Bool:=bif b then(SQ s,QX s,true)else(BZ,BZ,false)
def ash (b c:UInt8):(b==c)=(((b.toNat:Nat):Int)==((c.toNat:Nat):Int)):=by
 by_cases h:b=c
 ·subst h;simp
 have :¬b.toNat=c.toNat:=fun e=>h (UInt8.toNat_inj.1 e);have f:(b==c)=false:=Jf
 rw[f];symm;simp;omega
def aKC (s:ByteArray) (c:UInt8):s.data.toList.findIdx (· ==c)=(Bf s).findIdx (· ==((c.toNat:Nat):Int)):=by
 unfold Bf;rw[List.findIdx_map];congr 1;funext b;exact ash b c
def ahU (s:ByteArray):∀x∈Bf s,0≤x∧x<256:=by
 intro x f;unfold Bf at f;rw[F7]at f;obtain⟨c,_,rfl⟩:=f;have :=c.toNat_lt;omega
def getD_mem {s:ByteArray} (h:0<s.size):(Bf s).getD 0 0∈Bf s:=by
 have hl:0<(Bf s).length:=vI
 have e:(Bf s).getD 0 0=(Bf s)[0]:=by simp[List.getD,hl]
 rw[e];exact Eh hl
def akq (marks:ByteArray) {c:Int} (q:0≤c) (s:c<256):decide (Lib.indexByte marks.data.toList c.toNat.toUInt8<0)= !(Bf marks).contains c:=by
 have e:(((c.toNat.toUInt8).toNat:Nat):Int)=c:=by
  rw[Nat.toUInt8,UInt8.toNat_ofNat'];omega
 rw[aFf,aKC,e,←aMh marks];by_cases f:c∈Bf marks
 ·have j:(Bf marks).findIdx (· ==c)<(Bf marks).length:=List.findIdx_lt_length_of_exists ⟨c,f,BK⟩;rw[Cb j,show(Bf marks).contains c=true by simpa using f];simp
 have m:¬(Bf marks).findIdx (· ==c)<(Bf marks).length:=fun h=>by
  have :=List.findIdx_getElem (w:=h);simp only[PX]at this;exact f (this▸Eh h)
 rw[D9 m,show(Bf marks).contains c=false by simpa using f];rfl
def acK (s:ByteArray) (a b:Nat):(s.extract 1 s.size).extract a b=s.extract (1+a) (min (1+b) s.size):=by
 refine bytes_inj ?_;simp only[aeK];have :(Bf s).take s.size=Bf s:=Ns (by rw[GV];omega);rw[this,List.take_drop,aEL];congr 1;have :min (1+b) s.size=min (1+b) (Bf s).length:=by rw[GV]
 rw[this,List.take_eq_take_min]
def ajQ {s:ByteArray} (h:0<s.size) (f:(Bf s).getD 0 0≠58):(Bf (s.extract 1 s.size)).findIdx (· ==58)+1=Ez s:=by
 unfold Ez;rw[aeK];have :(Bf s).take s.size=Bf s:=Ns (by rw[GV];omega);rw[this];have hl:0<(Bf s).length:=vI
 match j:Bf s with
 | []=>rw[j]at hl;simp at hl
 |c::l=>
  rw[j]at f;simp only[List.getD_cons_zero]at f;rw[Ru,show(c==58)=false from by simpa using f];rfl
def ajn {s:ByteArray} (I:s.size≤9223372036854775807) (h:0<s.size) (m:(Bf s).getD 0 0≠58):∃a b,strings_Cut (s.extract 1 s.size) dN=some (a,b,decide (Ez s<s.size))∧(Ez s<s.size→a=SQ s∧b=QX s):=by
 have J:=aac h m;have L:=aD0 s;have M:=ajQ h m;have j:(s.extract 1 s.size).size=s.size-1:=by rw[aEZ];omega
 have q:xC (s.extract 1 s.size) dN=some (if Ez s<s.size then((Ez s-1:Nat):Int)else -1):=by
  show some (Lib.indexByte (s.extract 1 s.size).data.toList 58)=_;rw[aFf,aKC,←aMh (s.extract 1 s.size)];show some (if(Bf (s.extract 1 s.size)).findIdx (· ==58)<_ then(((Bf (s.extract 1 s.size)).findIdx (· ==58):Nat):Int)else -1)=_;rw[GV,j];have e:(Bf (s.extract 1 s.size)).findIdx (· ==58)=Ez s-1:=AL
  rw[e];congr 1;by_cases f:Ez s<s.size
  ·rw[Cb f,Cb AL]
  rw[D9 f,D9 AL]
 unfold strings_Cut aF1;rw[q,Af];by_cases f:Ez s<s.size
 ·rw[Cb f,show decide (((Ez s-1:Nat):Int)≥0)=true from by simp,show decide (Ez s<s.size)=true by simpa using f];have u:Lj (s.extract 1 s.size) 0 ((Ez s-1:Nat):Int)=some ((s.extract 1 s.size).extract 0 (Ez s-1)):=Zp (lo:=0) AL AL
  have z:Lj (s.extract 1 s.size) (BI (((Ez s-1:Nat):Int)+(dN.size:Int))) ((s.extract 1 s.size).size:Int)=some ((s.extract 1 s.size).extract (Ez s) (s.size-1)):=by
   rw[show(dN.size:Int)=1 from rfl,Mc AL AL,show((Ez s-1:Nat):Int)+1=((Ez s:Nat):Int) by omega,j];exact Zp AL AL
  simp only[Bh,u,z,Af];refine⟨_,_,rfl,fun _=>⟨?_,?_⟩⟩
  ·rw[acK];unfold SQ;congr 1;omega
  rw[acK];unfold QX;rw[P7 1 (Ez s)];congr 1;omega
 rw[D9 f,show decide ((-1:Int)≥0)=false from rfl,show decide (Ez s<s.size)=false by simpa using f];exact⟨_,_,rfl,fun h=>absurd h f⟩
def aGL {s:ByteArray} (q:s.size≤9223372036854775807) {marks:ByteArray} (u:∀m∈Bf marks,m≠58):eG s marks=some (splitB s ((Bf marks).any fun m=>Fz s m)):=by
 unfold eG;by_cases j:0<s.size
 ·have z:(s.toList==BZ.toList)=false:=by
   rw[Om];simp only[X5];intro e;rw[e]at j;exact absurd j BX
  have I:=ahU s _ (getD_mem j)
  have f:((Bf marks).any fun m=>Fz s m)=((Bf marks).contains ((Bf s).getD 0 0)&&Qe s):=by
   unfold Fz;rw[show decide (0<s.size)=true by simpa using j]
   induction Bf marks with
   |nil=>rfl
   |cons m l J=>rw[YA,J,List.contains_cons];cases(Bf s).getD 0 0==m<;>cases Qe s<;>simp
  rw[z,f];simp only[BO,uF j,Af,strings_IndexByte,akq marks I.1 I.2];cases L:(Bf marks).contains ((Bf s).getD 0 0)with
  |false=>rfl
  |true=>
   have M:(Bf s).getD 0 0≠58:=u _ (by simpa using L);obtain⟨a,b,O,U⟩:=ajn q j M;have Y:Lj s 1 (s.size:Int)=some (s.extract 1 s.size):=Zp (lo:=1) AL (Dw _);simp only[ES,BO,Y,O,Af,G8];unfold Qe;cases Z:decide (Ez s<s.size)with
   |false=>rfl
   |true=>
    obtain⟨rfl,rfl⟩:=U (PK Z);have g1:(SQ s).size≤9223372036854775807:=Dn (extract_size _ _ _) q;have g2:(QX s).size≤9223372036854775807:=Dn (extract_size _ _ _) q;simp only[ES,BO,ahl g1,agb g2,Af];cases U4 (Bf (SQ s))<;>cases Va (Bf (QX s))<;>rfl
 have hz:s.size=0:=AL
 have he:s=BZ:=bytes_inj (by
  have h1:Bf s=[]:=GY (by rw[GV];exact hz)
  rw[h1];rfl)
 have f:((Bf marks).any fun m=>Fz s m)=false:=by
  rw[aAq];intro m _;unfold Fz;rw[show decide (0<s.size)=false by simpa using j];simp
 rw[f,he,show(BZ.toList==BZ.toList)=true from by simp];rfl
def Jo (s:ByteArray):Bool:=Fz s 64||(Fz s 33||false)
def aiw {s:ByteArray} (f:s.size≤9223372036854775807):eG s oO=some (splitB s (Jo s)):=
 aGL f (marks:=oO) (by rw[show Bf oO=[64,33]from rfl];intro m j;simp only[Ew,GR,fB]at j;omega)
def aav {s:ByteArray} (h:Qe s=true):Ez s<s.size:=by unfold Qe at h;simp only[CP,Fl]at h;exact h.1.1
def aBI {s:ByteArray} (m:s.size≤9223372036854775807):ZY s=some (splitB s (Jo s)).2.1∧aAD s=some (splitB s (Jo s)).2.1:=by
 have u:Ez s<s.size→Lj s (BI ((Ez s:Int)+1)) (s.size:Int)=some (QX s):=fun z=>by
  rw[Mc AL AL,show(Ez s:Int)+1=((Ez s+1:Nat):Int) by omega];exact Zp AL (Dw _)
 unfold ZY aAD;rw[aiw m,aBz m BX,aBz m BX,acf m];refine⟨rfl,?_⟩;unfold Jo;cases f:Fz s 64 with
 |true=>
  have q:=aav (s:=s) (by unfold Fz at f;simp only[CP]at f;exact f.2);simp only[Af,ES,BO,u q,Bool.true_or];rfl
 |false=>
  cases j:Fz s 33 with
  |true=>
   have q:=aav (s:=s) (by unfold Fz at j;simp only[CP]at j;exact j.2);simp only[Af,ES,Jm,BO,Bh,u q,KU,Bool.true_or];rfl
  |false=>rfl
def agf {R A α:Type} {body:(Int→A→Option R)→Int→A→Option R} (l:List α) (hl:l.length<BA) (p:α→Bool) (g:Nat→Option R) (rest:Option R) (a0:A)
 (q:∀k (i:Nat) (h:i<l.length),body k (i:Int) a0=bif p l[i]then g i else k (BI ((i:Int)+1)) a0) (s:∀k,body k (l.length:Int) a0=rest):
 aX body BA 0 a0=if l.findIdx p<l.length then g (l.findIdx p)else rest:=by
 have I:BA=9223372036854775808:=rfl
 have key:∀n (i:Nat),i+n=l.length→∀m,n<m→aX body m (i:Int) a0=if(l.drop i).findIdx p+i<l.length then g ((l.drop i).findIdx p+i)else rest:=by
  intro n
  induction n with
  |zero=>
   intro i hi m u;obtain⟨m,rfl⟩:∃j,m=j+1:=⟨m-1,AL⟩
   have :i=l.length:=AL
   subst this;show body (aX body m) _ _=_;rw[s,QG,D9 BK]
  |succ n z=>
   intro i hi m u;obtain⟨m,rfl⟩:∃j,m=j+1:=⟨m-1,AL⟩
   have f:i<l.length:=AL
   show body (aX body m) _ _=_;rw[q _ i f,wrap_succ i AL,z (i+1) AL m AL,NI f,Ru];cases p l[i]with
   |true=>simp only[Bh,Ie];rw[Cb f]
   |false=>
    simp only[BO];rw[show(l.drop (i+1)).findIdx p+(i+1)=(l.drop (i+1)).findIdx p+1+i by omega]
 have :=key l.length 0 AL BA hl;simpa using this
def JO (l:List AU):AU×Bool:=match l.find? fun x=>x.Kind==1 with |some x=>(x,true)|none=>(G6,false)
def amI (l:List AU) (p:AU→Bool):(if l.findIdx p<l.length then(some (match l[l.findIdx p]? with |some x=>(x,true)|none=>(G6,false)))else some (G6,false))=some (match l.find? p with |some x=>(x,true)|none=>(G6,false)):=by
 rw[O9];by_cases h:l.findIdx p<l.length
 ·rw[Cb h]
 rw[D9 h,Jp AL]
def aMI (l:List AU) (hl:l.length≤1000):nZ l=some (JO l):=by
 unfold nZ aJ6;rw[agf l (fuel_lt AL) (fun x=>x.Kind==1) (fun i=>some (match l[i]? with |some x=>(x,true)|none=>(G6,false))) (some (G6,false))]
 ·exact amI l _
 ·intro k i h;unfold aDh;rw[DW h,Dl h]
 intro k;unfold aDh;rw[EP]
def OA (u:ByteArray) (x:AU):Bool:=x.Kind==2&&decide (x.Key=u)
def JW (l:List AU) (u:ByteArray):Int:=match l.find? (OA u)with |some x=>x.Content.N|none=>0
def acC (u:ByteArray) (x:AU):(bif (x.Kind==2)then some (x.Key.toList==u.toList)else some false)=some (OA u x):=by
 unfold OA;rw[Om];cases x.Kind==2<;>rfl
def aGv (l:List AU) (u:ByteArray) (hl:l.length≤1000):fC l u=some (JW l u):=by
 unfold fC aKw JW;rw[QH l (fuel_lt AL) (OA u) (fun i=>some (match l[i]? with |some x=>x.Content.N|none=>0)) (some 0)]
 ·rw[O9];by_cases h:l.findIdx (OA u)<l.length
  ·rw[Cb h]
  rw[D9 h,Jp AL]
 ·intro k i h;unfold aEp;rw[DW h,DI h,Dl h];simp only[Af];rw[acC];rfl
 intro k;unfold aEp;rw[EP]
def Xr (e:AU) (l:List AU):Bool:=
 (JO l).2&&(e.bD.length==1&&(e.bD.getD 0 0==(JO l).1.Id&&(decide (e.bC=(JO l).1.bC)&&(decide (e.Key=(JO l).1.bC)&&(e.Content.N==3&& !l.any (OA e.Key))))))
def aql (e:AU) (l:List AU) (hl:l.length≤1000):rM e l=some (Xr e l):=by
 have s:aDS l e 0=some (!l.any (OA e.Key)):=by
  unfold aDS;rw[IC l (fuel_lt AL) (OA e.Key) false (some true)]
  ·cases l.any (OA e.Key)<;>rfl
  ·intro k i h;unfold aHb;rw[DW h,acC];rfl
  intro k;unfold aHb;rw[EP]
 unfold rM Xr VQ;rw[aMI l hl];simp only[Af];rw[s,Om,Om];cases(JO l).2 with
 |false=>rfl
 |true=>
  by_cases f:e.bD.length=1
  ·have q:0<e.bD.length:=AL
   have j:((e.bD.length:Int) != 1)=false:=by rw[f];rfl
   have m:(e.bD.length==1)=true:=RJ
   have u:BJ e.bD 0=some (e.bD.getD 0 0):=by
    have :BJ e.bD ((0:Nat):Int)=some e.bD[0]:=DI q;rw[show((0:Nat):Int)=0 from rfl]at this;rw[this];simp[List.getD,q]
   rw[j,m,u];simp only[Af,bne];cases e.bD.getD 0 0==(JO l).1.Id<;>cases decide (e.bC=(JO l).1.bC)<;>cases decide (e.Key=(JO l).1.bC)<;>cases e.Content.N==3<;>rfl
  have j:((e.bD.length:Int) != 1)=true:=E8
  have m:(e.bD.length==1)=false:=RJ
  rw[j,m];rfl
def moveB (f t:Int) (s:Bool):Bool:=
 bif decide (f<0)||decide (f>4)then false else bif t==3 then s&&f != 4 else bif t==0 then f==1||f==2||f==3||(f==4&& !s)else bif t==2 then s&&(f==0||f==2)else bif t==1 then !s&&(f==0||f==2||f==1)else bif t==4 then !s else false
def asq (f t:Int) (s:Bool):aQ f t s=some (moveB f t s):=by
 unfold aQ moveB;simp only[JZ,Af,iV,VL]
def ai3 (f t:Int) (s:Bool):Xf f t s=some (moveB f t s):=by
 rw[←asq];by_cases j:f<0
 ·unfold Xf aQ;rw[He j];rfl
 by_cases m:f>4
 ·unfold Xf aQ;rw[He m];cases decide (f<0)<;>rfl
 by_cases q:t<0
 ·unfold Xf aQ;rw[He q,Gv j,Gv m,show(t==3)=false by simp;omega,show(t==0)=false by simp;omega,show(t==2)=false by simp;omega,show(t==1)=false by simp;omega,show(t==4)=false by simp;omega];rfl
 by_cases u:t>4
 ·unfold Xf aQ;rw[He u,Gv q,Gv j,Gv m,show(t==3)=false by simp;omega,show(t==0)=false by simp;omega,show(t==2)=false by simp;omega,show(t==1)=false by simp;omega,show(t==4)=false by simp;omega];rfl
 have z:f=0∨f=1∨f=2∨f=3∨f=4:=AL
 have I:t=0∨t=1∨t=2∨t=3∨t=4:=AL
 rcases z with rfl|rfl|rfl|rfl|rfl<;>rcases I with rfl|rfl|rfl|rfl|rfl<;>cases s<;>decide
def YB (l:List AU):Int×List ByteArray:=match l.find? fun x=>x.Kind==4 with |some x=>(x.Content.N,x.Content.Allow)|none=>(0,[])
def an9 (l:List AU) (hl:l.length≤1000) (f:EM l):yG l=some (YB l):=by
 unfold yG aaX YB;rw[QH l (fuel_lt AL) (fun x=>x.Kind==4) (fun i=>some (match l[i]? with |some x=>(x.Content.N,x.Content.Allow)|none=>(0,[]))) (some (0,[]))]
 ·rw[O9];by_cases h:l.findIdx (fun x=>x.Kind==4)<l.length
  ·rw[Cb h]
  rw[D9 h,Jp AL]
 ·intro k i h;have ha:=(f _ (Eh h)).allow;unfold aEY;rw[DW h,Dl h,Et VU];rfl
 intro k;unfold aEY;rw[EP]
def aCv (f now:Int):Int:=bif now==3||f==1 then 0 else bif now==1&&(f==0||f==2||f==3)then 0 else 21
def aGx (f now:Int):Int:=bif f==2&&(now==0||now==2)then 0 else 21
def ajo (r n:Int):zk r n=some (aCv r n):=by
 unfold zk ql aAK aCv;cases n==3<;>cases r==1<;>cases r==2<;>cases r==3<;>cases r==0<;>cases n==1<;>rfl
def aik (r n:Int):zx r n=some (aGx r n):=by
 unfold zx y8 aGx bne;cases r==2<;>cases n==0<;>cases n==2<;>rfl
def bM (m now:Int) (l:List AU):Int:=bif m==3 then aCv (YB l).1 now else bif m==2 then aGx (YB l).1 now else 0
def arh (m now:Int) (l:List AU) (hl:l.length≤1000) (f:EM l):zh m now l=some (bM m now l):=by
 unfold zh bM;rw[an9 l hl f];simp only[Af];rw[ajo,aik];cases m==3<;>cases m==2<;>rfl
def Hg (k:Int):Bool:=decide (k≥1)&&decide (k≤10)
def aKd (k:Int):Xy k=some (Hg k):=by
 unfold Xy Hg;cases decide (k≥1)<;>rfl
def aiQ (k:Int):Xm k=some (Hg k):=by
 unfold Xm Hg;cases decide (k≥1)<;>rfl
def ZT (v:D8) (k:Int):Int:=match v.Kinds.find? fun x=>x.Kind==k with |some x=>x.N|none=>bif Hg k then v.State else v.Message
def aFC (v:D8) (k:Int) (h:v.Kinds.length≤1000):Zd v k=some (ZT v k):=by
 unfold Zd adR ZT;rw[QH v.Kinds (fuel_lt AL) (fun x=>x.Kind==k) (fun i=>some (match v.Kinds[i]? with |some x=>x.N|none=>0)) (some (bif Hg k then v.State else v.Message))]
 ·rw[O9];by_cases h:v.Kinds.findIdx (fun x=>x.Kind==k)<v.Kinds.length
  ·rw[Cb h,Dl h]
  rw[D9 h,Jp AL]
 ·intro k2 i h;unfold aGQ;rw[DW h,Dl h]
 intro k2;unfold aGQ;rw[EP,aKd];cases Hg k<;>rfl
def dD (f j m:Int):Bool:=j==m||(decide (j≤f)&&decide (m≤f))
def numsOf (v:D8):List Int:=[v.User,v.Message,v.State,v.fV,v.jH,v.nD,v.gQ]
def aGw (f:Int) (p:Int×Int):Bool:= !dD f p.1 p.2
def Xz (f:Int) (j m:D8) (x:Hu):Bool:= !dD f (ZT j x.Kind) (ZT m x.Kind)
def Lu (j:Int) (f m:D8) (q:ByteArray) (x:Gi):Bool:= !(dD j (Em f x.User) (Em m x.User)&&(Em f x.User==Em m x.User||decide (x.User=q)||decide (Em f x.User<j)))
def aFU (f m:D8) (j:ByteArray):Int:=
 bif ((numsOf f).zip (numsOf m)).any (aGw (Em f j))then 20 else bif (f.Kinds++m.Kinds).any (Xz (Em f j) f m)then 20 else bif (f.Users++m.Users).any (Lu (Em f j) f m j)then 20 else 0
def aH5 (f j m:Int):UE j m f=some (!dD f j m):=by
 unfold UE dD;have q:(j != m)= !(j==m):=rfl;have s:decide (j>f)= !decide (j≤f):=by by_cases h:j≤f<;>simp[h]<;>omega
 have u:decide (m>f)= !decide (m≤f):=by by_cases h:m≤f<;>simp[h]<;>omega
 rw[q,s,u];cases j==m<;>cases decide (j≤f)<;>cases decide (m≤f)<;>rfl
structure zW (v:D8):Prop where
 users:v.Users.length≤100
 kinds:v.Kinds.length≤100
def aEw (a b:D8):((numsOf a).zip (numsOf b)).length=7:=rfl
def apP (f m:D8) (q:ByteArray) (U:zW f) (Y:zW m):qC f m q=some (aFU f m q):=by
 have o1:=U.users;have o2:=U.kinds;have n1:=Y.users;have n2:=Y.kinds;unfold qC;rw[Z4 f q AL];unfold vw;simp only[Af];unfold aFU;generalize Z:Em f q=s
 have hU:xG f m s q false 0=some (bif (f.Users++m.Users).any (Lu s f m q)then 20 else 0):=by
  unfold xG;rw[aI1 ([f.Users,m.Users]:List (List Gi)) (fuel_lt BK) (fun us=>us.any (Lu s f m q)) (fun _=>some 20) (some 0) false]
  ·have e:(f.Users++m.Users).any (Lu s f m q)=([f.Users,m.Users]:List (List Gi)).any (fun us=>us.any (Lu s f m q)):=BK
   rw[e]
   have hf:∀L:List (List Gi),(if L.findIdx (fun us=>us.any (Lu s f m q))<L.length then some (20:Int)else some 0)=some (bif L.any (fun us=>us.any (Lu s f m q))then 20 else 0):=fun L=>by
    by_cases h:L.findIdx (fun us=>us.any (Lu s f m q))<L.length
    ·rw[Cb h];have :L.any (fun us=>us.any (Lu s f m q))=true:=Gm.2 ((Xp).1 h);rw[this];rfl
    rw[D9 h]
    have :L.any (fun us=>us.any (Lu s f m q))=false:=by
     rw[Bool.eq_false_iff];exact fun k=>h (Xp.2 (Gm.1 k))
    rw[this];rfl
   exact hf _
  ·intro k i h
   have J:([f.Users,m.Users]:List (List Gi))[i].length≤100:=by
    have :([f.Users,m.Users]:List (List Gi))[i]∈[f.Users,m.Users]:=Eh h;simp only[Ew,GR,fB]at this;rcases this with e|e<;>rw[e]<;>assumption
   unfold xW;rw[show decide ((i:Int)<2)=true by simp only[FK,Nh]at h;simp;omega,DI h];simp only[Bh,Af];generalize([f.Users,m.Users]:List (List Gi))[i]=us at J;unfold aKq;rw[aI1 us (fuel_lt AL) (Lu s f m q) (fun _=>some 20) (k false (BI ((i:Int)+1))) false]
   ·by_cases z:us.findIdx (Lu s f m q)<us.length
    ·rw[Cb z];have :us.any (Lu s f m q)=true:=Gm.2 ((Xp).1 z);rw[this];rfl
    rw[D9 z]
    have :us.any (Lu s f m q)=false:=by
     rw[Bool.eq_false_iff];exact fun k=>z (Xp.2 (Gm.1 k))
    rw[this];rfl
   ·intro k2 j M;unfold xk dX;rw[DW M,Z4 f _ AL,Z4 m _ AL];simp only[Af];rw[aH5,Om];unfold Lu;have z:decide (Em f us[j].User≥s)= !decide (Em f us[j].User<s):=by by_cases h:Em f us[j].User<s<;>simp[h]<;>omega
    have h3:(Em f us[j].User != Em m us[j].User)= !(Em f us[j].User==Em m us[j].User):=rfl;simp only[Af];rw[z,h3];cases dD s (Em f us[j].User) (Em m us[j].User)<;>cases Em f us[j].User==Em m us[j].User<;>cases decide (us[j].User=q)<;>cases decide (Em f us[j].User<s)<;>rfl
   intro k2;unfold xk;rw[EP]
  intro k;unfold xW dX;rw[show decide (((([f.Users,m.Users]:List (List Gi)).length:Nat):Int)<2)=false from rfl];rfl
 have hK:aAS f m s q 0=some (bif (f.Kinds++m.Kinds).any (Xz s f m)then 20 else bif (f.Users++m.Users).any (Lu s f m q)then 20 else 0):=by
  unfold aAS;rw[IC ([f.Kinds,m.Kinds]:List (List Hu)) (fuel_lt BK) (fun u=>u.any (Xz s f m)) 20 (xG f m s q false 0)]
  ·rw[hU];have e:(f.Kinds++m.Kinds).any (Xz s f m)=([f.Kinds,m.Kinds]:List (List Hu)).any (fun u=>u.any (Xz s f m)):=BK
   rw[e];cases([f.Kinds,m.Kinds]:List (List Hu)).any (fun u=>u.any (Xz s f m))<;>rfl
  ·intro k i h
   have O:([f.Kinds,m.Kinds]:List (List Hu))[i].length≤100:=by
    have :([f.Kinds,m.Kinds]:List (List Hu))[i]∈[f.Kinds,m.Kinds]:=Eh h;simp only[Ew,GR,fB]at this;rcases this with e|e<;>rw[e]<;>assumption
   unfold yE;rw[show decide ((i:Int)<2)=true by simp only[FK,Nh]at h;simp;omega,DI h];simp only[Bh,Af];generalize([f.Kinds,m.Kinds]:List (List Hu))[i]=u at O;unfold adY;rw[IC u (fuel_lt AL) (Xz s f m) 20 (k (BI ((i:Int)+1)))]
   ·intro k2 j M;unfold sF;rw[DW M,aFC f _ AL,aFC m _ AL];simp only[Af];rw[aH5];rfl
   intro k2;unfold sF;rw[EP]
  intro k;unfold yE;rw[show decide (((([f.Kinds,m.Kinds]:List (List Hu)).length:Nat):Int)<2)=false from rfl];rfl
 unfold aL9;rw[IC ((numsOf f).zip (numsOf m)) (by rw[aEw];exact fuel_lt BX) (aGw s) 20 (aAS f m s q 0)]
 ·rw[hK];cases((numsOf f).zip (numsOf m)).any (aGw s)<;>rfl
 ·intro k i h;have I:i<7:=by rw[aEw]at h;exact h
  have e1:BJ [f.User,f.Message,f.State,f.fV,f.jH,f.nD,f.gQ] (i:Int)=some ((numsOf f)[i]'(I)):=DI (l:=numsOf f) I;have e2:BJ [m.User,m.Message,m.State,m.fV,m.jH,m.nD,m.gQ] (i:Int)=some ((numsOf m)[i]'(I)):=DI (l:=numsOf m) I;unfold yZ;rw[show decide ((i:Int)<7)=true by simp;omega,e1,e2];simp only[Bh,Af];rw[aH5,aDX];rfl
 intro k;unfold yZ;rw[aEw,show decide (((7:Nat):Int)<7)=false from rfl];rfl
def gG (e:AU) (l:List AU) (now:Int):Int:=
 bif !(JW l e.bC==3)then 18 else
 bif e.Content.N==1&&decide (Em (FI l) e.bC<(FI l).fV)then 20 else
 bif e.Content.N==0&&((now==4&&decide (Em (FI l) e.bC<(FI l).nD))||decide (Em (FI l) e.bC<(FI l).jH)||decide (Em (FI l) e.Key≥Em (FI l) e.bC))then 20 else
 bif e.Content.N==4&&(decide (Em (FI l) e.bC<(FI l).nD)||decide (Em (FI l) e.Key≥Em (FI l) e.bC))then 20 else 0
def wF (e:AU) (l:List AU):Int:=
 bif Xr e l then 0 else
 bif decide (e.Key=e.bC)&&JW l e.Key==4 then 19 else
 bif !moveB (JW l e.Key) e.Content.N (decide (e.Key=e.bC))then 18 else
 bif decide (e.Key=e.bC)then bM e.Content.N (JW l e.Key) l else gG e l (JW l e.Key)
def dY (e:AU) (l:List AU):Int:=
 bif decide (Em (FI l) e.bC<ZT (FI l) e.Kind)then 20 else bif e.Kind==3 then aFU (FI l) e.Content.Levels e.bC else 0
def abQ (s:ByteArray):ByteArray:=(splitB s (Jo s)).2.1
def Ot (e:AU) (l:List AU):Int:=
 bif e.Kind==1 then(bif !(JO l).2&&(abQ e.bC).toList==(abQ e.Room).toList then 0 else 17)else
 bif !(JO l).2 then 17 else bif e.Kind==2 then wF e l else bif !(JW l e.bC==3)then 18 else dY e l
def anN {l:List AU} (h:EM l):zW (FI l):=⟨(aBY h).1,(aBY h).2⟩
def H8.levels {e:AU} (h:H8 e):zW e.Content.Levels:=⟨h.users,h.kinds⟩
def ait (e:AU) (l:List AU) (hl:l.length≤1000) (j:EM l) (m:H8 e):sN e l=some (dY e l):=by
 have f:=anN j;have q:=f.users;have s:=f.kinds;unfold sN dY;rw[aHj l hl j];simp only[Af];rw[Z4 _ _ AL,aFC _ _ AL];simp only[Af];rw[apP _ _ _ f m.levels];cases decide (Em (FI l) e.bC<ZT (FI l) e.Kind)<;>cases e.Kind==3<;>rfl
def fA (x:Int):Except Value Unit:=.error (.iface 150 (.agg #[.int .i64 x]))
def aKv (x:Int):Ya x=some (fA x):=rfl
def aD4 (b:Bool) (x:Int):P9 b x=some (bif b then .ok ()else fA x):=by cases b<;>rfl
def aHu (b:Bool) (x:Int) (f:Unit→Option (Except Value Unit)):JX (bif b then .ok ()else fA x) f=bif b then f ()else some (fA x):=by cases b<;>rfl
def adi (x:Int) (f:Unit→Option (Except Value Unit)):JX (fA x) f=some (fA x):=rfl
def akX (a b:Int):decide (a≥b)= !decide (a<b):=by by_cases h:a<b<;>simp[h]<;>omega
def anm (e:AU) (l:List AU) (now:Int) (hl:l.length≤1000) (f:EM l):(dK l e now).bind Qo=some (gG e l now):=by
 have s:=(aBY f).1;unfold dK gG;rw[aGv l _ hl,aHj l hl f];simp only[Af];rw[Z4 _ _ AL,Z4 _ _ AL];simp only[aD4,Af,aHu,akX]
 have u:decide (Em (FI l) e.Key<Em (FI l) e.bC)= !decide (Em (FI l) e.bC≤Em (FI l) e.Key):=by
  by_cases h:Em (FI l) e.Key<Em (FI l) e.bC<;>simp[h]<;>omega
 have q:(now != 4)= !(now==4):=rfl;rw[q];generalize decide (Em (FI l) e.Key<Em (FI l) e.bC)=t;generalize decide (Em (FI l) e.bC<(FI l).fV)=i;generalize decide (Em (FI l) e.bC<(FI l).nD)=b;generalize decide (Em (FI l) e.bC<(FI l).jH)=k;generalize(now==4)=n;cases JW l e.bC==3 with
 |false=>rfl
 |true=>
  by_cases j:e.Content.N=1
  ·rw[j];cases i<;>rfl
  rw[show(e.Content.N==1)=false by simpa using j];by_cases m:e.Content.N=0
  ·rw[m];cases n<;>cases b<;>cases k<;>cases t<;>rfl
  rw[show(e.Content.N==0)=false by simpa using m];cases e.Content.N==4<;>cases b<;>cases t<;>rfl
def ahO (e:AU) (l:List AU) (hl:l.length≤1000) (f:EM l):rQ e l=some (wF e l):=by
 unfold rQ wF;rw[aql e l hl];simp only[Af];cases Xr e l with
 |true=>rfl
 |false=>
  simp only[BO]
  have m:∀o:Option (Except Value Unit),(o.bind fun q=>(Qo q).bind fun u=>some u)=o.bind Qo:=fun o=>by
   cases o with
   |none=>rfl
   |some x=>cases h:Qo x<;>simp[h]
  rw[m];have j:=anm e l (JW l e.Key) hl f;unfold aIJ;rw[aGv l _ hl,Om];simp only[Af];rw[ai3,arh _ _ _ hl f];simp only[Af,aD4,aKv,aHu,adi,JZ];have z:(JW l e.Key != 4)= !(JW l e.Key==4):=rfl;rw[z];generalize dK l e (JW l e.Key)=J at j;generalize decide (e.Key=e.bC)=s;cases s with
  |true=>
   cases JW l e.Key==4 with
   |true=>rfl
   |false=>cases moveB (JW l e.Key) e.Content.N true<;>rfl
  |false=>
   cases moveB (JW l e.Key) e.Content.N false with
   |false=>rfl
   |true=>exact j
def aEb (e:AU) (l:List AU) (hl:l.length≤1000) (j:EM l) (f:H8 e):ZV e l=some (Ot e l):=by
 have z:=f.sender;have I:=f.room;unfold ZV Ot
 have m:∀o:Option (Except Value Unit),(o.bind fun q=>(Qo q).bind fun u=>some u)=o.bind Qo:=fun o=>by
  cases o with
  |none=>rfl
  |some x=>cases h:Qo x<;>simp[h]
 rw[m];unfold aHU aAO sV tX;rw[aMI l hl,(aBI (s:=e.bC) AL).1,(aBI (s:=e.Room) AL).1,aGv l _ hl,ait e l hl j f,ahO e l hl j];simp only[Af,aD4,aKv,aHu,adi];show _=some (bif e.Kind==1 then(bif !(JO l).2&&(splitB e.bC (Jo e.bC)).2.1.toList==(splitB e.Room (Jo e.Room)).2.1.toList then 0 else 17)else _);cases e.Kind==1 with
 |true=>
  cases(JO l).2 with
  |true=>rfl
  |false=>cases(splitB e.bC (Jo e.bC)).2.1.toList==(splitB e.Room (Jo e.Room)).2.1.toList<;>rfl
 |false=>
  cases(JO l).2 with
  |false=>rfl
  |true=>
   cases e.Kind==2 with
   |true=>rfl
   |false=>cases JW l e.bC==3<;>rfl
def mQ (named:List AU) (k:Az):AU×Bool:=match named.find? (Ea k)with |some x=>(x,true)|none=>(G6,false)
def aJ (l:List AU) (s:List Az) (e:AU) (k:Az):AU×Bool:=bif (GX s k.Kind k.Key).2 then IE l (GX s k.Kind k.Key).1 else mQ (ofIds l e.bJ) k
def VE (l:List AU) (s:List Az) (e:AU) (k:Az):List AU:=bif (aJ l s e k).2 then[(aJ l s e k).1]else[]
def TY (l:List AU) (s:List Az) (e:AU):List AU:=(keysOf e).flatMap (VE l s e)
def abj (l:List AU) (s:List Az) (e:AU) (k:Az):(VE l s e k).length≤1:=by
 unfold VE;cases(aJ l s e k).2<;>simp
def al2 (l:List AU) (s:List Az) (e:AU):(TY l s e).length≤5:=by
 have j:=flat_length (f:=VE l s e) (n:=1) (abj l s e) (keysOf e);have m:=Zj e;unfold TY;omega
def as1 {l:List AU} {s:List Az} {e x:AU} (h:x∈TY l s e):x∈l:=by
 obtain⟨k,_,h⟩:=Qj.1 h;unfold VE aJ mQ at h;cases m:(GX s k.Kind k.Key).2 with
 |true=>
  rw[m]at h;simp only[Bh]at h;cases f:EO l (GX s k.Kind k.Key).1 with
  |none=>rw[SG f]at h;exact absurd h GR
  |some y=>rw[OQ f]at h;rw[Ho.1 h];exact Jz f
 |false=>
  rw[m]at h;simp only[BO]at h;cases j:(ofIds l e.bJ).find? (Ea k)with
  |none=>rw[j]at h;exact absurd h GR
  |some y=>rw[j]at h;rw[Ho.1 h];exact aFy (Ri j)
def EM.base {l:List AU} (h:EM l) (s:List Az) (e:AU):EM (TY l s e):=fun x f=>h x (as1 f)
def alc (named:List AU) (k:Az) (f:named.length≤1000):sZ named k=some (mQ named k):=by
 unfold sZ;rw[aBj named AL (fun a0=>iY a0 k) (Ea k) fun e=>by unfold iY Ea;rw[Om];cases e.Kind==k.Kind<;>rfl];exact found_eq named (Ea k) rfl
def aji (l:List AU) (s:List Az) (e:AU) (hl:l.length≤1000) (q:e.bJ.length≤40) (j:I5 s) (f:s.length≤1000000):yc l s e=some (TY l s e):=by
 unfold yc;have u:=aCF l e.bJ;have z:=Zj e;have m:IK 376 G6 0 5=some []:=by unfold IK;rw[Cb aBa];rfl
 rw[an8 l _ hl AL,m,aKK];simp only[Af];unfold adF;rw[KI (keysOf e) AL (fun r k=>r++VE l s e k) (fun i r=>r.length≤i) (fun r=>some r) (Dw _)]
 ·rw[foldl_append (VE l s e),J4];rfl
 ·intro k r i h I;have J:=abj l s e (keysOf e)[i];refine⟨JL,?_⟩;unfold aEz aAY uf;rw[DW h,alc _ _ AL,aHQ s _ _ f j];simp only[Af];rw[NM l _ AL,Et Ij];simp only[Af];rw[Et Ij];unfold VE aJ;cases(GX s (keysOf e)[i].Kind (keysOf e)[i].Key).2 with
  |true=>
   simp only[Bh];cases(IE l (GX s (keysOf e)[i].Kind (keysOf e)[i].Key).1).2 with
   |true=>rfl
   |false=>simp
  |false=>
   simp only[BO];cases(mQ (ofIds l e.bJ) (keysOf e)[i]).2 with
   |true=>rfl
   |false=>simp
 intro k r _;unfold aEz;rw[EP]
def RU (l:List AU) (s:List Az) (id:Int):Bool:=dM l id&&(Hg (ev l id).Kind&&Ot (ev l id) (TY l s (ev l id))==0)
def O1 (l:List AU) (s:List Az) (id:Int):List Az:=bif RU l s id then Gq s (ev l id).Kind (ev l id).Key (ev l id).Id else s
def Oy (l:List AU) (s:List Az) (ids:List Int):List Az:=ids.foldl (O1 l) s
def ab5 {l:List AU} {s:List Az} (h:I5 s) (id:Int):I5 (O1 l s id):=by
 unfold O1;cases RU l s id with
 |true=>exact U5 h _ _ _
 |false=>exact h
def aFG {l:List AU}:∀{ids:List Int} {s:List Az},I5 s→I5 (Oy l s ids)
 | [],_,h=>h
 |id::ids,s,h=>aFG (ids:=ids) (ab5 h id)
def adA (l:List AU) (s:List Az) (id:Int):(O1 l s id).length≤s.length+1:=by
 unfold O1;cases RU l s id with
 |true=>exact Rw _ _ _ _
 |false=>exact Nat.le_succ _
def aDR (l:List AU):∀(ids:List Int) (s:List Az),(Oy l s ids).length≤s.length+ids.length
 | [],s=>Dw _
 |id::ids,s=>by
  have f:=aDR l ids (O1 l s id);have j:=adA l s id;show(Oy l (O1 l s id) ids).length≤_;rw[FK];omega
def ag6 {l:List AU} (f:EM l) {id:Int} (h:dM l id=true):H8 (ev l id):=f _ (Jz (Ic h).1)
def aiH (l:List AU) (s:List Az) (id:Int) (hl:l.length≤1000) (z:EM l) (q:I5 s) (j:s.length≤1000000):wK l s id=some (O1 l s id):=by
 unfold wK aG1 jC O1 RU;have f:aAW s (.error (.iface 317 (.agg #[])):Except Value (List Az))=some s:=rfl;rw[NM l _ AL];simp only[Af];rw[SP];cases I:(EO l id).isSome with
 |false=>rw[show dM l id=false from I];exact f
 |true=>
  have m:dM l id=true:=I;have J:=ag6 z m;have u:(IE l id).1=ev l id:=rfl;rw[m,u,aKd];simp only[Af,ES,BO,G8];cases Hg (ev l id).Kind with
  |false=>exact f
  |true=>
   have L:=al2 l s (ev l id);rw[aji l s _ hl J.auth q j];simp only[Af,ES,BO,G8];rw[aEb _ _ AL (z.base s _) J];simp only[Af];rw[VY s _ _ _ j];unfold bne;cases Ot (ev l id) (TY l s (ev l id))==0 with
   |true=>rfl
   |false=>exact f
def abe (l:List AU) (s:List Az) (ids:List Int) (hl:l.length≤1000) (m:EM l) (f:I5 s) (q:s.length+ids.length≤1000000):XY l s ids=some (Oy l s ids):=by
 unfold XY aCD;rw[Et VU];simp only[Af,J4];unfold aKH;rw[KI ids AL (O1 l) (fun i r=>I5 r∧r.length≤s.length+i) (fun r=>some r) ⟨f,Dw _⟩]
 ·rfl
 ·intro k r i h j;have u:=adA l r ids[i];refine⟨⟨ab5 j.1 _,AL⟩,?_⟩;unfold aIM;rw[DW h,aiH l r _ hl m j.1 AL];rfl
 intro k r _;unfold aIM;rw[EP]
def KP (l:List AU) (f:List (List Az)):List Int:=VR l (Iy l f)
def Me (l:List AU) (f:List (List Az)):List Int:=vV l (qN l (KP l f)).length (qN l (KP l f))
def Il (l:List AU) (f:List (List Az)):List Az:=Oy l (JA f) (Me l f)
def Uk (l:List AU) (f:List (List Az)):List Int:=bif (GX (Il l f) 3 BZ).2 then bI l (GX (Il l f) 3 BZ).1 else[]
def MP (l:List AU) (f:List (List Az)):List Int:=Ci l (Uk l f) (RP (Iy l f) (KP l f))
def aAu (s a:List Az):List Az:=a.foldl (fun s x=>Gq s x.Kind x.Key x.Id) s
def lastOf (l:List AU) (f:List (List Az)):List Az:=aAu (Oy l (Il l f) (MP l f)) (JA f)
structure Lm (l:List AU) (sts:List (List Az)):Prop where
 len:l.length≤100
 small:EM l
 states:Pe sts
def rY {l:List AU} {f:List (List Az)} (h:Lm l f):(Iy l f).length≤40000:=by
 have z:=h.len;have I:=aDE h.states;have J:=Sj (QY f);have j:=aHP l f [] fun s m=>(h.states.2 s m).1;have q:=h.states.1;have u:=Nk (fun x=>decide (Jw l f x<f.length)) (allOf l f);have L:f.length*(100+l.length)≤100*200:=aCW q AL;have M:=aEI (Fj (QY f)) (O7 l f)
 have O:(O7 l f).length≤20000:=by
  unfold O7;unfold allOf at u ⊢;simp only[Nh]at j;omega
 unfold Iy;omega
def ahy {l:List AU} {f:List (List Az)} (h:Lm l f):(Ce l (Iy l f)).length≤40000:=Dn (Nk _ _) (rY h)
def aaw {l:List AU} {f:List (List Az)} (h:Lm l f):(Me l f).length≤100:=by
 have m:=aeY l (qN l (KP l f)).length (qN l (KP l f));have q:(qN l (KP l f)).length≤l.length:=yD (aEa _ _) fun x j=>(W9.1 j).2;have s:=h.len;unfold Me;omega
def aar {l:List AU} {f:List (List Az)} (h:Lm l f):(Il l f).length≤200:=by
 have j:=aDR l (Me l f) (JA f);have m:=aaw h;have q:=aAr h.states;unfold Il;omega
def aCp {l:List AU} {f:List (List Az)} (h:Lm l f):I5 (Il l f):=aFG (acJ h.states)
def arS {l:List AU} {f:List (List Az)} (h:Lm l f):(Uk l f).length≤100:=by
 have j:=arQ l (GX (Il l f) 3 BZ).1;have m:=h.len;unfold Uk;cases(GX (Il l f) 3 BZ).2 with
 |true=>simp only[Bh];omega
 |false=>exact EF _
def als {l:List AU} {f:List (List Az)} (h:Lm l f):(MP l f).length≤40000:=by
 have j:=aqK l (Uk l f) (RP (Iy l f) (KP l f));have m:=aMn (Iy l f) (KP l f);have q:=rY h;unfold MP;omega
def alk {l:List AU} {f:List (List Az)} (h:Lm l f):nN (Iy l f) (KP l f) l (Il l f,Me l f) (JA f,Fj (QY f)) (Uk l f)=some ⟨lastOf l f,Me l f,MP l f⟩:=by
 have q:=h.len;have u:=rY h;have z:=aLD l (Iy l f);have I:=arS h;have J:=aMn (Iy l f) (KP l f);have L:=aar h;have M:=als h;have O:=aAr h.states;unfold nN aEJ aGO;rw[akO _ _ AL (by unfold KP;omega)];simp only[Af];rw[akt l _ _ AL h.small AL AL (bf (aog _ _))];simp only[Af];show((XY l (Il l f) (MP l f)).bind _).bind _=_;rw[abe l _ _ AL h.small (aCp h) AL];simp only[Af];unfold acw;have U:=aDR l (MP l f) (Il l f);show aX _ BA 0 (⟨Oy l (Il l f) (MP l f),Me l f,MP l f⟩:MC)=_;rw[aDl (JA f) AL (fun v x=>({ v with Bo:=Gq v.Bo x.Kind x.Key x.Id }:MC)) (fun i v=>v.Bo.length≤(Oy l (Il l f) (MP l f)).length+i) (fun v=>some v) (Dw _)]
 ·congr 1;unfold lastOf aAu
  have key:∀(a:List Az) (v:MC),a.foldl (fun v x=>({ v with Bo:=Gq v.Bo x.Kind x.Key x.Id }:MC)) v=⟨a.foldl (fun s x=>Gq s x.Kind x.Key x.Id) v.Bo,v.YP,v.akT⟩:=by
   intro a
   induction a with
   |nil=>intro v;rfl
   |cons x a j=>intro v;rw[Fa,j];rfl
  rw[key]
 ·intro k v i hi Y;have m:=Rw v.Bo (JA f)[i].Kind (JA f)[i].Key (JA f)[i].Id;refine⟨by show(Gq _ _ _ _).length≤_;omega,?_⟩;unfold aE3;rw[DW hi,VY _ _ _ _ AL];rfl
 intro k v _;unfold aE3;rw[EP]
def arn {l:List AU} {f:List (List Az)} (h:Lm l f):sH l f=some ⟨lastOf l f,Me l f,MP l f⟩:=by
 have q:=h.len;have s:=rY h;have u:=aLD l (Iy l f);have z:=ahy h;have I:=aar h;have J:=aaw h;have L:=aAr h.states;have j:=alk h;unfold sH;rw[aa2 f h.states,aen l f AL h.small.ao1 h.states];simp only[Af];rw[alx l _ AL h.small AL AL];simp only[Af];unfold aG4 aEg;rw[agw l _ AL h.small AL];simp only[Af];have ha:XY l (JA f) (Me l f)=some (Il l f):=abe l _ _ AL h.small (acJ h.states) AL;unfold Me KP at ha;rw[ha];simp only[Af];rw[aHQ _ _ _ AL (aCp h)];simp only[Af];rw[ak7 l _ AL h.small];unfold Uk at j;cases m:(GX (Il l f) 3 BZ).2 with
 |true=>rw[m]at j;exact j
 |false=>rw[m]at j;exact j
def ac6 (a:List Az) (h:a.length≤1000000):iE a a=some true:=by
 unfold iE;rw[show((a.length:Int) != (a.length:Int))=false by simp];simp only[BO];unfold aKD;have f:a.any (fun _=>false)=false:=by rw[aAq];exact fun _ _ h=>Gt
 rw[IC a (fuel_lt AL) (fun _=>false) false (some true)]
 ·rw[f];rfl
 ·intro k i hi;unfold aEq lS;rw[dec_lt hi,DI hi];simp only[Bh,Af];rw[show(a[i].Kind != a[i].Kind)=false by simp,show(!(a[i].Key.toList==a[i].Key.toList))=false by simp,show(a[i].Id != a[i].Id)=false by simp];rfl
 intro k;unfold aEq;rw[EH];rfl
def Xw (l:List AU) (f:List (List Az)):List Az:=match f with
 | []=>[]
 | [s]=>s
 |_=>lastOf l f
def ahQ {l:List AU} {f:List (List Az)} (h:Lm l f):bV l f=some (Xw l f):=by
 match f,h with
 | [],_=>rfl
 | [s],h=>
   have z:=(h.states.2 s (FB ..)).1;have j:BJ [s] 0=some s:=rfl;show((BJ [s] 0).bind fun m=>(DU 32 [] m).bind fun q=>some q)=some s;rw[j];simp only[Af];rw[Et VU];rfl
 |s::t::f,h=>
  unfold bV;have j:(((s::t::f).length:Int)==0)=false:=by simp only[FK];simp;omega
  have u:(((s::t::f).length:Int)==1)=false:=by simp only[FK];simp;omega
  rw[j,u,arn h];rfl
def Lm.of {l:List AU} {f:List (List Az)} (m:l.length≤14∧EM l) (j:f.length≤100∧∀s∈f,s.length≤20∧I5 s):Lm l f:=
 ⟨by have :=m.1;omega,m.2,⟨j.1,fun s q=>⟨by have :=(j.2 s q).1;omega,(j.2 s q).2⟩⟩⟩
def aFW {x:Az}:∀(a s:List Az),x∈aAu s a→x∈a∨x∈s
 | [],_,h=>.inr h
 |y::a,s,h=>by
  rcases aFW a _ h with h|h
  ·exact .inl (G9 _ h)
  rcases Q5 h with h|h
  ·left;rw[h];cases y;exact FB ..
  exact .inr h
def aKZ (l:List AU) (ids:List Int) (x:Az):Prop:=∃id∈ids,dM l id=true∧Hg (ev l id).Kind=true∧x=⟨(ev l id).Kind,(ev l id).Key,(ev l id).Id⟩
def aHg {l:List AU} {x:Az}:∀(ids:List Int) (s:List Az),x∈Oy l s ids→x∈s∨aKZ l ids x
 | [],_,h=>.inl h
 |id::ids,s,h=>by
  rcases aHg ids _ h with h|⟨j,q,h⟩
  ·have f:x∈bif RU l s id then Gq s (ev l id).Kind (ev l id).Key (ev l id).Id else s:=h
   cases m:RU l s id with
   |false=>rw[m]at f;exact .inl f
   |true=>
    rw[m]at f;rcases Q5 f with f|f
    ·unfold RU at m;simp only[CP]at m;exact .inr ⟨id,FB ..,m.1,m.2.1,f⟩
    exact .inl f
  exact .inr ⟨j,G9 _ q,h⟩
def agG {l:List AU} {f:List (List Az)} {x:Int} (h:x∈KP l f):x∈Iy l f:=(aGP.1 h).1
def aKY {l:List AU} {f:List (List Az)} {x:Az} (h:x∈lastOf l f):x∈JA f∨aKZ l (Iy l f) x:=by
 unfold lastOf at h;rcases aFW _ _ h with h|h
 ·exact .inl h
 rcases aHg _ _ h with h|⟨j,m,h⟩
 ·unfold Il at h;rcases aHg _ _ h with h|⟨j,m,h⟩
  ·exact .inl h
  exact .inr ⟨j,agG (W9.1 (aDw _ _ _ m)).1,h⟩
 exact .inr ⟨j,(aMD.1 (aqG.1 m).1).1,h⟩
def abu :∀(a s:List Az),I5 s→I5 (aAu s a)
 | [],_,h=>h
 |x::a,s,h=>abu a _ (U5 h x.Kind x.Key x.Id)
def agv {l:List AU} {f:List (List Az)} (h:Lm l f):I5 (lastOf l f):=abu _ _ (aFG (aCp h))
structure II (l:List AU) (s:List Az):Prop where
 sorted:I5 s
 named:∀x∈s,dM l x.Id=true∧Hg x.Kind=true∧(ev l x.Id).Kind=x.Kind∧(ev l x.Id).Key=x.Key
def II.nil (l:List AU):II l []:=⟨List.Pairwise.nil,fun _ h=>absurd h GR⟩
def II.nodup {l:List AU} {s:List Az} (h:II l s):(s.map (·.Id)).Nodup:=by
 rw[aBl,List.pairwise_map];refine List.Pairwise.imp_of_mem ?_ h.sorted;intro a b ha j f e;obtain⟨_,_,m,k2⟩:=h.named a ha;obtain⟨_,_,q,u⟩:=h.named b j;have z:a.Kind=b.Kind:=by rw[←m,←q,e]
 have I:a.Key=b.Key:=by rw[←k2,←u,e]
 rw[nE (UU.2 ⟨z,I⟩)]at f;cases f
def II.length {l:List AU} {s:List Az} (h:II l s):s.length≤l.length:=by
 have :SC l (s.map (·.Id)):=⟨h.nodup,fun x f=>by
  obtain⟨y,j,rfl⟩:=F7.1 f
  exact(h.named y j).1⟩
 have :=this.length
 rwa [Ch]at this
def II.okay {l:List AU} {f:List (List Az)} (hl:l.length≤100) (m:EM l) (q:f.length≤100) (h:∀s∈f,II l s):Lm l f:=
 ⟨hl,m,q,fun s j=>⟨Dn (h s j).length hl,(h s j).sorted⟩⟩
def II.resolve {l:List AU} {f:List (List Az)} (j:Lm l f) (h:∀s∈f,II l s):II l (Xw l f):=by
 match f,j,h with
 | [],_,_=>exact .nil l
 | [s],_,h=>exact h s (FB ..)
 |s::t::f,j,h=>
  refine⟨agv j,fun x z=>?_⟩;rcases aKY z with I|⟨id,_,u,hst,m⟩
  ·exact(h s (FB ..)).named x ((aMo j.states (List.cons_ne_nil _ _)).1 I s (FB ..))
  have q:=Ic u;have J:x.Id=id:=by rw[m];exact q.2
  rw[J];exact⟨u,by rw[m];exact hst,by rw[m],by rw[m]⟩
def II.set {l:List AU} {s:List Az} (h:II l s) {e:AU} (m:dM l e.Id=true) (j:ev l e.Id=e) (hst:Hg e.Kind=true):II l (Gq s e.Kind e.Key e.Id):=
 ⟨U5 h.sorted _ _ _,fun x f=>by
  rcases Q5 f with rfl|f
  ·exact⟨m,hst,by rw[j],by rw[j]⟩
  exact h.named x f⟩
end Go.Proofs.YtolgdkhlelfpoaaGreat
end
