/- Part 6 of the laws' proofs (short forms by wip/shrink2.py). -/
import Derived.Test.YtfmoknlmaldmlaaGreatRa5
set_option linter.defProp false
set_option linter.unnecessarySimpa false
set_option linter.unusedSectionVars false
set_option linter.unusedVariables false
set_option linter.unusedSimpArgs false
namespace Go.Proofs.YtfmoknlmaldmlaaGreat
open Go.RowKit Go.Proofs.Tryz
section
set_option maxRecDepth 20000
set_option maxHeartbeats 4000000
def aIU (j:C9)(q:(Int->AB Int)):Int->AB Int:=λu=>(bif u<(j.Waiting.length:Int) then(Au j.Waiting u).bind λz=>(a6G j.Events z).bind λI=>(bif I then some 26 else q (BA (u+1)))else(bif (j.Waiting.length:Int)>200 then some 29 else some 0))
def aBv (j:C9):Int->AB Int:=bn (aIU j) Az
def aJJ (j:C9)(u:(Int->AB Int)):Int->AB Int:=λq=>(bif q<(j.Waiting.length:Int) then(Au j.Waiting q).bind λz=>(LD j.Events z.Id).bind λI=>(bif I.2 then some 4 else u (BA (q+1)))else aBv j 0)
def aP1 (j:C9):Int->AB Int:=bn (aJJ j) Az
def a1X (j:C9):AB Int:=(s0 j j.Waiting).bind λq=>(bif (q != 0)then some q else aP1 j 0)
def afn :=Dj func80 rfl a1X HY Af λj r h=>Ag<|AV h λq u h=>AX 3<|.X (aPa u)<|Ah<|Ag<|BL h CG λh=>Ah<|Ag<|Ar<|Du (λq=>⟨BG 54 [(1,.ptr 0 0),(4,Af q)],[.box (BH (CZ j))],0⟩) _ _ _ (Ak [Ae 0]) h<|λq u I z h=>Ah<|AX 3<|.Z (BN BF j.Waiting)<|Bq h (λh=>Ah<|Ar<|Bv h λq u z J h=>dB [Tn 5 (Go.Op.indexAddr 22 (Go.Operand.tmp 26) (Go.Operand.tmp 27)) (λq I z=>ZG (k:=.i64) BF u NW IY AA z),Yr 8 (NU J) anC] 66<|uX) λh=>Ce<|Ah<|Ag<|Ar<|Du (λq=>⟨BG 54 [(1,.ptr 0 0),(7,Af q)],[.box (BH (CZ j))],0⟩) _ _ _ (Ak [Ae 0]) h<|λq u I z h=>Ah<|AX 3<|.Z (BN BF j.Waiting)<|Bq h (λh=>Ah<|Ar<|Bv h λq u z J h=>F5 AA AA AA (.a 5<|.p (BK BF u)<|.a 1<|.ca (alq J)<|.nil _)<|BL h CG λh=>jM) λh=>Ce<|Ah<|AX 2<|.Z (BN BF j.Waiting)<|JW
def a2E (k3:(Ac->Int->AB Ac))(v2:Int)(j:Ac):AB Ac:=k3 j (BA (v2+1))
def aCe (j:Aq)(q:Fq)(k3:(Ac->Int->AB Ac)):Ac->Int->AB Ac:=λu v2=>(bif v2<(j.length:Int) then(Au j v2).bind λL=>(YS q L.Id).bind λJ=>(bif J.2 then some (J.1.Err==0)else some false).bind λM=>(bif M then(Au j v2).bind λz=>(DC 8 u [z.Id]).bind λI=>a2E k3 v2 I else a2E k3 v2 u)else some u)
def aWk (j:Aq)(q:Fq):Ac->Int->AB Ac:=aP (aCe j q) Az
def a2V (j:Aq)(q:Fq):AB Ac:=aWk j q [] 0
def ahp :=Gg func243 rfl a2V BM UG Cb λj q r h=>BU<|.f (CW 3 1)<|.aX<|BU<|.f (CW 3 1)<|.aX<|Ah<|Ag<|Ar<|DX (λI u=>⟨BG 40 [(0,BM j),(1,UG q),(5,.aQ 0),(6,Af u)],[(Cb I)],0⟩) _ _ _ _ (Ak [Ae 1]) h<|λI u z L J h=>Ah<|AX 2<|.Z (BN BF j)<|Bq h (λh=>D7 (λs=>∃(M:(A8 Int)),CO s ⟨BG 40 [(0,BM j),(1,UG q),(5,.aQ 0),(6,Af J)],[(Cb M)],0⟩/\a2E u J M=some r) (by rintro s ⟨M,hs,h⟩;exact D9 hs<|YO)<|λI=>Ar<|Bv h λu z J O h=>AX 3<|.p (BK BF z)<|.a 2<|.X (a2L O)<|AX 1<|AV h λu z h=>.mg 26 4 (Am u) (.bi z)<|.aX<|BL h (λh=>Bv h λu z L J h=>CV<|.a 3<|.p (BK BF z)<|.a 2<|.p (EG Dy zero3 [Ai u.Id])<|.f (Dv (k:=0) Ai J Dy AA (λ_=>rfl) Bl)<|.aN<|I _ ⟨L,Ak [Ae 2],h⟩) λh=>I _ ⟨L,Ak [Ae 0],h⟩) λh=>JF
def a7A (j:(Ac->Int->AB Ac))(q:Int)(u:Ac):AB Ac:=j u (BA (q+1))
def a6O (j:(Ad->Int->Ac->AB Ac))(z:Int)(q:Ad)(u:Ac):AB Ac:=j q (BA (z+1)) u
def eu (j:(Ad->Int->Ac->AB Ac))(z:Int)(q:Ac)(I:Ad)(u:Ad):AB Ac:=(bif u then a6O j z false q else a6O j z I q)
def aEo (L:Ac)(z:Aq)(I:Int)(k4:(Ac->Int->AB Ac))(q:(Ad->Int->Ac->AB Ac)):Ad->Int->Ac->AB Ac:=λM u j=>(bif u<(L.length:Int) then(Au L u).bind λO=>(LD z O).bind λJ=>(bif J.2 then(bif (u != I)then(Au L I).bind λU=>(TJ J.1.bG U).bind λY=>eu q u j M Y else eu q u j M false)else eu q u j M false)else(bif M then(Au L I).bind λZ=>(DC 8 j [Z]).bind λx27=>a7A k4 I x27 else a7A k4 I j))
def aLd (q:Ac)(j:Aq)(u:Int)(z:(Ac->Int->AB Ac)):Ad->Int->Ac->AB Ac:=iU (aEo q j u z) Az
def aJg (q:Ac)(j:Aq)(z:(Ac->Int->AB Ac)):Ac->Int->AB Ac:=λv2 u=>(bif u<(q.length:Int) then aLd q j u z true 0 v2 else some v2)
def aNc (q:Ac)(j:Aq):Ac->Int->AB Ac:=aP (aJg q j) Az
def a5O (q:Aq)(j:Ac):AB Ac:=(qC j).bind λu=>aNc u q [] 0
def aif :=Gg func242 rfl a5O BM Bh Cb λj I5 r h=>BU<|.f (CW 3 1)<|.aX<|AV h λu q h=>AX 1<|.X (aEe q).view<|BU<|.Y (I7 Dy zero3 [])<|Ah<|Ag<|Ar<|DX (λq z=>⟨BG 60 [(0,BM j),(5,Bh u),(6,.aQ 0),(7,Af z)],[(Cb q)],0⟩) _ _ _ _ (Ak [Ae 1]) h<|λq z I J L h=>Ah<|AX 2<|.Z (BN Ai u)<|Bq h (λh=>D7 (λs=>∃(v6:(A8 Int)),CO s ⟨BG 60 [(0,BM j),(5,Bh u),(6,.aQ 0),(7,Af L)],[(Cb v6)],0⟩/\a7A z L v6=some r) (by rintro s ⟨v6,hs,h⟩;exact D9 hs<|U2)<|λq=>Ar<|Ag<|Ah<|Ag<|Ar<|Qw (λq z I=>⟨BG 60 [(0,BM j),(5,Bh u),(6,.aQ 0),(7,Af L),(8,Am q),(9,Af z)],[(Cb I)],0⟩) _ _ _ _ _ (Ak [Ae 0]) h<|λz I J Y x8 Z h=>Ah<|AX 2<|.Z (BN Ai u)<|Bq h (λh=>D7 (λs=>∃(M:Ad) (O:(A8 Int)),CO s ⟨BG 60 [(0,BM j),(5,Bh u),(6,.aQ 0),(7,Af L),(8,Am M),(9,Af x8)],[(Cb O)],0⟩/\a6O I x8 M O=some r) (by rintro s ⟨M,O,hs,h⟩;exact D9 hs<|D8<|J _ _ _ _ (Ak [Ae 0]) h)<|λq=>Ar<|Bv h λz J x10 x11 h=>AX 3<|.p (BK Ai J)<|.a 1<|.X (NU x11)<|D7 (λs=>∃(U:Ad),CO s ⟨BG 60 [(0,BM j),(5,Bh u),(6,.aQ 0),(7,Af L),(8,Am Y),(9,Af x8),(50,Am U)],[(Cb Z)],0⟩/\eu I x8 Z Y U=some r) (by rintro s ⟨U,hs,h⟩;exact D9 hs<|BL h (λh=>D8<|q _ ⟨false,Z,Ak [Ae 0],h⟩) λh=>q _ ⟨Y,Z,Ak [Ae 0],h⟩)<|λu=>EY h (λq h=>EY h (λz h=>Bv h λI J L Y h=>DN AA AA AA (.a 1<|.c (BJ some q)<|.a 4<|.c (BJ some z)<|.a 4<|.p (BK Ai J)<|.a 1<|.ca (X7 Y)<|.a 1<|.nil _)<|u _ ⟨L,Ak [Ae 0],h⟩) λz h=>DN AA AA AA (.a 1<|.c (BJ some q)<|.a 4<|.c (BJ some z)<|.a 8<|.nil _)<|u _ ⟨false,Ak [Ae 0],h⟩) λq h=>DN AA AA AA (.a 1<|.c (BJ some q)<|.a 13<|.nil _)<|u _ ⟨false,Ak [Ae 0],h⟩) λh=>Ce<|Ag<|BL h (λh=>Bv h λu z I J h=>CV<|.a 3<|.p (BK Ai z)<|.a 1<|.p (EG Dy zero3 [Ai u])<|.f (Dv (k:=0) Ai J Dy AA (λ_=>rfl) Bl)<|.aN<|q _ ⟨I,Ak [Ae 1],h⟩) λh=>q _ ⟨Z,Ak [Ae 0],h⟩) λh=>JF
def a1D (j:Aq)(q:Fq):AB Ac:=(a2V j q).bind λu=>(a5O j u).bind λz=>some z
def aWu :=Gg func157 rfl a1D BM UG Cb λj q r h=>BU<|.f (CW 3 1)<|.aX<|Bv h λu z J I h=>AX 3<|.ca (ahp z).view<|.Y (x:=.aQ 1) (Jo [BM j,Bh u] (aif I))<|KF
def a2R (j:Aq):AB Ac:=(mP j).bind λq=>(a1D j q).bind λu=>some u
def aSg :=LQ func81 rfl a2R BM Cb λj r h=>BU<|.f (CW 3 1)<|.aX<|Bv h λq u I z h=>AX 2<|.ca (aGZ u).view<|.Y (x:=.aQ 1) (Jo [BM j,UG q] (aWu z))<|KF
def uG (j:Ac)(q:Ac)(k3:(Int->AB Ad)):Int->AB Ad:=λv2=>(bif v2<(j.length:Int) then(Au j v2).bind λu=>(Au q v2).bind λz=>(bif (u != z)then some false else k3 (BA (v2+1)))else some true)
def aFP (j:Ac)(q:Ac):Int->AB Ad:=bn (uG j q) Az
def dw (j:Ac)(q:Ac):AB Ad:=(bif ((j.length:Int) != (q.length:Int))then some false else aFP j q 0)
def aJH :=DV func37 rfl dw Bh Bh Am λj q r h=>Ag<|Ah<|AX 1<|.p (BN Ai j)<|.a 1<|.Z (BN Ai q)<|BL h CG λh=>Ah<|Ag<|Ar<|Du (λu=>⟨BG 26 [(0,Bh j),(1,Bh q),(5,Af u)],[],0⟩) _ _ _ (Ak []) h<|λu z I J h=>Ah<|AX 2<|.Z (BN Ai j)<|Bq h (λh=>Ah<|Ar<|Bv h λu z J L h=>F5 AA AA AA (.a 2<|.p (BK Ai z)<|.a 3<|.p (BK Ai L)<|.a 2<|.nil _)<|BL h CG λh=>TA) λh=>Eh
def aBk (I:Ac)(j:Fq)(q:Aq)(J:(Fr->Int->AB Bc)):Fr->Int->AB Bc:=λv2 u=>(bif u<(I.length:Int) then(Au I u).bind λL=>(YS j L).bind λM=>(DC 24 v2 [M.1.After]).bind λO=>J O (BA (u+1))else(bif ((v2.length:Int)==0)then some []else(a1G q v2).bind λz=>some z))
def aRn (u:Ac)(j:Fq)(q:Aq):Fr->Int->AB Bc:=aP (aBk u j q) Az
def a4x (j:Aq)(q:Fq):AB Bc:=(a1D j q).bind λu=>aRn u q j [] 0
def al8 :=DV func158 rfl a4x BM UG Dh λq u r h=>Ag<|AV h λz j h=>AX 2<|.X (aWu j).view<|BU<|.f (CW 41 1)<|.aX<|Ah<|Ag<|Ar<|DX (λj I=>⟨BG 39 [(0,BM q),(1,UG u),(5,Bh z),(6,.aQ 0),(7,Af I)],[.arr 41 1 (List.map (BZ BX) j)],0⟩) _ _ _ _ (Ak [Ae 0]) h<|λj I L J M h=>Ah<|AX 2<|.Z (BN Ai z)<|Bq h (λh=>Ah<|Ar<|Bv h λz j I J h=>AX 3<|.p (BK Ai j)<|.a 1<|.X (a2L J)<|AV h λz j h=>CV<|.a 3<|.p (EG ZQ UQ [(BZ BX) I.1.After])<|.f (Dv (k:=0) (BZ BX) j ZQ AA (λ_=>rfl) Bl)<|.aN<|D8<|L _ _ _ (Ak [Ae 2]) h) λh=>Ce<|Ah<|AX 1<|.Z (Kt (k:=0) (e':=41) (s:=1) (BZ BX) J AA aHn)<|BL h CG λh=>AV h λz j h=>AX 2<|.conv _ (Jk (e:=41) (s:=1) 0 (xs:=List.map (BZ BX) J) AA)<|.X (aQE j)<|CY
def a6h (j:Aq):AB Bc:=(mP j).bind λq=>(a4x j q).bind λu=>some u
def ae8 :=Dj func82 rfl a6h BM Dh λj r h=>Ag<|Bv h λz q I u h=>AX 2<|.ca (aGZ q).view<|.X (al8 u)<|CY
def oH (k3:(Int->AB Ad))(v2:Int)(j:Ad):AB Ad:=(bif j then some false else k3 (BA (v2+1)))
def a04 (j:Bc)(q:Bc)(k3:(Int->AB Ad)):Int->AB Ad:=λv2=>(bif v2<(j.length:Int) then(Au j v2).bind λL=>(Au q v2).bind λM=>(bif (L.Kind != M.Kind)then oH k3 v2 true else(Au j v2).bind λu=>(Au q v2).bind λz=>(bif (!(u.Key.toList==z.Key.toList))then oH k3 v2 true else(Au j v2).bind λI=>(Au q v2).bind λJ=>oH k3 v2 (I.Id != J.Id)))else some true)
def aJR (j:Bc)(q:Bc):Int->AB Ad:=bn (a04 j q) Az
def jJ (j:Bc)(q:Bc):AB Ad:=(bif ((j.length:Int) != (q.length:Int))then some false else aJR j q 0)
def aLe :=DV func71 rfl jJ Dh Dh Am λj q r h=>Ag<|Ah<|AX 1<|.p (BN BX j)<|.a 1<|.Z (BN BX q)<|BL h CG λh=>Ah<|Ag<|Ar<|Du (λI=>⟨BG 54 [(0,Dh j),(1,Dh q),(5,Af I)],[],0⟩) _ _ _ (Ak []) h<|λI z J u h=>Ah<|AX 2<|.Z (BN BX j)<|Bq h (λh=>Ah<|Ar<|D7 (λs=>∃(L:Ad),CO s ⟨BG 54 [(0,Dh j),(1,Dh q),(5,Af u),(53,Am L)],[],0⟩/\oH z u L=some r) (by rintro s ⟨L,hs,h⟩;exact D9 hs<|BL h CG λh=>Y5)<|λI=>Bv h λz J u M h=>EY h (λz h=>DN AA AA AA (.a 2<|.p (BK BX J)<|.a 4<|.p (BK BX M)<|.a 3<|.c (BJ some z)<|.a 25<|.nil _)<|I _ ⟨true,Ak [],h⟩) λz h=>Bv h λu Y Z x8 h=>EY h (λu h=>DN AA AA AA (.a 2<|.p (BK BX J)<|.a 4<|.p (BK BX M)<|.a 3<|.c (BJ some z)<|.a 2<|.p (BK BX Y)<|.a 4<|.p (BK BX x8)<|.a 4<|.c (BJ some u)<|.a 12<|.nil _)<|I _ ⟨true,Ak [],h⟩) λu h=>Bv h λZ x9 O U h=>DN AA AA AA (.a 2<|.p (BK BX J)<|.a 4<|.p (BK BX M)<|.a 3<|.c (BJ some z)<|.a 2<|.p (BK BX Y)<|.a 4<|.p (BK BX x8)<|.a 4<|.c (BJ some u)<|.a 2<|.p (BK BX x9)<|.a 4<|.p (BK BX U)<|.a 4<|.nil _)<|I _ ⟨(Z.Id != O.Id),Ak [],h⟩) λh=>Eh
def aB5 (j:Ad):AB Int:=(bif j then some 6 else some 0)
def yS (j:C9)(J:Int):AB Int:=(bif (J != 0)then some J else(a8e j).bind λM=>(bif (!M)then some 6 else(a1X j).bind λL=>(bif (L != 0)then some L else(a2R j.Events).bind λq=>(dw j.yK q).bind λu=>(bif (!u)then aB5 true else(a6h j.Events).bind λz=>(jJ j.State z).bind λI=>aB5 (!I)))))
def lq (j:C9):AB Int:=(eM j.Id).bind λz=>(bif (z != 0)then some 3 else(s0 j j.Events).bind λu=>(bif (u==0)then(vZ j.Events).bind λq=>yS j q else yS j u))
def aMo :=Dj func24 rfl lq HY Af λu r h=>Ag<|Ah<|AV h λq j h=>AX 2<|.X (aJK j)<|BL h CG λh=>AV h λq j h=>AX 3<|.X (aPa j)<|D7 (λs=>∃(J:Int),CO s ⟨BG 44 [(1,.ptr 0 0),(3,Af J)],[.box (BH (CZ u))],0⟩/\yS u J=some r) (by rintro s ⟨J,hs,h⟩;exact D9 hs<|Ah<|Ag<|BL h CG λh=>Ah<|AV h λq j h=>AX 1<|.X (aeG j)<|BL h CG λh=>AV h λq j h=>AX 1<|.X (afn j)<|Ah<|Ag<|BL h CG λh=>Ah<|D7 (λs=>∃(z:Ad),CO s ⟨BG 44 [(43,Am z)],[],0⟩/\aB5 z=some r) aNM<|λq=>Bv h λj I Z O h=>EY h (λL h=>DN AA AA AA (.a 4<|.ca (aSg I).view<|.ca (aJH O)<|.a 1<|.c (BJ some L)<|.a 8<|.nil _)<|q _ ⟨true,Ak [],h⟩) λL h=>Bv h λx7 U Y M h=>DN AA AA AA (.a 4<|.ca (aSg I).view<|.ca (aJH O)<|.a 1<|.c (BJ some L)<|.a 4<|.ca (ae8 U)<|.ca (aLe M)<|.a 2<|.nil _)<|q _ ⟨(!Y),Ak [],h⟩)<|λj=>Ag<|BL h (λh=>AV h λq I h=>CV<|.a 2<|.ca (aU8 I)<|.aN<|j _ ⟨q,Ak [Ae 0],h⟩) λh=>j _ ⟨q,Ak [Ae 0],h⟩
def uq (j:(Int->AB Ad))(q:Int)(u:Ad):AB Ad:=(bif u then some false else j (BA (q+1)))
def aKb (u:Int)(j:Aq)(k2:(Int->AB Ad))(O:(Int->AB Ad)):Int->AB Ad:=λq=>(bif q<u then(Au j u).bind λz=>(Au j q).bind λI=>(bif (z.Id==I.Id)then(Au j u).bind λJ=>(Au j q).bind λL=>(a4w J L).bind λM=>uq O q M else uq O q false)else k2 (BA (u+1)))
def aV1 (q:Int)(j:Aq)(k2:(Int->AB Ad)):Int->AB Ad:=bn (aKb q j k2) Az
def aIS (j:Aq)(k2:(Int->AB Ad)):Int->AB Ad:=λq=>(bif q<(j.length:Int) then aV1 q j k2 0 else some true)
def aOk (j:Aq):Int->AB Ad:=bn (aIS j) Az
def qc (j:Aq):AB Ad:=aOk j 0
def aY3 :=Dj func25 rfl qc BM Am λj r h=>Ag<|Ah<|Ag<|Ar<|Du (λq=>⟨BG 38 [(0,BM j),(3,Af q)],[],0⟩) _ _ _ (Ak []) h<|λq u z I h=>Ah<|AX 2<|.Z (BN BF j)<|Bq h (λh=>Ah<|Ar<|Ag<|Ar<|Du (λq=>⟨BG 38 [(0,BM j),(3,Af I),(4,Af q)],[],0⟩) _ _ _ (Ak []) h<|λq u J L h=>Ah<|Ag<|Bq h (λh=>Ah<|Ar<|D7 (λs=>∃(M:Ad),CO s ⟨BG 38 [(0,BM j),(3,Af I),(4,Af L),(37,Am M)],[],0⟩/\uq u L M=some r) (by rintro s ⟨M,hs,h⟩;exact D9 hs<|BL h CG λh=>Y5)<|λq=>Bv h λu z I J h=>EY h (λu h=>Ho h λI L Z U Y O h=>DN AA AA AA (.a 2<|.p (BK BF z)<|.a 4<|.p (BK BF J)<|.a 3<|.c (BJ some u)<|.a 2<|.p (BK BF L)<|.a 3<|.p (BK BF U)<|.a 1<|.ca (aag O)<|.a 1<|.nil _)<|q _ ⟨Y,Ak [],h⟩) λu h=>DN AA AA AA (.a 2<|.p (BK BF z)<|.a 4<|.p (BK BF J)<|.a 3<|.c (BJ some u)<|.a 10<|.nil _)<|q _ ⟨false,Ak [],h⟩) λh=>Ce<|UU) λh=>Eh
def aIJ (q:Aa)(j:BP):AB Aa:=(yu q).bind λu=>(vK ({ q with Hash:=u })).bind λz=>some ({ { { q with Hash:=u }with Id:=z }with sH:=(⟨j,({ { q with Hash:=u }with Id:=z }).Id⟩:PY) })
def aVT :=DV func55 rfl aIJ DY Cx DY λq j r h=>Ag<|AV h λz u h=>AX 1<|.X (aP5 u)<|AV h λu I h=>AX 1<|.X (aSn I)<|Ag<|Ag<|F6<|by rw[←CQ h];exact⟨[DY ({ { { q with Hash:=z }with Id:=u }with sH:=(⟨j,({ { q with Hash:=z }with Id:=u }).Id⟩:PY) })],[],⟨⟨1,BH (BF ({ { { q with Hash:=z }with Id:=u }with sH:=(⟨j,({ { q with Hash:=z }with Id:=u }).Id⟩:PY) })),true,29,AA,AA,AA,IY,Dt AA,a0N,AA⟩,trivial⟩,AA,AA,AA⟩
def ajk (I:Aa)(k3:(Int->(A8 (Int×Ad))->AB Ac))(J:Int)(u:(Int->(A8 (Int×Ad))->AB Ac)):Int->(A8 (Int×Ad))->AB Ac:=λj q=>(bif j<(I.bI.length:Int) then(Au I.bI j).bind λz=>u (BA (j+1)) (ER q z true)else k3 (BA (J+1)) q)
def aYw (j:Aa)(k3:(Int->(A8 (Int×Ad))->AB Ac))(q:Int):Int->(A8 (Int×Ad))->AB Ac:=aP (ajk j k3 q) Az
def aal (j:Aa)(k3:(Int->(A8 (Int×Ad))->AB Ac))(I:Int)(J:(Int->(A8 (Int×Ad))->AB Ac)):Int->(A8 (Int×Ad))->AB Ac:=λq z=>(bif q<(j.bG.length:Int) then(Au j.bG q).bind λu=>J (BA (q+1)) (ER z u true)else aYw j k3 I 0 z)
def aaO (j:Aa)(k3:(Int->(A8 (Int×Ad))->AB Ac))(q:Int):Int->(A8 (Int×Ad))->AB Ac:=aP (aal j k3 q) Az
def aYX (j:Aq)(k3:(Int->(A8 (Int×Ad))->AB Ac)):Int->(A8 (Int×Ad))->AB Ac:=λq v2=>(bif q<(j.length:Int) then(Au j q).bind λz=>aaO z k3 q 0 v2 else(Yi v2).bind λu=>some u)
def alO (j:Aq):Int->(A8 (Int×Ad))->AB Ac:=aP (aYX j) Az
def aHE (j:Aq):AB Ac:=alO j 0 []
def aNB :=LQ func108 rfl aHE BM Cb λj r h=>BU<|.f (CW 3 1)<|.aX<|BU<|.Y (x:=.mp 1) o9<|Ah<|AX 1<|.Z (BN BF j)<|Ar<|DX (λq u=>⟨BG 40 [(3,.mp 0),(11,BM j),(12,Af (j.length:Int)),(13,Af q)],[.map (List.map (CS Cm E9) u)],0⟩) _ _ _ _ (Ak [Ae 1]) h<|λq u z I L h=>Ag<|Ah<|Bq h (λh=>Ah<|Ar<|AV h λq u h=>BU<|.Z (BK BF u)<|Ah<|AX 2<|.Z (BN Ai q.bG)<|Ar<|DX (λu z=>⟨BG 40 [(3,.mp 0),(5,.ptr 1 0),(11,BM j),(12,Af (j.length:Int)),(13,Af I),(18,Bh q.bG),(19,Af (q.bG.length:Int)),(20,Af u)],[.map (List.map (CS Cm E9) z),.box (BH (BF q))],0⟩) _ _ _ _ (Ak [Ae 0,Ae 1]) h<|λu L J O M h=>Ag<|Ah<|Bq h (λh=>Ah<|Ar<|AV h λq u h=>BU<|.Z (BK Ai u)<|CV<|.a 2<|.f (Xm (k:=0) (key:=q) (val:=true) (m:=M) E9 RH I8 AA)<|.nil<|zQ) λh=>Ce<|AX 2<|.Z (BN Ai q.bI)<|Ar<|DX (λu z=>⟨BG 40 [(3,.mp 0),(11,BM j),(12,Af (j.length:Int)),(13,Af I),(28,Bh q.bI),(29,Af (q.bI.length:Int)),(30,Af u)],[.map (List.map (CS Cm E9) z)],0⟩) _ _ _ _ (Ak [Ae 0]) h<|λq u I L J h=>Ag<|Ah<|Bq h (λh=>Ah<|Ar<|AV h λq u h=>BU<|.Z (BK Ai u)<|CV<|.a 2<|.f (Xm (k:=0) (key:=q) (val:=true) (m:=J) E9 RH I8 AA)<|.nil<|U2) λh=>Ce<|YO) λh=>Ce<|AV h λq u h=>AX 1<|.Y (x:=.aQ 1) (EP [.ent 0] [.mp 0] (aQV u))<|KF
def aCa (j:C9):AB Ac:=(aHE j.Events).bind λq=>(aHE j.Waiting).bind λu=>(aTZ q u).bind λz=>(dh j.Events z).bind λI=>(dh j.Waiting I).bind λJ=>some J
def aV4 :=Dj func38 rfl aCa HY Bh λu r h=>Ag<|Ho h λz j I q L J h=>F5 AA AA AA (.a 2<|.ca (aNB j).view<|.a 2<|.ca (aNB q).view<|.ca (acw J).view<|.a 1<|.nil _)<|Bv h λz j I q h=>F5 AA AA AA (.a 5<|.ca (a1U j).view<|.ca (a1U q).view<|.a 1<|.nil _)<|CY
def aii (j:Aq)(q:C9)(z:(Int->AB Int)):Int->AB Int:=λu=>(bif u<(j.length:Int) then(Au j u).bind λI=>(bif (!(I.Room.toList==q.Id.toList))then some 13 else z (BA (u+1)))else some 0)
def agS (j:Aq)(q:C9):Int->AB Int:=bn (aii j q) Az
def aF2 (q:C9)(j:Aq):AB Int:=(NZ j).bind λu=>(bif (u != 0)then some u else agS j q 0)
def aWJ :=DV func90 rfl aF2 HY BM Af λq j r h=>Ag<|Ah<|AV h λu z h=>AX 1<|.X (aUY z)<|Ag<|BL h CG λh=>Ah<|AX 1<|.Z (BN BF j)<|Ar<|Du (λu=>⟨BG 25 [(2,.ptr 0 0),(13,BM j),(14,Af (j.length:Int)),(15,Af u)],[.box (BH (CZ q))],0⟩) _ _ _ (Ak [Ae 0]) h<|λu z I J h=>Ag<|Ah<|Bq h (λh=>Ah<|Ar<|AV h λu z h=>BU<|.Z (BK BF z)<|uX) λh=>Eh
def aVs (j:Int):AB Ac:=fC 8 j
def aaP {p1 r}(h:aVs p1=some r):E8 256 [.d (.lit (.slice none 0 0)),Af p1] [] (.aQ 0) [(Cb r)]:=
 aiQ Ai p1 r h
def aOz (j:Qa)(q:(Ac->Int->AB Ac)):Ac->Int->AB Ac:=λJ u=>(bif u<(j.length:Int) then(Au j u).bind λz=>(DC 8 J z).bind λI=>q I (BA (u+1))else some J)
def an5 (j:Qa):Ac->Int->AB Ac:=aP (aOz j) Az
def aUU (j:Qa)(k3:(Int->Int->AB Ac)):Int->Int->AB Ac:=λq v2=>(bif v2<(j.length:Int) then(Au j v2).bind λu=>(bif (BA (q+(u.length:Int)))<0 then none else k3 (BA (q+(u.length:Int))) (BA (v2+1)))else(aVs q).bind λz=>an5 j z 0)
def aij (j:Qa):Int->Int->AB Ac:=aP (aUU j) Az
def aET (j:Qa):AB Ac:=aij j 0 0
def abk {mX r}(h:aET mX=some r):E8 174 [.d ((BZ (BZ Ai)) mX)] [] (.aQ 0) [(Cb r)]:=by
 refine Ec func174 rfl ?_;unfold aET at h;refine BU<|.f (CW 3 1)<|.aX<|Ag<|Ah<|AX 1<|.Z (BN (BZ Ai) mX)<|Ar ?_;refine DX (λz v2=>⟨BG 36 [(0,.d ((BZ (BZ Ai)) mX)),(3,Af z),(9,.d ((BZ (BZ Ai)) mX)),(10,Af (mX.length:Int)),(11,Af v2)],[],0⟩) _ _ _ _ (Ak []) h ?_;clear h;intro U k3 I z v2 h;unfold aUU at h;refine Ag<|Ah<|Di h (λh=>?_) λh=>?_
 ·refine Ew<|Ah<|Ar ?_;obtain⟨Y,J,h⟩:=Dq h;refine BU<|.Z (BK (BZ Ai) J)<|AX 2<|.Z (BN Ai Y)<|Ag<|Di h (λh=>?_) λh=>?_
  ·cases h
  refine Ew<|CV<|.a 2<|.nil ?_;exact I _ _ _ (Ak []) h
 refine Ce ?_;obtain⟨x7,L,h⟩:=Dq h;refine AX 1<|.Y (x:=.aQ 0) (Jo [.d (.lit (.slice none 0 0)),Af z] (aaP L))<|Ah<|AX 1<|.Z (BN (BZ Ai) mX)<|Ar ?_;refine DX (λM O=>⟨BG 36 [(6,.aQ 0),(25,.d ((BZ (BZ Ai)) mX)),(26,Af (mX.length:Int)),(27,Af O)],[(Cb M)],0⟩) _ _ _ _ (Ak [Ae 0]) h ?_;clear h;intro Z k10 j M O h;unfold aOz at h;refine Ag<|Ah<|Di h (λh=>?_) λh=>?_
 ·refine Ew<|Ah<|Ar ?_;obtain⟨x12,q,h⟩:=Dq h;refine BU<|.p (BK (BZ Ai) q)<|.aM 2 ?_;obtain⟨x13,u,h⟩:=Dq h;refine CV<|.a 2<|.f (Dv (k:=0) Ai u Dy AA (λ_=>rfl) Bl)<|.aN<|CV<|.a 2<|.nil ?_;exact j _ _ _ (Ak [Ae 1]) h
 refine Ce<|BU<|.aM 2 ?_;rw[←CQ h];exact .ret (Et [Ae 0])
def aJC (j:Aa)(q:FZ):AB Ad:=some (j.Id==q.Id)
def aiC :=DV func173 rfl aJC DY (λj=>.d (.ref (FK j).cells 0)) Am λq j r h=>YX
def adP (z:Ac)(q:(A8 (Int×Int)))(j:FZ)(I:Int)(x7:Ac)(M:Int)(O:(Int->C9->(A8 (Int×Int))->AB Ad))(v9:C9)(U:(Int->AB Ad)):Int->AB Ad:=λu=>(bif u<(z.length:Int) then(Au z u).bind λJ=>(bif (!((DJ (ER q j.Id I) J).isSome))then some true else some (decide (((DJ (ER q j.Id I) J).getD 0)>=I))).bind λY=>(bif Y then some false else U (BA (u+1)))else(Au x7 M).bind λL=>(bif (!((L==2)==(j.Status==2)))then some true else(bif (!(L==2))then some (j.Status != 3)else some false).bind λZ=>(bif Z then some (j.Status != 4)else some false).bind λx37=>some x37).bind λx33=>(bif x33 then some false else O (BA (I+1)) v9 (ER q j.Id I)))
def afd (j:Ac)(q:(A8 (Int×Int)))(u:FZ)(J:Int)(L:Ac)(z:Int)(I:(Int->C9->(A8 (Int×Int))->AB Ad))(M:C9):Int->AB Ad:=bn (adP j q u J L z I M) Az
def afI (u:C9)(x7:Ac)(L:(Int->C9->(A8 (Int×Int))->AB Ad)):Int->C9->(A8 (Int×Int))->AB Ad:=λI J z=>(bif I<(u.Rows.length:Int) then(Au u.Rows I).bind λq=>(bC J.Events (λa0=>aJC a0 q)).bind λj=>(bif j<0 then some true else some ((DJ z q.Id).isSome)).bind λM=>(bif M then some true else some (q.Pos != I)).bind λO=>(bif O then some true else some (decide (j>=(x7.length:Int)))).bind λU=>(bif U then some false else(Au J.Events j).bind λY=>(Au J.Events j).bind λZ=>(aET [Y.bG,Z.bI]).bind λx24=>afd x24 z q I x7 j L J 0)else some true)
def aeJ (j:C9)(q:Ac):Int->C9->(A8 (Int×Int))->AB Ad:=iU (afI j q) Az
def aX6 (j:C9):AB Ad:=(bif ((j.Rows.length:Int) != (j.Events.length:Int))then some true else some (j.Next != (j.Rows.length:Int))).bind λq=>(bif q then some true else(jK j.Events).bind λu=>some (decide (u>1))).bind λz=>(bif z then some false else(a0D j.Events).bind λI=>aeJ j I 0 j [])
def anW :=Dj func92 rfl aX6 HY Am λq r h=>Ag<|Ah<|AX 2<|.p (BN FK q.Rows)<|.a 2<|.p (BN BF q.Events)<|.a 1<|AV h λu j h=>.mg 22 7 (Am u) (.bi j (k2:=λh=>.a 4<|.Z (BN FK q.Rows)<|Cj))<|.a 1<|AV h λu j h=>.mg 31 4 (Am u) (DI j (k2:=λe i=>by subst e;have h:=i;exact AV h λu j h=>.a 2<|.X (aKl j)<|Cj))<|.aX<|BL h CG λh=>AV h λu j h=>AX 2<|.X (aUo j).view<|BU<|.Y (x:=.mp 1) o9<|Ah<|AX 2<|.Z (BN FK q.Rows)<|Ar<|Qw (λj z L=>⟨BG 138 [(1,.ptr 0 0),(3,Bh u),(4,.mp 1),(41,Vr q.Rows),(42,Af (q.Rows.length:Int)),(43,Af j)],[.box (BH (CZ z)),.map (List.map (CS Cm Ai) L)],0⟩) _ _ _ _ _ (Ak [Ae 0,Ae 1]) h<|λj z L M Y J h=>Ag<|Ah<|Bq h (λh=>Ah<|Ar<|AV h λj z h=>AX 1<|.Z (BK FK z)<|AV h λz I h=>AX 2<|.conv _ (Ri (cs:=BH (FK j)) 2 AA AA)<|.p (x:=.d (.fn (.func 173) [] [(.ref (FK j).cells 0)])) (Pz [(.ref (FK j).cells 0)] rfl)<|.X (a0r Y.Events (λu=>aJC u j) (.fn (.func 173) [] [(.ref (FK j).cells 0)]) ⟨173,[(.ref (FK j).cells 0)],rfl,ajK,λu z L=>aiC L⟩ z I)<|Ah<|AX 3<|.Z (x:=.eH [Af ((DJ J j.Id).getD 0),Am ((DJ J j.Id).isSome)]) (lG (k:=1) (key:=j.Id) (m:=J) Ai 0 Pv I8 zero3 AA AA AA)<|AX 2<|AV h λI O h=>.mg 61 2 (Am I) (.bi O)<|.a 1<|AV h λI O h=>.mg 65 4 (Am I) (DI O)<|.a 1<|AV h λI O h=>.mg 71 4 (Am I) (DI O (k2:=λe i=>by subst e;have h:=i;exact .a 2<|.Z (BN Ai u)<|Cj))<|.aX<|BL h CG λh=>AX 4<|.f (Xm (k:=1) (key:=j.Id) (val:=M) (m:=J) Ai Pv I8 AA)<|.aX<|Ah<|Ho h λI O Z x11 U x13 h=>F5 AA AA AA (.a 3<|.p (BK BF O)<|.a 5<|.p (BK BF x11)<|.a 2<|.p (EG a2v pK [(BZ Ai) I.bG,(BZ Ai) Z.bI])<|.ca (abk x13).view<|.p (BN Ai U)<|.a 1<|.nil _)<|Ar<|Du (λL=>⟨BG 138 [(1,.ptr 0 0),(3,Bh u),(4,.mp 1),(5,Af M),(6,.d (.ref (FK j).cells 0)),(7,Af z),(41,Vr q.Rows),(42,Af (q.Rows.length:Int)),(43,Af M),(93,Bh U),(94,Af (U.length:Int)),(95,Af L)],[.box (BH (CZ Y)),.map (List.map (CS Cm Ai) (ER J j.Id M))],0⟩) _ _ _ (Ak [Ae 0,Ae 1]) h<|λu z Y I h=>Ag<|Ah<|Bq h (λh=>Ah<|Ar<|AV h λu z h=>BU<|.Z (BK Ai z)<|AX 2<|.Z (x:=.eH [Af ((DJ (ER J j.Id M) u).getD 0),Am ((DJ (ER J j.Id M) u).isSome)]) (lG (k:=1) (key:=u) (m:=(ER J j.Id M)) Ai 0 Pv I8 zero3 AA AA AA)<|AX 2<|AV h λu j h=>.mg 107 4 (Am u) (.bi j)<|.aX<|BL h CG λh=>D8<|Y _ _ (Ak [Ae 0,Ae 1]) h) λh=>Ce<|AV h λu j h=>AX 2<|.Z (BK Ai j)<|AX 5<|AV h λu j h=>.mg 123 13 (Am u) (.bi j (k2:=λh=>.a 2<|AV h λu j h=>.mg 126 4 (Am u) (.bi j)<|.a 1<|AV h λu j h=>.mg 132 3 (Am u) (DI j)<|.aW<|Cj))<|.aX<|BL h CG λh=>D8<|L _ _ _ _ (Ak [Ae 0,Ae 1]) h) λh=>Eh
def aK5 (j:Aa)(q:C9):AB Ad:=(MV q.Events j.Id).bind λu=>some u.2
def abM :=DV func93 rfl aK5 DY (λj=>.d (.ref (CZ j).cells 0)) Am λq j r h=>Ag<|AV h λz u h=>AX 4<|.X (P9 u)<|Ag<|CY
def aGa (j:Aq)(q:(Aa->AB Ad)):AB Ad:=(bC j q).bind λu=>some (decide (u>=0))
def aLR (q:(A8 Aa))(u:(Aa->AB Ad))(j:D)(z:TU Aw BF E9 j u)(r:Ad)(h:aGa q u=some r):E8 95 [BM q,.d j] [] (Am r) []:=Ec func95 rfl<|Ag<|AV h λI J h=>AX 2<|.X (a0r q u j z I J)<|CY
def aDQ (q:C9)(j:C9):AB Ad:=(aGa q.Waiting (λa0=>aK5 a0 j)).bind λu=>some u
def als :=DV func94 rfl aDQ (λu=>.d (.ref (CZ u).cells 0)) (λj=>.d (.ref [(.fn (.func 93) [] [(.ref (CZ j).cells 0)])] 0)) Am λu j r h=>Ag<|AV h λq z h=>AX 3<|.X (aLR u.Waiting (λq=>aK5 q j) (.fn (.func 93) [] [(.ref (CZ j).cells 0)]) ⟨93,[(.ref (CZ j).cells 0)],rfl,aYp,λq z I=>abM I⟩ q z)<|CY
def aHy (j:Aa)(q:C9):AB Ad:=(dD q.Events j).bind λu=>some u
def amD :=DV func97 rfl aHy DY (λj=>.d (.ref (CZ j).cells 0)) Am λq j r h=>Ag<|AV h λz u h=>AX 3<|.X (aKf u)<|CY
def aHJ (j:C9):AB Ad:=(aGa j.Waiting (λa0=>aHy a0 j)).bind λq=>some q
def aY8 :=Dj func96 rfl aHJ (λj=>.d (.ref (CZ j).cells 0)) Am λj r h=>Ag<|AV h λq u h=>AX 2<|.p (x:=.d (.fn (.func 97) [] [(.ref (CZ j).cells 0)])) (Pz [(.ref (CZ j).cells 0)] rfl)<|.X (aLR j.Waiting (λq=>aHy q j) (.fn (.func 97) [] [(.ref (CZ j).cells 0)]) ⟨97,[(.ref (CZ j).cells 0)],rfl,ajV,λq u z=>amD z⟩ q u)<|CY
def aCE (j:C9):AB Ad:=some (decide ((j.Waiting.length:Int)>200))
def adt :=Dj func98 rfl aCE (λj=>.d (.ref (CZ j).cells 0)) Am λj r h=>Ag<|AX 2<|.Z (BN BF j.Waiting)<|CY
def af4 (j:Ac)(q:Ac)(k3:(Int->AB Ad)):Int->AB Ad:=λv2=>(bif v2<(j.length:Int) then(Au j v2).bind λu=>(Au q v2).bind λz=>(bif (u != z)then some false else k3 (BA (v2+1)))else some true)
def aZN (j:Ac)(q:Ac):Int->AB Ad:=bn (af4 j q) Az
def aRj (j:Ac)(q:Ac):AB Ad:=(bif ((j.length:Int) != (q.length:Int))then some false else aZN j q 0)
def aQ6 :=DV func100 rfl aRj Bh Bh Am λj q r h=>Ag<|Ah<|AX 1<|.p (BN Ai j)<|.a 1<|.Z (BN Ai q)<|BL h CG λh=>Ah<|AX 1<|.Z (BN Ai j)<|Ar<|Du (λu=>⟨BG 26 [(0,Bh j),(1,Bh q),(12,Af (j.length:Int)),(13,Af u)],[],0⟩) _ _ _ (Ak []) h<|λu z I J h=>Ag<|Ah<|Bq h (λh=>Ah<|Ar<|Ag<|Bv h λu z J L h=>F5 AA AA AA (.a 2<|.p (BK Ai z)<|.a 3<|.p (BK Ai L)<|.a 2<|.nil _)<|BL h CG λh=>TA) λh=>Eh
def ae5 (j:Bc)(q:Bc)(k3:(Int->AB Ad)):Int->AB Ad:=λv2=>(bif v2<(j.length:Int) then(Au j v2).bind λu=>(Au q v2).bind λz=>(bif (!aIm u z)then some false else k3 (BA (v2+1)))else some true)
def aaH (j:Bc)(q:Bc):Int->AB Ad:=bn (ae5 j q) Az
def aMl (j:Bc)(q:Bc):AB Ad:=(bif ((j.length:Int) != (q.length:Int))then some false else aaH j q 0)
def aYG :=DV func102 rfl aMl Dh Dh Am λj q r h=>Ag<|Ah<|AX 1<|.p (BN BX j)<|.a 1<|.Z (BN BX q)<|BL h CG λh=>Ah<|AX 1<|.Z (BN BX j)<|Ar<|Du (λu=>⟨BG 26 [(1,Dh q),(12,Dh j),(13,Af (j.length:Int)),(14,Af u)],[],0⟩) _ _ _ (Ak []) h<|λu z J I h=>Ag<|Ah<|Bq h (λh=>Ah<|Ar<|AV h λu z h=>AX 1<|.Z (BK BX z)<|AV h λz I h=>F5 AA AA AA (.a 3<|.p (BK BX I)<|.a 1<|.p (x:=(Am (!aIm u z))) (cD [.int .i64 u.Kind,.string u.Key,.int .i64 u.Id] [.int .i64 z.Kind,.string z.Key,.int .i64 z.Id] (anQ u z) Bl acU)<|.nil _)<|BL h CG λh=>Y5) λh=>Eh
def aDy (j:Ad):AB Ad:=some j
def aIH (j:C9):AB Ad:=(rO j.Events).bind λq=>(aRj j.yK q).bind λu=>(bif (!u)then aDy true else(rM j.Events).bind λz=>(aMl j.State z).bind λI=>aDy (!I))
def aYi :=Dj func99 rfl aIH (λz=>.d (.ref (CZ z).cells 0)) Am λz r h=>Ag<|D7 (λs=>∃(j:Ad),CO s ⟨BG 18 [(1,Am j)],[],0⟩/\aDy j=some r) (by rintro s ⟨j,hs,h⟩;exact D9 hs<|CY)<|λI=>Bv h λU J Y L h=>EY h (λq h=>DN AA AA AA (.a 4<|.ca (aBP J).view<|.ca (aQ6 L)<|.a 1<|.c (BJ some q)<|.a 9<|.nil _)<|I _ ⟨true,Ak [],h⟩) λq h=>Bv h λZ M O u h=>DN AA AA AA (.a 4<|.ca (aBP J).view<|.ca (aQ6 L)<|.a 1<|.c (BJ some q)<|.a 4<|.ca (aN6 M)<|.ca (aYG u)<|.a 3<|.nil _)<|I _ ⟨(!O),Ak [],h⟩
def aMd (j:C9):AB Int:=(iK j.Id).bind λO=>(bif (O != 0)then some 3 else(aF2 j j.Events).bind λJ=>(bif (J != 0)then some J else(jU j.Events).bind λL=>(bif (L != 0)then some L else(aX6 j).bind λU=>(bif (!U)then some 6 else(aF2 j j.Waiting).bind λM=>(bif (M != 0)then some M else((aDQ j j)).bind λq=>(bif q then some 4 else((aHJ j)).bind λu=>(bif u then some 26 else((aCE j)).bind λz=>(bif z then some 29 else((aIH j)).bind λI=>(bif I then some 6 else some 0)))))))))
def aT4 :=Dj func28 rfl aMd HY Af λj r h=>Ag<|Ah<|AV h λu q h=>AX 2<|.X (aBL q)<|BL h CG λh=>Ah<|AV h λu q h=>AX 3<|.X (aWJ q)<|Ag<|BL h CG λh=>Ah<|AV h λu q h=>AX 2<|.X (aCl q)<|Ag<|BL h CG λh=>Ah<|AV h λu q h=>AX 1<|.X (anW q)<|BL h CG λh=>Ah<|AV h λu q h=>AX 3<|.X (aWJ q)<|Ag<|BL h CG λh=>BU<|.conv _ (Ri (cs:=BH (CZ j)) 0 AA AA)<|.Z (x:=.d (.fn (.func 93) [] [(.ref (CZ j).cells 0)])) (Pz [(.ref (CZ j).cells 0)] rfl)<|Ah<|BU<|.conv _ (Ri (cs:=[.d (.fn (.func 93) [] [(.ref (CZ j).cells 0)])]) 1 AA AA)<|.p (x:=.d (.fn (.func 94) [] [(.ref (CZ j).cells 0),(.ref [(.fn (.func 93) [] [(.ref (CZ j).cells 0)])] 0)])) (Pz [(.ref (CZ j).cells 0),(.ref [(.fn (.func 93) [] [(.ref (CZ j).cells 0)])] 0)] rfl)<|.a 1<|.p (x:=.d (.fn (.func 96) [] [(.ref (CZ j).cells 0)])) (Pz [(.ref (CZ j).cells 0)] rfl)<|.a 1<|.p (x:=.d (.fn (.func 98) [] [(.ref (CZ j).cells 0)])) (Pz [(.ref (CZ j).cells 0)] rfl)<|.a 1<|.p (x:=.d (.fn (.func 99) [] [(.ref (CZ j).cells 0)])) (Pz [(.ref (CZ j).cells 0)] rfl)<|.a 1<|.p (EG ajD aH1 [(.agg [(Ai 4),(.fn (.func 94) [] [(.ref (CZ j).cells 0),(.ref [(.fn (.func 93) [] [(.ref (CZ j).cells 0)])] 0)])]),(.agg [(Ai 26),(.fn (.func 96) [] [(.ref (CZ j).cells 0)])]),(.agg [(Ai 29),(.fn (.func 98) [] [(.ref (CZ j).cells 0)])]),(.agg [(Ai 6),(.fn (.func 99) [] [(.ref (CZ j).cells 0)])])])<|.Z (x:=(Af 4)) (aWa (xs:=[(.agg [(Ai 4),(.fn (.func 94) [] [(.ref (CZ j).cells 0),(.ref [(.fn (.func 93) [] [(.ref (CZ j).cells 0)])] 0)])]),(.agg [(Ai 26),(.fn (.func 96) [] [(.ref (CZ j).cells 0)])]),(.agg [(Ai 29),(.fn (.func 98) [] [(.ref (CZ j).cells 0)])]),(.agg [(Ai 6),(.fn (.func 99) [] [(.ref (CZ j).cells 0)])])]) pX)<|Ar<|Bo.rounds 5<|a19<|Ag<|Ah<|O9 AA<|Ew<|Ah<|Ar<|BU<|.Z (x:=.d (.ref [(Ai 4),(.fn (.func 94) [] [(.ref (CZ j).cells 0),(.ref [(.fn (.func 93) [] [(.ref (CZ j).cells 0)])] 0)])] 0)) (zZ (k:=.i64) (i:=0) (xs:=[(.agg [(Ai 4),(.fn (.func 94) [] [(.ref (CZ j).cells 0),(.ref [(.fn (.func 93) [] [(.ref (CZ j).cells 0)])] 0)])]),(.agg [(Ai 26),(.fn (.func 96) [] [(.ref (CZ j).cells 0)])]),(.agg [(Ai 29),(.fn (.func 98) [] [(.ref (CZ j).cells 0)])]),(.agg [(Ai 6),(.fn (.func 99) [] [(.ref (CZ j).cells 0)])])]) (el:=(.agg [(Ai 4),(.fn (.func 94) [] [(.ref (CZ j).cells 0),(.ref [(.fn (.func 93) [] [(.ref (CZ j).cells 0)])] 0)])])) (size:=2) pX a0Z Bl rfl rfl)<|AV h λu q h=>AX 2<|.p (a4G (d:=(.fn (.func 94) [] [(.ref (CZ j).cells 0),(.ref [(.fn (.func 93) [] [(.ref (CZ j).cells 0)])] 0)])) (⟨94,[(.ref (CZ j).cells 0),(.ref [(.fn (.func 93) [] [(.ref (CZ j).cells 0)])] 0)],rfl,ahP,fun  u q=>als q⟩:zk Aw E9 (.fn (.func 94) [] [(.ref (CZ j).cells 0),(.ref [(.fn (.func 93) [] [(.ref (CZ j).cells 0)])] 0)]) (aDQ j j)) q)<|.aX<|BL h CG λh=>D8<|a19<|Ag<|Ah<|O9 AA<|Ew<|Ah<|Ar<|BU<|.Z (x:=.d (.ref [(Ai 26),(.fn (.func 96) [] [(.ref (CZ j).cells 0)])] 0)) (zZ (k:=.i64) (i:=1) (xs:=[(.agg [(Ai 4),(.fn (.func 94) [] [(.ref (CZ j).cells 0),(.ref [(.fn (.func 93) [] [(.ref (CZ j).cells 0)])] 0)])]),(.agg [(Ai 26),(.fn (.func 96) [] [(.ref (CZ j).cells 0)])]),(.agg [(Ai 29),(.fn (.func 98) [] [(.ref (CZ j).cells 0)])]),(.agg [(Ai 6),(.fn (.func 99) [] [(.ref (CZ j).cells 0)])])]) (el:=(.agg [(Ai 26),(.fn (.func 96) [] [(.ref (CZ j).cells 0)])])) (size:=2) pX a0Z Bl rfl rfl)<|AV h λu q h=>AX 2<|.p (a4G (d:=(.fn (.func 96) [] [(.ref (CZ j).cells 0)])) (⟨96,[(.ref (CZ j).cells 0)],rfl,ak8,fun  u q=>aY8 q⟩:zk Aw E9 (.fn (.func 96) [] [(.ref (CZ j).cells 0)]) (aHJ j)) q)<|.aX<|BL h CG λh=>D8<|a19<|Ag<|Ah<|O9 AA<|Ew<|Ah<|Ar<|BU<|.Z (x:=.d (.ref [(Ai 29),(.fn (.func 98) [] [(.ref (CZ j).cells 0)])] 0)) (zZ (k:=.i64) (i:=2) (xs:=[(.agg [(Ai 4),(.fn (.func 94) [] [(.ref (CZ j).cells 0),(.ref [(.fn (.func 93) [] [(.ref (CZ j).cells 0)])] 0)])]),(.agg [(Ai 26),(.fn (.func 96) [] [(.ref (CZ j).cells 0)])]),(.agg [(Ai 29),(.fn (.func 98) [] [(.ref (CZ j).cells 0)])]),(.agg [(Ai 6),(.fn (.func 99) [] [(.ref (CZ j).cells 0)])])]) (el:=(.agg [(Ai 29),(.fn (.func 98) [] [(.ref (CZ j).cells 0)])])) (size:=2) pX a0Z Bl rfl rfl)<|AV h λu q h=>AX 2<|.p (a4G (d:=(.fn (.func 98) [] [(.ref (CZ j).cells 0)])) (⟨98,[(.ref (CZ j).cells 0)],rfl,abD,fun  u q=>adt q⟩:zk Aw E9 (.fn (.func 98) [] [(.ref (CZ j).cells 0)]) (aCE j)) q)<|.aX<|BL h CG λh=>D8<|a19<|Ag<|Ah<|O9 AA<|Ew<|Ah<|Ar<|BU<|.Z (x:=.d (.ref [(Ai 6),(.fn (.func 99) [] [(.ref (CZ j).cells 0)])] 0)) (zZ (k:=.i64) (i:=3) (xs:=[(.agg [(Ai 4),(.fn (.func 94) [] [(.ref (CZ j).cells 0),(.ref [(.fn (.func 93) [] [(.ref (CZ j).cells 0)])] 0)])]),(.agg [(Ai 26),(.fn (.func 96) [] [(.ref (CZ j).cells 0)])]),(.agg [(Ai 29),(.fn (.func 98) [] [(.ref (CZ j).cells 0)])]),(.agg [(Ai 6),(.fn (.func 99) [] [(.ref (CZ j).cells 0)])])]) (el:=(.agg [(Ai 6),(.fn (.func 99) [] [(.ref (CZ j).cells 0)])])) (size:=2) pX a0Z Bl rfl rfl)<|AV h λu q h=>AX 2<|.p (a4G (d:=(.fn (.func 99) [] [(.ref (CZ j).cells 0)])) (⟨99,[(.ref (CZ j).cells 0)],rfl,aio,fun  u q=>aYi q⟩:zk Aw E9 (.fn (.func 99) [] [(.ref (CZ j).cells 0)]) (aIH j)) q)<|.aX<|BL h CG λh=>D8<|a19<|Ag<|Ah<|Nv AA<|Eh
def ami :Aa:={ Fe with Room:=aGK,bM:=aLC,Kind:=1,State:=true,Time:=1,Depth:=1 }
def QW (j:Ad):AB Ad:=some j
def yJ  :AB Ad:=(aIJ ami aPx).bind λq=>(aIJ ({ Fe with Room:=aGK,bM:=aLC,Kind:=2,State:=true,Key:=aLC,Time:=2,Depth:=2,bG:=[q.Id],bI:=[q.Id],Content:={ Eo with N:=3 } }) aPx).bind λO=>(aUm aGK).bind λU=>(VZ U.1 O).bind λu=>(VZ u.1 q).bind λj=>(VZ j.1 Fe).bind λY=>(bif ((j.1.Rows.length:Int) != 2)then some true else(aCa u.1).bind λZ=>some ((Z.length:Int) != 1)).bind λx7=>(bif x7 then some false else(ZL j.1 O.Id).bind λz=>(bif (U.2==0)then(bif (u.2.2==0)then(bif (j.2.2==0)then(bif (Y.2.2 != 0)then(bif (u.2.1==1)then(bif (j.2.1==4)then(bif (Y.2.1==0)then(Au j.1.Rows 0).bind λI=>(bif (I.Id==q.Id)then(bif z.2 then(bif (z.1.Pos==1)then(bif ((j.1.State.length:Int)==2)then(bif ((j.1.Waiting.length:Int)==0)then(aMd j.1).bind λJ=>(bif (J==0)then(aCa u.1).bind λL=>(Au L 0).bind λM=>QW (M==q.Id)else QW false)else QW false)else QW false)else QW false)else QW false)else QW false)else QW false)else QW false)else QW false)else QW false)else QW false)else QW false)else QW false))
def aRM (r:Ad)(h:yJ=some r):E8 26 [] [] (Am r) []:=Ec func26 rfl<|Ag<|AV h λj u h=>AX 1<|.X (aVT u)<|AV h λu O h=>AX 2<|.p (EG Dy zero3 [Ai j.Id])<|.a 2<|.p (EG Dy zero3 [Ai j.Id])<|.a 2<|.X (aVT O)<|AV h λO x4 h=>BU<|.X (aeL x4)<|AV h λx4 q h=>AX 2<|.X (xW q)<|AV h λO q h=>AX 2<|.X (xW q)<|AV h λq z h=>AX 2<|.X (xW z)<|Ah<|AX 2<|.p (BN FK O.1.Rows)<|.a 1<|AV h λq z h=>.mg 56 5 (Am q) (.bi z (k2:=λh=>AV h λj u h=>.a 1<|.ca (aV4 u)<|.Z (BN Ai j)<|Cj))<|.aX<|BL h CG λh=>AV h λq z h=>AX 3<|.X (aGG z)<|D7 (λs=>∃(v12:Ad),CO s ⟨BG 139 [(0,Am v12)],[],0⟩/\QW v12=some r) (by rintro s ⟨v12,hs,h⟩;exact D9 hs<|CY)<|λu=>EY h (λq h=>EY h (λz h=>EY h (λU h=>EY h (λZ h=>EY h (λx9 h=>EY h (λI h=>EY h (λJ h=>AV h λL M h=>EY h (λL h=>EY h (λY h=>EY h (λx15 h=>EY h (λx16 h=>EY h (λx17 h=>AV h λx18 x19 h=>EY h (λx20 h=>Bv h λx21 x22 x23 x24 h=>DN AA AA AA (.a 2<|.c (BJ some q)<|.a 3<|.c (BJ some z)<|.a 3<|.c (BJ some U)<|.a 3<|.c (BJ some Z)<|.a 3<|.c (BJ some x9)<|.a 3<|.c (BJ some I)<|.a 3<|.c (BJ some J)<|.a 2<|.p (BK FK M)<|.a 6<|.c (BJ some L)<|.a 2<|.c (BJ some Y)<|.a 4<|.c (BJ some x15)<|.a 2<|.p (BN BX O.1.State)<|.a 2<|.c (BJ some x16)<|.a 2<|.p (BN BF O.1.Waiting)<|.a 2<|.c (BJ some x17)<|.a 1<|.ca (aT4 x19)<|.a 2<|.c (BJ some x20)<|.a 1<|.ca (aV4 x22)<|.p (BK Ai x24)<|.a 6<|.nil _)<|u _ ⟨(x23==j.Id),Ak [],h⟩) λj h=>DN AA AA AA (.a 2<|.c (BJ some q)<|.a 3<|.c (BJ some z)<|.a 3<|.c (BJ some U)<|.a 3<|.c (BJ some Z)<|.a 3<|.c (BJ some x9)<|.a 3<|.c (BJ some I)<|.a 3<|.c (BJ some J)<|.a 2<|.p (BK FK M)<|.a 6<|.c (BJ some L)<|.a 2<|.c (BJ some Y)<|.a 4<|.c (BJ some x15)<|.a 2<|.p (BN BX O.1.State)<|.a 2<|.c (BJ some x16)<|.a 2<|.p (BN BF O.1.Waiting)<|.a 2<|.c (BJ some x17)<|.a 1<|.ca (aT4 x19)<|.a 2<|.c (BJ some j)<|.a 9<|.nil _)<|u _ ⟨false,Ak [],h⟩) λj h=>DN AA AA AA (.a 2<|.c (BJ some q)<|.a 3<|.c (BJ some z)<|.a 3<|.c (BJ some U)<|.a 3<|.c (BJ some Z)<|.a 3<|.c (BJ some x9)<|.a 3<|.c (BJ some I)<|.a 3<|.c (BJ some J)<|.a 2<|.p (BK FK M)<|.a 6<|.c (BJ some L)<|.a 2<|.c (BJ some Y)<|.a 4<|.c (BJ some x15)<|.a 2<|.p (BN BX O.1.State)<|.a 2<|.c (BJ some x16)<|.a 2<|.p (BN BF O.1.Waiting)<|.a 2<|.c (BJ some j)<|.a 14<|.nil _)<|u _ ⟨false,Ak [],h⟩) λj h=>DN AA AA AA (.a 2<|.c (BJ some q)<|.a 3<|.c (BJ some z)<|.a 3<|.c (BJ some U)<|.a 3<|.c (BJ some Z)<|.a 3<|.c (BJ some x9)<|.a 3<|.c (BJ some I)<|.a 3<|.c (BJ some J)<|.a 2<|.p (BK FK M)<|.a 6<|.c (BJ some L)<|.a 2<|.c (BJ some Y)<|.a 4<|.c (BJ some x15)<|.a 2<|.p (BN BX O.1.State)<|.a 2<|.c (BJ some j)<|.a 20<|.nil _)<|u _ ⟨false,Ak [],h⟩) λj h=>DN AA AA AA (.a 2<|.c (BJ some q)<|.a 3<|.c (BJ some z)<|.a 3<|.c (BJ some U)<|.a 3<|.c (BJ some Z)<|.a 3<|.c (BJ some x9)<|.a 3<|.c (BJ some I)<|.a 3<|.c (BJ some J)<|.a 2<|.p (BK FK M)<|.a 6<|.c (BJ some L)<|.a 2<|.c (BJ some Y)<|.a 4<|.c (BJ some j)<|.a 26<|.nil _)<|u _ ⟨false,Ak [],h⟩) λj h=>DN AA AA AA (.a 2<|.c (BJ some q)<|.a 3<|.c (BJ some z)<|.a 3<|.c (BJ some U)<|.a 3<|.c (BJ some Z)<|.a 3<|.c (BJ some x9)<|.a 3<|.c (BJ some I)<|.a 3<|.c (BJ some J)<|.a 2<|.p (BK FK M)<|.a 6<|.c (BJ some L)<|.a 2<|.c (BJ some j)<|.a 31<|.nil _)<|u _ ⟨false,Ak [],h⟩) λj h=>DN AA AA AA (.a 2<|.c (BJ some q)<|.a 3<|.c (BJ some z)<|.a 3<|.c (BJ some U)<|.a 3<|.c (BJ some Z)<|.a 3<|.c (BJ some x9)<|.a 3<|.c (BJ some I)<|.a 3<|.c (BJ some J)<|.a 2<|.p (BK FK M)<|.a 6<|.c (BJ some j)<|.a 34<|.nil _)<|u _ ⟨false,Ak [],h⟩) λj h=>DN AA AA AA (.a 2<|.c (BJ some q)<|.a 3<|.c (BJ some z)<|.a 3<|.c (BJ some U)<|.a 3<|.c (BJ some Z)<|.a 3<|.c (BJ some x9)<|.a 3<|.c (BJ some I)<|.a 3<|.c (BJ some j)<|.a 44<|.nil _)<|u _ ⟨false,Ak [],h⟩) λj h=>DN AA AA AA (.a 2<|.c (BJ some q)<|.a 3<|.c (BJ some z)<|.a 3<|.c (BJ some U)<|.a 3<|.c (BJ some Z)<|.a 3<|.c (BJ some x9)<|.a 3<|.c (BJ some j)<|.a 48<|.nil _)<|u _ ⟨false,Ak [],h⟩) λj h=>DN AA AA AA (.a 2<|.c (BJ some q)<|.a 3<|.c (BJ some z)<|.a 3<|.c (BJ some U)<|.a 3<|.c (BJ some Z)<|.a 3<|.c (BJ some j)<|.a 52<|.nil _)<|u _ ⟨false,Ak [],h⟩) λj h=>DN AA AA AA (.a 2<|.c (BJ some q)<|.a 3<|.c (BJ some z)<|.a 3<|.c (BJ some U)<|.a 3<|.c (BJ some j)<|.a 56<|.nil _)<|u _ ⟨false,Ak [],h⟩) λj h=>DN AA AA AA (.a 2<|.c (BJ some q)<|.a 3<|.c (BJ some z)<|.a 3<|.c (BJ some j)<|.a 60<|.nil _)<|u _ ⟨false,Ak [],h⟩) λj h=>DN AA AA AA (.a 2<|.c (BJ some q)<|.a 3<|.c (BJ some j)<|.a 64<|.nil _)<|u _ ⟨false,Ak [],h⟩) λj h=>DN AA AA AA (.a 2<|.c (BJ some j)<|.a 68<|.nil _)<|u _ ⟨false,Ak [],h⟩
def a4s (j:Aa):AB (Aa×Int):=(Kv j).bind λq=>(bif (q != 0)then some (Fe,q)else some (j,0))
def aFi (j:Aa):AB (Aa×Int):=(VQ j).bind λq=>(bif (!q)then(YG j).bind λu=>a4s u else a4s j)
def aFj (j:Aq)(q:Aq)(k3:(Int->AB Ad)):Int->AB Ad:=λv2=>(bif v2<(j.length:Int) then(Au j v2).bind λu=>(Au q v2).bind λz=>(WT u z).bind λI=>(bif (!I)then some false else k3 (BA (v2+1)))else some true)
def aLy (j:Aq)(q:Aq):Int->AB Ad:=bn (aFj j q) Az
def uf (j:Aq)(q:Aq):AB Ad:=(bif ((j.length:Int) != (q.length:Int))then some false else aLy j q 0)
def aZS :=DV func69 rfl uf BM BM Am λj q r h=>Ag<|Ah<|AX 1<|.p (BN BF j)<|.a 1<|.Z (BN BF q)<|BL h CG λh=>Ah<|Ag<|Ar<|Du (λu=>⟨BG 27 [(0,BM j),(1,BM q),(5,Af u)],[],0⟩) _ _ _ (Ak []) h<|λu z I J h=>Ah<|AX 2<|.Z (BN BF j)<|Bq h (λh=>Ah<|Ar<|Ho h λu z J L O M h=>F5 AA AA AA (.a 2<|.p (BK BF z)<|.a 3<|.p (BK BF L)<|.a 1<|.ca (nS M)<|.a 1<|.nil _)<|BL h CG λh=>TA) λh=>Eh
def aEH (j:aS)(q:aS)(k3:(Int->AB Ad)):Int->AB Ad:=λv2=>(bif v2<(j.length:Int) then(Au j v2).bind λu=>(Au q v2).bind λz=>(bif (!aAH u z)then some false else k3 (BA (v2+1)))else some true)
def aTN (j:aS)(q:aS):Int->AB Ad:=bn (aEH j q) Az
def a5l (j:aS)(q:aS):AB Ad:=(bif ((j.length:Int) != (q.length:Int))then some false else aTN j q 0)
def ajb :=DV func70 rfl a5l Vr Vr Am λj u r h=>Ag<|Ah<|AX 1<|.p (BN FK j)<|.a 1<|.Z (BN FK u)<|BL h CG λh=>Ah<|Ag<|Ar<|Du (λq=>⟨BG 26 [(0,Vr j),(1,Vr u),(5,Af q)],[],0⟩) _ _ _ (Ak []) h<|λq I J z h=>Ah<|AX 2<|.Z (BN FK j)<|Bq h (λh=>Ah<|Ar<|Bv h λq I z L h=>F5 AA AA AA (.a 2<|.p (BK FK I)<|.a 3<|.p (BK FK L)<|.a 1<|.p (x:=(Am (!aAH q z))) (cD [.int .i64 q.Pos,.int .i64 q.Id,.int .i64 q.Status,.bool q.Gone] [.int .i64 z.Pos,.int .i64 z.Id,.int .i64 z.Status,.bool z.Gone] (aft q z) Bl alF)<|.nil _)<|BL h CG λh=>Y5) λh=>Eh
def aKR (q:C9)(u:C9)(z:(Int->AB Ad)):Int->AB Ad:=λj=>(bif j<(q.o7.length:Int) then(Au q.o7 j).bind λI=>(Au u.o7 j).bind λJ=>(bif (!a4h I J)then some false else z (BA (j+1)))else some true)
def aDu (j:C9)(q:C9):Int->AB Ad:=bn (aKR j q) Az
def aK3 (j:C9)(q:C9)(z:(Int->AB Ad)):Int->AB Ad:=λu=>(bif u<(j.jX.length:Int) then(Au j.jX u).bind λI=>(Au q.jX u).bind λJ=>(bif (!a6D I J)then some false else z (BA (u+1)))else aDu j q 0)
def aMm (j:C9)(q:C9):Int->AB Ad:=bn (aK3 j q) Az
def a1i (j:C9)(q:C9):AB Ad:=(bif ((j.jX.length:Int) != (q.jX.length:Int))then some true else some ((j.o7.length:Int) != (q.o7.length:Int))).bind λu=>(bif u then some false else aMm j q 0)
def agw :=DV func72 rfl a1i HY HY Am λj u r h=>Ag<|Ah<|AX 2<|.p (BN aG j.jX)<|.a 2<|.p (BN aG u.jX)<|.a 1<|AV h λq I h=>.mg 14 8 (Am q) (.bi I (k2:=λh=>.a 2<|.p (BN ZV j.o7)<|.a 2<|.Z (BN ZV u.o7)<|Cj))<|.aX<|BL h CG λh=>Ah<|Ag<|Ar<|Du (λq=>⟨BG 59 [(2,.ptr 0 0),(3,.ptr 1 0),(5,Af q)],[.box (BH (CZ j)),.box (BH (CZ u))],0⟩) _ _ _ (Ak [Ae 0,Ae 1]) h<|λq I J z h=>Ah<|AX 3<|.Z (BN aG j.jX)<|Bq h (λh=>Ah<|Ar<|Bv h λq I z L h=>F5 AA AA AA (.a 3<|.p (BK aG I)<|.a 4<|.p (BK aG L)<|.a 1<|.p (x:=(Am (!a6D q z))) (cD [.string q.User,.int .i64 q.Thread,.int .i64 q.Id,.int .i64 q.Time] [.string z.User,.int .i64 z.Thread,.int .i64 z.Id,.int .i64 z.Time] (alP q z) Bl aa8)<|.nil _)<|BL h CG λh=>a3k) λh=>Ce<|Ah<|Ag<|Ar<|Du (λq=>⟨BG 59 [(2,.ptr 0 0),(3,.ptr 1 0),(6,Af q)],[.box (BH (CZ j)),.box (BH (CZ u))],0⟩) _ _ _ (Ak [Ae 0,Ae 1]) h<|λq I J z h=>Ah<|AX 3<|.Z (BN ZV j.o7)<|Bq h (λh=>Ah<|Ar<|Bv h λq I z L h=>F5 AA AA AA (.a 3<|.p (BK ZV I)<|.a 4<|.p (BK ZV L)<|.a 1<|.p (x:=(Am (!a4h q z))) (cD [.string q.User,.int .i64 q.Until] [.string z.User,.int .i64 z.Until] (aem q z) Bl ajz)<|.nil _)<|BL h CG λh=>a3k) λh=>Eh
def a0A (j:C9)(q:C9):AB Ad:=(bif (j.Id.toList==q.Id.toList)then some (j.Next==q.Next)else some false).bind λU=>(bif U then(uf j.Events q.Events).bind λY=>some Y else some false).bind λZ=>(bif Z then(uf j.Waiting q.Waiting).bind λx8=>some x8 else some false).bind λx6=>(bif x6 then(a5l j.Rows q.Rows).bind λu=>some u else some false).bind λx9=>(bif x9 then(dw j.yK q.yK).bind λz=>some z else some false).bind λI=>(bif I then(jJ j.State q.State).bind λJ=>some J else some false).bind λL=>(bif L then(a1i j q).bind λM=>some M else some false).bind λO=>some O
def aTb :=DV func21 rfl a0A HY HY Am λu z r h=>Ag<|AX 5<|AV h λq j h=>.mg 10 6 (Am q) (.bi j)<|.a 1<|AV h λq j h=>.mg 18 5 (Am q) (DI j (λe i=>aQ8))<|.a 1<|AV h λq j h=>.mg 25 5 (Am q) (DI j (λe i=>aQ8))<|.a 1<|AV h λq j h=>.mg 32 5 (Am q) (DI j (λe i=>by subst e;have h:=i;exact AV h λq j h=>.a 4<|.X (ajb j)<|Cj))<|.a 1<|AV h λq j h=>.mg 39 5 (Am q) (DI j (λe i=>by subst e;have h:=i;exact AV h λq j h=>.a 4<|.X (aJH j)<|Cj))<|.a 1<|AV h λq j h=>.mg 46 5 (Am q) (DI j (λe i=>by subst e;have h:=i;exact AV h λq j h=>.a 4<|.X (aLe j)<|Cj))<|.a 1<|AV h λq j h=>.mg 53 3 (Am q) (DI j (λe i=>by subst e;have h:=i;exact AV h λq j h=>.a 2<|.X (agw j)<|Cj))<|.aW<|CY
def iE (j:C9)(q:Aa)(Z:Ad):AB Ad:=(bif Z then(yJ).bind λx3=>some x3 else(VZ j q).bind λu=>(VZ u.1 q).bind λz=>(bif (u.2.2 != 0)then(bif (u.2.1==0)then(a0A u.1 j).bind λx9=>some x9 else some false).bind λx7=>(bif x7 then(yJ).bind λI=>some I else some false).bind λJ=>some J else(bif (z.2.1==u.2.1)then some (z.2.2==0)else some false).bind λL=>(bif L then(a0A u.1 z.1).bind λM=>some M else some false).bind λO=>(bif O then(yJ).bind λU=>some U else some false).bind λY=>some Y))
def aD1 (j:C9)(q:Aa):AB Ad:=(rX j).bind λu=>(bif (!u)then iE j q true else(lq j).bind λz=>(bif (z != 0)then iE j q true else(DC 376 [q] j.Events).bind λI=>(DC 376 I j.Waiting).bind λJ=>(qc J).bind λL=>iE j q (!L)))
def aXw (V5 lN r)(h:aD1 V5 lN=some r):E8 6 [HY V5,DY lN] [] (Am r) []:=Ec func6 rfl<|Ag<|Ah<|D7 (λs=>∃(J:Ad),CO s ⟨BG 73 [(2,.ptr 0 0),(3,.ptr 1 0),(30,Am J)],[.box (BH (CZ V5)),.box (BH (BF lN))],0⟩/\iE V5 lN J=some r) (by rintro s ⟨J,hs,h⟩;exact D9 hs<|BL h (λh=>AV h λq j h=>BU<|.X (aRM  q j)<|CY) λh=>AV h λq j h=>AX 2<|.X (xW j)<|AV h λj u h=>AX 2<|.X (xW u)<|Ah<|Ag<|BL h (λh=>AX 2<|AV h λj u h=>.mg 50 4 (Am j) (.bi u (λh=>AV h λj u h=>.a 2<|.X (aTb u)<|Cj))<|.a 1<|AV h λq j h=>.mg 56 1 (Am q) (DI j (λe i=>aLs))<|.aW<|CY) λh=>AX 3<|AV h λu z h=>.mg 61 3 (Am u) (.bi z)<|.a 1<|AV h λu z h=>.mg 66 3 (Am u) (DI z (λe i=>by subst e;have h:=i;exact AV h λu z h=>.a 2<|.X (aTb z)<|Cj))<|.a 1<|AV h λq j h=>.mg 71 1 (Am q) (DI j (λe i=>aLs))<|.aW<|CY)<|λq=>AV h λj u h=>EY h (λz h=>DN AA AA AA (.a 1<|.ca (aJM u)<|.a 1<|.c (BJ some z)<|.a 16<|.nil _)<|q _ ⟨true,Ak [Ae 0,Ae 1],h⟩) λz h=>AV h λx5 Z h=>EY h (λL h=>DN AA AA AA (.a 1<|.ca (aJM u)<|.a 1<|.c (BJ some z)<|.a 1<|.ca (aMo Z)<|.a 2<|.c (BJ some L)<|.a 11<|.nil _)<|q _ ⟨true,Ak [Ae 0,Ae 1],h⟩) λL h=>Ho h λM x9 I O U Y h=>Bo.aDO [Yr 1 (aJM u) aYO,Tn 3 (Go.Op.move (Go.Operand.tmp 13)) (λq es u=>(aFu (v:=(Am (!j))) u).cast (aQz (BJ some z))),Yr 5 (aMo Z) aav,Tn 8 (Go.Op.move (Go.Operand.tmp 18)) (λq es j=>(aFu (v:=(Am (x5 != 0))) j).cast (aQz (BJ some L))),U6 10 (Go.Op.buildSlice 22 1 #[(0,(Go.Operand.tmp 20))]) [.box (BH (CZ V5)),.box (BH (BF lN))] [.box (BH (CZ V5)),.box (BH (BF lN)),(FY [lN])] (λq j=>a2W JG OJ AA AA (Dt AA) [DY lN] [BF lN] AA AA AA AA j),U6 13 (Go.Op.call { callee:=(Go.Callee.builtin Go.Builtin.append),args:= #[(Go.Operand.tmp 21),(Go.Operand.tmp 23)],argTypes:= #[22,22] }) [.box (BH (CZ V5)),.box (BH (BF lN)),(FY [lN])] [.box (BH (CZ V5)),.box (BH (BF lN)),.dead,(FY M)] (λq j=>Dv (k:=2) BF x9 JG AA (λ_=>rfl) Bl j),U6 16 (Go.Op.call { callee:=(Go.Callee.builtin Go.Builtin.append),args:= #[(Go.Operand.tmp 24),(Go.Operand.tmp 26)],argTypes:= #[22,22] }) [.box (BH (CZ V5)),.box (BH (BF lN)),.dead,(FY M)] [.box (BH (CZ V5)),.box (BH (BF lN)),.dead,.dead,.dead] (λq j=>CJ.thaw (k:=4) (e:=38) (s:=29) (xs:=List.map BF I) (es:=[.box (BH (CZ V5)),.box (BH (BF lN)),.dead,(FY M)]) (es':=[.box (BH (CZ V5)),.box (BH (BF lN)),.dead,.dead,(FY I)]) (Dv (k:=3) BF O JG AA (λ_=>rfl) Bl j) AA),Yr 17 (aY3 Y) aeR] 42<|q _ ⟨(!U),Ak [Ae 0,Ae 1],h⟩
end
def er (l:A8 Int)(h:l.length<=1099511627776):VU l=some (FW l):=by
 unfold VU wI Pm YA;rw[Dz Ej];have h2:(Nq l).length<=1099511627776:=by rw[(VT l).length_eq];exact h
 simp[h,aEF,aEa]
def OG (l:A8 Int):(FW l).length<=l.length:=by
 rw[←aEa];exact EI (Lib.compact_length_le _) Bf
def aKK (a b:A8 Int):(Px a b).length<=a.length:=by
 unfold Px;exact EI (Lc _ _) (OG a)
def aJm (a b:A8 Int):(JH a b).length<=a.length+b.length:=by
 rw[yB];exact EI (OG _) Bf
def aXb (a b:Int):cmp_Less_int a b=some (decide (a<b)):=by
 simp[cmp_Less_int,cmp_isNaN_int]
def aZT (l:A8 Int)(x:Int)(hi:Inc l)(hn:l.length<=1099511627776):dL (a7o l x) (λr=>r.2=EN l x):=by
 unfold a7o aRC;refine bU (λ(m:Nat) (a b:Int)=>∃i j:Nat,a=i/\b=j/\i<=j/\j<=l.length/\m=j-i/\(∀q,(u:q<i)->(hl:q<l.length)->l[q]<x)/\(∀q,(u:j<=q)->(hl:q<l.length)->x<=l[q])) ?_ Az l.length 0 (l.length:Int) jI ⟨0,l.length,rfl,rfl,FB _,EW _,rfl,λq u=>AQ,λq u hl=>AQ⟩;rintro m a b k ⟨i,j,rfl,rfl,hij,hj,rfl,h1,h2⟩ Z;unfold aO9;refine dL.bif (λe=>?_) λe=>?_
 ·have O:i<j:=TR
  have w1:BA ((i:Int)+(j:Int))=((i+j:Nat):Int):=P8
  have w2:IntKind.u64.wrap ((i+j:Nat):Int)=((i+j:Nat):Int):=by rw[qG];omega
  have w3:QZ .shr .u64 ((i+j:Nat):Int) 1=some (((i+j)/2:Nat):Int):=by
   have e0:((i+j:Nat):Int).fdiv (2^(min (1:Int).toNat IntKind.u64.bits))=(((i+j)/2:Nat):Int):=by
    have :(2:Int)^(min (1:Int).toNat IntKind.u64.bits)=2:=rfl;rw[this,Int.fdiv_eq_ediv_of_nonneg _ AQ];omega
   unfold QZ;rw[Ef AQ];exact BJ some e0
  have w4:BA (((i+j)/2:Nat):Int)=(((i+j)/2:Nat):Int):=P8
  have hm:(i+j)/2<l.length:=AQ
  rw[w1,w2,w3];simp only[Aj];rw[w4,CU hm];simp only[Aj];rw[aXb,wrap_succ _ AQ];simp only[Aj];have mono:∀p q,(hp:p<l.length)->(u:q<l.length)->p<q->l[p]<l[q]:=λp q hp u z=>JQ.1 hi p q hp u z;refine dL.bif (λU=>?_) λU=>?_
  ·have I:l[(i+j)/2]<x:=a7b
   refine Z (j-((i+j)/2+1)) _ _ AQ ⟨(i+j)/2+1,j,rfl,rfl,AQ,hj,rfl,λq u hl=>?_,h2⟩;by_cases eq:q=(i+j)/2
   ·subst eq;exact I
   have :=mono q ((i+j)/2) hl hm AQ;omega
  have I:¬l[(i+j)/2]<x:=a7b
  refine Z ((i+j)/2-i) _ _ AQ ⟨i,(i+j)/2,rfl,rfl,AQ,AQ,rfl,h1,λq u hl=>?_⟩;by_cases eq:q=(i+j)/2
  ·subst eq;omega
  have :=mono ((i+j)/2) q hm hl AQ;omega
 have O:¬i<j:=TR
 have J:i=j:=AQ
 subst J;have mono:∀p q,(hp:p<l.length)->(u:q<l.length)->p<q->l[p]<l[q]:=λp q hp u z=>JQ.1 hi p q hp u z;by_cases hl:i<l.length
 ·rw[show decide ((i:Int)<(l.length:Int))=true by simpa using hl,CU hl];simp only[Bj,Aj];by_cases I:l[i]=x
  ·have M:(l[i]==x)=true:=oL
   rw[M];refine .ret ?_;exact(LV.2 (I▸EZ hl)).symm
  have M:(l[i]==x)=false:=oL
  rw[M]
  have Y:EN l x=false:=Q7.2 λhm=>by
   obtain⟨q,u,e5⟩:=G8 hm;rcases vH q i with L|L|L
   ·have :=h1 q L u;omega
   ·subst L;exact I e5
   have :=mono i q hl u L;have :=h2 i (EW _) hl;omega
  simp[a6c,Y,dL]
 rw[show decide ((i:Int)<(l.length:Int))=false by simpa using hl];refine .ret ?_;refine(Q7.2 λhm=>?_).symm;obtain⟨q,u,M⟩:=G8 hm;have :=h1 q AQ u;omega
variable {i:Nat}{l:A8 Int}
def ajS {b:A8 Int}(h:i<l.length):(l.take (i+1)).filter (λx=> !EN b x)=(l.take i).filter (λx=> !EN b x)++(if EN b l[i]then[]else[l[i]]):=by
 rw[OM h,Qz]
 grind
def aay (a b:A8 Int)(h:a.length<=274877906944)(h2:b.length<=274877906944):a1R a b=some (Px a b):=by
 unfold a1R;rw[er b AQ,er a AQ];simp only[Aj];have ha:=OG a;have O:=OG b;have q:=Nb b
 have J:Px a b=((FW a).take (FW a).length).filter (λx=> !EN (FW b) x):=by
  rw[H9];unfold Px;congr 1;funext x;congr 1;by_cases j:x∈b
  ·rw[LV.2 j,LV.2 (Ld.2 j)]
  rw[Q7.2 j,Q7.2 (λh=>j (Ld.1 h))]
 rw[J];generalize FW a=S at *;generalize FW b=S2 at *;refine dL.eq ?_;unfold aVb;refine Jj S.length jI (λi v=>v=(S.take i).filter (λx=> !EN S2 x)) Bf ?_ ?_
 ·rintro i v k hi rfl u;have z:=wrap_succ i AQ;have L:((S.take i).filter (λx=> !EN S2 x)).length<=i:=EI (Lc _ _) Ej;have hst:=ajS (b:=S2) hi;unfold aFD a6A;rw[show decide ((i:Int)<(S.length:Int))=true by simpa using hi,CU hi];simp only[Bj,Aj];refine(aZT S2 S[i] q AQ).bind ?_;rintro r M;rw[M];cases I:EN S2 S[i]with
  |true=>
   simp only[El,BQ,z];exact u _ (by rw[hst];simp[I])
  |false=>
   simp only[JV,Bj,z];rw[Dz G9];exact u _ (by rw[hst];simp[I])
 rintro v k rfl;unfold aFD;rw[show decide ((S.length:Int)<(S.length:Int))=false by simp];exact .ret rfl
def XO (l:A8 Int)(x:Int)(h:l.length<=1099511627776):TJ l x=some (EN l x):=by
 refine dL.eq ?_;unfold TJ aSI;refine aA l.length jI (λi=>∀j,(q:j<i)->(hl:j<l.length)->l[j]≠x) (λj q=>AQ) ?_ ?_
 ·intro i k hi u z;unfold aF8;rw[show decide ((i:Int)<(l.length:Int))=true by simpa using hi,CU hi,wrap_succ i AQ];simp only[Bj,Aj];refine dL.bif (λe=>?_) λe=>?_
  ·refine .ret ?_;have :l[i]=x:=TR
   rw[LV.2 (this▸EZ hi)]
  grind
 intro k u;unfold aF8;rw[show decide ((l.length:Int)<(l.length:Int))=false by simp];refine .ret ?_;rw[Q7.2];intro hm;obtain⟨j,q,e⟩:=G8 hm;exact u j q q e
def aIe (p:Int->Ad):∀(l:A8 Int) (i:Nat),i<=l.length->(∀j,(h:j<i)->(hl:j<l.length)->p l[j]=true)->(∀h:i<l.length,p l[i]=false)->l.takeWhile p=l.take i/\l.dropWhile p=l.drop i
 | [],i,h,_,_=>by simp at h;subst h;simp
 |a::l,0,_,_,h2=>by
  have :=h2 Bf;simp at this;simp[this]
 |a::l,i+1,h,h1,h2=>by
  have q:=h1 0 AQ Bf;simp at q;have :=aIe p l i OO (λj u hl=>by have :=h1 (j+1) AQ NY;simpa using this) (λhl=>by have :=h2 NY;simpa using this);simp[q,this.1,this.2]
def mZ (l:A8 Int)(x:Int)(h:l.length<=1099511627776):YC l x=some (put l x):=by
 unfold YC;rw[XO l x h];simp only[Aj];unfold put;cases hh:EN l x with
 |true=>simp
 |false=>
  simp only[BQ,TK,LH];refine dL.eq ?_;unfold aVR
  have q:∀i,i<=l.length->(∀j,(u:j<i)->(hl:j<l.length)->l[j]<x)->(∀h:i<l.length,¬l[i]<x)->
   dL ((Hy l 0 (i:Int)).bind λL=>(DC 8 [] L).bind λM=>(DC 8 M [x]).bind λO=>(Hy l (i:Int) ((l.length))).bind λI=>(DC 8 O I).bind λJ=>some J) (· =l.takeWhile (decide<| · <x)++x::l.dropWhile (decide<| · <x)):=by
   intro i hi h1 h2;obtain⟨U,Y⟩:=aIe (decide<| · <x) l i hi (λj u hl=>by simpa using h1 j u hl) (λhl=>by simpa using h2 hl)
   have Z:Hy l 0 (i:Int)=some (l.take i):=by
    have :=YW (l:=l) (lo:=0) (hi:=i) AQ hi;simpa using this
   have e4:Hy l (i:Int) (l.length:Int)=some (l.drop i):=by
    rw[YW (l:=l) (lo:=i) (hi:=l.length) hi AQ];congr 1;exact Qx Bf
   rw[Z];simp only[Aj];rw[Dz Ej];simp only[Aj,JJ];rw[Dz Ej];simp only[Aj];rw[e4];simp only[Aj];rw[Dz Ej];refine .ret ?_;rw[U,Y];simp
  refine aA l.length jI (λi=>∀j,(u:j<i)->(hl:j<l.length)->l[j]<x) (λj u=>AQ) ?_ ?_
  ·intro i k hi z hk;unfold aIM;rw[show decide ((i:Int)<(l.length:Int))=true by simpa using hi,CU hi,wrap_succ i AQ];simp only[Bj,Aj];refine dL.bif (λe=>?_) λe=>?_
   ·refine hk λj u hl=>?_;by_cases ej:j=i
    ·subst ej;simpa using e
    exact z j AQ hl
   exact q i AQ z (λ_=>TR)
  intro k z;unfold aIM;rw[show decide ((l.length:Int)<(l.length:Int))=false by simp];exact q l.length AQ z (λh=>AQ)
def pR (l:A8 Int)(x:Int):(put l x).length<=l.length+1:=by
 unfold put;split
 ·omega
 rw[Ee,GH];have :=BJ List.length (vP (p:=(decide<| · <x)) (l:=l))
 grind
def pU :∀(l a:A8 Int),(l.foldl put a).length<=a.length+l.length
 | [],a=>Bf
 |x::l,a=>by
  have h1:=pU l (put a x);have h2:=pR a x
  grind
def aTj {a:A8 Int}(h:i<l.length):(l.take (i+1)).foldl put a=put ((l.take i).foldl put a) l[i]:=by
 rw[OM h,VD];rfl
def aDI (l:A8 Int)(h:l.length<=274877906944):qC l=some (FW l):=by
 refine dL.eq ?_;unfold qC aRJ;refine Jj l.length jI (λi v=>v=(l.take i).foldl put []) Bf ?_ ?_
 ·rintro i v k hi rfl j;have hl:=pU (l.take i) [];simp only[QM,H7]at hl;unfold aLF;rw[show decide ((i:Int)<(l.length:Int))=true by simpa using hi,CU hi,wrap_succ i AQ];simp only[Bj,Aj];rw[mZ _ _ AQ];exact j _ (aTj hi).symm
 rintro v k rfl;unfold aLF;rw[show decide ((l.length:Int)<(l.length:Int))=false by simp];exact .ret (by rw[H9];rfl)
def aAS (a b:A8 Int)(h:a.length<=274877906944)(h2:b.length<=274877906944):ZW a b=some (JH a b):=by
 unfold ZW;rw[aDI a h];have hs:=OG a;refine dL.eq ?_;simp only[Aj];unfold aWD;refine Jj b.length jI (λi v=>v=(b.take i).foldl put (FW a)) Bf ?_ ?_
 ·rintro i v k hi rfl j;have hl:=pU (b.take i) (FW a);simp only[H7]at hl;unfold aJN;rw[show decide ((i:Int)<(b.length:Int))=true by simpa using hi,CU hi,wrap_succ i AQ];simp only[Bj,Aj];rw[mZ _ _ AQ];exact j _ (aTj hi).symm
 rintro v k rfl;unfold aJN;rw[show decide ((b.length:Int)<(b.length:Int))=false by simp];exact .ret (by rw[H9];rfl)
def kK (a b:A8 Int):Ad:=decide (a=b)
def a5d (a b:A8 Int)(h:a.length<=1099511627776):fA a b=some (kK a b):=by
 unfold fA;refine dL.eq (dL.bif (λe=>?_) λe=>?_)
 ·refine .ret ?_;have :a≠b:=λe'=>by subst e';simp at e
  simp[kK,this]
 have hl:a.length=b.length:=by
   have :(a.length:Int)=b.length:=TR
   omega
 unfold aIc;refine aA a.length jI (λi=>∀j,(z:j<i)->(h1:j<a.length)->(h2:j<b.length)->a[j]=b[j]) (λj z=>AQ) ?_ ?_
 ·intro i k hi I J;have q:i<b.length:=AQ
  unfold yC;rw[show decide ((i:Int)<(a.length:Int))=true by simpa using hi,CU hi,CU q,wrap_succ i AQ];simp only[Bj,Aj];refine dL.bif (λe=>.ret ?_) λe=>J λj z h1 h2=>?_
  ·have u:a[i]≠b[i]:=TR
   have :a≠b:=λe'=>by subst e';exact u rfl
   simp[kK,this]
  grind
 intro k I;unfold yC;rw[show decide ((a.length:Int)<(a.length:Int))=false by simp];refine .ret ?_;have :a=b:=X9 hl λj h1 h2=>I j h1 h1 h2;simp[kK,this]
variable {A:Type}{s t:BP}
section
variable {α:Type}
def Lu {R:Type}(c:Ad)(x y:R):(bif c then some x else some y)=some (bif c then x else y):=by cases c<;>rfl
def a6p {R:Type}(c:Ad)(x y:AB A)(f:A->AB R):(bif c then x else y).bind f=bif c then x.bind f else y.bind f:=by cases c<;>rfl
def ql (a b:Ad):(bif a then true else b)=(a||b):=by cases a<;>rfl
def SB (a b:Ad):(bif a then b else false)=(a&&b):=by cases a<;>rfl
def WH (h:i<(DL s).length):Ig s (i:Int)=some (DL s)[i]:=by
 unfold Ig;rw[ET (aEQ i)];have h':i<s.size:=Xy
 have e:s[i]? =some s[i]:=by simp[h']
 simp only[Xe,e,JR,DL,Ph];rfl
def aa2 (h:0<(DL s).length):Ig s 0=some (DL s)[0]:=WH (i:=0) h
def Hl {R α:Type}{body:(Int->AB R)->Int->AB R}(l:A8 α)(hl:l.length<Az)(p:α->Ad)(bad:R)(rest:AB R)(u:∀k (i:Nat) (h:i<l.length),body k (i:Int)=bif p l[i]then some bad else k (BA ((i:Int)+1)))(z:∀k,body k (l.length:Int)=rest):
 bn body Az 0=bif l.any p then some bad else rest:=by
 have J:Az=9223372036854775808:=rfl
 have key:∀n (i:Nat),i+n=l.length->∀m,n<m->bn body m (i:Int)=bif (l.drop i).any p then some bad else rest:=by
  intro n
  induction n with
  |zero=>
   intro i hi m hm;obtain⟨m,rfl⟩:∃q,m=q+1:=⟨m-1,AQ⟩
   have :i=l.length:=AQ
   subst this;show body (bn body m) _=_;rw[z,PS];rfl
  |succ n I=>
   intro i hi m hm;obtain⟨m,rfl⟩:∃q,m=q+1:=⟨m-1,AQ⟩
   have j:i<l.length:=AQ
   show body (bn body m) _=_;rw[u _ i j,wrap_succ i AQ,I (i+1) AQ m AQ,Nj j,List.any_cons];cases p l[i]<;>rfl
 grind
def bytes_inj (h:DL s=DL t):s=t:=by
 have hd:s.data.toList=t.data.toList:=by
  unfold DL at h;refine List.map_inj_right (f:=λc:UInt8=>(c.toNat:Int)) (λa b j=>?_) |>.1 h;exact UInt8.toNat_inj.1 AQ
 obtain⟨⟨a⟩⟩:=s;obtain⟨⟨b⟩⟩:=t;simp only at hd;rw[hd]
def toList_inj (h:s.toList=t.toList):s=t:=by
 rw[ByteArray.toList_eq,ByteArray.toList_eq]at h;obtain⟨⟨a⟩⟩:=s;obtain⟨⟨b⟩⟩:=t;simp only at h;rw[h]
def Ja:(s.toList==t.toList)=decide (s=t):=by
 by_cases h:s=t
 ·subst h;simp
 have :s.toList≠t.toList:=λe=>h (toList_inj e);simp[h,this]
def KU {R α:Type}{body:(Int->AB R)->Int->AB R}(l:A8 α)(hl:l.length<Az)(q:α->Ad)(g:Nat->AB R)(rest:AB R)(z:∀k (i:Nat) (h:i<l.length),body k (i:Int)=bif q l[i]then g i else k (BA ((i:Int)+1)))(I:∀k,body k (l.length:Int)=rest):
 bn body Az 0=if l.findIdx q<l.length then g (l.findIdx q)else rest:=by
 have L:Az=9223372036854775808:=rfl
 have key:∀n (i:Nat),i+n=l.length->∀m,n<m->bn body m (i:Int)=if(l.drop i).findIdx q+i<l.length then g ((l.drop i).findIdx q+i)else rest:=by
  intro n
  induction n with
  |zero=>
   intro i hi m hm;obtain⟨m,rfl⟩:∃u,m=u+1:=⟨m-1,AQ⟩
   have :i=l.length:=AQ
   subst this;show body (bn body m) _=_;rw[I,PS,Ef AQ]
  |succ n J=>
   intro i hi m hm;obtain⟨m,rfl⟩:∃u,m=u+1:=⟨m-1,AQ⟩
   have j:i<l.length:=AQ
   show body (bn body m) _=_;rw[z _ i j,wrap_succ i AQ,J (i+1) AQ m AQ,Nj j,YF];cases q l[i]with
   |true=>
    simp[j]
   |false=>
    grind
 grind
def kY {lo hi:Nat}(h1:lo<=hi)(h2:hi<=s.size):Oj s (lo:Int) (hi:Int)=some (s.extract lo hi):=by
 unfold Oj;rw[ET ⟨AQ,AQ,AQ⟩];simp
def aVZ (s:BP)(a b:Nat):DL (s.extract a b)=((DL s).take b).drop a:=by
 simp[DL,ByteArray.data_extract,dI,bJ,List.extract_eq_drop_take']
def aIB (l:A8 α)(q:α->Ad):(bif l.any (λc=> !q c)then false else true)=l.all q:=by
 grind
def aKc :∀(l:A8 UInt8) (c:UInt8),Lib.indexByte l c=if l.findIdx (· ==c)<l.length then((l.findIdx (· ==c):Nat):Int)else -1
 | [],c=>rfl
 |b::l,c=>by
  unfold Lib.indexByte;rw[YF];cases h:b==c with
  |true=>simp
  |false=>
   rw[aKc l c];simp only[TK,LH,BQ,GH];by_cases hl:l.findIdx (· ==c)<l.length
   ·simp only[hl,KL,show l.findIdx (· ==c)+1<l.length+1 by omega];have :(((l.findIdx (· ==c):Nat):Int)== -1)=false:=Bf
    simp[this]
   simp[hl,show ¬l.findIdx (· ==c)+1<l.length+1 by omega]
end
structure Ey (e:Aa):Prop where
 prev:e.bG.length<=40
 auth:e.bI.length<=40
 allow:e.Content.Allow.length<=100
 deny:e.Content.iy.length<=100
 users:e.Content.Levels.Users.length<=100
 kinds:e.Content.Levels.Kinds.length<=100
 room:e.Room.size<=2000
 sender:e.bM.size<=2000
 key:e.Key.size<=2000
 text:e.Content.Text.size<=2000
 via:e.Content.Via.size<=2000
 server:e.sH.Server.size<=2000
 allows:∀x∈e.Content.Allow,x.size<=2000
 denies:∀x∈e.Content.iy,x.size<=2000
 names:∀x∈e.Content.Levels.Users,x.User.size<=2000
variable {α:Type}{l:A8 α}
def ak0 {P:α->Prop}(h:∀j,(hl:j<l.length)->P l[j]):∀x∈l,P x:=λx q=>by
 obtain⟨j,u,rfl⟩:=G8 q;exact h j u
def DF {R:Type}(h:i<l.length)(f:α->AB R)(z:AB R):(bif (i:Int)<(l.length:Int) then(Au l (i:Int)).bind f else z)=f l[i]:=by
 rw[show decide ((i:Int)<(l.length:Int))=true by simpa using h,CU h];rfl
def EL {R:Type}(y z:AB R):(bif (l.length:Int)<(l.length:Int) then y else z)=z:=by
 rw[show decide ((l.length:Int)<(l.length:Int))=false by simp];rfl
variable {n:Nat}
def fuel_lt (h:n<=1099511627776):n<Az:=oM
def dec_lt (h:i<n):decide ((i:Int)<(n:Int))=true:=OO
def DZ (n:Nat):decide ((n:Int)<(n:Int))=false:=Bf
variable {a0:A}
def Iq {R:Type}{body:(A->Int->AB R)->A->Int->AB R}(l:A8 α)(hl:l.length<=1099511627776)(step:A->α->A)(I:Nat->A->Prop)(j:A->AB R)(z:I 0 a0)(J:∀k a (i:Nat) (h:i<l.length),I i a->I (i+1) (step a l[i])/\body k a (i:Int)=k (step a l[i]) (BA ((i:Int)+1)))(L:∀k a,I l.length a->body k a (l.length:Int)=j a):aP body Az a0 0=j (l.foldl step a0):=by
 have key:∀n (i:Nat) (a:A),i+n=l.length->I i a->∀m,n<m->aP body m a (i:Int)=j ((l.drop i).foldl step a):=by
  intro n
  induction n with
  |zero=>
   intro i a hi ha m hm;obtain⟨m,rfl⟩:∃u,m=u+1:=⟨m-1,AQ⟩
   have :i=l.length:=AQ
   subst this;show body (aP body m) _ _=_;rw[L _ _ ha,PS];rfl
  |succ n M=>
   intro i a hi ha m hm;obtain⟨m,rfl⟩:∃u,m=u+1:=⟨m-1,AQ⟩
   have q:i<l.length:=AQ
   obtain⟨h1,h2⟩:=J (aP body m) a i q ha;show body (aP body m) _ _=_;rw[h2,wrap_succ i AQ,M (i+1) _ AQ h1 m AQ,Nj q,Fl]
 have :=key l.length 0 a0 AQ z Az (fuel_lt hl);simpa using this
def qW {R:Type}{body:(Int->A->AB R)->Int->A->AB R}(l:A8 α)(hl:l.length<=1099511627776)(step:A->α->A)(I:Nat->A->Prop)(j:A->AB R)(z:I 0 a0)(J:∀k a (i:Nat) (h:i<l.length),I i a->I (i+1) (step a l[i])/\body k (i:Int) a=k (BA ((i:Int)+1)) (step a l[i]))(L:∀k a,I l.length a->body k (l.length:Int) a=j a):aP body Az 0 a0=j (l.foldl step a0):=by
 have key:∀n (i:Nat) (a:A),i+n=l.length->I i a->∀m,n<m->aP body m (i:Int) a=j ((l.drop i).foldl step a):=by
  intro n
  induction n with
  |zero=>
   intro i a hi ha m hm;obtain⟨m,rfl⟩:∃u,m=u+1:=⟨m-1,AQ⟩
   have :i=l.length:=AQ
   subst this;show body (aP body m) _ _=_;rw[L _ _ ha,PS];rfl
  |succ n M=>
   intro i a hi ha m hm;obtain⟨m,rfl⟩:∃u,m=u+1:=⟨m-1,AQ⟩
   have q:i<l.length:=AQ
   obtain⟨h1,h2⟩:=J (aP body m) a i q ha;show body (aP body m) _ _=_;rw[h2,wrap_succ i AQ,M (i+1) _ AQ h1 m AQ,Nj q,Fl]
 have :=key l.length 0 a0 AQ z Az (fuel_lt hl);simpa using this
def Kw {α:Type}(p:α->Ad):∀l:A8 α,l.find? p=l[l.findIdx p]?
 | []=>rfl
 |x::l=>by
  rw[Xb,YF];cases h:p x with
  |true=>rfl
  |false=>simp[Kw p l]
def Eb (l:A8 Aa)(id:Int):Option Aa:=l.find? λe=>e.Id==id
def I9 (l:A8 Aa)(id:Int):Aa×Ad:=match Eb l id with
 |some e=>(e,true)
 |none=>(Fe,false)
variable {e:Aa}{l:A8 Aa}
def aAc {id:Int}(h:Eb l id=some e):e.Id=id:=by
 have :=a8n h;simpa using this
def JZ {id:Int}(h:Eb l id=some e):e∈l:=XV h
def Nw (l:A8 Aa)(id:Int):(I9 l id).2=(Eb l id).isSome:=by
 unfold I9;cases Eb l id<;>rfl
def a8C (l:A8 Aa)(hl:l.length<=1099511627776)(f:Aa->AB Ad)(p:Aa->Ad)(j:∀e,f e=some (p e)):
 bC l f=some (if l.findIdx p<l.length then((l.findIdx p:Nat):Int)else -1):=by
 unfold bC aMF;rw[KU l (fuel_lt hl) p (λi=>some (i:Int)) (some (-1))]
 ·split<;>rfl
 ·intro k i h;unfold aEp;rw[DF h,j];rfl
 intro k;unfold aEp;rw[EL]
def found_eq (l:A8 Aa)(p:Aa->Ad){n:Int}(j:n=if l.findIdx p<l.length then((l.findIdx p:Nat):Int)else -1):
 (bif n<0 then some (Fe,false)else(Au l n).bind λq=>some (q,true))=some (match l.find? p with |some e=>(e,true)|none=>(Fe,false)):=by
 subst j;rw[Kw];by_cases h:l.findIdx p<l.length
 ·rw[ET h,EO h,show decide (((l.findIdx p:Nat):Int)<0)=false by simp,CU h];rfl
 grind
def Ox (l:A8 Aa)(id:Int)(hl:l.length<=1099511627776):MV l id=some (I9 l id):=by
 unfold MV kQ uF;rw[a8C l hl _ (λe=>e.Id==id) λ_=>rfl];exact found_eq l _ rfl
def aW7 (l:A8 Aa)(id:Int)(hl:l.length<=1099511627776):zA l id=some (if l.findIdx (λe=>e.Id==id)<l.length then((l.findIdx (λe=>e.Id==id):Nat):Int)else -1):=by
 unfold zA aSH;rw[KU l (fuel_lt hl) (λe=>e.Id==id) (λi=>some (i:Int)) (some (-1))]
 ·split<;>rfl
 ·intro k i h;unfold aCN;rw[DF h]
 intro k;unfold aCN;rw[EL]
def NG (l:A8 Aa)(id:Int)(hl:l.length<=1099511627776):LD l id=some (I9 l id):=by
 unfold LD;rw[aW7 l id hl];exact found_eq l _ rfl
def ofIds (l:A8 Aa)(ids:A8 Int):A8 Aa:=ids.filterMap (Eb l)
def foldl_append {α β:Type}(f:α->A8 β):∀(l:A8 α) (a:A8 β),l.foldl (λr x=>r++f x) a=a++l.flatMap f
 | [],a=>Bf
 |x::l,a=>by rw[Fl,foldl_append f l,P5,JO]
def aSq (l:A8 Aa):∀ids,ofIds l ids=ids.flatMap λid=>(Eb l id).toList
 | []=>rfl
 |id::ids=>by
  unfold ofIds;rw[Uj,P5,←aSq l ids];cases Eb l id<;>rfl
def toList_le (o:AB α):o.toList.length<=1:=by cases o<;>simp
def P7 {id:Int}(h:Eb l id=some e):I9 l id=(e,true):=by unfold I9;rw[h]
def Rl {id:Int}(h:Eb l id=none):I9 l id=(Fe,false):=by unfold I9;rw[h]
def jk (l:A8 Aa)(ids:A8 Int):(ofIds l ids).length<=ids.length:=List.length_filterMap_le ..
def aOQ (l:A8 Aa)(ids:A8 Int):ids.foldl (λr id=>r++(Eb l id).toList) []=ofIds l ids:=by
 rw[foldl_append (λid=>(Eb l id).toList),aSq];rfl
def aZf (l:A8 Aa)(ids:A8 Int)(hl:l.length<=1000)(hi:ids.length<=1000000):a2c l ids=some (ofIds l ids):=by
 unfold a2c
 have hm:Jg 376 Fe 0 (ids.length:Int)=some []:=by
  unfold Jg;rw[ET a4a];rfl
 rw[hm];simp only[Aj];unfold aPr;rw[Iq ids AQ (λr id=>r++(Eb l id).toList) (λi r=>r.length<=i) (λr=>some r) Bf]
 ·rw[aOQ]
 ·intro k a i h q;have u:=toList_le (Eb l ids[i]);refine⟨Lj,?_⟩;unfold aGH a8t;rw[DF h,Ox l _ AQ];cases j:Eb l ids[i]with
  |none=>simp[Rl j]
  |some e=>
   rw[P7 j];simp only[Aj,Bj,SI];rw[Dz G9];rfl
 intro k a q;unfold aGH;rw[EL]
def aCG (l:A8 Aa)(ids:A8 Int)(hl:l.length<=1000)(hi:ids.length<=1000000):oh l ids=some (ofIds l ids):=by
 unfold oh aU3;rw[Iq ids AQ (λr id=>r++(Eb l id).toList) (λi r=>r.length<=i) (λr=>some r) Bf]
 ·rw[aOQ]
 ·intro k a i h q;have u:=toList_le (Eb l ids[i]);refine⟨Lj,?_⟩;unfold aI7 a6L;rw[DF h,NG l _ AQ];cases j:Eb l ids[i]with
  |none=>simp[Rl j]
  |some e=>
   rw[P7 j];simp only[Aj,Bj,SI];rw[Dz G9];rfl
 intro k a q;unfold aI7;rw[EL]
def aQM (l:A8 α)(i:Nat)(x:α)(h:i<l.length):l.set i x=l.take i++x::l.drop (i+1):=aJo▸by simp[h]
def aTi (A:A8 α)(g:α)(D:A8 α)(h:A.length=n):(A++g::D).take n=A/\(A++g::D).drop (n+1)=D:=by
 subst h;simp
def aBx (l:A8 Int)(x:Int)(hi:Inc l)(hl:l.length<=1000000):qw l x=some (put l x):=by
 refine dL.eq ?_;unfold qw aTG
 have L:∀i,i<=l.length->(∀j,(U:j<i)->(hl:j<l.length)->l[j]<x)->(∀h:i<l.length,x<l[i])->put l x=l.take i++x::l.drop i:=by
  intro i hi' h1 h2;obtain⟨e1,O⟩:=aIe (decide<| · <x) l i hi' (λj U hl=>by simpa using h1 j U hl) (λhl=>by have :=h2 hl;simp;omega)
  have hno:EN l x=false:=Q7.2 λhm=>by
   obtain⟨q,hq,e4⟩:=G8 hm;rcases oG q i with h5|h5
   ·have :=h1 q h5 hq;omega
   have h6:=h2 AQ;rcases oG i q with h7|h7
   ·have :=JQ.1 hi i q AQ hq h7;omega
   have :q=i:=AQ
   subst this;omega
  unfold put;rw[hno,e1,O];rfl
 have z:∀i,i<=l.length->∀d,d<=l.length-i->∀m,d<m->dL (aP (WX (i:Int) x) m ((i+d:Nat):Int) (l.take (i+d)++(l++[x]).getD (i+d) 0::l.drop (i+d))) (· =l.take i++x::l.drop i):=by
  intro i I d
  induction d with
  |zero=>
   intro _ m hm;obtain⟨m,rfl⟩:∃m',m=m'+1:=⟨m-1,AQ⟩
   show dL (WX (i:Int) x (aP (WX (i:Int) x) m) _ _) _;generalize aP (WX (i:Int) x) m=k;unfold WX;rw[show decide (((i+0:Nat):Int)>(i:Int))=false by simp];simp only[BQ,QK];have hlen:i<(l.take i++(l++[x]).getD i 0::l.drop i).length:=Ej
   rw[CU hlen];refine .ret ?_;rw[Xe,aQM _ _ _ hlen];simp[List.take_append,List.drop_append,zJ I]
  |succ d ih=>
   intro hd m hm;obtain⟨m,rfl⟩:∃m',m=m'+1:=⟨m-1,AQ⟩
   have Y:=ih AQ m AQ;show dL (WX (i:Int) x (aP (WX (i:Int) x) m) _ _) _;generalize aP (WX (i:Int) x) m=k at Y ⊢;unfold WX;rw[show decide (((i+(d+1):Nat):Int)>(i:Int))=true by simp;omega];simp only[Bj];have w:BA (((i+(d+1):Nat):Int)-1)=((i+d:Nat):Int):=P8
   have J:i+d<l.length:=AQ
   have hL:(l.take (i+(d+1))++(l++[x]).getD (i+(d+1)) 0::l.drop (i+(d+1))).length=l.length+1:=Ej
   have h1:i+d<(l.take (i+(d+1))++(l++[x]).getD (i+(d+1)) 0::l.drop (i+(d+1))).length:=AQ
   have h2:i+(d+1)<(l.take (i+(d+1))++(l++[x]).getD (i+(d+1)) 0::l.drop (i+(d+1))).length:=AQ
   rw[w,CU h1];simp only[Aj];rw[CU h2];simp only[Aj]
   have hg:(l.take (i+(d+1))++(l++[x]).getD (i+(d+1)) 0::l.drop (i+(d+1)))[i+d]=l[i+d]:=by
    rw[a2q Ej];simp
   rw[hg,Xe,aQM _ _ _ h2]
   have e:(l.take (i+(d+1))++(l++[x]).getD (i+(d+1)) 0::l.drop (i+(d+1))).take (i+(d+1))++l[i+d]::(l.take (i+(d+1))++(l++[x]).getD (i+(d+1)) 0::l.drop (i+(d+1))).drop (i+(d+1)+1)=l.take (i+d)++(l++[x]).getD (i+d) 0::l.drop (i+d):=by
    have ht:(l.take (i+(d+1))).length=i+(d+1):=Ej
    rw[(aTi _ _ _ ht).1,(aTi _ _ _ ht).2];have h3:(l++[x]).getD (i+d) 0=l[i+d]:=by simp[List.getD,KI J,J]
    rw[h3,show i+(d+1)=i+d+1 by omega,OM J,Nj J,JO];rfl
   rw[e];exact Y
 have u:l++[x]=l.take l.length++(l++[x]).getD l.length 0::l.drop l.length:=Bf
 refine aA l.length (fuel_lt AQ) (λi=>∀j,(U:j<i)->(hl:j<l.length)->l[j]<x) (λj U=>AQ) ?_ ?_
 ·intro i k I Z hk;unfold aJW;rw[show decide ((i:Int)<(l.length:Int))=true by simpa using I,CU I];simp only[Bj,Aj];refine dL.bif (λe=>?_) λe=>?_
  ·rw[wrap_succ i AQ];refine hk λj U hl'=>?_;by_cases ej:j=i
   ·subst ej;simpa using e
   exact Z j AQ hl'
  have hge:¬l[i]<x:=TR
  refine dL.bif (λO=>?_) λO=>?_
  ·have hx:l[i]=x:=bW
   refine .ret ?_;unfold put;rw[LV.2 (hx▸EZ I)];rfl
  have hx:l[i]≠x:=bW
  rw[Dz G9];simp only[Aj];rw[L i AQ Z (λ_=>AQ)];have w:BA (((l++[x]).length:Int)-1)=((i+(l.length-i):Nat):Int):=aKU
  rw[w];have M:=z i AQ (l.length-i) (EW _) Az (fuel_lt AQ);rw[show i+(l.length-i)=l.length by omega]at M ⊢;rw[←u]at M;exact M
 intro k Z;unfold aJW;rw[show decide ((l.length:Int)<(l.length:Int))=false by simp];simp only[BQ,Aj];rw[Dz G9];simp only[Aj];rw[L l.length (EW _) Z (λh=>AQ)];have w:BA (((l++[x]).length:Int)-1)=((l.length+0:Nat):Int):=aKU
 rw[w];have M:=z l.length (EW _) 0 AQ Az (fuel_lt AQ);rw[QK]at M ⊢;rw[←u]at M;exact M
def bQ (l:A8 Aa)(id:Int):Ad:=(Eb l id).isSome
def Qu (l:A8 Aa)(ids:A8 Int):A8 Int:=ids.foldl (λr id=>bif bQ l id then r else put r id) []
def gQ (l:A8 Aa)(ids:A8 Int):A8 Int:=(FW ids).filter (bQ l)
variable {ids:A8 Int}{x:Int}
def Ns:x∈gQ l ids↔x∈ids/\bQ l x=true:=by unfold gQ;rw[Gs,Ld]
def jY (l:A8 Aa)(ids:A8 Int):Inc (gQ l ids):=(Nb ids).sublist Ue
def alm (l:A8 Aa)(ids:A8 Int):(gQ l ids).length<=ids.length:=EI (Lc _ _) (OG ids)
def a5j (l:A8 Aa):∀(ids r:A8 Int),Inc r->Inc (ids.foldl (λr id=>bif bQ l id then r else put r id) r)/\∀x,x∈ids.foldl (λr id=>bif bQ l id then r else put r id) r↔x∈r\/x∈ids/\bQ l x=false
 | [],r,h=>⟨h,λx=>Bf⟩
 |id::ids,r,h=>by
  rw[Fl];cases j:bQ l id with
  |true=>
   obtain⟨h1,h2⟩:=a5j l ids r h;refine⟨h1,λx=>(h2 x).trans ⟨λh=>?_,λh=>?_⟩⟩
   ·rcases h with h|h
    ·exact .inl h
    exact .inr ⟨IE _ h.1,h.2⟩
   rcases h with h|⟨h,h3⟩
   ·exact .inl h
   rcases FM.1 h with rfl|h
   ·rw[j]at h3;cases h3
   exact .inr ⟨h,h3⟩
  |false=>
   obtain⟨h1,h2⟩:=a5j l ids (put r id) (U5 h);refine⟨h1,λx=>(h2 x).trans ?_⟩;rw[XM,FM];constructor
   ·rintro((h|rfl)|h)
    ·exact .inl h
    ·exact .inr ⟨.inl rfl,j⟩
    exact .inr ⟨.inr h.1,h.2⟩
   rintro(h|⟨rfl|h,h3⟩)
   ·exact .inl (.inl h)
   ·exact .inl (.inr rfl)
   exact .inr ⟨h,h3⟩
def oK:x∈Qu l ids↔x∈ids/\bQ l x=false:=by
 unfold Qu;rw[(a5j l ids [] .nil).2 x];simp
def aix (l:A8 Aa)(ids:A8 Int):Inc (Qu l ids):=(a5j l ids [] .nil).1
def aTR (l:A8 Aa)(ids:A8 Int):(Qu l ids).length<=ids.length:=by
 have key:∀(ids r:A8 Int),(ids.foldl (λr id=>bif bQ l id then r else put r id) r).length<=r.length+ids.length:=by
  intro ids
  induction ids with
  |nil=>intro r;simp
  |cons id ids j=>
   intro r;rw[Fl];have h1:=j (bif bQ l id then r else put r id)
   have h2:(bif bQ l id then r else put r id).length<=r.length+1:=by
    cases bQ l id with
    |true=>exact Nat.le_succ _
    |false=>exact pR r id
   simp only[GH];omega
 have :=key ids [];simpa[Qu]using this
def vJ (l:A8 Aa)(ids:A8 Int)(hl:l.length<=1000)(hi:ids.length<=100000):bP l ids=some (Qu l ids):=by
 unfold bP aUI;rw[Iq ids AQ (λr id=>bif bQ l id then r else put r id) (λi r=>Inc r/\r.length<=i) (λr=>some r) ⟨.nil,EW _⟩]
 ·rfl
 ·intro k a i h j;have hp:=aW7 l ids[i] AQ
  have u:bQ l ids[i]=decide (l.findIdx (λe=>e.Id==ids[i])<l.length):=by
   unfold bQ Eb;rw[Kw];by_cases h:l.findIdx (λe=>e.Id==ids[i])<l.length
   ·rw[EO h,KC h];rfl
   rw[OZ AQ,Ic h];rfl
  refine⟨?_,?_⟩
  ·cases bQ l ids[i]with
   |true=>exact⟨j.1,by have :=j.2;show a.length<=i+1;omega⟩
   |false=>exact⟨U5 j.1,by have :=pR a ids[i];have :=j.2;show(put a ids[i]).length<=i+1;omega⟩
  unfold aDT a2S;rw[DF h,hp];simp only[Aj];by_cases q:l.findIdx (λe=>e.Id==ids[i])<l.length
  ·rw[ET q,u,KC q,show decide (((l.findIdx (λe=>e.Id==ids[i]):Nat):Int)<0)=false by simp];rfl
  rw[Ef q,u,Ic q,CU h];simp only[show decide ((-1:Int)<0)=true by decide,Bj,BQ,Aj];rw[aBx a _ j.1 (by have :=j.2;omega)];rfl
 intro k a j;unfold aDT;rw[EL]
def a5x (a b:A8 Int)(h:a.length<=274877906944)(h2:b.length<=274877906944):dF a b=some (Px a b):=by
 unfold dF;rw[aDI a h];simp only[Aj];have ha:=OG a;unfold aNP;rw[Iq (FW a) AQ (λr x=>bif EN b x then r else r++[x]) (λi r=>r.length<=i) (λr=>some r) (EW _)]
 ·congr 1;unfold Px;generalize FW a=S
  have key:∀(S r:A8 Int),S.foldl (λr x=>bif EN b x then r else r++[x]) r=r++S.filter (λx=> !EN b x):=by
   intro S
   induction S with
   |nil=>
    intro r;simp
   |cons x S j=>
    intro r;rw[Fl,j,Uu];cases EN b x<;>simp
  simpa using key S []
 ·intro k r i h q;have u:=XO b (FW a)[i] AQ;refine⟨?_,?_⟩
  ·cases EN b (FW a)[i]with
   |true=>
    grind
   |false=>
    show(r++[(FW a)[i]]).length<=i+1;simp;omega
  unfold aFm aAL;rw[DF h,u];simp only[Aj];cases EN b (FW a)[i]with
  |true=>
   rfl
  |false=>
   simp only[JV,Bj,BQ];rw[CU h];simp only[Aj];rw[Dz G9];rfl
 intro k r q;unfold aFm;rw[EL]
def aV2 (l:A8 Aa)(ids:A8 Int):Px ids (Qu l ids)=gQ l ids:=
 DK (aKo _ _) (jY _ _) λx=>by
  rw[aEd,oK,Ns]
  grind
def anU (l:A8 Aa)(ids:A8 Int)(hl:l.length<=1000)(hi:ids.length<=100000):aA4 l ids=some (gQ l ids):=by
 unfold aA4;rw[vJ l ids hl hi];simp only[Aj];have :=aTR l ids;rw[a5x _ _ AQ AQ,aV2];rfl
def aLc (l:A8 Aa)(ids:A8 Int)(hl:l.length<=1000)(hi:ids.length<=100000):a0v l ids=some (gQ l ids):=by
 unfold a0v;rw[vJ l ids hl hi];simp only[Aj];have :=aTR l ids;rw[a5x _ _ AQ AQ,aV2];rfl
def jf (l:A8 Aa)(id:Int):A8 Int:=(I9 l id).1.bI
def VP (l:A8 Aa)(r:A8 Int)(x:Int):A8 Int:=bif bQ l x then put r x else r
def MG (l:A8 Aa)(ids:A8 Int):A8 Int:=ids.foldl (λr id=>(jf l id).foldl (VP l) r) []
def a3S (l:A8 Aa):∀(xs r:A8 Int),Inc r->Inc (xs.foldl (VP l) r)/\(∀x,x∈xs.foldl (VP l) r↔x∈r\/x∈xs/\bQ l x=true)/\(xs.foldl (VP l) r).length<=r.length+xs.length
 | [],r,h=>⟨h,λx=>Bf,Bf⟩
 |y::xs,r,h=>by
  rw[Fl];unfold VP;cases q:bQ l y with
  |true=>
   obtain⟨h1,h2,h3⟩:=a3S l xs (put r y) (U5 h);refine⟨h1,λx=>(h2 x).trans ?_,?_⟩
   ·rw[XM,FM];constructor
    ·rintro((h|rfl)|h)
     ·exact .inl h
     ·exact .inr ⟨.inl rfl,q⟩
     exact .inr ⟨.inr h.1,h.2⟩
    rintro(h|⟨rfl|h,j⟩)
    ·exact .inl (.inl h)
    ·exact .inl (.inr rfl)
    exact .inr ⟨h,j⟩
   have :=pR r y;simp only[GH,Bj]at h3 ⊢;exact EI h3 AQ
  |false=>
   obtain⟨h1,h2,h3⟩:=a3S l xs r h;refine⟨h1,λx=>(h2 x).trans ⟨λh=>?_,λh=>?_⟩,?_⟩
   ·rcases h with h|h
    ·exact .inl h
    exact .inr ⟨IE _ h.1,h.2⟩
   ·rcases h with h|⟨h,j⟩
    ·exact .inl h
    rcases FM.1 h with rfl|h
    ·rw[q]at j;cases j
    exact .inr ⟨h,j⟩
   simp only[GH,BQ]at h3 ⊢;exact EI h3 AQ
def aKi (l:A8 Aa):∀(ids r:A8 Int),Inc r->Inc (ids.foldl (λr id=>(jf l id).foldl (VP l) r) r)/\∀x,x∈ids.foldl (λr id=>(jf l id).foldl (VP l) r) r↔x∈r\/bQ l x=true/\∃id∈ids,x∈jf l id
 | [],r,h=>⟨h,λx=>Bf⟩
 |id::ids,r,h=>by
  rw[Fl];obtain⟨j,q,_⟩:=a3S l (jf l id) r h;obtain⟨h1,h2⟩:=aKi l ids _ j
  grind
def xY (l:A8 Aa)(ids:A8 Int):Inc (MG l ids):=(aKi l ids [] .nil).1
def UN:x∈MG l ids↔bQ l x=true/\∃id∈ids,x∈jf l id:=by
 unfold MG;rw[(aKi l ids [] .nil).2 x];simp
def chainOf (l:A8 Aa)(ids:A8 Int):A8 Int:=l.foldl (λs _=>JH s (MG l s)) (MG l (gQ l ids))
inductive Mc (l:List Aa) (ids:List Int):Int->Prop
 |one {i x:Int} (h:i∈ids) (hx:x∈jf l i) (hk:bQ l x=true):Mc l ids x
 |more {y x:Int} (h:Mc l ids y) (hx:x∈jf l y) (hk:bQ l x=true):Mc l ids x
def akh {i:Int}(h:x∈jf l i):bQ l i=true:=by
 unfold jf at h;unfold bQ;cases j:Eb l i with
 |none=>rw[Rl j]at h;cases h
 |some e=>rfl
def wP {s t:A8 Int}(hs:Inc s)(j:Inc t)(h:∀x∈s,x∈t):s.length<=t.length/\(t.length<=s.length->s=t):=by
 have e:s=t.filter (λx=>EN s x):=DK hs (j.sublist Ue) λx=>by
  rw[Gs,LV]
  grind
 have hl:=Lc (λx=>EN s x) t;refine⟨by rw[e];exact hl,λq=>?_⟩;have h3:(t.filter (λx=>EN s x)).length=t.length:=by have :=BJ List.length e;omega
 rw[e];exact jv.2 (List.length_filter_eq_length_iff.1 h3)
def UM (l:A8 Aa):A8 Int:=FW (l.map (·.Id))
def a18 (h:bQ l x=true):x∈UM l:=by
 unfold bQ at h;obtain⟨e,j⟩:=SA.1 h;exact Ld.2 (FT.2 ⟨e,JZ j,aAc j⟩)
def a5P (l:A8 Aa):∀(l':A8 Aa) (s:A8 Int),Inc s->(∀x∈s,bQ l x=true)->
 Inc (l'.foldl (λs _=>JH s (MG l s)) s)/\(∀x∈l'.foldl (λs _=>JH s (MG l s)) s,bQ l x=true)/\(∀x∈s,x∈l'.foldl (λs _=>JH s (MG l s)) s)/\
 ((UM l).length<=s.length+l'.length->∀x∈MG l (l'.foldl (λs _=>JH s (MG l s)) s),x∈l'.foldl (λs _=>JH s (MG l s)) s)
 | [],s,hs,u=>⟨hs,u,λ_ h=>h,λhlen x j=>by
     have h1:=(wP hs (Nb _) (λx j=>a18 (u x j))).2 (by show(UM l).length<=s.length;simpa using hlen);have h2:=a18 (UN.1 j).1;unfold UM at h2
     rw[←h1]at h2;exact h2⟩
 |e::l',s,hs,u=>by
  rw[Fl]
  have z:∀x∈JH s (MG l s),bQ l x=true:=λx j=>by
   rcases Xn.1 j with h|h
   ·exact u x h
   exact(UN.1 h).1
  obtain⟨h1,h2,h3,J⟩:=a5P l l' (JH s (MG l s)) (a0t _ _) z;refine⟨h1,h2,λx j=>h3 x (Xn.2 (.inl j)),λhlen=>?_⟩;have I:=wP hs (a0t s (MG l s)) λx j=>Xn.2 (.inl j);by_cases q:s=JH s (MG l s)
  ·
   have hst:∀(l':A8 Aa),l'.foldl (λs _=>JH s (MG l s)) s=s:=by
    intro l'
    induction l' with
    |nil=>
     rfl
    |cons e l' L=>
     grind
   rw[←q,hst];intro x j;rw[q];exact Xn.2 (.inr j)
  grind
def a3m (l:A8 Aa)(ids:A8 Int):Inc (chainOf l ids):=(a5P l l _ (xY _ _) λ_ j=>(UN.1 j).1).1
def aiv (h:x∈chainOf l ids):bQ l x=true:=(a5P l l _ (xY _ _) λ_ j=>(UN.1 j).1).2.1 x h
def aS2 (l:A8 Aa)(ids:A8 Int):∀(l':A8 Aa) (s:A8 Int),(∀x∈s,Mc l ids x)->∀x∈l'.foldl (λs _=>JH s (MG l s)) s,Mc l ids x
 | [],s,h=>h
 |e::l',s,h=>by
  rw[Fl];refine aS2 l ids l' _ λx j=>?_;rcases Xn.1 j with j|j
  ·exact h x j
  obtain⟨h1,y,h2,h3⟩:=UN.1 j;exact .more (h y h2) h3 h1
def nN:x∈chainOf l ids↔Mc l ids x:=by
 constructor
 ·refine aS2 l ids l _ (λx j=>?_) x;obtain⟨h1,y,h2,h3⟩:=UN.1 j;exact .one (Ns.1 h2).1 h3 h1
 obtain⟨h1,h2,h3,u⟩:=a5P l l _ (xY l (gQ l ids)) λ_ j=>(UN.1 j).1
 have hlen:(UM l).length<=(MG l (gQ l ids)).length+l.length:=by
  have :=OG (l.map (·.Id));unfold UM
  grind
 have z:=u hlen;intro h
 induction h with
 |one h j q=>
  exact h3 _ (UN.2 ⟨q,_,Ns.2 ⟨h,akh j⟩,j⟩)
 |more h j q I=>
  exact z _ (UN.2 ⟨q,_,I,j⟩)
def iw (l:A8 Aa)(ids:A8 Int):(chainOf l ids).length<=l.length:=by
 have h1:=(wP (t:=UM l) (a3m l ids) (Nb _) λx j=>a18 (aiv j)).1;have h2:=OG (l.map λe:Aa=>e.Id);unfold UM at h1
 grind
def SN (l:A8 Aa):Prop:=∀e∈l,e.bI.length<=40
def aBE (h:SN l)(id:Int):(jf l id).length<=40:=by
 unfold jf;cases j:Eb l id with
 |none=>rw[Rl j];exact FB _
 |some e=>rw[P7 j];exact h e (JZ j)
def aYh (l:A8 Aa)(ids:A8 Int):(MG l ids).length<=l.length:=by
 have h1:=(wP (t:=UM l) (xY l ids) (Nb _) λx j=>a18 (UN.1 j).1).1;have h2:=OG (l.map λe:Aa=>e.Id);unfold UM at h1
 grind
variable {r:A8 Int}
def lH (hi:Inc r)(h:∀x∈r,bQ l x=true):r.length<=l.length:=by
 have h1:=(wP (t:=UM l) hi (Nb _) λx j=>a18 (h x j)).1;have h2:=OG (l.map λe:Aa=>e.Id);unfold UM at h1
 grind
def aPy (l:A8 Aa)(ids:A8 Int)(hl:l.length<=1000)(ha:SN l)(hi:ids.length<=100000):Res l ids true=some (MG l ids):=by
 unfold Res aWi;rw[Iq ids AQ (λr id=>(jf l id).foldl (VP l) r) (λi r=>Inc r/\∀x∈r,bQ l x=true) (λr=>some r) ⟨.nil,λx u=>by cases u⟩]
 ·rfl
 ·intro k r i h z;obtain⟨L,U,_⟩:=a3S l (jf l ids[i]) r z.1;refine⟨⟨L,λx u=>?_⟩,?_⟩
  ·grind
  unfold aBl a1Z;rw[DF h,NG l _ AQ];simp only[Aj,Bj];show aBq (jf l ids[i]) l k (i:Int) r 0=_;have M:=aBE ha ids[i];unfold aBq;rw[Iq (jf l ids[i]) AQ (VP l) (λ_ r=>Inc r/\∀x∈r,bQ l x=true) (λr=>k r (BA ((i:Int)+1))) z]
  ·intro k2 O j I q;refine⟨?_,?_⟩
   ·unfold VP;cases J:bQ l (jf l ids[i])[j]with
    |true=>
     exact⟨U5 q.1,λx u=>(XM.1 u).elim (q.2 x) λe=>e▸J⟩
    |false=>
     exact q
   unfold aKe a5b;rw[DF I,NG l _ AQ];simp only[Aj,Nw];show(bif bQ l (jf l ids[i])[j]then _ else _)=_;unfold VP;cases J:bQ l (jf l ids[i])[j]with
   |true=>
    simp only[Bj];rw[CU I];simp only[Aj];have :=lH q.1 q.2;rw[mZ _ _ AQ];rfl
   |false=>
    rfl
  intro k2 O _;unfold aKe;rw[EL]
 intro k r z;unfold aBl;rw[EL]
def akH (l:A8 Aa)(ids:A8 Int)(hl:l.length<=1000)(ha:SN l)(h1:Inc ids)(h2:∀x∈ids,bQ l x=true):a1t l ids true=some (l.foldl (λs _=>JH s (MG l s)) ids):=by
 unfold a1t aTM;rw[Iq l AQ (λs _=>JH s (MG l s)) (λ_ r=>Inc r/\∀x∈r,bQ l x=true) (λr=>some r) ⟨h1,h2⟩]
 ·intro k r i h j;refine⟨⟨a0t _ _,λx q=>(Xn.1 q).elim (j.2 x) λh=>(UN.1 h).1⟩,?_⟩;have u:=lH j.1 j.2;have z:=aYh l r;unfold aEn;rw[dec_lt h];simp only[Bj];rw[aPy l r hl ha AQ];simp only[Aj];rw[aAS _ _ AQ AQ];rfl
 intro k r j;unfold aEn;rw[DZ];rfl
def aFf (l:A8 Aa)(ids:A8 Int)(hl:l.length<=1000)(ha:SN l)(hi:ids.length<=100000):fQ l ids=some (chainOf l ids):=by
 unfold fQ;have q:=alm l ids;rw[anU l ids hl hi];simp only[Aj];rw[aPy l _ hl ha AQ];simp only[Aj];rw[akH l _ hl ha (xY _ _) λx j=>(UN.1 j).1];rfl
section
variable {R A B C D E F G:Type} {Q:R->Prop}
def Ur {body:(A->B->C->AB R)->A->B->C->AB R}(I:Nat->A->B->C->Prop)(hs:∀m a b c k,I m a b c->(∀j a' q u,j<m->I j a' q u->dL (k a' q u) Q)->dL (body k a b c) Q):
 ∀n m a b c,m<n->I m a b c->dL (iU body n a b c) Q
 |0,m,_,_,_,h,_=>AQ
 |n+1,m,a,b,c,h,hi=>hs m a b c _ hi λj a' q u h' z=>Ur I hs n j a' q u AQ z
def a5c {body:(A->B->C->D->E->AB R)->A->B->C->D->E->AB R}(I:Nat->A->B->C->D->E->Prop)(hs:∀m a b c d e k,I m a b c d e->(∀j a' q u z e',j<m->I j a' q u z e'->dL (k a' q u z e') Q)->dL (body k a b c d e) Q):
 ∀n m a b c d e,m<n->I m a b c d e->dL (D5 body n a b c d e) Q
 |0,m,_,_,_,_,_,h,_=>AQ
 |n+1,m,a,b,c,d,e,h,hi=>hs m a b c d e _ hi λj a' q u z e' h' J=>a5c I hs n j a' q u z e' AQ J
def aI6 {body:(A->B->C->D->E->F->AB R)->A->B->C->D->E->F->AB R}(I:Nat->A->B->C->D->E->F->Prop)(hs:∀m a b c d e f k,I m a b c d e f->(∀j a' q u z e' J,j<m->I j a' q u z e' J->dL (k a' q u z e' J) Q)->dL (body k a b c d e f) Q):
 ∀n m a b c d e f,m<n->I m a b c d e f->dL (GV body n a b c d e f) Q
 |0,m,_,_,_,_,_,_,h,_=>AQ
 |n+1,m,a,b,c,d,e,f,h,hi=>hs m a b c d e f _ hi λj a' q u z e' J h' L=>aI6 I hs n j a' q u z e' J AQ L
def aUG {body:(A->B->C->D->E->F->G->AB R)->A->B->C->D->E->F->G->AB R}(I:Nat->A->B->C->D->E->F->G->Prop)(hs:∀m a b c d e f g k,I m a b c d e f g->(∀j a' q u z e' J L,j<m->I j a' q u z e' J L->dL (k a' q u z e' J L) Q)->dL (body k a b c d e f g) Q):
 ∀n m a b c d e f g,m<n->I m a b c d e f g->dL (adF body n a b c d e f g) Q
 |0,m,_,_,_,_,_,_,_,h,_=>AQ
 |n+1,m,a,b,c,d,e,f,g,h,hi=>hs m a b c d e f g _ hi λj a' q u z e' J L h' M=>aUG I hs n j a' q u z e' J L AQ M
end
def Rz {V:Type}:∀(m:A8 (Int×V)) (k k':Int) (v:V),DJ (ER m k v) k'=bif k'==k then some v else DJ m k'
 | [],k,k',v=>by
   unfold ER DJ;rfl
 |p::m,k,k',v=>by
  unfold ER;cases h:k==p.1 with
  |true=>
   have h1:k=p.1:=OO
   subst h1;simp only[Bj,DJ];cases k'==p.1<;>rfl
  |false=>
   have h1:k≠p.1:=OO
   simp only[BQ,DJ,Rz m k k' v];cases h2:k'==p.1 with
   |true=>
    have h3:k'=p.1:=LJ
    subst h3;have :(p.1==k)=false:=by simpa using λe:p.1=k=>h1 e.symm
    rw[this];rfl
   |false=>rfl
def Yp (l:A8 Aa)(m:A8 (Int×Int)):Prop:=∀id,(DJ m id=none/\Eb l id=none)\/∃(n:Nat) (e:Aa),DJ m id=some (n:Int)/\Eb l id=some e/\l[n]? =some e
variable {m:A8 (Int×Int)}
def Yp.isSome (h:Yp l m)(id:Int):(DJ m id).isSome=bQ l id:=by
 unfold bQ;rcases h id with⟨h1,h2⟩|⟨n,e,h1,h2,_⟩<;>rw[h1,h2]<;>rfl
def Yp.get (h:Yp l m){id:Int}(j:Eb l id=some e):Au l ((DJ m id).getD 0)=some e:=by
 rcases h id with⟨_,h2⟩|⟨n,e',h1,h2,h3⟩
 ·grind
 rw[j]at h2;cases h2;rw[h1];show Au l (n:Int)=_;rw[a2H,h3]
def zU (l:A8 Aa)(hl:l.length<=1000):dL (Z7 l) (Yp l):=by
 unfold Z7 aU6
 refine bU (λm a b=>∃i:Nat,a=(i:Int)-1/\m=i/\i<=l.length/\∀id,(DJ b id=none/\(l.drop i).find? (λe=>e.Id==id)=none)\/∃(n:Nat) (e:Aa),DJ b id=some (n:Int)/\(l.drop i).find? (λe=>e.Id==id)=some e/\l[n]? =some e) ?_ Az l.length _ _ (fuel_lt AQ)
  ⟨l.length,P8,rfl,EW _,λid=>.inl ⟨rfl,Bf⟩⟩
 rintro m a b k ⟨i,rfl,hm,hi,h⟩ u;unfold aVA;refine dL.bif (λe=>?_) λe=>?_
 ·have q:0<i:=by have :=PI e;omega
  have j:i-1<l.length:=AQ
  have z:(i:Int)-1=((i-1:Nat):Int):=AQ
  rw[z,CU j];simp only[Aj];refine u (i-1) _ _ AQ ⟨i-1,P8,rfl,AQ,λid=>?_⟩;rw[Rz,Nj j,show i-1+1=i by omega,Xb]
  grind
 have I:i=0:=by have :=Np e;omega
 subst I;refine .ret λid=>?_;have :=h id;rw[a81]at this;exact this
inductive WJ (l:List Aa) (from_:List Int):Int->Prop
 |one {x:Int} (h:x∈from_) (hk:bQ l x=true):WJ l from_ x
 |more {y x:Int} (h:WJ l from_ y) (hx:x∈jf l y) (hk:bQ l x=true):WJ l from_ x
def WJ.bQ {f:A8 Int}(h:WJ l f x):bQ l x=true:=by cases h<;>assumption
def amY (h:x∉r):(put r x).length=r.length+1:=by
 unfold put;rw[Ef (by rw[LV];exact h),Ee,GH];have :=BJ List.length (vP (p:=(decide<| · <x)) (l:=r))
 grind
def aWE (r:A8 Int)(x:Int):FW (r++[x])=put (FW r) x:=by unfold FW;rw[VD];rfl
structure acG (l:List Aa) (from_ next aCg:List Int) (i:Nat) (out later:List Int) (found level:List (Int×Bool)):Prop where
 found:∀x,(DJ found x).getD false=true↔x∈out
 level:∀x,(DJ level x).getD false=true->x∈out
 nodup:(FW out).length=out.length
 rch:∀x∈out,WJ l from_ x
 seen:∀x∈next.take i,bQ l x=true->x∈out
 sub:∀x∈aCg,x∈out
 ref:∀y∈out,y∈aCg\/∀x∈jf l y,x∈later
 back:∀x∈later,∃y∈out,x∈jf l y
 size:later.length+40*aCg.length<=40*out.length
 same:out.length=aCg.length->later=[]
variable {j:A8 Int}
def aLA (h:(FW j).length=j.length)(q:∀x∈j,bQ l x=true):j.length<=l.length:=by
 rw[←h];exact lH (Nb j) λx u=>q x (Ld.1 u)
def ahG (l:A8 Aa)(h:Eb l x=some e):Yj e=some (jf l x):=by
 unfold Yj jf;rw[P7 h]
def ahX (l:A8 Aa)(q:A8 Int)(hl:l.length<=1000)(ha:SN l)(hf:q.length<=10000000):
 dL (a03 l q λa0=>Yj a0) (λr=>Inc r/\∀x,x∈r↔WJ l q x):=by
 unfold a03;refine(zU l hl).bind λat_ Z=>?_;unfold aQx
 refine a5c (λm z next at' found level=>at'=at_/\m=2*(l.length-z.length)+(if next=[]then 0 else 1)/\next.length<=10000000/\(∀x,(DJ found x).getD false=true↔x∈z)/\(FW z).length=z.length/\
  (∀x∈z,WJ l q x)/\(∀x∈next,bQ l x=true->WJ l q x)/\(∀x∈q,bQ l x=true->x∈z\/x∈next)/\(∀y∈z,∀x∈jf l y,bQ l x=true->x∈z\/x∈next)) ?_ Az (2*(l.length-([]:A8 Int).length)+(if q=[]then 0 else 1)) _ _ _ _ _ ?_ ?_
 ·rintro m z next at2 found level k ⟨aMC,rfl,hn,h1,h2,h3,h4,h5,h6⟩ M;subst aMC;unfold aUV;have hol:=aLA h2 λx j=>(h3 x j).bQ;refine dL.bif (λe=>?_) λe=>?_
  ·have hne:next≠[]:=by
    rintro rfl;simp at e
   unfold aV8;refine aI6 (body:=aEr next l (λa0=>Yj a0) k) (λ(m:Nat) (o la:A8 Int) (c:Int) (d:A8 (Int×Int)) (fo le:A8 (Int×Ad))=>∃i:Nat,c=i/\i+m=next.length/\d=at2/\acG l q next z i o la fo le) ?_ Az next.length _ _ _ _ _ _ oM ?_
   ·rintro m o la c d fo le k2 ⟨i,rfl,hm,rfl,u⟩ U;unfold aEr;refine dL.bif (λe=>?_) λe=>?_
    ·have hi:i<next.length:=TR
     have w:=wrap_succ i AQ;have aMD:=aLA u.nodup λx j=>(u.rch x j).bQ;rw[CU hi];simp only[Aj];rw[Z.isSome];unfold a3E;have J:next.take (i+1)=next.take i++[next[i]]:=by rw[OM hi]
     cases Y:bQ l next[i]with
     |false=>
      simp only[JV,Bj,Aj,w];refine U (m-1) _ _ _ _ _ _ AQ ⟨i+1,rfl,AQ,rfl,{ u with seen:=λx j M=>?_ }⟩;rw[J,Ie]at j;rcases j with j|j
      ·exact u.seen x j M
      rw[Jd.1 j,Y]at M;cases M
     |true=>
      simp only[El,BQ,Aj];by_cases O:next[i]∈o
      ·rw[(u.found next[i]).2 O];simp only[Bj,Aj,w];refine U (m-1) _ _ _ _ _ _ AQ ⟨i+1,rfl,AQ,rfl,{ u with seen:=λx j M=>?_ }⟩;rw[J,Ie]at j;rcases j with j|j
       ·exact u.seen x j M
       rw[Jd.1 j];exact O
      have f1:(DJ fo next[i]).getD false=false:=by
       cases h:(DJ fo next[i]).getD false with
       |false=>
        rfl
       |true=>
        exact absurd ((u.found _).1 h) O
      have f2:(DJ le next[i]).getD false=false:=by
       cases h:(DJ le next[i]).getD false with
       |false=>
        rfl
       |true=>
        exact absurd (u.level _ h) O
      rw[f1,f2];simp only[BQ,Aj];obtain⟨ev,hev⟩:=SA.1 (show(Eb l next[i]).isSome=true from Y);rw[Dz G9];simp only[Aj];rw[Z.get hev];simp only[Aj];rw[ahG l hev];simp only[Aj];have hau:=aBE ha next[i];have hsz:=u.size;rw[Dz AQ];simp only[Aj,w];refine U (m-1) _ _ _ _ _ _ AQ ⟨i+1,rfl,AQ,rfl,?_⟩;have hnx:WJ l q next[i]:=h4 _ (EZ hi) Y;refine⟨λx=>?_,λx j=>?_,?_,λx j=>?_,λx j M=>?_,λx j=>yZ _ (u.sub x j),λy L=>?_,λx j=>?_,?_,λh=>?_⟩
      ·rw[Rz,Ie,Jd];cases j:x==next[i]with
       |true=>
        grind
       |false=>
        simp only[BQ];rw[u.found x];exact⟨.inl,λh=>h.elim id λh=>by simp[h]at j⟩
      ·rw[Rz]at j;rw[Ie,Jd];cases hxe:x==next[i]with
       |true=>
        grind
       |false=>
        rw[hxe]at j;exact .inl (u.level x j)
      ·rw[aWE,amY (λh=>O (Ld.1 h)),u.nodup];simp
      ·rcases Ie.1 j with j|j
       ·exact u.rch x j
       rw[Jd.1 j];exact hnx
      ·rw[J,Ie]at j;rcases j with j|j
       ·exact yZ _ (u.seen x j M)
       exact a6Z _ j
      ·rcases Ie.1 L with L|L
       ·exact(u.ref y L).imp id λh x j=>yZ _ (h x j)
       rw[Jd.1 L];exact .inr λx j=>a6Z _ j
      ·rcases Ie.1 j with j|j
       ·obtain⟨y,L,h⟩:=u.back x j;exact⟨y,yZ _ L,h⟩
       exact⟨next[i],a6Z _ (Jd.2 rfl),j⟩
      ·simp only[Ee,Om];omega
      have :=u.size;simp only[Ee,Om]at h;omega
    have hi:i=next.length:=by
      have :¬i<next.length:=TR
      omega
    subst hi;have aMD:=aLA u.nodup λx j=>(u.rch x j).bQ;have hsz:=u.size;refine M (2*(l.length-o.length)+(if la=[]then 0 else 1)) _ _ _ _ _ ?_ ⟨rfl,rfl,AQ,u.found,u.nodup,u.rch,λx j I=>?_,λx j I=>?_,λy L x j I=>?_⟩
    ·rw[Ef hne];have hle:z.length<=o.length:=AQ
     rcases oG z.length o.length with h|h
     ·split<;>omega
     have :=u.same AQ
     grind
    ·obtain⟨y,L,h⟩:=u.back x j;exact .more (u.rch y L) h I
    ·rcases h5 x j I with h|h
     ·exact .inl (u.sub x h)
     exact .inl (u.seen x (by rw[H9];exact h) I)
    rcases u.ref y L with h|h
    ·rcases h6 y h x j I with h|h
     ·exact .inl (u.sub x h)
     exact .inl (u.seen x (by rw[H9];exact h) I)
    grind
   exact⟨0,rfl,AQ,rfl,⟨h1,λx j=>by simp[DJ]at j,h2,h3,λx j=>tZ,λ_ h=>h,λy L=>.inl L,λx j=>(Gn j).elim,Bf,λ_=>rfl⟩⟩
  have hz:next=[]:=by
   cases next with
   |nil=>
    rfl
   |cons a b=>
    simp at e
  subst hz;rw[er z AQ];refine .ret ⟨Nb _,λx=>?_⟩;rw[Ld];refine⟨h3 x,λh=>?_⟩
  induction h with
  |one h I=>
   grind
  |more h j I ih=>
   grind
 ·have :Az=9223372036854775808:=rfl
  grind
 exact⟨rfl,rfl,hf,λx=>by simp[DJ],rfl,λx j=>(Gn j).elim,λx j M=>.one j M,λx j _=>.inr j,λy L=>(Gn L).elim⟩
def aF3 (l:A8 Aa)(ids:A8 Int)(hl:l.length<=1000)(ha:SN l)(hi:ids.length<=100000):YR l ids=some (chainOf l ids):=by
 refine dL.eq ?_;unfold YR;refine(zU l hl).bind λat_ q=>?_;unfold aUx;rw[Iq ids AQ (λr id=>r++jf l id) (λi r=>r.length<=40*i) (λr=>(a03 l r λa0=>Yj a0).bind λJ=>some J) Bf]
 ·rw[foldl_append (jf l),JJ]
  have hlen:(ids.flatMap (jf l)).length<=40*ids.length:=by
   have key:∀ids:A8 Int,(ids.flatMap (jf l)).length<=40*ids.length:=by
    intro ids
    induction ids with
    |nil=>simp
    |cons x ids I=>have :=aBE ha x;rw[P5,Ee,GH];omega
   exact key ids
  refine(ahX l _ hl ha AQ).bind λr L=>.ret ?_;refine DK L.1 (a3m l ids) λx=>(L.2 x).trans (Iff.trans ?_ nN.symm);constructor
  ·intro h
   induction h with
   |one h j=>
    obtain⟨i,hi,h⟩:=Vt.1 h;exact .one hi h j
   |more h u j I=>exact .more I u j
  intro h
  induction h with
  |one h u j=>exact .one (Vt.2 ⟨_,h,u⟩) j
  |more h u j I=>exact .more I u j
 ·intro k r i h O;have M:=aBE ha ids[i];refine⟨by simp only[Ee];omega,?_⟩;unfold aCt aBA;rw[DF h,q.isSome];cases j:bQ l ids[i]with
  |false=>
   have :jf l ids[i]=[]:=by
    unfold jf;rw[Rl (by unfold bQ at j;simpa using j)];rfl
   rw[this,UC];rfl
  |true=>
   obtain⟨ev,z⟩:=SA.1 (show(Eb l ids[i]).isSome=true from j);simp only[Bj];rw[q.get z];simp only[Aj];have :jf l ids[i]=ev.bI:=by unfold jf;rw[P7 z]
   rw[←this,Dz AQ];rfl
 intro k r _;unfold aCt;rw[EL]
def aJw :∀x:A8 UInt8,Op.bytesLess x x=false
 | []=>rfl
 |a::x=>by
  unfold Op.bytesLess;rw[aJw x];simp
def aOe :∀{x y z:A8 UInt8},Op.bytesLess x y=true->Op.bytesLess y z=true->Op.bytesLess x z=true
 |_,_,[],_,h=>a8f
 | [],_,_::_,_,_=>
     rfl
 |_::_,[],_::_,h,_=>a8f
 |a::x,b::y,c::z,h,k=>by
  simp only[Op.bytesLess,VK,DR,IQ,MP]at h k ⊢;rcases h with h|⟨rfl,h⟩<;>rcases k with k|⟨rfl,k⟩
  ·grind
  ·exact .inl h
  ·exact .inl k
  exact .inr ⟨rfl,aOe h k⟩
def aV7 :∀{x y:A8 UInt8},Op.bytesLess x y=false->Op.bytesLess y x=false->x=y
 | [],[],_,_=>rfl
 | [],_::_,h,_=>a8f
 |_::_,[],_,h=>a8f
 |a::x,b::y,h,k=>by
  simp only[Op.bytesLess,a7y,Bool.and_eq_false_iff,mV,beq_eq_false_iff_ne]at h k;have e:a=b:=UInt8.le_antisymm (UInt8.not_lt.1 k.1) (UInt8.not_lt.1 h.1);subst e;have h2:=h.2.resolve_left (λh=>h rfl);have k2:=k.2.resolve_left (λh=>h rfl);rw[aV7 h2 k2]
def G7 (a b:BO):Ad:=decide (a.Kind<b.Kind)||(a.Kind==b.Kind&&Op.bytesLess a.Key.toList b.Key.toList)
def Jm (a b:BO):Ad:=a.Kind==b.Kind&&(a.Key=b.Key)
def aZI (a:BO):G7 a a=false:=by unfold G7;rw[aJw];simp
variable {a b c:BO}
def aSM (h:G7 a b=true)(k:G7 b c=true):G7 a c=true:=by
 unfold G7 at *;simp only[VK,DR,IQ,MP]at *;rcases h with h|⟨h1,h2⟩<;>rcases k with k|⟨j,k2⟩
 ·grind
 ·grind
 ·grind
 exact .inr ⟨AQ,aOe h2 k2⟩
def Xa:Jm a b=true↔a.Kind=b.Kind/\a.Key=b.Key:=by unfold Jm;simp
def aM3 (h:G7 a b=false)(k:G7 b a=false):Jm a b=true:=by
 unfold G7 at *;simp only[a7y,Bool.and_eq_false_iff,mV,beq_eq_false_iff_ne]at *;have e:a.Kind=b.Kind:=AQ
 rw[Xa];exact⟨e,toList_inj (aV7 (h.2.resolve_left λn=>n e) (k.2.resolve_left λn=>n e.symm))⟩
def uO (h:Jm a b=true):G7 a b=false:=by
 obtain⟨h1,h2⟩:=Xa.1 h;unfold G7;rw[h1,h2,aJw];simp
def Fn0 (h:Jm a b=true):G7 a c=G7 b c/\G7 c a=G7 c b:=by
 obtain⟨h1,h2⟩:=Xa.1 h;unfold G7
 grind
def agm (a b:BO):wZ a b=some (G7 a b):=by
 unfold wZ G7
 grind
def abz (k:Int)(key:BP)(m:Int)(o:BP)(i j:Int):a6f k key m o=some (G7 ⟨k,key,i⟩ ⟨m,o,j⟩):=by
 unfold a6f G7
 grind
def Fg (s:A8 BO)(e:BO):Nat:=s.findIdx λx=> !G7 x e
def MB (s:A8 BO)(e:BO):Ad:=match s[Fg s e]? with
 |some x=>Jm x e
 |none=>false
def xw (s:A8 BO)(e:BO):Fg s e<=s.length:=a3B
variable {e:BO}{s:A8 BO}
def aTt (h:Fg s e<s.length):G7 s[Fg s e] e=false:=by
 have :=List.findIdx_getElem (w:=h);unfold Fg;simpa using this
def aX9 (s:A8 BO)(k:Int)(key:BP)(hs:s.length<=1000000):a1H s k key=some (((Fg s ⟨k,key,0⟩:Nat):Int),MB s ⟨k,key,0⟩):=by
 unfold a1H aFa aRU;generalize j:(⟨k,key,0⟩:BO)=e
 have hp:bn (a4F s (λa0=>a0m a0 e) (λa0=>Sub a0 e)) Az 0=some (((Fg s e:Nat):Int),MB s e):=by
  rw[KU s (fuel_lt AQ) (λx=> !G7 x e) (λi=>some (((i:Nat):Int),match s[i]? with |some x=> !G7 e x|none=>false)) (some (((s.length:Nat):Int),false))]
  ·split
   ·rename_i h;congr 2;unfold MB Fg;rw[EO h];have h1:G7 s[s.findIdx λx=> !G7 x e] e=false:=aTt h;show(!G7 e s[s.findIdx λx=> !G7 x e])=Jm s[s.findIdx λx=> !G7 x e] e;cases h2:G7 e s[s.findIdx λx=> !G7 x e]with
    |false=>
     rw[aM3 h1 h2];rfl
    |true=>
     cases h3:Jm s[s.findIdx λx=> !G7 x e] e with
     |false=>
      rfl
     |true=>
      rw[(Fn0 h3).2,aZI]at h2;cases h2
   rename_i h;have h':Fg s e=s.length:=by have :=xw s e;unfold Fg at *;omega
   have h2:MB s e=false:=by unfold MB;rw[h',OZ (EW _)]
   rw[h',h2]
  ·intro k2 i h;unfold a4F;rw[DF h,DF h];simp only[a0m,Sub,agm,Aj]
   grind
  intro k2;unfold a4F;rw[EL,EL];rfl
 rw[hp];rfl
def KY (s:A8 BO):Prop:=s.Pairwise λa b=>G7 a b=true
def Ht (s:A8 BO)(k:Int)(key:BP):Int×Ad:=match s.find? λx=>Jm x ⟨k,key,0⟩with
 |some x=>(x.Id,true)
 |none=>(0,false)
def aKI (s:A8 BO)(k:Int)(key:BP)(hs:s.length<=1000000):pV s k key=some (Ht s k key):=by
 unfold pV aON;rw[KU s (fuel_lt AQ) (λx=>Jm x ⟨k,key,0⟩) (λi=>(Au s (i:Int)).bind λj=>some (j.Id,true)) (some (0,false))]
 ·unfold Ht;rw[Kw];split
  ·rename_i h;rw[CU h,EO h];rfl
  rename_i h;rw[OZ AQ]
 ·intro k2 i h;unfold aC0;rw[DF h,CU h];simp only[Aj];unfold Jm;rw[Ja];cases s[i].Kind==k<;>rfl
 intro k2;unfold aC0;rw[EL]
def aZi (h:KY s)(e:BO):s.find? (λx=>Jm x e)=match s[Fg s e]? with |some x=>if Jm x e then some x else none|none=>none:=by
 induction s with
 |nil=>rfl
 |cons a s j=>
  have h':=QY.1 h;unfold Fg;rw[Xb,YF];cases hp:G7 a e with
  |true=>
   have hs:Jm a e=false:=by
    cases hs:Jm a e with
    |false=>rfl
    |true=>rw[uO hs]at hp;cases hp
   rw[hs];simp only[El,BQ,qA];exact j h'.2
  |false=>
   simp only[JV,Bj,jO];cases hs:Jm a e with
   |true=>rfl
   |false=>
    simp only[TK,LH];refine a5y.2 λx q u=>?_;have h1:=h'.1 x q;rw[(Fn0 u).2,hp]at h1;cases h1
def aCS (s:A8 BO)(k:Int)(key:BP)(hs:s.length<=1000000)(h:KY s):oq s k key=some (Ht s k key):=by
 unfold oq;rw[aX9 s k key hs];simp only[Aj];unfold Ht MB;rw[aZi h];by_cases hl:Fg s ⟨k,key,0⟩<s.length
 ·rw[EO hl];simp only;cases j:Jm s[Fg s ⟨k,key,0⟩] ⟨k,key,0⟩with
  |true=>
   simp only[Bj,KL];rw[CU hl];rfl
  |false=>
   rfl
 grind
def Gi (s:A8 BO)(k:Int)(key:BP)(id:Int):A8 BO:=
 s.take (Fg s ⟨k,key,0⟩)++⟨k,key,id⟩::s.drop (Fg s ⟨k,key,0⟩+bif MB s ⟨k,key,0⟩then 1 else 0)
def aiJ (h:MB s e=true):Fg s e<s.length:=by
 unfold MB at h
 grind
variable {l:A8 α}
def yV (hi:i<=l.length):Hy l 0 (i:Int)=some (l.take i):=by
 have :=YW (l:=l) (lo:=0) (hi:=i) AQ hi;simpa using this
def Xl (hi:i<=l.length):Hy l (i:Int) (l.length:Int)=some (l.drop i):=by
 rw[YW (l:=l) (lo:=i) (hi:=l.length) hi AQ];congr 1;exact Qx Bf
def aJ (s:A8 BO)(k:Int)(key:BP)(id:Int)(hs:s.length<=1000000):Tj s k key id=some (Gi s k key id):=by
 unfold Tj;rw[aX9 s k key hs];simp only[Aj];have hp:=xw s ⟨k,key,0⟩;unfold a3Z Gi;rw[yV hp];simp only[Aj];rw[Dz Ej];simp only[Aj,JJ];rw[Dz Ej];simp only[Aj];cases j:MB s ⟨k,key,0⟩with
 |true=>
  have hl:=aiJ j;simp only[Bj];rw[wrap_succ _ AQ,Xl hl];simp only[Aj];rw[Dz Ej];simp
 |false=>
  simp only[BQ];rw[Xl hp];simp only[Aj];rw[Dz Ej];simp
def aGv (s:A8 BO)(k:Int)(key:BP)(id:Int)(hs:s.length<=1000000):gq s k key id=some (Gi s k key id):=by
 unfold gq aQj
 have j:∀(k2:Int->AB (A8 BO)),bH k2 ((Fg s ⟨k,key,0⟩:Nat):Int) s k key id false=some (Gi s k key id):=by
  intro k2;have hp:=xw s ⟨k,key,0⟩;unfold bH a1V Gi;simp only[BQ];rw[yV hp];simp only[Aj];rw[Dz Ej];simp only[Aj,JJ];rw[Dz Ej];simp only[Aj];by_cases hl:Fg s ⟨k,key,0⟩<s.length
  ·rw[dec_lt hl,CU hl];simp only[Bj,Aj]
   have u:MB s ⟨k,key,0⟩=(s[Fg s ⟨k,key,0⟩].Kind==k&&(s[Fg s ⟨k,key,0⟩].Key=key)):=by
    unfold MB;rw[EO hl];rfl
   rw[u,Ja,←SB];cases z:s[Fg s ⟨k,key,0⟩].Kind==k with
   |false=>
    simp only[BQ,Aj];rw[Xl hp];simp only[Aj];rw[Dz Ej];simp
   |true=>
    simp only[Bj,Aj];cases decide (s[Fg s ⟨k,key,0⟩].Key=key)with
    |true=>
     simp only[Bj];rw[wrap_succ _ AQ,Xl hl];simp only[Aj];rw[Dz Ej];simp
    |false=>
     simp only[BQ];rw[Xl hp];simp only[Aj];rw[Dz Ej];simp
  have q:Fg s ⟨k,key,0⟩=s.length:=AQ
  have u:MB s ⟨k,key,0⟩=false:=by unfold MB;rw[q,OZ (EW _)]
  rw[u,q,DZ];simp only[BQ,Aj];rw[Xl (EW _)];simp only[Aj];rw[Dz Ej];simp
 rw[KU s (fuel_lt AQ) (λx=> !G7 x ⟨k,key,0⟩) (λi=>bH (λ_=>none) (i:Int) s k key id false) (bH (λ_=>none) (s.length:Int) s k key id false)]
 ·split
  ·exact j _
  rename_i h;have q:Fg s ⟨k,key,0⟩=s.length:=aSx
  have :=j λ_=>none;rw[q]at this;exact this
 ·intro k2 i h;unfold aK2;rw[dec_lt h,CU h];simp only[Bj,Aj];rw[abz _ _ _ _ s[i].Id 0];simp only[Aj];show bH k2 _ s k key id (G7 s[i] ⟨k,key,0⟩)=_;cases G7 s[i] ⟨k,key,0⟩<;>rfl
 intro k2;unfold aK2;rw[DZ];rfl
def Qv (s:A8 BO)(k:Int)(key:BP)(id:Int):(Gi s k key id).length<=s.length+1:=by
 unfold Gi
 grind
def aXK {x:BO}(h:x∈s.take (Fg s e)):G7 x e=true:=by
 obtain⟨i,hi,rfl⟩:=G8 h;have j:i<Fg s e:=by simp at hi;omega
 have :=aHh j
 grind
def aVv (hs:KY s){x:BO}(h:x∈s.drop (Fg s e+bif MB s e then 1 else 0)):G7 e x=true:=by
 generalize q:(Fg s e+bif MB s e then 1 else 0)=n at h;obtain⟨i,hi,rfl⟩:=G8 h;rw[aHX];rw[LY]at hi;by_cases hl:Fg s e<s.length
 ·have h1:=aTt hl;cases j:MB s e with
  |true=>
   rw[j]at q;simp only[Bj]at q;have h2:Jm s[Fg s e] e=true:=aTo
   rw[←(Fn0 h2).1];exact JQ.1 hs _ _ hl AQ AQ
  |false=>
   rw[j]at q;simp only[BQ,QK]at q;subst q;have h2:Jm s[Fg s e] e=false:=aTo
   have h3:G7 e s[Fg s e]=true:=by
    cases h:G7 e s[Fg s e]with
    |true=>rfl
    |false=>rw[aM3 h1 h]at h2;cases h2
   rcases Vb i with u|u
   ·subst u;simpa using h3
   exact aSM h3 (JQ.1 hs _ _ hl AQ AQ)
 omega
def XC (h:KY s)(k:Int)(key:BP)(id:Int):KY (Gi s k key id):=by
 have u:Jm ⟨k,key,id⟩ ⟨k,key,0⟩=true:=Xa.2 ⟨rfl,rfl⟩;unfold Gi KY;refine Yf.2 ⟨h.sublist (List.take_sublist ..),QY.2 ⟨λx j=>?_,h.sublist (List.drop_sublist ..)⟩,λx j y q=>?_⟩
 ·rw[(Fn0 u).1];exact aVv h j
 have h1:G7 x ⟨k,key,0⟩=true:=aXK j;rcases FM.1 q with rfl|q
 ·rw[(Fn0 u).2];exact h1
 exact aSM h1 (aVv h q)
structure Pe (l:List (List BO)):Prop where
 len:l.length<=100
 each:∀s∈l,s.length<=100/\KY s
def KA (l:A8 (A8 BO))(x:BO):Ad:=l.all λs=>(Ht s x.Kind x.Key).2&&(Ht s x.Kind x.Key).1==x.Id
def am9 (l:A8 (A8 BO))(x:BO)(h:Pe l):aAD l x=some (KA l x):=by
 unfold aAD aT8;rw[Hl l (fuel_lt aGF) (λs=> !((Ht s x.Kind x.Key).2&&(Ht s x.Kind x.Key).1==x.Id)) false (some true)]
 ·unfold KA
  grind
 ·intro k i hi;obtain⟨h1,h2⟩:=h.each l[i] (EZ hi);unfold aGU;rw[DF hi,aCS _ _ _ AQ h2]
  grind
 intro k;unfold aGU;rw[EL]
def ajQ (l:A8 (A8 BO))(x:BO)(h:Pe l):a8m l x=some (KA l x):=by
 unfold a8m aOB;rw[Hl l (fuel_lt aGF) (λs=> !((Ht s x.Kind x.Key).2&&(Ht s x.Kind x.Key).1==x.Id)) false (some true)]
 ·unfold KA
  grind
 ·intro k i hi;obtain⟨h1,h2⟩:=h.each l[i] (EZ hi);unfold aCz;rw[DF hi,aKI _ _ _ AQ]
  grind
 intro k;unfold aCz;rw[EL]
def J3 (l:A8 (A8 BO)):A8 BO:=match l with
 | []=>[]
 |s::_=>s.filter (KA l)
def TB (l:A8 (A8 BO)):A8 Int:=(l.flatMap λs=>s.filter λx=> !KA l x).map (·.Id)
def Ru (l:A8 (A8 BO))(i:Nat):A8 BO:=if i=0 then[]else J3 l
def OX (l:A8 (A8 BO))(i:Nat):A8 Int:=((l.take i).flatMap λs=>s.filter λx=> !KA l x).map (·.Id)
variable {l:A8 (A8 BO)}
def aW2 (h:i<l.length):Ru l (i+1)=Ru l i++(if i=0 then l[i].filter (KA l)else[]):=by
 unfold Ru J3
 grind
def aFq (h:i<l.length):OX l (i+1)=OX l i++(l[i].filter λx=> !KA l x).map (·.Id):=by
 unfold OX;rw[OM h,List.flatMap_append,Jb];simp
def aLB (l:A8 (A8 BO)):OX l l.length=TB l:=by unfold OX TB;rw[H9]
def aPH (l:A8 (A8 BO)):Ru l l.length=J3 l:=by
 unfold Ru;cases l with
 |nil=>rfl
 |cons s l=>simp
def aKt (h:Pe l)(i:Nat):(OX l i).length<=100*i:=by
 induction i with
 |zero=>simp[OX]
 |succ i j=>
  by_cases hi:i<l.length
  ·rw[aFq hi,Ee,Df];have :=(h.each _ (EZ hi)).1;have :=Lc (λx=> !KA l x) l[i];omega
  have :OX l (i+1)=OX l i:=by unfold OX;rw[Qx AQ,Qx AQ]
  rw[this];omega
def a3M (h:Pe l):(TB l).length<=10000:=by
 have :=aKt h l.length;rw[aLB]at this;have :=h.len;omega
def eA (h:Pe l):(J3 l).length<=100:=by
 unfold J3;cases l with
 |nil=>exact FB _
 |cons s l=>exact EI (Lc _ _) (h.each s (Gz ..)).1
def aTA (h:Pe l):KY (J3 l):=by
 unfold J3;cases l with
 |nil=>exact .nil
 |cons s l=>exact(h.each s (Gz ..)).2.sublist Ue
def aNo (l:A8 (A8 BO))(h:Pe l):sS l=some (J3 l,FW (TB l)):=by
 have hlen:=h.len;refine dL.eq ?_;unfold sS aMi;refine aI6 (body:=aER l) (λ(m:Nat) (a:A8 BO) (b:A8 Int) (c:Int) (d:A8 (A8 BO)) (_:A8 BO) (_:A8 Int)=>∃i:Nat,c=i/\i+m=l.length/\d=l/\a=Ru l i/\b=OX l i) ?_ Az l.length [] [] 0 l [] [] (fuel_lt AQ) ⟨0,rfl,AQ,rfl,rfl,by simp[OX]⟩;rintro m a b c d e f k ⟨i,rfl,hm,rfl,rfl,rfl⟩ U;unfold aER;refine dL.bif (λhi=>?_) λhi=>?_
 ·have hi:i<d.length:=IU
  have hs:=(h.each d[i] (EZ hi)).1;have Y:=aKt h i;rw[CU hi];simp only[Aj,sB];unfold aSY
  refine aUG (body:=aIx d[i] k (i:Int)) (λ(J:Nat) (a:A8 BO) (b:A8 Int) (c:Int) (u:A8 (A8 BO)) (_:A8 BO) (_:A8 Int) (g:Int)=>
   ∃j:Nat,c=j/\j+J=d[i].length/\u=d/\g=i/\a=Ru d i++(if i=0 then(d[i].take j).filter (KA d)else[])/\b=OX d i++((d[i].take j).filter λx=> !KA d x).map (·.Id)) ?_ Az d[i].length _ _ _ _ _ _ _ (fuel_lt AQ) ⟨0,rfl,AQ,rfl,rfl,Bf,Bf⟩
  rintro J a b c u e2 f2 g k2 ⟨j,rfl,Z,rfl,rfl,rfl,rfl⟩ I;unfold aIx;refine dL.bif (λz=>?_) λz=>?_
  ·have z:j<u[i].length:=UW
   have q:u[i].take (j+1)=u[i].take j++[u[i][j]]:=by rw[OM z]
   rw[CU z];simp only[Aj];rw[am9 u _ h];simp only[Aj];have w:=wrap_succ j AQ;have L:=Lc (λx=> !KA u x) (u[i].take j);have M:=Lc (KA u) (u[i].take j)
   have hst:(Ru u i).length<=100:=by
     unfold Ru;split; ·exact FB _
     ·exact eA h
   rw[H7]at L M;cases ha:KA u u[i][j]with
   |false=>
    simp only[JV,Bj];rw[Dz (by simp only[Ee,Df,Om];omega)];simp only[Aj,w];refine I (J-1) _ _ _ _ _ _ _ AQ ⟨j+1,rfl,AQ,rfl,rfl,?_,?_⟩
    ·rw[q,Qz];simp[ha]
    rw[q,Qz];simp[ha]
   |true=>
    simp only[El,BQ];by_cases O:i=0
    ·subst O;simp only[show(((0:Nat):Int)==0)=true from rfl,Bj,KL];rw[Dz Ul];simp only[Aj,w];refine I (J-1) _ _ _ _ _ _ _ AQ ⟨j+1,rfl,AQ,rfl,rfl,?_,?_⟩
     ·rw[q,Qz];simp[ha]
     rw[q,Qz];simp[ha]
    have :((i:Int)==0)=false:=bW
    rw[this];simp only[BQ,w];refine I (J-1) _ _ _ _ _ _ _ AQ ⟨j+1,rfl,AQ,rfl,rfl,?_,?_⟩
    ·simp[O]
    rw[q,Qz];simp[ha]
  have z:j=u[i].length:=by
    have :¬j<u[i].length:=UW
    omega
  subst z;rw[wrap_succ i AQ,H9];exact U (m-1) _ _ _ _ _ _ AQ ⟨i+1,rfl,AQ,rfl,(aW2 hi).symm,(aFq hi).symm⟩
 have hi:i=d.length:=by
   have :¬i<d.length:=IU
   omega
 subst hi;have :=a3M h;rw[aLB,aPH,er _ AQ];exact .ret rfl
def aSy (l:A8 (A8 BO))(h:Pe l):zB l=some (J3 l,FW (TB l)):=by
 have hlen:=h.len;refine dL.eq ?_;unfold zB aWq;refine Ur (body:=aIf l) (λ(m:Nat) (a:A8 BO) (b:A8 Int) (c:Int)=>∃i:Nat,c=i/\i+m=l.length/\a=Ru l i/\b=FW (OX l i)) ?_ Az l.length [] [] 0 (fuel_lt AQ) ⟨0,rfl,AQ,rfl,by simp[OX,FW]⟩;rintro m a b c k ⟨i,rfl,hm,rfl,rfl⟩ U;unfold aIf;refine dL.bif (λhi=>?_) λhi=>?_
 ·have hi:i<l.length:=IU
  have hs:=(h.each l[i] (EZ hi)).1;have Y:=aKt h i;unfold aMX
  refine Ur (body:=aHQ l (i:Int) k) (λ(I:Nat) (a:A8 BO) (b:A8 Int) (c:Int)=>
   ∃j:Nat,c=j/\j+I=l[i].length/\a=Ru l i++(if i=0 then(l[i].take j).filter (KA l)else[])/\b=FW (OX l i++((l[i].take j).filter λx=> !KA l x).map (·.Id))) ?_ Az l[i].length _ _ _ (fuel_lt AQ) ⟨0,rfl,AQ,Bf,Bf⟩
  rintro I a b c k2 ⟨j,rfl,Z,rfl,rfl⟩ z;unfold aHQ;rw[CU hi];simp only[Aj];refine dL.bif (λu=>?_) λu=>?_
  ·have u:j<l[i].length:=Ql
   have q:l[i].take (j+1)=l[i].take j++[l[i][j]]:=by rw[OM u]
   rw[CU u];simp only[Aj];rw[ajQ l _ h];simp only[Aj];have w:=wrap_succ j AQ;have J:=Lc (λx=> !KA l x) (l[i].take j);have L:=Lc (KA l) (l[i].take j)
   have hst:(Ru l i).length<=100:=by
     unfold Ru;split; ·exact FB _
     ·exact eA h
   have M:=OG (OX l i++((l[i].take j).filter λx=> !KA l x).map λe:BO=>e.Id);rw[Ee,Df]at M;rw[H7]at J L;cases ha:KA l l[i][j]with
   |false=>
    simp only[JV,Bj];rw[mZ _ _ AQ];unfold oW;simp only[Aj,w];refine z (I-1) _ _ _ AQ ⟨j+1,rfl,AQ,?_,?_⟩
    ·rw[q,Qz];simp[ha]
    rw[q,Qz,Jb,←JO];simp only[ha,Uu,JV,KL,List.filter_nil,Gh,List.map_nil];rw[aWE]
   |true=>
    simp only[El,BQ];unfold oW;by_cases O:i=0
    ·subst O;simp only[show(((0:Nat):Int)==0)=true from rfl,Bj,KL,Aj];rw[Dz Ul];simp only[Aj,w];refine z (I-1) _ _ _ AQ ⟨j+1,rfl,AQ,?_,?_⟩
     ·rw[q,Qz];simp[ha]
     rw[q,Qz];simp[ha]
    have :((i:Int)==0)=false:=bW
    rw[this];simp only[BQ,w];refine z (I-1) _ _ _ AQ ⟨j+1,rfl,AQ,?_,?_⟩
    ·simp[O]
    rw[q,Qz];simp[ha]
  have u:j=l[i].length:=by
    have :¬j<l[i].length:=Ql
    omega
  subst u;rw[wrap_succ i AQ,H9];exact U (m-1) _ _ _ AQ ⟨i+1,rfl,AQ,(aW2 hi).symm,by rw[←aFq hi]⟩
 have hi:i=l.length:=by
   have :¬i<l.length:=IU
   omega
 subst hi;rw[aLB,aPH];exact .ret rfl
def V8 (s:A8 BO):A8 Int:=s.map (·.Id)
def Fa (l:A8 Aa)(s:A8 BO):A8 Int:=JH (V8 s) (chainOf l (V8 s))
def allOf (l:A8 Aa)(aY:A8 (A8 BO)):A8 Int:=aY.foldl (λa s=>JH a (Fa l s)) []
def Je (l:A8 Aa)(aY:A8 (A8 BO))(x:Int):Nat:=aY.countP λs=>EN (Fa l s) x
def PL (l:A8 Aa)(aY:A8 (A8 BO)):A8 Int:=(allOf l aY).filter λx=>Je l aY x<aY.length
def KH (l:A8 Aa)(aY:A8 (A8 BO)):A8 Int:=JH (FW (TB aY)) (PL l aY)
def aWP (l:A8 Aa)(s:A8 BO):Inc (Fa l s):=a0t _ _
def aD5 (s:A8 BO):(V8 s).length=s.length:=Df _
def su (l:A8 Aa)(s:A8 BO):(Fa l s).length<=s.length+l.length:=by
 have h1:=aJm (V8 s) (chainOf l (V8 s));have h2:=iw l (V8 s);rw[aD5]at h1;unfold Fa;omega
def aI9 (l:A8 Aa):∀(aY:A8 (A8 BO)) (a:A8 Int),Inc a->Inc (aY.foldl (λa s=>JH a (Fa l s)) a)/\∀x,x∈aY.foldl (λa s=>JH a (Fa l s)) a↔x∈a\/∃s∈aY,x∈Fa l s
 | [],a,h=>⟨h,λx=>Bf⟩
 |s::aY,a,h=>by
  rw[Fl];obtain⟨h1,h2⟩:=aI9 l aY (JH a (Fa l s)) (a0t _ _);refine⟨h1,λx=>(h2 x).trans ?_⟩;rw[Xn]
  grind
def ae9 (l:A8 Aa)(aY:A8 (A8 BO)):Inc (allOf l aY):=(aI9 l aY [] .nil).1
variable {aY:A8 (A8 BO)}{l:A8 Aa}
def aPS:x∈allOf l aY↔∃s∈aY,x∈Fa l s:=by
 unfold allOf;rw[(aI9 l aY [] .nil).2 x];simp
def ag1 (l:A8 Aa)(aY:A8 (A8 BO)):Inc (PL l aY):=(ae9 l aY).sublist Ue
def cnt_lt:Je l aY x<aY.length↔∃s∈aY,x∉Fa l s:=by
 unfold Je;have h:=List.countP_le_length (p:=λs=>EN (Fa l s) x) (l:=aY);have h2:=List.countP_eq_length (p:=λs=>EN (Fa l s) x) (l:=aY);constructor
 ·intro u;by_cases q:∀s∈aY,EN (Fa l s) x=true
  ·grind
  simp only[Classical.not_forall]at q;obtain⟨s,hs,j⟩:=q;exact⟨s,hs,λhm=>j (LV.2 hm)⟩
 rintro⟨s,hs,j⟩;rcases oG (aY.countP λs=>EN (Fa l s) x) aY.length with h3|h3
 ·exact h3
 exact absurd (LV.1 (h2.1 AQ s hs)) j
def aYM:x∈PL l aY↔(∃s∈aY,x∈Fa l s)/\∃s∈aY,x∉Fa l s:=by
 unfold PL;rw[Gs,aPS,IQ,cnt_lt]
variable {x:BO}
def aPO:KA aY x=true↔∀s∈aY,(Ht s x.Kind x.Key).2=true/\(Ht s x.Kind x.Key).1=x.Id:=by
 unfold KA
 grind
def a2g (l:A8 Aa):∀(aY:A8 (A8 BO)) (a:A8 Int),(∀s∈aY,s.length<=100)->(aY.foldl (λa s=>JH a (Fa l s)) a).length<=a.length+aY.length*(100+l.length)
 | [],a,_=>Bf
 |s::aY,a,h=>by
  rw[Fl];have h1:=a2g l aY (JH a (Fa l s)) λt j=>h t (IE _ j);have h2:=aJm a (Fa l s);have h3:=su l s;have q:=h s (Gz ..);rw[GH,dV];omega
def aSE (hs:Pe aY)(hl:l.length<=1000):(PL l aY).length<=110000:=by
 have h1:=a2g l aY [] λs h=>(hs.2 s h).1;have h2:=hs.1;have h3:=Lc (λx=>Je l aY x<aY.length) (allOf l aY);have j:aY.length*(100+l.length)<=100*1100:=a1m h2 AQ;unfold PL;unfold allOf at h3 ⊢
 grind
def adI (h:KY s)(z:x∈s):Ht s x.Kind x.Key=(x.Id,true):=by
 unfold Ht;cases u:s.find? (λy=>Jm y ⟨x.Kind,x.Key,0⟩)with
 |none=>
  have :=a5y.1 u x z;unfold Jm at this;simp at this
 |some y=>
  have h1:=a8n u;have J:=XV u;have h2:Jm y x=true:=by unfold Jm at h1 ⊢;exact h1
  have :y=x:=by
   obtain⟨i,hi,rfl⟩:=G8 z;obtain⟨j,I,rfl⟩:=G8 J;rcases vH i j with h3|h3|h3
   ·have q:=JQ.1 h i j hi I h3;have L:Jm s[i] s[j]=true:=by obtain⟨a,b⟩:=Xa.1 h2;exact Xa.2 ⟨a.symm,b.symm⟩
    rw[uO L]at q;cases q
   ·subst h3;rfl
   have q:=JQ.1 h j i I hi h3;rw[uO h2]at q;cases q
  rw[this]
variable {k:Int}{key:BP}
def aEm {n:Int}(h:Ht s k key=(n,true)):(⟨k,key,n⟩:BO)∈s:=by
 unfold Ht at h;cases j:s.find? (λy=>Jm y ⟨k,key,0⟩)with
 |none=>
  grind
 |some y=>
  rw[j]at h;have q:Jm y ⟨k,key,0⟩=true:=by have :=a8n j;exact this
  have h1:=Xa.1 q;have u:=XV j;obtain⟨a,b,c⟩:=y;cases h;simp only at h1;rw[←h1.1,←h1.2];exact u
def ahh (j:KA aY x=true)(hs:s∈aY):x∈s:=by
 obtain⟨h1,h2⟩:=aPO.1 j s hs;exact aEm (s:=s) (k:=x.Kind) (key:=x.Key) (n:=x.Id) (by rw[←h1,←h2])
def aYz (h:Pe aY)(j:∀s∈aY,x∈s):KA aY x=true:=
 aPO.2 λs hs=>by rw[adI (h.2 s hs).2 (j s hs)];exact⟨rfl,rfl⟩
def aaW (h:Pe aY)(q:aY≠[]):x∈J3 aY↔∀s∈aY,x∈s:=by
 cases aY with
 |nil=>exact absurd rfl q
 |cons s aY=>
  show x∈s.filter (KA (s::aY))↔_;rw[Gs];exact⟨λj t u=>ahh j.2 u,λj=>⟨j s (Gz ..),aYz h j⟩⟩
def aQQ (l:A8 Int)(h:l.length<=1099511627776):((Pm l).bind λx=>(YA x).bind λy=>some y)=some (FW l):=by
 unfold Pm YA;have h2:(Nq l).length<=1099511627776:=by rw[(VT l).length_eq];exact h
 simp[h,aEF,aEa]
def aN9 (s:A8 BO):s.foldl (λr x=>r++[x.Id]) []=V8 s:=by
 rw[foldl_append (λx:BO=>[x.Id])];unfold V8;rw[JJ]
 induction s with
 |nil=>rfl
 |cons x s j=>rw[P5,j];rfl
def am7 (l:A8 Aa)(s:A8 BO)(hl:l.length<=1000)(ha:SN l)(hs:s.length<=100):aAf l s=some (Fa l s):=by
 unfold aAf
 have hm:Jg 8 (0:Int) 0 (s.length:Int)=some []:=by
  unfold Jg;rw[ET a4a];rfl
 rw[hm];simp only[Aj];unfold aWA;rw[Iq s AQ (λr x=>r++[x.Id]) (λi r=>r.length<=i) (λr=>(YR l r).bind λu=>(DC 8 r u).bind λz=>(Pm z).bind λj=>(YA j).bind λq=>some q) Bf]
 ·have h1:=iw l (V8 s);have h2:=aD5 s;rw[aN9,aF3 l _ hl ha AQ];simp only[Aj];rw[Dz AQ];simp only[Aj];rw[aQQ _ Lj];unfold Fa;rw[yB]
 ·intro k a i h I;refine⟨a1g,?_⟩;unfold aIq;rw[DF h,Dz G9];rfl
 intro k a I;unfold aIq;rw[EL]
def alY (l:A8 Aa)(s:A8 BO)(hl:l.length<=1000)(ha:SN l)(hs:s.length<=100):a7T l s=some (Fa l s):=by
 unfold a7T aW5;rw[Iq s AQ (λr x=>r++[x.Id]) (λi r=>r.length<=i) (λr=>(fQ l r).bind λj=>(ZW r j).bind λq=>some q) Bf]
 ·have h1:=iw l (V8 s);have h2:=aD5 s;rw[aN9,aFf l _ hl ha AQ];simp only[Aj];rw[aAS _ _ AQ AQ];rfl
 ·intro k a i h u;refine⟨a1g,?_⟩;unfold aFk;rw[dec_lt h,CU h];simp only[Bj,Aj];rw[Dz G9];rfl
 intro k a u;unfold aFk;rw[DZ];rfl
def stepM (m:A8 (Int×Int))(x:Int):A8 (Int×Int):=ER m x (BA (((DJ m x).getD 0)+1))
structure Ny (m:List (Int×Int)) (f:Int->Nat):Prop where
 nodup:(m.map (·.1)).Nodup
 find:∀x,DJ m x=if f x=0 then none else some (f x:Int)
variable {v:Int}
def aZz {y:Int}:y∈(ER m k v).map (·.1)↔y=k\/y∈m.map (·.1):=by
 induction m with
 |nil=>simp[ER]
 |cons p m j=>
  unfold ER;cases h:k==p.1 with
  |true=>
   have h1:k=p.1:=OO
   simp only[Bj,Gh,FM];rw[h1];simp
  |false=>
   simp only[BQ,Gh,FM,j];exact⟨λh=>h.elim (λe=>.inr (.inl e)) λh=>h.elim .inl λh=>.inr (.inr h),λh=>h.elim (λe=>.inr (.inl e)) λh=>h.elim .inl λh=>.inr (.inr h)⟩
def akg (h:(m.map (·.1)).Nodup):((ER m k v).map (·.1)).Nodup:=by
 induction m with
 |nil=>simp[ER]
 |cons p m q=>
  have h':=KQ.1 h;unfold ER;cases j:k==p.1 with
  |true=>
   have h1:k=p.1:=Vf
   simp only[Bj,Gh];rw[h1];exact h
  |false=>
   have h1:k≠p.1:=Vf
   simp only[BQ,Gh];refine KQ.2 ⟨λhm=>?_,q h'.2⟩;rcases aZz.1 hm with e|hm
   ·exact h1 e.symm
   exact h'.1 hm
def ahb (m:A8 (Int×Int))(k v:Int):(ER m k v).length<=m.length+1:=by
 induction m with
 |nil=>simp[ER]
 |cons p m j=>
  unfold ER;cases k==p.1 with
  |true=>simp
  |false=>simp only[BQ,GH];omega
variable {f:Int->Nat}
def Ny.step (h:Ny m f)(x:Int)(u:f x<=1000000):Ny (stepM m x) (λy=>f y+if y=x then 1 else 0):=by
 refine⟨akg h.nodup,λy=>?_⟩;unfold stepM;rw[Rz,h.find x]
 have e:BA (((if f x=0 then none else some (f x:Int)).getD 0)+1)=((f x+1:Nat):Int):=by
  by_cases j:f x=0
  ·rw[ET j,j];rfl
  rw[Ef j];show BA ((f x:Int)+1)=_;exact wrap_succ _ AQ
 by_cases q:y=x
 ·subst q;simp only[NR,Bj,KL];rw[e,Ef AQ]
 have :(y==x)=false:=XP
 rw[this];simp only[BQ,Ef q,QK];exact h.find y
def Ny.fold:∀(c:A8 Int) {m:A8 (Int×Int)} {f:Int->Nat},c.Nodup->Ny m f->(∀x,f x<=1000)->Ny (c.foldl stepM m) (λy=>f y+if y∈c then 1 else 0)
 | [],m,f,_,h,_=>by
   refine⟨h.nodup,λx=>?_⟩;simp only[List.foldl_nil,Gn,LH,QK];exact h.find x
 |x::c,m,f,q,h,L=>by
  have j:=KQ.1 q
  have key:∀(c:A8 Int) (m:A8 (Int×Int)) (g:Int->Nat),c.Nodup->Ny m g->(∀x∈c,g x<=1000)->Ny (c.foldl stepM m) (λy=>g y+if y∈c then 1 else 0):=by
   intro c
   induction c with
   |nil=>intro m g _ h _;refine⟨h.nodup,λx=>?_⟩;simp only[List.foldl_nil,Gn,LH,QK];exact h.find x
   |cons z c M=>
    intro m g q h I;have j:=KQ.1 q
    have h1:=M (stepM m z) (λy=>g y+if y=z then 1 else 0) j.2 (h.step z (by have :=I z (Gz ..);omega)) λy J=>by
     have u:y≠z:=λe=>j.1 (e▸J);simp only[Ef u,QK];exact I y (IE _ J)
    refine⟨h1.nodup,λy=>?_⟩;rw[Fl,h1.find y]
    have :(g y+if y=z then 1 else 0)+(if y∈c then 1 else 0)=g y+if y∈z::c then 1 else 0:=by
     by_cases e:y=z
     ·subst e;simp[j.1]
     simp[e]
    simp only[this]
  exact key (x::c) m f q h λy _=>L y
def aIz :∀(c:A8 Int) (m:A8 (Int×Int)),(c.foldl stepM m).length<=m.length+c.length
 | [],m=>Bf
 |x::c,m=>by
  have h1:=aIz c (stepM m x);have h2:=ahb m x (BA (((DJ m x).getD 0)+1));rw[Fl,GH];unfold stepM at h1 ⊢;omega
def QH {l:A8 Int}(h:Inc l):l.Nodup:=h.imp λh=>AQ
variable {x:Int}
def Ny.mem (h:Ny m f){n:Int}:(x,n)∈m↔f x≠0/\n=f x:=by
 have key:∀m:A8 (Int×Int),(m.map (·.1)).Nodup->((x,n)∈m↔DJ m x=some n):=by
  intro m
  induction m with
  |nil=>intro _;simp[DJ]
  |cons p m z=>
   intro I;have j:=KQ.1 I;unfold DJ;rw[FM];cases u:x==p.1 with
   |true=>
    have h1:x=p.1:=Ql
    simp only[Bj,Kq];constructor
    ·rintro(e|hm)
     ·rw[←e]
     exact absurd (FT.2 ⟨_,hm,h1⟩) j.1
    intro e;left;rw[h1,←e]
   |false=>
    have h1:x≠p.1:=Ql
    simp only[BQ];rw[←z j.2];exact⟨λh=>h.elim (λe=>absurd (by rw[←e]) h1) id,.inr⟩
 rw[key m h.nodup,h.find x];by_cases q:f x=0
 ·simp[q]
 rw[Ef q];simp only[Kq,ne_eq,q,not_false_eq_true,true_and];exact eq_comm
def aRX {l:A8 Int}(h:l.Nodup):Nq l=FW l:=by
 refine DK ?_ (Nb l) λx=>by rw[Ld];exact(VT l).mem_iff
 have h1:=sJ l;have h2:(Nq l).Nodup:=(VT l).nodup_iff.2 h;exact(h1.and h2).imp λh=>AQ
def aHF (n:Int):∀(m:A8 (Int×Int)) (r:A8 Int) (aY:A8 (A8 BO)),(aY.length:Int)=n->r.length+m.length<=1000000->List.foldlM (Xz aY) r m=some (r++(m.filter λp=>p.2<n).map (·.1))
 | [],r,aY,_,_=>Bf
 |p::m,r,aY,hs,q=>by
  simp only[GH]at q;have e:Xz aY r p=(bif p.2<n then(DC 8 r [p.1]).bind λj=>some j else some r):=by unfold Xz;rw[hs]
  rw[VJ,e];cases hd:decide (p.2<n)with
  |true=>
   simp only[Bj];rw[Dz G9];simp only[Aj];show List.foldlM (Xz aY) (r++[p.1]) m=_;rw[aHF n m (r++[p.1]) aY hs Ul,Uu,ET hd];simp
  |false=>
   simp only[BQ];show List.foldlM (Xz aY) r m=_;rw[aHF n m r aY hs AQ,Uu,Ef (by simp[hd])]
def aUr (l:A8 Aa)(aY:A8 (A8 BO))(x:Int):Je l aY x<=aY.length:=List.countP_le_length
def Ny.of_eq {g:Int->Nat}(h:Ny m f)(e:∀x,f x=g x):Ny m g:=⟨h.nodup,λx=>by rw[h.find,e]⟩
def anY (l:A8 Aa)(aY:A8 (A8 BO))(hl:l.length<=1000)(ha:SN l)(hs:Pe aY):tY l aY=some (PL l aY):=by
 unfold tY aRV;have hsl:=hs.len;rw[qW (a0:=[]) aY AQ (λm s=>(Fa l s).foldl stepM m) (λi m=>Ny m (Je l (aY.take i))/\m.length<=1100*i) (λv2=>(Jg 8 (0:Int) 0 (v2.length:Int)).bind λI=>(List.foldlM (Xz aY) I v2).bind kS) ⟨⟨Yq,λx=>rfl⟩,FB _⟩]
 ·obtain⟨z,hlen⟩:Ny (aY.foldl (λm s=>(Fa l s).foldl stepM m) []) (Je l aY)/\(aY.foldl (λm s=>(Fa l s).foldl stepM m) []).length<=1100*aY.length:=by
   have key:∀(b a:A8 (A8 BO)) (m:A8 (Int×Int)),(∀s∈b,s.length<=100)->a.length+b.length<=100->Ny m (Je l a)->m.length<=1100*a.length->Ny (b.foldl (λm s=>(Fa l s).foldl stepM m) m) (Je l (a++b))/\(b.foldl (λm s=>(Fa l s).foldl stepM m) m).length<=1100*(a.length+b.length):=by
    intro b
    induction b with
    |nil=>intro a m _ _ h1 h2;simpa using⟨h1,h2⟩
    |cons s b Z=>
     intro a m Y J h1 h2;rw[Fl,List.append_cons];have hc:=su l s;have q:=Y s (Gz ..);have h3:=aIz (Fa l s) m;simp only[GH]at J ⊢;have :=Z (a++[s]) ((Fa l s).foldl stepM m) (λt ht=>Y t (IE _ ht)) Ul ?_ Ul
     ·simpa[V3,Vx 1]using this
     refine(Ny.fold (Fa l s) (QH (aWP l s)) h1 λx=>by have :=aUr l a x;omega).of_eq λx=>?_;unfold Je;rw[List.countP_append,List.countP_singleton];by_cases u:x∈Fa l s
     ·rw[ET u,ET (LV.2 u)]
     rw[Ef u,Ef (by rw[Q7.2 u];simp)]
   have :=key aY [] [] (λs h=>(hs.each s h).1) (by simpa using hs.len) ⟨Yq,λx=>rfl⟩ (FB _);simpa using this
  generalize aY.foldl (λm s=>(Fa l s).foldl stepM m) []=m at z hlen
  have hm:Jg 8 (0:Int) 0 (m.length:Int)=some []:=by
   unfold Jg;rw[ET a4a];rfl
  rw[hm];simp only[Aj];rw[aHF (aY.length:Int) m [] aY rfl SC];simp only[Aj,JJ];have L:((m.filter λp=>p.2<(aY.length:Int)).map (·.1)).Nodup:=z.nodup.sublist (Ue.map _);have hle:((m.filter λp=>p.2<(aY.length:Int)).map (·.1)).length<=m.length:=by rw[Df];exact Lc _ _
  unfold kS Pm;rw[ET AQ];simp only[Aj];congr 1;rw[aRX L];refine DK (Nb _) (ag1 _ _) λx=>?_;rw[Ld,FT];unfold PL;rw[Gs,aPS];constructor
  ·rintro⟨⟨y,n⟩,hp,rfl⟩;rw[Gs]at hp;obtain⟨h1,h2⟩:=z.mem.1 hp.1;have h3:n<(aY.length:Int):=by simpa using hp.2
   subst h2;refine⟨?_,Ej⟩;have :0<Je l aY y:=AQ
   obtain⟨s,M,O⟩:=List.countP_pos_iff.1 this;exact⟨s,M,LV.1 O⟩
  rintro⟨⟨s,h1,h2⟩,h3⟩;have h4:0<Je l aY x:=List.countP_pos_iff.2 ⟨s,h1,LV.2 h2⟩;refine⟨(x,(Je l aY x:Int)),Gs.2 ⟨z.mem.2 ⟨AQ,rfl⟩,?_⟩,rfl⟩;have h5:Je l aY x<aY.length:=X8
  simp;omega
 ·intro k m i h U;have hc:=su l aY[i];have q:=(hs.each aY[i] (EZ h)).1;refine⟨⟨?_,?_⟩,?_⟩
  ·refine(Ny.fold (Fa l aY[i]) (QH (aWP l aY[i])) U.1 λx=>by have :=aUr l (aY.take i) x;rw[H7]at this;omega).of_eq λx=>?_;rw[OM h];unfold Je;rw[List.countP_append,List.countP_singleton];by_cases u:x∈Fa l aY[i]
   ·rw[ET u,ET (LV.2 u)]
   rw[Ef u,Ef (by rw[Q7.2 u];simp)]
  ·have :=aIz (Fa l aY[i]) m;have :=U.2;omega
  unfold a4f;rw[DF h,am7 l _ hl ha q];simp only[Aj];unfold aSN;rw[qW (Fa l aY[i]) AQ stepM (λ_ _=>True) (λv8=>k (BA ((i:Int)+1)) v8) trivial]
  ·intro k2 a j hj _;refine⟨trivial,?_⟩;unfold aAg;rw[DF hj];rfl
  intro k2 a _;unfold aAg;rw[EL]
 intro k m U;unfold a4f;rw[EL]
def aeX {R B:Type}{body:(A->B->Int->AB R)->A->B->Int->AB R}(l:A8 α)(hl:l.length<=1099511627776)(f:A->B->α->A)(g:A->B->α->B)(I:Nat->A->B->Prop)(j:A->B->AB R){Q:R->Prop}{q:B}(u:I 0 a0 q)(z:∀k a b (i:Nat) (h:i<l.length),I i a b->I (i+1) (f a b l[i]) (g a b l[i])/\body k a b (i:Int)=k (f a b l[i]) (g a b l[i]) (BA ((i:Int)+1)))(J:∀k a b,I l.length a b->body k a b (l.length:Int)=j a b)(L:∀a b,I l.length a b->dL (j a b) Q):dL (iU body Az a0 q 0) Q:=by
 refine Ur (body:=body) (Q:=Q) (λm a b c=>∃i:Nat,c=i/\i+m=l.length/\I i a b) ?_ Az l.length a0 q 0 (fuel_lt hl) ⟨0,rfl,AQ,u⟩;rintro m a b c k ⟨i,rfl,hm,hi⟩ M;by_cases e:i<l.length
 ·obtain⟨h1,h2⟩:=z k a b i e hi;rw[h2,wrap_succ i AQ];exact M (m-1) _ _ _ AQ ⟨i+1,rfl,AQ,h1⟩
 have :i=l.length:=AQ
 subst this;rw[J _ _ _ hi];exact L a b hi
def aHT (x:Int):∀(cs:A8 (A8 Int)) (n:Nat),n+cs.length<=1000000->cs.foldl (λ(n:Int) c=>bif EN c x then BA (n+1)else n) (n:Int)=((n+cs.countP (λc=>EN c x):Nat):Int)
 | [],n,_=>Bf
 |c::cs,n,h=>by
  rw[GH]at h;rw[Fl,List.countP_cons];cases j:EN c x with
  |true=>
   simp only[Bj,KL];rw[wrap_succ n AQ,aHT x cs (n+1) AQ];congr 1;omega
  |false=>
   simp only[BQ,TK,LH,QK];exact aHT x cs n AQ
def anX (l:A8 Aa)(aY:A8 (A8 BO))(hl:l.length<=1000)(ha:SN l)(hs:Pe aY):a5h l aY=some (PL l aY):=by
 refine dL.eq ?_;unfold a5h aPL;have hsl:=hs.len
 have z:∀i,(allOf l (aY.take i)).length<=1100*i:=by
  intro i;have h1:=a2g l (aY.take i) [] λs h=>(hs.each s (gJ h)).1;rw[H7,QM]at h1;have h2:min i aY.length*(100+l.length)<=i*1100:=a1m (aDJ _ _) AQ;unfold allOf;omega
 refine aeX aY AQ (λa _ s=>a++[Fa l s]) (λ_ b s=>JH b (Fa l s)) (λi a b=>a=(aY.take i).map (Fa l)/\b=allOf l (aY.take i)) (λa b=>aLG b a [] 0) ⟨rfl,rfl⟩ ?_ ?_ ?_
 ·rintro k a b i h ⟨rfl,rfl⟩;have M:=su l aY[i];have q:=(hs.each aY[i] (EZ h)).1;have u:aY.take (i+1)=aY.take i++[aY[i]]:=OM h;refine⟨⟨by rw[u,Jb];rfl,by rw[u];unfold allOf;rw[VD];rfl⟩,?_⟩;unfold aHU;rw[dec_lt h,CU h];simp only[Bj,Aj];rw[alY l _ hl ha q];simp only[Aj];rw[Dz (by simp only[Df,H7,Om];omega)];simp only[Aj];have :=z i;rw[aAS _ _ AQ AQ];rfl
 ·rintro k a b ⟨rfl,rfl⟩;unfold aHU;rw[DZ];rfl
 rintro a b ⟨rfl,rfl⟩;rw[H9];refine dL.of ?_;have O:=z aY.length;rw[H9]at O;unfold aLG;rw[Iq (allOf l aY) AQ (λr x=>bif Je l aY x<aY.length then r++[x]else r) (λi r=>r.length<=i) (λr=>some r) (EW _)]
 ·congr 1;unfold PL
  have key:∀(S r:A8 Int),S.foldl (λr x=>bif Je l aY x<aY.length then r++[x]else r) r=r++S.filter (λx=>Je l aY x<aY.length):=by
   intro S
   induction S with
   |nil=>intro r;simp
   |cons x S U=>
    intro r;rw[Fl,U,Uu];cases decide (Je l aY x<aY.length)<;>simp
  simpa using key (allOf l aY) []
 ·intro k r i h Y;refine⟨?_,?_⟩
  ·cases decide (Je l aY (allOf l aY)[i]<aY.length)with
   |false=>show r.length<=i+1;omega
   |true=>show(r++[(allOf l aY)[i]]).length<=i+1;simp;omega
  unfold aHc;rw[dec_lt h];simp only[Bj];unfold aSW
  rw[Iq (aY.map (Fa l)) aZ (λ(n:Int) c=>bif EN c (allOf l aY)[i]then BA (n+1)else n) (λ_ _=>True)
   (λn=>bif n<((aY.map (Fa l)).length:Int) then k (r++[(allOf l aY)[i]]) (BA ((i:Int)+1))else k r (BA ((i:Int)+1))) trivial]
  ·have I:=aHT (allOf l aY)[i] (aY.map (Fa l)) 0 aZ;rw[show((0:Nat):Int)=0 from rfl]at I;rw[I,List.countP_map,Df,KD]
   have e:decide (((aY.countP ((λc=>EN c (allOf l aY)[i])∘Fa l):Nat):Int)<(aY.length:Int))=decide (Je l aY (allOf l aY)[i]<aY.length):=by
    unfold Je;rw[decide_eq_decide];exact Int.ofNat_lt
   rw[e];cases decide (Je l aY (allOf l aY)[i]<aY.length)<;>rfl
  ·intro k2 n j J _;refine⟨trivial,?_⟩;have L:j<aY.length:=by rw[Df]at J;exact J
   have M:=su l aY[j];have q:=(hs.each aY[j] (EZ L)).1;unfold aJa;rw[dec_lt J,CU J,CU h];simp only[Bj,Aj];rw[XO _ _ (by rw[Ph];omega)];simp only[Aj];cases EN (aY.map (Fa l))[j] (allOf l aY)[i]<;>rfl
  intro k2 n _;unfold aJa;rw[DZ];simp only[BQ];rw[CU h];simp only[Aj];rw[Dz G9];cases decide (n<((aY.map (Fa l)).length:Int))<;>rfl
 intro k r _;unfold aHc;rw[DZ];rfl
def aaf (l:A8 Aa)(aY:A8 (A8 BO))(hl:l.length<=1000)(ha:SN l)(hs:Pe aY):a7u l aY=some (KH l aY):=by
 have h1:=a3M hs;have h2:=OG (TB aY);have h3:=aSE hs hl;unfold a7u;rw[aNo aY hs,anY l aY hl ha hs];simp only[Aj];rw[Dz AQ];simp only[Aj];rw[aQQ _ Lj];unfold KH;rw[yB]
def ad1 (l:A8 Aa)(aY:A8 (A8 BO))(hl:l.length<=1000)(ha:SN l)(hs:Pe aY):aAM l aY=some (KH l aY):=by
 have h1:=a3M hs;have h2:=OG (TB aY);have h3:=aSE hs hl;unfold aAM;rw[aSy aY hs,anX l aY hl ha hs];simp only[Aj];rw[aAS _ _ AQ AQ];rfl
def Ea (l:A8 Aa):Prop:=∀e∈l,Ey e
def Ea.amS (h:Ea l):SN l:=λe j=>(h e j).auth
def aL5 {R:Type}{body:(A->Int->AB R)->A->Int->AB R}(l:A8 α)(hl:l.length<Az)(p:α->Ad)(g:Nat->AB R)(rest:AB R)(a0:A)(u:∀k (i:Nat) (h:i<l.length),body k a0 (i:Int)=bif p l[i]then g i else k a0 (BA ((i:Int)+1)))(z:∀k,body k a0 (l.length:Int)=rest):
 aP body Az a0 0=if l.findIdx p<l.length then g (l.findIdx p)else rest:=by
 have J:Az=9223372036854775808:=rfl
 have key:∀n (i:Nat),i+n=l.length->∀m,n<m->aP body m a0 (i:Int)=if(l.drop i).findIdx p+i<l.length then g ((l.drop i).findIdx p+i)else rest:=by
  intro n
  induction n with
  |zero=>
   intro i hi m hm;obtain⟨m,rfl⟩:∃q,m=q+1:=⟨m-1,AQ⟩
   have :i=l.length:=AQ
   subst this;show body (aP body m) _ _=_;rw[z,PS,Ef Bf]
  |succ n I=>
   intro i hi m hm;obtain⟨m,rfl⟩:∃q,m=q+1:=⟨m-1,AQ⟩
   have j:i<l.length:=AQ
   show body (aP body m) _ _=_;rw[u _ i j,wrap_succ i AQ,I (i+1) AQ m AQ,Nj j,YF];cases p l[i]with
   |true=>
    grind
   |false=>
    simp only[BQ];rw[show(l.drop (i+1)).findIdx p+(i+1)=(l.drop (i+1)).findIdx p+1+i by omega]
 grind
def UJ {id:Int}{x:BO}(h:x∈Gi s k key id):x=⟨k,key,id⟩\/x∈s:=by
 unfold Gi at h
 grind
def yR (s:A8 BO):Prop:=∀x∈s,x.Id=0
def eX (h:yR s):yR (Gi s k key 0):=λx j=>by
 rcases UJ j with rfl|j
 ·rfl
 exact h x j
def a0J (l:A8 BO)(k:Int)(key:BP)(j:Int):AB Bc:=
 (bif j<(l.length:Int) then(Au l j).bind λq=>some (q.Kind==k)else some false).bind λu=>(bif u then(Au l j).bind λz=>some (z.Key.toList==key.toList)else some false).bind λI=>(bif I then some l else(Hy l 0 j).bind λJ=>(DC 32 [] J).bind λL=>(DC 32 L [(⟨k,key,0⟩:BO)]).bind λM=>(Hy l j ((l).length)).bind λO=>(DC 32 M O).bind λU=>some U)
def uJ (s:A8 BO)(k:Int)(key:BP)(hs:s.length<=1000000)(u:yR s):XW s k key=some (Gi s k key 0):=by
 unfold XW aPw
 have j:a0J s k key ((Fg s ⟨k,key,0⟩:Nat):Int)=some (Gi s k key 0):=by
  have hp:=xw s ⟨k,key,0⟩;unfold a0J Gi
  have q:((Hy s 0 ((Fg s ⟨k,key,0⟩:Nat):Int)).bind λz=>(DC 32 [] z).bind λI=>(DC 32 I [(⟨k,key,0⟩:BO)]).bind λJ=>(Hy s ((Fg s ⟨k,key,0⟩:Nat):Int) ((s).length)).bind λL=>(DC 32 J L).bind λM=>some M)=some (s.take (Fg s ⟨k,key,0⟩)++⟨k,key,0⟩::s.drop (Fg s ⟨k,key,0⟩)):=by
   rw[yV hp];simp only[Aj];rw[Dz Ej];simp only[Aj,JJ];rw[Dz Ej];simp only[Aj];rw[Xl hp];simp only[Aj];rw[Dz Ej];simp
  rw[q];by_cases hl:Fg s ⟨k,key,0⟩<s.length
  ·rw[dec_lt hl,CU hl];simp only[Bj,Aj]
   have O:MB s ⟨k,key,0⟩=(s[Fg s ⟨k,key,0⟩].Kind==k&&(s[Fg s ⟨k,key,0⟩].Key=key)):=by
    unfold MB;rw[EO hl];rfl
   rw[O,Ja];cases Y:s[Fg s ⟨k,key,0⟩].Kind==k with
   |false=>rfl
   |true=>
    simp only[Bj,Aj,Fv];cases hd:decide (s[Fg s ⟨k,key,0⟩].Key=key)with
    |true=>
     simp only[Bj];have h1:s[Fg s ⟨k,key,0⟩].Kind=k:=by simpa using Y
     have h2:s[Fg s ⟨k,key,0⟩].Key=key:=by simpa using hd
     have h3:=u _ (EZ hl)
     have Z:(⟨k,key,0⟩:BO)=s[Fg s ⟨k,key,0⟩]:=by
      have :∀(y:BO),y.Kind=k->y.Key=key->y.Id=0->(⟨k,key,0⟩:BO)=y:=λy a b c=>by cases y;simp only at a b c;rw[a,b,c]
      exact this _ h1 h2 h3
     congr 1
     conv=>rhs;arg 2;arg 1;rw[Z]
     rw[←Nj hl,Ve]
    |false=>rfl
  have u:Fg s ⟨k,key,0⟩=s.length:=AQ
  have O:MB s ⟨k,key,0⟩=false:=by unfold MB;rw[u,OZ (EW _)]
  rw[O,u,DZ];rfl
 rw[KU s (fuel_lt AQ) (λx=> !G7 x ⟨k,key,0⟩) (λi=>a0J s k key (i:Int)) (a0J s k key (s.length:Int))]
 ·split
  ·exact j
  rename_i h;have u:Fg s ⟨k,key,0⟩=s.length:=aSx
  rw[u]at j;exact j
 ·intro k2 i h;unfold aHK
  have e:(bif (i:Int)<(s.length:Int) then(Au s (i:Int)).bind λx5=>(bif x5.Kind<k then some true else(Au s (i:Int)).bind λx8=>(bif (x8.Kind==k)then(Au s (i:Int)).bind λU=>some (Op.bytesLess (U.Key.toList) (key.toList))else some false).bind λx9=>some x9).bind λx6=>some x6 else some false)=some (G7 s[i] ⟨k,key,0⟩):=by
   rw[dec_lt h,CU h];simp only[Bj,Aj];unfold G7;cases decide (s[i].Kind<k)<;>cases s[i].Kind==k<;>rfl
  rw[e];simp only[Aj];cases G7 s[i] ⟨k,key,0⟩<;>rfl
 intro k2;unfold aHK;rw[DZ];simp only[BQ,Aj];unfold a0J;rw[DZ];rfl
def NI (e:Aa):A8 BO:=Gi (Gi (Gi [] 1 CX 0) 3 CX 0) 2 e.bM 0
def keysOf (e:Aa):A8 BO:=
 bif e.Kind==1 then[]else bif e.Kind==2 then(bif e.Content.N==3||e.Content.N==1||e.Content.N==2 then Gi (Gi (NI e) 2 e.Key 0) 4 CX 0 else Gi (NI e) 2 e.Key 0)else NI e
def aFO (e:Aa):(NI e).length<=3:=by
 have h1:=Qv [] 1 CX 0;have h2:=Qv (Gi [] 1 CX 0) 3 CX 0;have h3:=Qv (Gi (Gi [] 1 CX 0) 3 CX 0) 2 e.bM 0;unfold NI;simp only[QM]at h1;omega
def aX0 (e:Aa):yR (NI e):=eX (eX (eX λx j=>absurd j Gn))
def YI (e:Aa):(keysOf e).length<=5:=by
 have h1:=aFO e;have h2:=Qv (NI e) 2 e.Key 0;have h3:=Qv (Gi (NI e) 2 e.Key 0) 4 CX 0;unfold keysOf
 grind
def aM1 (e:Aa):zH e=some (keysOf e):=by
 have h1:=aFO e;have h2:=Qv (NI e) 2 e.Key 0;have j:=Qv [] 1 CX 0;have q:=Qv (Gi [] 1 CX 0) 3 CX 0;simp only[QM]at j;unfold zH keysOf;rw[aJ [] 1 CX 0 Bf];simp only[Aj];rw[aJ _ 3 CX 0 AQ];simp only[Aj];rw[aJ _ 2 e.bM 0 AQ];simp only[Aj];show(bif e.Kind==1 then some []else bif e.Kind==2 then(Tj (NI e) 2 e.Key 0).bind _ else qI (NI e))=_;rw[aJ (NI e) 2 e.Key 0 AQ];simp only[Aj];rw[aJ _ 4 CX 0 AQ];unfold qI;cases e.Kind==1<;>cases e.Kind==2<;>cases e.Content.N==3<;>cases e.Content.N==1<;>cases e.Content.N==2<;>rfl
def aEu (e:Aa):rJ e=some (keysOf e):=by
 have h1:=aFO e;have h2:=Qv (NI e) 2 e.Key 0;have q:=Qv [] 1 CX 0;have z:=Qv (Gi [] 1 CX 0) 3 CX 0;have z0:yR []:=λx u=>absurd u Gn;simp only[QM]at q;unfold rJ keysOf;rw[uJ [] 1 CX Bf z0];simp only[Aj];rw[uJ _ 3 CX AQ (eX z0)];simp only[Aj];rw[uJ _ 2 e.bM AQ (eX (eX z0))];simp only[Aj];show(bif e.Kind==1 then some []else bif e.Kind != 2 then some (NI e)else(XW (NI e) 2 e.Key).bind _)=_;rw[uJ (NI e) 2 e.Key AQ (aX0 e)];simp only[Aj];rw[uJ _ 4 CX AQ (eX (aX0 e))];unfold a8N;have j:(e.Kind != 2)= !(e.Kind==2):=rfl;rw[j];cases e.Kind==1<;>cases e.Kind==2<;>cases e.Content.N==3<;>cases e.Content.N==1<;>cases e.Content.N==2<;>rfl
def F9 (k:BO)(x:Aa):Ad:=x.Kind==k.Kind&&(x.Key=k.Key)
def U8 (l:A8 Aa)(e:Aa):A8 Aa:=(keysOf e).flatMap λk=>((ofIds l e.bI).find? (F9 k)).toList
def flat_length {α β:Type}{f:α->A8 β}{n:Nat}(h:∀x,(f x).length<=n):∀l:A8 α,(l.flatMap f).length<=n*l.length
 | []=>Bf
 |x::l=>by
  have h1:=h x;have h2:=flat_length h l;rw[P5,Ee,GH,Nat.mul_succ];omega
def a7p (l:A8 Aa)(e:Aa):(U8 l e).length<=5:=by
 have h1:=flat_length (f:=λk=>((ofIds l e.bI).find? (F9 k)).toList) (n:=1) (λk=>toList_le _) (keysOf e);have h2:=YI e;unfold U8;omega
def aJh {x:Aa}(h:x∈ofIds l ids):x∈l:=by
 obtain⟨i,_,h⟩:=bV.1 h;exact JZ h
def aj9 {e x:Aa}(h:x∈U8 l e):x∈l:=by
 obtain⟨k,_,h⟩:=Vt.1 h;have :(ofIds l e.bI).find? (F9 k)=some x:=OO
 exact aJh (XV this)
def KJ (x:BO):Vd:=⟨x.Kind,x.Key⟩
def aPP (e:Aa):zC e=some ((keysOf e).map KJ):=by
 unfold zC;rw[aM1];simp only[Aj];have j:=YI e;unfold aVm;rw[Iq (keysOf e) AQ (λr x=>r++[KJ x]) (λi r=>r.length<=i) (λr=>some r) (EW _)]
 ·rw[foldl_append (λx=>[KJ x]),JJ];congr 1
  induction keysOf e with
  |nil=>
   rfl
  |cons x s q=>
   grind
 ·intro k r i h u;refine⟨a1g,?_⟩;unfold aEM;rw[DF h,Dz G9];rfl
 intro k r _;unfold aEM;rw[EL]
def aQJ (l:A8 Aa)(p:Aa->Ad):∀ids:A8 Int,(ofIds l ids).find? p=(ids.find? λi=>match Eb l i with |some x=>p x|none=>false).bind (Eb l)
 | []=>
  rfl
 |i::ids=>by
  have j:=aQJ l p ids;unfold ofIds at j ⊢
  grind
def aU1 (l:A8 Aa)(e:Aa)(hl:l.length<=1000)(I:e.bI.length<=40):um l e=some (U8 l e):=by
 unfold um;rw[aPP];simp only[Aj];have J:=YI e;unfold aSX;rw[Iq (a0:=[]) ((keysOf e).map KJ) aZ (λr k=>r++((ofIds l e.bI).find? λx=>x.Kind==k.adN&&(x.Key=k.adO)).toList) (λi r=>r.length<=i) (λr=>some r) (EW _)]
 ·congr 1;rw[foldl_append (λk:Vd=>((ofIds l e.bI).find? λx=>x.Kind==k.adN&&(x.Key=k.adO)).toList),JJ,List.flatMap_map];rfl
 ·intro k r i h L;have M:=toList_le ((ofIds l e.bI).find? λx=>x.Kind==((keysOf e).map KJ)[i].adN&&(x.Key=((keysOf e).map KJ)[i].adO));refine⟨Lj,?_⟩;have hi:i<5:=by rw[Df]at h;omega
  unfold aF6;rw[DF h];generalize((keysOf e).map KJ)[i]=K;unfold aQm
  rw[aL5 e.bI (fuel_lt AQ) (λid=>match Eb l id with |some x=>x.Kind==K.adN&&(x.Key=K.adO)|none=>false)
   (λj=>sF k (i:Int) (r++(match e.bI[j]? with |some id=>(Eb l id).toList|none=>[]))) (sF k (i:Int) r)]
  ·rw[aQJ,Kw];by_cases q:e.bI.findIdx (λid=>match Eb l id with |some x=>x.Kind==K.adN&&(x.Key=K.adO)|none=>false)<e.bI.length
   ·rw[ET q,EO q];rfl
   rw[Ef q,OZ AQ];simp only[Option.bind_none,Option.toList_none,UC];rfl
  ·intro k2 j u;unfold aGD;rw[DF u,Ox l _ AQ,EO u];simp only[Aj];cases z:Eb l e.bI[j]with
   |none=>rw[Rl z];rfl
   |some x=>
    rw[P7 z];simp only[Bj,SI];unfold YJ;rw[Ja];rw[Dz G9];cases x.Kind==K.adN<;>cases decide (x.Key=K.adO)<;>rfl
  intro k2;unfold aGD;rw[EL]
 intro k r _;unfold aF6;rw[EL]
def aVD (l:A8 Aa)(e:Aa)(hl:l.length<=1000)(Z:e.bI.length<=40):yO l e=some (U8 l e):=by
 unfold yO;rw[aEu,aCG l _ hl AQ];simp only[Aj];have hk:=YI e;have L:=jk l e.bI;unfold aNX;rw[Iq (a0:=[]) (keysOf e) AQ (λr k=>r++((ofIds l e.bI).find? (F9 k)).toList) (λi r=>r.length<=i) (λr=>some r) (EW _)]
 ·rw[foldl_append (λk:BO=>((ofIds l e.bI).find? (F9 k)).toList),JJ];rfl
 ·intro k r i h hI;have M:=toList_le ((ofIds l e.bI).find? (F9 (keysOf e)[i]));refine⟨Lj,?_⟩;have hi:i<5:=AQ
  unfold aC5;rw[dec_lt h];simp only[Bj];generalize ofIds l e.bI=O at L M;unfold aM6
  have u:∀m (a:A8 Aa) (j:Int),0<m->iU (SV O (keysOf e) (i:Int) k) m a true j=k a (BA ((i:Int)+1)):=by
   intro m a j hm;obtain⟨m,rfl⟩:∃I,m=I+1:=⟨m-1,AQ⟩
   show SV O (keysOf e) (i:Int) k (iU (SV O (keysOf e) (i:Int) k) m) a true j=_;unfold SV
   grind
  have key:∀n (j:Nat),j+n=O.length->∀m,n+1<m->iU (SV O (keysOf e) (i:Int) k) m r false (j:Int)=k (r++((O.drop j).find? (F9 (keysOf e)[i])).toList) (BA ((i:Int)+1)):=by
   intro n
   induction n with
   |zero=>
    intro j U m hm;obtain⟨m,rfl⟩:∃I,m=I+1:=⟨m-1,AQ⟩
    have :j=O.length:=AQ
    subst this;show SV O (keysOf e) (i:Int) k (iU (SV O (keysOf e) (i:Int) k) m) r false _=_;unfold SV;rw[DZ,PS];simp
   |succ n Y=>
    intro j U m hm;obtain⟨m,rfl⟩:∃I,m=I+1:=⟨m-1,AQ⟩
    have z:j<O.length:=AQ
    have J:=Y (j+1) AQ m AQ;show SV O (keysOf e) (i:Int) k (iU (SV O (keysOf e) (i:Int) k) m) r false _=_;have q:=u m;generalize iU (SV O (keysOf e) (i:Int) k) m=K at J q;unfold SV a8Y a7Z;rw[dec_lt z,CU z,CU h];simp only[Bj,JV,Aj];rw[Ja,wrap_succ j AQ,Nj z,Xb,J];rw[Dz G9];simp only[Aj];rw[q _ _ AQ];unfold F9;cases O[j].Kind==(keysOf e)[i].Kind<;>cases decide (O[j].Key=(keysOf e)[i].Key)<;>rfl
  have :=key O.length 0 AQ Az oM;exact this
 intro k r _;unfold aC5;rw[DZ];rfl
def Xw (c:BP):Ch:=bif !(c.toList==CX.toList)then{ Y9 with Users:=[⟨c,100⟩] }else Y9
def Uf (l:A8 Aa):BP:=match l.find? λx=>x.Kind==1 with |some x=>x.bM|none=>CX
def GY (l:A8 Aa):Ch:=match l.find? λx=>x.Kind==3 with |some x=>x.Content.Levels|none=>Xw (Uf l)
def acW (c:BP):a6P c=some (Xw c):=by
 unfold a6P Xw a8A
 grind
def aXo (c:BP):a7q c=some (Xw c):=by
 unfold a7q Xw a8x;cases c.toList==CX.toList<;>rfl
def aWH (l:A8 Aa)(k:Int)(hl:l.length<=1000):a0d l k=some (if l.findIdx (λe=>e.Kind==k)<l.length then((l.findIdx (λe=>e.Kind==k):Nat):Int)else -1):=by
 unfold a0d;rw[a8C l AQ (λa0=>a3c a0 k) (λe=>e.Kind==k) λ_=>rfl];rfl
def aDj (l:A8 Aa)(hl:l.length<=1000)(hs:Ea l):nP l=some (GY l,Uf l):=by
 have q:∀c,mJ l c=some (match l.find? λx=>x.Kind==3 with |some x=>x.Content.Levels|none=>Xw c,c):=by
  intro c;unfold mJ;rw[aWH l 3 hl,Kw];simp only[Aj];by_cases h:l.findIdx (λe=>e.Kind==3)<l.length
  ·rw[ET h,show decide (((l.findIdx (λe=>e.Kind==3):Nat):Int)>=0)=true by simp,CU h,EO h];simp only[Bj,Aj];have u:=hs _ (EZ h);have h1:=u.users;have h2:=u.kinds;unfold a3A a5F;rw[Dz SC,Dz SC];rfl
  rw[Ef h,OZ AQ,acW];rfl
 unfold nP;rw[aWH l 1 hl];simp only[Aj];by_cases h:l.findIdx (λe=>e.Kind==1)<l.length
 ·have j:Uf l=l[l.findIdx (λe=>e.Kind==1)].bM:=by unfold Uf;rw[Kw,EO h]
  rw[ET h,show decide (((l.findIdx (λe=>e.Kind==1):Nat):Int)>=0)=true by simp,CU h];simp only[Bj,Aj];rw[q,←j];rfl
 have j:Uf l=CX:=by unfold Uf;rw[Kw,OZ AQ]
 rw[Ef h];show mJ l CX=_;rw[q,←j];rfl
def aL8 (l:A8 Aa)(hl:l.length<=1000):pO l=some (GY l,Uf l):=by
 have I:∀c,a6X l c 0 KX=some (match l.find? λx=>x.Kind==3 with |some x=>x.Content.Levels|none=>Xw c,c):=by
  intro c;unfold a6X
  have O:∀{R:Type} {body:(Int->Ch->AB R)->Int->Ch->AB R} (p:Aa->Ad) (g:Nat->AB R) (rest:AB R) (a0:Ch)
   (Y:∀k (i:Nat) (h:i<l.length),body k (i:Int) a0=bif p l[i]then g i else k (BA ((i:Int)+1)) a0) (Z:∀k,body k (l.length:Int) a0=rest),
   aP body Az 0 a0=if l.findIdx p<l.length then g (l.findIdx p)else rest:=by
   intro R body p g rest a0 Y Z;have hf:Az=9223372036854775808:=rfl
   have key:∀n (i:Nat),i+n=l.length->∀m,n<m->aP body m (i:Int) a0=if(l.drop i).findIdx p+i<l.length then g ((l.drop i).findIdx p+i)else rest:=by
    intro n
    induction n with
    |zero=>
     intro i hi m hm;obtain⟨m,rfl⟩:∃z,m=z+1:=⟨m-1,AQ⟩
     have :i=l.length:=AQ
     subst this;show body (aP body m) _ _=_;rw[Z,PS,Ef Bf]
    |succ n U=>
     intro i hi m hm;obtain⟨m,rfl⟩:∃z,m=z+1:=⟨m-1,AQ⟩
     have q:i<l.length:=AQ
     show body (aP body m) _ _=_;rw[Y _ i q,wrap_succ i AQ,U (i+1) AQ m AQ,Nj q,YF];cases p l[i]with
     |true=>simp only[Bj,KD];rw[ET q]
     |false=>
      simp only[BQ];rw[show(l.drop (i+1)).findIdx p+(i+1)=(l.drop (i+1)).findIdx p+1+i by omega]
   have :=key l.length 0 AQ Az AQ;simpa using this
  rw[O (λx=>x.Kind==3) (λi=>some ((match l[i]? with |some x=>x.Content.Levels|none=>KX),c)) (some (Xw c,c))]
  ·rw[Kw];by_cases h:l.findIdx (λe=>e.Kind==3)<l.length
   ·rw[ET h,EO h]
   rw[Ef h,OZ AQ]
  ·intro k i h;unfold aC8;rw[DF h,CU h,EO h];rfl
  intro k;unfold aC8;rw[EL,aXo];rfl
 unfold pO aRe;obtain⟨F,M⟩:∃F:BP->AB (Ch×BP),∀c,a6X l c 0 KX=F c:=⟨_,λ_=>rfl⟩
 simp only[M]at I
 have J:∀m (c:BP) (j:Int),0<m->iU (Rw l) m c true j=F c:=by
  intro m c j hm;obtain⟨m,rfl⟩:∃z,m=z+1:=⟨m-1,AQ⟩
  show Rw l (iU (Rw l) m) c true j=_;unfold Rw;simp only[M];cases decide (j<(l.length:Int))<;>rfl
 have key:∀n (j:Nat),j+n=l.length->∀m,n+1<m->iU (Rw l) m CX false (j:Int)=F (match(l.drop j).find? λx=>x.Kind==1 with |some x=>x.bM|none=>CX):=by
  intro n
  induction n with
  |zero=>
   intro j hj m hm;obtain⟨m,rfl⟩:∃z,m=z+1:=⟨m-1,AQ⟩
   have :j=l.length:=AQ
   subst this;show Rw l (iU (Rw l) m) CX false _=_;unfold Rw;simp only[M];rw[DZ,PS];rfl
  |succ n U=>
   intro j hj m hm;obtain⟨m,rfl⟩:∃z,m=z+1:=⟨m-1,AQ⟩
   have q:j<l.length:=AQ
   have L:=U (j+1) AQ m AQ;show Rw l (iU (Rw l) m) CX false _=_;have u:=J m;generalize iU (Rw l) m=K at L u;unfold Rw aAq;simp only[M];rw[dec_lt q,CU q];simp only[Bj,JV,Aj];rw[wrap_succ j AQ,Nj q,Xb,L,u _ _ AQ];cases l[j].Kind==1<;>rfl
 have :=key l.length 0 AQ Az oM;rw[show((0:Nat):Int)=0 from rfl]at this;rw[this,I];rfl
def FN (v:Ch)(u:BP):Int:=match v.Users.find? λx=>decide (x.User=u)with |some x=>x.N|none=>v.User
def bf (v:Ch)(u:BP)(h:v.Users.length<=1000):VX v u=some (FN v u):=by
 unfold VX aQo FN;rw[KU v.Users (fuel_lt AQ) (λx=>x.User=u) (λi=>some (match v.Users[i]? with |some x=>x.N|none=>0)) (some v.User)]
 ·rw[Kw]
  grind
 ·intro k i h;unfold aIo;rw[DF h,Ja,EO h]
 intro k;unfold aIo;rw[EL]
def Yn (v:Ch)(u:BP)(h:v.Users.length<=1000):Uh v u=some (FN v u):=by
 unfold Uh aTJ FN;rw[KU v.Users (fuel_lt AQ) (λx=>x.User=u) (λi=>some (match v.Users[i]? with |some x=>x.N|none=>0)) (some v.User)]
 ·rw[Kw]
  grind
 ·intro k i h;unfold aGX;rw[DF h,Ja,EO h,CU h];rfl
 intro k;unfold aGX;rw[EL]
def mD (h:Ea l):(GY l).Users.length<=100/\(GY l).Kinds.length<=100:=by
 unfold GY;cases j:l.find? λx=>x.Kind==3 with
 |some x=>
  have :=h x (XV j);exact⟨this.users,this.kinds⟩
 |none=>
  simp only;unfold Xw;cases(Uf l).toList==CX.toList with
  |true=>
   show Y9.Users.length<=100/\Y9.Kinds.length<=100;exact⟨Bl,Bl⟩
  |false=>
   show 1<=100/\Y9.Kinds.length<=100;exact⟨Bl,Bl⟩
def a1b (l:A8 Aa)(e:Aa):Int:=FN (GY (U8 l e)) e.bM
def Ea.from (h:Ea l)(e:Aa):Ea (U8 l e):=λx j=>h x (aj9 j)
def ahl (l:A8 Aa)(e:Aa)(hl:l.length<=1000)(hs:Ea l)(j:e.bI.length<=40):a3x l e=some (a1b l e):=by
 have h1:=a7p l e;have h2:=(mD (hs.from e)).1;unfold a3x;rw[aU1 l e hl j];simp only[Aj];rw[aDj _ AQ (hs.from e)];simp only[Aj];rw[bf _ _ AQ];rfl
def aS6 (l:A8 Aa)(e:Aa)(hl:l.length<=1000)(hs:Ea l)(j:e.bI.length<=40):a1I l e=some (a1b l e):=by
 have h1:=a7p l e;have h2:=(mD (hs.from e)).1;unfold a1I;rw[aVD l e hl j];simp only[Aj];rw[aL8 _ AQ];simp only[Aj];rw[Yn _ _ AQ];rfl
def Qd (e:Aa):Ad:=bif e.Kind==2 then(e.Content.N==0||e.Content.N==4)&& !(decide (e.Key=e.bM))else e.Kind==3||e.Kind==4
def acZ (e:Aa):a8z e=some (Qd e):=by
 unfold a8z a6K Qd;rw[Ja];by_cases h2:e.Kind=2
 ·simp[h2]
  grind
 grind
def afN (e:Aa):a3L e=some (Qd e):=by
 unfold a3L Qd;rw[Ja]
 grind
def aO2 (l:A8 Int)(x:Int)(h:l.length<=1099511627776):tu l x=some (if l.findIdx (· ==x)<l.length then((l.findIdx (· ==x):Nat):Int)else -1):=by
 unfold tu aO8;rw[KU l (fuel_lt h) (· ==x) (λi=>some (i:Int)) (some (-1))]
 ·split<;>rfl
 ·intro k i hi;unfold aJd;rw[DF hi]
  grind
 intro k;unfold aJd;rw[EL]
def aM8 (l:A8 Int)(x:Int):decide (l.findIdx (· ==x)<l.length)=EN l x:=by
 rw[Oz,LV,IQ,gG]
 grind
def SPr (l:A8 Int)(x:Int)(h:l.length<=1099511627776):mF l x=some (EN l x):=by
 unfold mF;rw[aO2 l x h,←aM8];by_cases hl:l.findIdx (· ==x)<l.length
 ·rw[ET hl,KC hl];simp
 rw[Ef hl,Ic hl];rfl
def aTD (l:A8 Int)(x:Int)(h:l.length<=1099511627776):oV l x=some (EN l x):=by
 unfold oV;rw[SPr l x h];rfl
def ev (l:A8 Aa)(id:Int):Aa:=(I9 l id).1
def Xq (l:A8 Aa)(id:Int):Ad:=bQ l id&&Qd (ev l id)
def Ik (l:A8 Aa)(full:A8 Int):A8 Int:=full.filter (Xq l)
def WB (l:A8 Aa)(full:A8 Int):A8 Int:=FW (Ik l full++full.filter (EN (chainOf l (Ik l full))))
def a7R {full:A8 Int}:x∈WB l full↔x∈full/\(Xq l x=true\/Mc l (Ik l full) x):=by
 unfold WB;rw[Ld,Ie,Gs,LV,nN];unfold Ik
 grind
def aWZ (l:A8 Aa)(full:A8 Int):Inc (WB l full):=Nb _
def aDr (p:Int->Ad):∀(S r:A8 Int),S.foldl (λr x=>bif p x then r++[x]else r) r=r++S.filter p
 | [],r=>Bf
 |x::S,r=>by
  rw[Fl,aDr p S,Uu];cases p x<;>simp
def ahy (l:A8 Aa)(full:A8 Int)(hl:l.length<=1000)(hs:Ea l)(I:full.length<=120000)(j:(Ik l full).length<=100000):a1l l full=some (WB l full):=by
 unfold a1l aPM;rw[Iq (a0:=[]) full AQ (λr x=>bif Xq l x then r++[x]else r) (λi r=>r.length<=i) (λr=>(YR l r).bind λq=>aIY full q r 0) (EW _)]
 ·have z:full.foldl (λr x=>bif Xq l x then r++[x]else r) []=Ik l full:=by rw[aDr];rfl
  have J:=iw l (Ik l full);rw[z,aF3 l _ hl hs.amS j];simp only[Aj];unfold aIY;rw[Iq full AQ (λr x=>bif EN (chainOf l (Ik l full)) x then r++[x]else r) (λi r=>r.length<=(Ik l full).length+i) (λr=>some (FW r)) (EW _)]
  ·rw[aDr];rfl
  ·intro k r i h u;refine⟨?_,?_⟩
   ·cases EN (chainOf l (Ik l full)) full[i]with
    |false=>
     grind
    |true=>
     show(r++[full[i]]).length<=(Ik l full).length+(i+1);simp;omega
   unfold aBt a7m;rw[DF h,aTD _ _ AQ];simp only[Aj];rw[Dz G9]
   grind
  intro k r u;unfold aBt;rw[EL,er _ AQ];rfl
 ·intro k r i h u;refine⟨?_,?_⟩
  ·cases Xq l full[i]with
   |false=>
    grind
   |true=>
    show(r++[full[i]]).length<=i+1;simp;omega
  unfold aJB a1T;rw[DF h,Ox l _ AQ];simp only[Aj];rw[Dz G9];unfold Xq bQ ev;rw[acZ,Nw];cases(Eb l full[i]).isSome<;>cases Qd (I9 l full[i]).1<;>rfl
 intro k r _;unfold aJB;rw[EL]
def Mc.aJ9 {i:Int}(hi:i∈ids)(h:Mc l [i] x):Mc l ids x:=by
 induction h with
 |one h j q=>rw[Jd.1 h]at j;exact .one hi j q
 |more h j q u=>exact .more u j q
def Mc.split:Mc l ids x↔∃i∈ids,Mc l [i] x:=by
 constructor
 ·intro h
  induction h with
  |one h j q=>exact⟨_,h,.one (Jd.2 rfl) j q⟩
  |more h j q u=>obtain⟨i,h1,h2⟩:=u;exact⟨i,h1,.more h2 j q⟩
 rintro⟨i,h1,h2⟩;exact .aJ9 h1 h2
def Mc.bQ (h:Mc l ids x):bQ l x=true:=by cases h<;>assumption
def cV (h r:A8 Int)(y:Int):A8 Int:=bif EN h y then put r y else r
def a6I (h:A8 Int):∀(c r:A8 Int),Inc r->Inc (c.foldl (cV h) r)/\∀x,x∈c.foldl (cV h) r↔x∈r\/x∈c/\x∈h
 | [],r,j=>⟨j,λx=>Bf⟩
 |y::c,r,j=>by
  rw[Fl];unfold cV;cases u:EN h y with
  |true=>
   obtain⟨h1,h2⟩:=a6I h c (put r y) (U5 j);refine⟨h1,λx=>(h2 x).trans ?_⟩;rw[XM,FM];constructor
   ·rintro((h3|rfl)|h3)
    ·exact .inl h3
    ·exact .inr ⟨.inl rfl,LV.1 u⟩
    exact .inr ⟨.inr h3.1,h3.2⟩
   rintro(h3|⟨rfl|h3,q⟩)
   ·exact .inl (.inl h3)
   ·exact .inl (.inr rfl)
   exact .inr ⟨h3,q⟩
  |false=>
   obtain⟨h1,h2⟩:=a6I h c r j;refine⟨h1,λx=>(h2 x).trans ⟨λh3=>h3.imp id λh3=>⟨IE _ h3.1,h3.2⟩,λh3=>h3.imp id λh3=>⟨?_,h3.2⟩⟩⟩;rcases FM.1 h3.1 with rfl|q
   ·exact absurd h3.2 (Q7.1 u)
   exact q
def gB (l:A8 Aa)(h r:A8 Int)(x:Int):A8 Int:=bif Qd (ev l x)then(chainOf l [x]).foldl (cV h) (put r x)else r
def aBT (l:A8 Aa)(h:A8 Int):∀(c r:A8 Int),Inc r->Inc (c.foldl (gB l h) r)/\∀x,x∈c.foldl (gB l h) r↔x∈r\/∃i∈c,Qd (ev l i)=true/\(x=i\/Mc l [i] x/\x∈h)
 | [],r,u=>⟨u,λx=>Bf⟩
 |y::c,r,u=>by
  rw[Fl];unfold gB;cases z:Qd (ev l y)with
  |true=>
   obtain⟨I,J⟩:=a6I h (chainOf l [y]) (put r y) (U5 u);obtain⟨h1,h2⟩:=aBT l h c _ I;refine⟨h1,λx=>(h2 x).trans ?_⟩;rw[J x,XM,nN];constructor
   ·rintro(((h3|rfl)|h3)|⟨i,h3,q⟩)
    ·exact .inl h3
    ·exact .inr ⟨x,Gz ..,z,.inl rfl⟩
    ·exact .inr ⟨y,Gz ..,z,.inr h3⟩
    exact .inr ⟨i,IE _ h3,q⟩
   rintro(h3|⟨i,h3,q,j⟩)
   ·exact .inl (.inl (.inl h3))
   rcases FM.1 h3 with rfl|h3
   ·rcases j with rfl|j
    ·exact .inl (.inl (.inr rfl))
    exact .inl (.inr j)
   exact .inr ⟨i,h3,q,j⟩
  |false=>
   obtain⟨h1,h2⟩:=aBT l h c r u;refine⟨h1,λx=>(h2 x).trans ⟨λh3=>h3.imp id λ⟨i,q,j⟩=>⟨i,IE _ q,j⟩,λh3=>h3.imp id λ⟨i,q,j,L⟩=>⟨i,?_,j,L⟩⟩⟩;rcases FM.1 q with rfl|q
   ·rw[z]at j;cases j
   exact q
def aaG (l:A8 Aa)(full:A8 Int):(gQ l full).foldl (gB l (gQ l full)) []=WB l full:=by
 obtain⟨h1,h2⟩:=aBT l (gQ l full) (gQ l full) [] .nil;refine DK h1 (aWZ _ _) λx=>(h2 x).trans ?_;rw[a7R,Ns,Mc.split];unfold Ik Xq;constructor
 ·rintro(h3|⟨i,h3,j,q⟩)
  ·grind
  have u:=Ns.1 h3
  grind
 rintro⟨h3,j|⟨i,j,q⟩⟩
 ·rw[DR]at j;exact .inr ⟨x,Ns.2 ⟨h3,j.1⟩,j.2,.inl rfl⟩
 rw[Gs,DR]at j;exact .inr ⟨i,Ns.2 ⟨j.1,j.2.1⟩,j.2.2,.inr ⟨q,h3,q.bQ⟩⟩
def ajL (l:A8 Aa)(full:A8 Int)(hl:l.length<=1000)(hs:Ea l)(L:full.length<=100000):a3z l full=some (WB l full):=by
 unfold a3z;rw[aLc l full hl L];simp only[Aj];have M:(gQ l full).length<=l.length:=lH (jY l full) λx q=>(Ns.1 q).2;unfold aQb;rw[Iq (a0:=[]) (gQ l full) AQ (gB l (gQ l full)) (λ_ r=>Inc r/\∀x∈r,bQ l x=true) (λr=>some r) ⟨.nil,λx q=>absurd q Gn⟩]
 ·rw[aaG]
 ·intro k r i h u;have z:bQ l (gQ l full)[i]=true:=(Ns.1 (EZ h)).2;have O:=lH u.1 u.2;have g:=a6I (gQ l full) (chainOf l [(gQ l full)[i]]) (put r (gQ l full)[i]) (U5 u.1);refine⟨?_,?_⟩
  ·unfold gB;cases Qd (ev l (gQ l full)[i])with
   |false=>exact u
   |true=>
    refine⟨g.1,λx q=>?_⟩;rcases(g.2 x).1 q with h3|h3
    ·rcases XM.1 h3 with h3|rfl
     ·exact u.2 x h3
     exact z
    exact(Ns.1 h3.2).2
  unfold aEL uN;rw[DF h,NG l _ AQ];simp only[Aj];rw[afN,CU h];simp only[Aj];rw[mZ _ _ AQ];simp only[Aj];rw[aFf l _ hl hs.amS Bf];simp only[Aj];unfold gB;show(bif Qd (ev l (gQ l full)[i])then _ else _)=_;cases Qd (ev l (gQ l full)[i])with
  |false=>rfl
  |true=>
   simp only[Bj];have hc:=iw l [(gQ l full)[i]];unfold aOd
   rw[Iq (chainOf l [(gQ l full)[i]]) AQ (cV (gQ l full)) (λ_ r=>Inc r/\∀x∈r,bQ l x=true) (λr=>k r (BA ((i:Int)+1))) ⟨U5 u.1,λx q=>by
    rcases XM.1 q with h3|rfl
    ·exact u.2 x h3
    exact z⟩]
   ·intro k2 U j J I;have Y:=lH I.1 I.2;refine⟨?_,?_⟩
    ·unfold cV;cases Z:EN (gQ l full) (chainOf l [(gQ l full)[i]])[j]with
     |false=>exact I
     |true=>
      refine⟨U5 I.1,λx q=>?_⟩;rcases XM.1 q with h3|rfl
      ·exact I.2 x h3
      exact(Ns.1 (LV.1 Z)).2
    unfold aCy a3O;rw[DF J,XO _ _ AQ,CU J];simp only[Aj];rw[mZ _ _ AQ];unfold cV;cases EN (gQ l full) (chainOf l [(gQ l full)[i]])[j]<;>rfl
   intro k2 U _;unfold aCy uN;rw[EL]
 intro k r _;unfold aEL;rw[EL]
def a6s (l:A8 Aa)(full:A8 Int):(WB l full).length<=l.length:=
 lH (aWZ l full) λx j=>by
  rcases(a7R.1 j).2 with h|h
  ·unfold Xq at h;rw[DR]at h;exact h.1
  exact h.bQ
def GK (l:A8 Aa)(id:Int):Sm:=⟨id,a1b l (ev l id),(ev l id).Time,chainOf l [id]⟩
def fZ (l:A8 Aa)(left:A8 Int)(x:Int):Ad:= !left.any λy=>EN (chainOf l [x]) y
def jl (a b:Sm):Ad:=bif a.SE != b.SE then decide (a.SE>b.SE)else decide (a.Dl<b.Dl)
def IL (l:A8 Aa)(left:A8 Int)(b:AB Int)(x:Int):AB Int:=bif fZ l left x&&(match b with |none=>true|some y=>jl (GK l x) (GK l y))then some x else b
def UZ (l:A8 Aa)(left:A8 Int):AB Int:=left.foldl (IL l left) none
def tJ (l:A8 Aa):Nat->A8 Int->A8 Int
 |0,_=>[]
 |n+1,left=>match UZ l left with
  |none=>[]
  |some b=>b::tJ l n (left.filter (· != b))
def aSp (l:A8 Aa):∀ids:A8 Int,ids.flatMap (λid=>bif bQ l id then[GK l id]else[])=(ids.filter (bQ l)).map (GK l)
 | []=>
  rfl
 |i::ids=>by
  rw[P5,aSp l ids,Uu]
  grind
def ak4 (l:A8 Aa)(ids:A8 Int)(hl:l.length<=1000)(hs:Ea l)(hi:ids.length<=100000):a1s l ids=some ((gQ l ids).map (GK l)):=by
 unfold a1s;rw[er ids AQ];simp only[Aj];have hsl:=OG ids;unfold aSk;rw[Iq (a0:=[]) (FW ids) AQ (λr id=>r++bif bQ l id then[GK l id]else[]) (λi r=>r.length<=i) (λr=>some r) (EW _)]
 ·rw[foldl_append (λid=>bif bQ l id then[GK l id]else[]),JJ,aSp];rfl
 ·intro k r i h z;refine⟨?_,?_⟩
  ·grind
  unfold aKx a3C;rw[DF h,Ox l _ AQ];simp only[Aj];unfold bQ;cases j:Eb l (FW ids)[i]with
  |none=>
   rw[Rl j];simp
  |some e=>
   have u:=hs e (JZ j);have q:ev l (FW ids)[i]=e:=by unfold ev;rw[P7 j]
   rw[P7 j];simp only[Bj,Option.isSome_some];rw[ahl l e hl hs u.auth,aF3 l _ hl hs.amS Bf];simp only[Aj];rw[Dz G9];unfold GK;rw[q];rfl
 intro k r _;unfold aKx;rw[EL]
def aWS (l:A8 Aa)(left:A8 Int):∀(c:A8 Int) (b:AB Int) {x:Int},c.foldl (IL l left) b=some x->b=some x\/x∈c
 | [],b,x,h=>.inl h
 |y::c,b,x,h=>by
  rw[Fl]at h;rcases aWS l left c _ h with h1|h1
  ·have key:∀c:Ad,(bif c then some y else b)=some x->b=some x\/x=y:=λc j=>by
    grind
   rcases key _ h1 with h2|h2
   ·exact .inl h2
   grind
  grind
variable {left:A8 Int}
def aiL (h:UZ l left=some x):x∈left:=by
 rcases aWS l left left none h with h|h
 ·cases h
 exact h
def aW4 (u:left.Nodup){j:Nat}(z:j<left.length):left.take j++left.drop (j+1)=left.filter (· != left[j]):=by
 have e:left=left.take j++left[j]::left.drop (j+1):=by rw[←Nj z,Ve]
 have q:(left.take j++left[j]::left.drop (j+1)).Nodup:=by rw[←e];exact u
 have h1:=nE.1 q;have h2:=KQ.1 h1.2.1
 have J:(left.take j).filter (· != left[j])=left.take j:=jv.2 λx I=>by
  grind
 have L:(left.drop (j+1)).filter (· != left[j])=left.drop (j+1):=jv.2 λx I=>by
  grind
 grind
def aQ2 (q:left.Nodup){b:Int}(u:b∈left):(left.filter (· != b)).length+1=left.length:=by
 obtain⟨j,z,rfl⟩:=G8 u;rw[←aW4 q z,Ee,H7,LY];omega
def aXY (h:Inc left)(b:Int):Px left [b]=left.filter (· != b):=by
 unfold Px;rw[afX h];congr 1;funext x;by_cases e:x=b
 ·subst e;simp[EN]
 simp[EN,e]
def ahN (l:A8 Aa)(hl:l.length<=1000):∀(m:Nat) (left q:A8 Int) (N:Nat),left.length=m->Inc left->(∀x∈left,bQ l x=true)->q.length+left.length<=1000000->m<N->aP aj N (left.map (GK l)) q=some (q++tJ l m left):=by
 intro m
 induction m with
 |zero=>
  intro left q N hm hi hk hacc hN;obtain⟨N,rfl⟩:∃N',N=N'+1:=⟨N-1,AQ⟩
  have :left=[]:=He hm;subst this;show aj _ _ _=_;unfold aj tJ;simp
 |succ m ih=>
  intro left q N hm hi hk hacc hN;obtain⟨N,rfl⟩:∃N',N=N'+1:=⟨N-1,AQ⟩
  have hll:=lH hi hk;refine dL.eq ?_;show dL (aj (aP aj N) _ _) _;have ih':=λleft' acc' h1 h2 h3 h4=>ih left' acc' N h1 h2 h3 h4 AQ;generalize aP aj N=K at ih';unfold aj;rw[show decide (((left.map (GK l)).length:Int)>0)=true by rw[Df];simp;omega];simp only[Bj];unfold aQk;refine Ur (body:=aGM (left.map (GK l)) K) (λm2 a b c=>∃i:Nat,b=i/\i+m2=left.length/\c=q/\((a= -1/\(left.take i).foldl (IL l left) none=none)\/∃(j:Nat) (I:j<left.length),a=(j:Int)/\(left.take i).foldl (IL l left) none=some left[j])) ?_ Az left.length (-1) 0 q (fuel_lt AQ) ⟨0,rfl,AQ,rfl,.inl ⟨rfl,rfl⟩⟩;rintro m2 a b c k ⟨i,rfl,hm2,rfl,hI⟩ J;unfold aGM;by_cases M:i<left.length
  ·have U:i<(left.map (GK l)).length:=by rw[Df];exact M
   rw[dec_lt U,CU U,Ph];simp only[Bj,Aj]
   have hst:(left.take (i+1)).foldl (IL l left) none=IL l left ((left.take i).foldl (IL l left) none) left[i]:=by
    rw[OM M,VD];rfl
   unfold aO7;have hc:=iw l [left[i]]
   have hin:∀(k2:Int->Int->A8 Int->AB (A8 Int)),aP (ZH (left.map (GK l)) (GK l left[i]) k2 (i:Int) a) Az 0 c=bif fZ l left left[i]then(bif a<0 then aI k2 (i:Int) a true c else(Au (left.map (GK l)) a).bind λx27=>(fU (GK l left[i]) x27).bind λx28=>aI k2 (i:Int) a x28 c)else eS k2 (i:Int) a c:=by
    intro k2
    have key:∀n (j:Nat),j+n=left.length->∀m,n<m->aP (ZH (left.map (GK l)) (GK l left[i]) k2 (i:Int) a) m (j:Int) c=bif !(left.drop j).any (λy=>EN (chainOf l [left[i]]) y)then(bif a<0 then aI k2 (i:Int) a true c else(Au (left.map (GK l)) a).bind λx27=>(fU (GK l left[i]) x27).bind λx28=>aI k2 (i:Int) a x28 c)else eS k2 (i:Int) a c:=by
     intro n
     induction n with
     |zero=>
      intro j I m hm;obtain⟨m,rfl⟩:∃m',m=m'+1:=⟨m-1,AQ⟩
      have :j=left.length:=AQ
      subst this;show ZH _ _ _ _ _ _ _ _=_;unfold ZH;rw[show decide ((left.length:Int)<((left.map (GK l)).length:Int))=false by rw[Df];exact DZ _,PS];rfl
     |succ n ihn=>
      intro j I m hm;obtain⟨m,rfl⟩:∃m',m=m'+1:=⟨m-1,AQ⟩
      have hjl:j<left.length:=AQ
      have aME:j<(left.map (GK l)).length:=by rw[Df];exact hjl
      have Y:=ihn (j+1) AQ m AQ;show ZH _ _ _ _ _ (aP _ m) _ _=_;generalize aP (ZH (left.map (GK l)) (GK l left[i]) k2 (i:Int) a) m=L at Y;unfold ZH;rw[DF aME,Ph];show((oV (chainOf l [left[i]]) left[j]).bind _)=_;rw[aTD _ _ AQ,wrap_succ j AQ,Nj hjl,List.any_cons];simp only[Aj];cases EN (chainOf l [left[i]]) left[j]with
      |true=>
       rfl
      |false=>
       simp only[BQ,OW];exact Y
    exact key left.length 0 AQ Az (fuel_lt AQ)
   rw[hin];have hw:=wrap_succ i AQ;unfold aI eS;rw[hw];cases O:fZ l left left[i]with
   |false=>
    simp only[BQ];refine J (m2-1) _ _ _ AQ ⟨i+1,rfl,AQ,rfl,?_⟩;have e:IL l left ((left.take i).foldl (IL l left) none) left[i]=(left.take i).foldl (IL l left) none:=by unfold IL;rw[O];rfl
    rw[hst,e];exact hI
   |true=>
    simp only[Bj];rcases hI with⟨rfl,Z⟩|⟨j,I,rfl,Z⟩
    ·rw[show decide ((-1:Int)<0)=true by decide];simp only[Bj];refine J (m2-1) _ _ _ AQ ⟨i+1,rfl,AQ,rfl,.inr ⟨i,M,rfl,?_⟩⟩;rw[hst,Z];unfold IL;rw[O];rfl
    have u:j<(left.map (GK l)).length:=by rw[Df];exact I
    rw[show decide ((j:Int)<0)=false by simp,CU u,Ph];simp only[BQ,Aj]
    have e1:fU (GK l left[i]) (GK l left[j])=some (jl (GK l left[i]) (GK l left[j])):=by
     unfold fU jl
     grind
    rw[e1];simp only[Aj];cases ha:jl (GK l left[i]) (GK l left[j])with
    |true=>
     simp only[Bj];refine J (m2-1) _ _ _ AQ ⟨i+1,rfl,AQ,rfl,.inr ⟨i,M,rfl,?_⟩⟩;rw[hst,Z];unfold IL;rw[O];simp only[ha];rfl
    |false=>
     simp only[BQ];refine J (m2-1) _ _ _ AQ ⟨i+1,rfl,AQ,rfl,.inr ⟨j,I,rfl,?_⟩⟩;rw[hst,Z];unfold IL;rw[O];simp only[ha];rfl
  have hie:i=left.length:=AQ
  subst hie;rw[show decide ((left.length:Int)<((left.map (GK l)).length:Int))=false by rw[Df];exact DZ _];simp only[BQ];rw[H9]at hI;have z:tJ l (m+1) left=match UZ l left with |none=>[]|some b=>b::tJ l m (left.filter (· != b)):=rfl
  rcases hI with⟨rfl,Z⟩|⟨j,I,rfl,Z⟩
  ·rw[show decide ((-1:Int)<0)=true by decide];refine .ret ?_;have h1:UZ l left=none:=Z;rw[z,h1];simp
  have u:j<(left.map (GK l)).length:=by rw[Df];exact I
  rw[show decide ((j:Int)<0)=false by simp,CU u,Ph];simp only[BQ,Aj];have h1:UZ l left=some left[j]:=Z;rw[Dz G9];simp only[Aj];rw[yV (Nat.le_of_lt u),wrap_succ j AQ,Xl u];simp only[Aj];rw[Dz (by rw[H7,LY,Df];omega)];simp only[Aj]
  have e2:(left.map (GK l)).take j++(left.map (GK l)).drop (j+1)=(left.filter (· != left[j])).map (GK l):=by
   rw[←aW4 (QH hi) I,Jb,bJ,dI]
  rw[e2];have hwl:=aQ2 (QH hi) (EZ I);rw[ih' (left.filter (· != left[j])) (c++[(GK l left[j]).nR]) AQ (hi.sublist Ue) (λx hx=>hk x ((Gs.1 hx).1)) Ul];refine .ret ?_;rw[z,h1,JO];rfl
def ag8 (l:A8 Aa)(ids:A8 Int)(hl:l.length<=1000)(hs:Ea l)(hi:ids.length<=100000):a5w l ids=some (tJ l (gQ l ids).length (gQ l ids)):=by
 have q:(gQ l ids).length<=l.length:=lH (jY l ids) λx j=>(Ns.1 j).2;unfold a5w;rw[ak4 l ids hl hs hi];simp only[Aj];unfold aS3;rw[ahN l hl _ (gQ l ids) [] Az rfl (jY l ids) (λx j=>(Ns.1 j).2) SC (fuel_lt AQ)];rfl
def acJ (l:A8 Aa)(left:A8 Int)(x:Int)(hl:l.length<=1000)(hs:Ea l)(j:left.length<=100000):aAj l left x=some (fZ l left x):=by
 unfold aAj;rw[aFf l _ hl hs.amS Bf];simp only[Aj];have q:=iw l [x];unfold aWV;rw[Hl (chainOf l [x]) (fuel_lt AQ) (λy=>EN left y) false (some true)]
 ·unfold fZ
  have e:(chainOf l [x]).any (λy=>EN left y)=left.any λy=>EN (chainOf l [x]) y:=by
   rw[Oz,Ip,Ip];simp only[LV];exact⟨λ⟨y,a,b⟩=>⟨y,b,a⟩,λ⟨y,a,b⟩=>⟨y,b,a⟩⟩
  rw[e];cases left.any λy=>EN (chainOf l [x]) y<;>rfl
 ·intro k i h;unfold aJx;rw[DF h,XO _ _ AQ];simp only[Aj]
 intro k;unfold aJx;rw[EL]
def aKN {R A B C D:Type}{Q:R->Prop}{body:(A->B->C->D->AB R)->A->B->C->D->AB R}(I:Nat->A->B->C->D->Prop)(hs:∀m a b c d k,I m a b c d->(∀j a' q u z,j<m->I j a' q u z->dL (k a' q u z) Q)->dL (body k a b c d) Q):
 ∀n m a b c d,m<n->I m a b c d->dL (WU body n a b c d) Q
 |0,m,_,_,_,_,h,_=>AQ
 |n+1,m,a,b,c,d,h,hi=>hs m a b c d _ hi λj a' q u z h' J=>aKN I hs n j a' q u z AQ J
def J8 (h:bQ l x=true):Eb l x=some (ev l x)/\(ev l x).Id=x:=by
 unfold bQ at h;obtain⟨e,j⟩:=SA.1 h;have :ev l x=e:=by unfold ev;rw[P7 j]
 rw[this];exact⟨j,aAc j⟩
def akU (l:A8 Aa)(x y:Int)(hl:l.length<=1000)(hs:Ea l)(j:bQ l x=true)(q:bQ l y=true)(u:y<x):a6j l (ev l x) (ev l y)=some (jl (GK l x) (GK l y)):=by
 obtain⟨z,J⟩:=J8 j;obtain⟨I,L⟩:=J8 q;unfold a6j;rw[aS6 l _ hl hs (hs _ (JZ z)).auth,aS6 l _ hl hs (hs _ (JZ I)).auth];simp only[Aj];unfold jl GK
 grind
def akp (l:A8 Aa)(hl:l.length<=1000)(hs:Ea l):∀(m:Nat) (left q:A8 Int) (N:Nat),left.length=m->Inc left->(∀x∈left,bQ l x=true)->q.length+left.length<=1000000->m<N->aP (ZI l) N left q=some (q++tJ l m left):=by
 intro m
 induction m with
 |zero=>
  intro left q N hm hi Y hacc hN;obtain⟨N,rfl⟩:∃N',N=N'+1:=⟨N-1,AQ⟩
  have :left=[]:=He hm;subst this;show ZI _ _ _ _=_;unfold ZI tJ;simp
 |succ m ih=>
  intro left q N hm hi Y hacc hN;obtain⟨N,rfl⟩:∃N',N=N'+1:=⟨N-1,AQ⟩
  have hll:=lH hi Y;refine dL.eq ?_;show dL (ZI l (aP (ZI l) N) _ _) _;have ih':=λO acc' h1 h2 h3 h4=>ih O acc' N h1 h2 h3 h4 AQ;generalize aP (ZI l) N=K at ih';unfold ZI;rw[show decide ((left.length:Int)>0)=true by simp;omega];simp only[Bj];unfold aMa;refine aKN (body:=aCD left l K) (λZ a b c d=>∃i:Nat,b=i/\i+Z=left.length/\c=q/\((a=false/\(left.take i).foldl (IL l left) none=none)\/∃(j:Nat) (J:j<left.length),j<i/\a=true/\d=ev l left[j]/\(left.take i).foldl (IL l left) none=some left[j])) ?_ Az left.length false 0 q Fe (fuel_lt AQ) ⟨0,rfl,AQ,rfl,.inl ⟨rfl,rfl⟩⟩;rintro Z a b c d k ⟨i,rfl,hm2,rfl,hI⟩ L;unfold aCD;by_cases u:i<left.length
  ·rw[dec_lt u,CU u];simp only[Bj,Aj];rw[NG l _ AQ];simp only[Aj];rw[acJ l left _ hl hs AQ];simp only[Aj]
   have hst:(left.take (i+1)).foldl (IL l left) none=IL l left ((left.take i).foldl (IL l left) none) left[i]:=by
    rw[OM u,VD];rfl
   unfold a5p;rw[wrap_succ i AQ];cases M:fZ l left left[i]with
   |false=>
    simp only[BQ,Aj];refine L (Z-1) _ _ _ _ AQ ⟨i+1,rfl,AQ,rfl,?_⟩;have e:IL l left ((left.take i).foldl (IL l left) none) left[i]=(left.take i).foldl (IL l left) none:=by unfold IL;rw[M];rfl
    rw[hst,e];rcases hI with z|⟨j,J,U,z⟩
    ·exact .inl z
    exact .inr ⟨j,J,AQ,z⟩
   |true=>
    simp only[Bj];rcases hI with⟨rfl,z⟩|⟨j,J,U,rfl,rfl,z⟩
    ·simp only[JV,Bj,Aj];refine L (Z-1) _ _ _ _ AQ ⟨i+1,rfl,AQ,rfl,.inr ⟨i,u,AQ,rfl,rfl,?_⟩⟩;rw[hst,z];unfold IL;rw[M];rfl
    simp only[El,BQ];have hlt2:left[j]<left[i]:=JQ.1 hi j i J u U;have e1:=akU l left[i] left[j] hl hs (Y _ (EZ u)) (Y _ (EZ J)) hlt2;rw[show(I9 l left[i]).1=ev l left[i]from rfl,e1];simp only[Aj];cases ha:jl (GK l left[i]) (GK l left[j])with
    |true=>
     simp only[Bj];refine L (Z-1) _ _ _ _ AQ ⟨i+1,rfl,AQ,rfl,.inr ⟨i,u,AQ,rfl,rfl,?_⟩⟩;rw[hst,z];unfold IL;rw[M];simp only[ha];rfl
    |false=>
     simp only[BQ];refine L (Z-1) _ _ _ _ AQ ⟨i+1,rfl,AQ,rfl,.inr ⟨j,J,AQ,rfl,rfl,?_⟩⟩;rw[hst,z];unfold IL;rw[M];simp only[ha];rfl
  have hie:i=left.length:=AQ
  subst hie;rw[DZ];simp only[BQ];rw[H9]at hI;have I:tJ l (m+1) left=match UZ l left with |none=>[]|some b=>b::tJ l m (left.filter (· != b)):=rfl
  rcases hI with⟨rfl,z⟩|⟨j,J,U,rfl,rfl,z⟩
  ·refine .ret ?_;have h1:UZ l left=none:=z;rw[I,h1];simp
  simp only[El,BQ];have h1:UZ l left=some left[j]:=z;have hid:=(J8 (Y _ (EZ J))).2;rw[hid,Dz G9];simp only[Aj];rw[a5x _ _ AQ Bf,aXY hi];simp only[Aj];have hwl:=aQ2 (QH hi) (EZ J);rw[ih' (left.filter (· != left[j])) (c++[left[j]]) AQ (hi.sublist Ue) (λx hx=>Y x ((Gs.1 hx).1)) Ul];refine .ret ?_;rw[I,h1,JO];rfl
def al6 (l:A8 Aa)(ids:A8 Int)(hl:l.length<=1000)(hs:Ea l)(hi:ids.length<=100000):aAB l ids=some (tJ l (gQ l ids).length (gQ l ids)):=by
 have q:(gQ l ids).length<=l.length:=lH (jY l ids) λx j=>(Ns.1 j).2;unfold aAB;rw[aLc l ids hl hi];simp only[Aj];unfold aTH;rw[akp l hl hs _ (gQ l ids) [] Az rfl (jY l ids) (λx j=>(Ns.1 j).2) SC (fuel_lt AQ)];rfl
def aGO (l:A8 Aa):∀(n:Nat) (left:A8 Int) {x:Int},x∈tJ l n left->x∈left
 |0,_,_,h=>absurd h Gn
 |n+1,left,x,h=>by
  unfold tJ at h;cases j:UZ l left with
  |none=>
   grind
  |some b=>
   rw[j]at h;rcases FM.1 h with rfl|h
   ·exact aiL j
   exact(Gs.1 (aGO l n _ h)).1
def aQ0 (l:A8 Aa):∀(n:Nat) (left:A8 Int),(tJ l n left).length<=n
 |0,_=>EW _
 |n+1,left=>by
  unfold tJ;cases UZ l left with
  |none=>exact FB _
  |some b=>have :=aQ0 l n (left.filter (· != b));simp only[GH];omega
def Pg (l:A8 Aa)(e:Aa):Option Int:=e.bI.find? λid=>bQ l id&&(ev l id).Kind==3
def cG (l:A8 Aa)(e:Aa):Int×Ad:=match Pg l e with |some x=>(x,true)|none=>(0,false)
def aWn (l:A8 Aa)(e:Aa)(hl:l.length<=1000)(j:e.bI.length<=40):xU l e=some (cG l e):=by
 unfold xU aM2;rw[KU e.bI (fuel_lt AQ) (λid=>bQ l id&&(ev l id).Kind==3) (λi=>some (match e.bI[i]? with |some x=>(x,true)|none=>(0,false))) (some (0,false))]
 ·unfold cG Pg;rw[Kw];by_cases h:e.bI.findIdx (λid=>bQ l id&&(ev l id).Kind==3)<e.bI.length
  ·rw[ET h]
  rw[Ef h,OZ AQ]
 ·intro k i h;unfold aHz;rw[DF h,Ox l _ AQ,EO h];simp only[Aj];unfold bQ ev;rw[Nw];cases(Eb l e.bI[i]).isSome<;>rfl
 intro k;unfold aHz;rw[EL]
def ajI (l:A8 Aa)(e:Aa)(hl:l.length<=1000)(j:e.bI.length<=40):a7X l e=some (cG l e):=by
 unfold a7X aUj;rw[KU e.bI (fuel_lt AQ) (λid=>bQ l id&&(ev l id).Kind==3) (λi=>some (match e.bI[i]? with |some x=>(x,true)|none=>(0,false))) (some (0,false))]
 ·unfold cG Pg;rw[Kw];by_cases h:e.bI.findIdx (λid=>bQ l id&&(ev l id).Kind==3)<e.bI.length
  ·rw[ET h]
  rw[Ef h,OZ AQ]
 ·intro k i h;unfold aH6;rw[DF h,NG l _ AQ,EO h,CU h];simp only[Aj];unfold bQ ev;rw[Nw];cases(Eb l e.bI[i]).isSome<;>rfl
 intro k;unfold aH6;rw[EL]
def Dc (l:A8 Aa):Nat->A8 Int->Int->A8 Int
 |0,seen,_=>seen
 |n+1,seen,id=>bif EN seen id|| !bQ l id then seen else match Pg l (ev l id)with
  |none=>seen++[id]
  |some x=>Dc l n (seen++[id]) x
def ZC (l:A8 Aa)(id:Int):A8 Int:=Dc l l.length [] id
structure WG (l:List Aa) (seen:List Int):Prop where
 nodup:seen.Nodup
 known:∀x∈seen,bQ l x=true
variable {seen:A8 Int}
def WG.length (h:WG l seen):seen.length<=l.length:=by
 rw[←(VT seen).length_eq,aRX h.nodup];exact lH (Nb _) λx j=>h.known x (Ld.1 j)
def WG.snoc (h:WG l seen){id:Int}(h1:id∉seen)(h2:bQ l id=true):WG l (seen++[id]):=by
 refine⟨nE.2 ⟨h.nodup,Bf,λa ha b q=>?_⟩,λx j=>?_⟩
 ·grind
 rcases Ie.1 j with j|j
 ·exact h.known x j
 grind
def aQf (l:A8 Aa):∀(n:Nat) (seen:A8 Int) (id:Int),WG l seen->WG l (Dc l n seen id)
 |0,_,_,h=>h
 |n+1,seen,id,h=>by
  unfold Dc;cases j:EN seen id|| !bQ l id with
  |true=>exact h
  |false=>
   rw[a7y,Q7]at j;have h2:=h.snoc j.1 (by simpa using j.2);simp only[BQ];cases Pg l (ev l id)with
   |none=>exact h2
   |some x=>exact aQf l n _ x h2
def aWm (l:A8 Aa):∀(n:Nat) (seen:A8 Int) (id:Int),∃t,Dc l n seen id=seen++t
 |0,seen,_=>⟨[],by simp[Dc]⟩
 |n+1,seen,id=>by
  unfold Dc;cases EN seen id|| !bQ l id with
  |true=>exact⟨[],Bf⟩
  |false=>
   simp only[BQ];cases Pg l (ev l id)with
   |none=>exact⟨[id],rfl⟩
   |some x=>
    obtain⟨t,j⟩:=aWm l n (seen++[id]) x;exact⟨id::t,by simp only[j,JO];rfl⟩
def aRk (l:A8 Aa)(id:Int):(ZC l id).length<=l.length:=(aQf l _ [] id ⟨Yq,λx j=>absurd j Gn⟩).length
def ai4 (l:A8 Aa)(hl:l.length<=1000)(hs:Ea l)(Y Z:A8 Int):∀(m:Nat) (seen:A8 Int) (id:Int) (N:Nat),seen.length+m=l.length->WG l seen->m<N->GV Yz N seen seen Y Z id l=some (Dc l m seen id):=by
 intro m
 induction m with
 |zero=>
  intro seen id N hm u hN;obtain⟨N,rfl⟩:∃N',N=N'+1:=⟨N-1,AQ⟩
  have I:=u.length;show Yz _ _ _ _ _ _ _=_;unfold Yz;rw[SPr _ _ AQ,Ox l _ AQ];simp only[Aj];rw[Nw];cases J:EN seen id with
  |true=>rfl
  |false=>
   cases q:(Eb l id).isSome with
   |false=>rfl
   |true=>
    have h2:=(u.snoc (Q7.1 J) q).length;simp only[Ee,Om]at h2;omega
 |succ m ih=>
  intro seen id N hm u hN;obtain⟨N,rfl⟩:∃N',N=N'+1:=⟨N-1,AQ⟩
  have I:=u.length;show Yz (GV Yz N) _ _ _ _ _ _=_;have z:=λj L h1 h2=>ih j L N h1 h2 AQ;generalize GV Yz N=K at z;unfold Yz Dc;rw[SPr _ _ AQ,Ox l _ AQ];simp only[Aj];rw[Nw];cases J:EN seen id with
  |true=>rfl
  |false=>
   cases q:(Eb l id).isSome with
   |false=>rw[show bQ l id=false from q];rfl
   |true=>
    obtain⟨e,U⟩:=SA.1 q;rw[show bQ l id=true from q];simp only[JV,El,O1,Bj,BQ];rw[Dz G9];simp only[Aj];unfold a1v;simp only[BQ];rw[Dz G9];simp only[Aj];have M:(I9 l id).1=ev l id:=rfl
    have O:(ev l id).bI.length<=40:=by
     have :ev l id=e:=by unfold ev;rw[P7 U]
     rw[this];exact(hs e (JZ U)).auth
    rw[M,aWn l _ hl O];simp only[Aj];unfold cG;cases Pg l (ev l id)with
    |none=>rfl
    |some x=>exact z (seen++[id]) x Ul (u.snoc (Q7.1 J) q)
def adL (l:A8 Aa)(id:Int)(hl:l.length<=1000)(hs:Ea l):a8L l id=some (ZC l id):=by
 unfold a8L yH aLK;exact ai4 l hl hs [] [] l.length [] id Az Bf ⟨Yq,λx j=>absurd j Gn⟩ (fuel_lt AQ)
def ahC (l:A8 Aa)(hl:l.length<=1000)(hs:Ea l):∀(m:Nat) (seen:A8 Int) (id:Int) (i N:Nat),i+m=l.length->seen.length<=i->m<N->iU (bD l) N seen id (i:Int)=some (Dc l m seen id):=by
 intro m
 induction m with
 |zero=>
  intro seen id i N hm M O;obtain⟨N,rfl⟩:∃N',N=N'+1:=⟨N-1,AQ⟩
  have :i=l.length:=AQ
  subst this;show bD _ _ _ _ _=_;unfold bD;rw[DZ];rfl
 |succ m U=>
  intro seen id i N hm M O;obtain⟨N,rfl⟩:∃N',N=N'+1:=⟨N-1,AQ⟩
  show bD _ (iU (bD l) N) _ _ _=_;have q:=λj u Y h1 h2=>U j u Y N h1 h2 AQ;generalize iU (bD l) N=K at q;unfold bD Dc;rw[dec_lt AQ,NG l _ AQ,XO _ _ AQ];simp only[Bj,Aj];rw[Nw];cases z:(Eb l id).isSome with
  |false=>rw[show bQ l id=false from z];cases EN seen id<;>rfl
  |true=>
   rw[show bQ l id=true from z];cases Z:EN seen id with
   |true=>rfl
   |false=>
    obtain⟨e,L⟩:=SA.1 z;simp only[El,O1,BQ,Aj];rw[Dz G9];simp only[Aj];have I:(I9 l id).1=ev l id:=rfl
    have J:(ev l id).bI.length<=40:=by
     have :ev l id=e:=by unfold ev;rw[P7 L]
     rw[this];exact(hs e (JZ L)).auth
    rw[I,ajI l _ hl J,wrap_succ i AQ];simp only[Aj];unfold cG;cases Pg l (ev l id)with
    |none=>rfl
    |some x=>exact q (seen++[id]) x (i+1) AQ Ul
def aU9 (l:A8 Aa)(id:Int)(hl:l.length<=1000)(hs:Ea l):yQ l id=some (ZC l id):=by
 unfold yQ aNj;exact ahC l hl hs l.length [] id 0 Az Bf (EW _) (fuel_lt AQ)
def eK (j way:A8 Int):Int:=match way.find? (EN j)with |some x=>((j.findIdx (· ==x):Nat):Int)|none=>(j.length:Int)
def Rh (l:A8 Aa)(j:A8 Int)(id:Int):Int:=eK j (ZC l id)
def alW (l:A8 Aa)(j:A8 Int)(hl:l.length<=1000)(hs:Ea l)(hm:j.length<=100000):∀(m:Nat) (seen:A8 Int) (z id:Int) (N:Nat),seen.length+m=l.length->WG l seen->seen.find? (EN j)=none->m<N->D5 Yu N seen j z id l=some (eK j (Dc l m seen id)):=by
 have q:∀seen:A8 Int,seen.find? (EN j)=none->eK j seen=(j.length:Int):=λseen h=>by unfold eK;rw[h]
 intro m
 induction m with
 |zero=>
  intro seen z id N hm M O hN;obtain⟨N,rfl⟩:∃N',N=N'+1:=⟨N-1,AQ⟩
  have hwl:=M.length;show Yu _ _ _ _ _ _=_;unfold Yu;rw[SPr _ _ AQ,Ox l _ AQ];simp only[Aj];rw[Nw];have he:eK j (Dc l 0 seen id)=(j.length:Int):=q seen O;rw[he];cases U:EN seen id with
  |true=>
   rfl
  |false=>
   cases L:(Eb l id).isSome with
   |false=>
    rfl
   |true=>
    have h2:=(M.snoc (Q7.1 U) L).length;simp only[Ee,Om]at h2;omega
 |succ m ih=>
  intro seen z id N hm M O hN;obtain⟨N,rfl⟩:∃N',N=N'+1:=⟨N-1,AQ⟩
  have hwl:=M.length;show Yu (D5 Yu N) _ _ _ _ _=_;have Y:=λJ z' id' h1 h2 h3=>ih J z' id' N h1 h2 h3 AQ;generalize D5 Yu N=K at Y;unfold Yu a0U;rw[SPr _ _ AQ,Ox l _ AQ,aO2 _ _ AQ];simp only[Aj];rw[Nw];have Z:Dc l (m+1) seen id=bif EN seen id|| !bQ l id then seen else match Pg l (ev l id)with |none=>seen++[id]|some x=>Dc l m (seen++[id]) x:=rfl
  cases U:EN seen id with
  |true=>
   grind
  |false=>
   cases L:(Eb l id).isSome with
   |false=>
    rw[Z,U,show bQ l id=false from L];simp only[OW,JV,Bj];rw[q seen O]
   |true=>
    obtain⟨e,he⟩:=SA.1 L;rw[Z,U,show bQ l id=true from L];simp only[JV,El,O1,Bj,BQ];have u:=aM8 j id;by_cases I:j.findIdx (· ==id)<j.length
    ·rw[ET I,show decide (((j.findIdx (· ==id):Nat):Int)>=0)=true by simp];simp only[Bj];rw[KC I]at u
     have hex:∃t,(match Pg l (ev l id)with |none=>seen++[id]|some x=>Dc l m (seen++[id]) x)=seen++[id]++t:=by
      cases Pg l (ev l id)with
      |none=>
       exact⟨[],Bf⟩
      |some x=>
       exact aWm l m (seen++[id]) x
     obtain⟨t,ht⟩:=hex;rw[ht];unfold eK;rw[aBs,aBs,O];simp[←u]
    rw[Ef I,show decide ((-1:Int)>=0)=false by decide];simp only[BQ];rw[Ic I]at u;rw[Dz G9];simp only[Aj];have hev:(I9 l id).1=ev l id:=rfl
    have hea:(ev l id).bI.length<=40:=by
     have :ev l id=e:=by unfold ev;rw[P7 he]
     rw[this];exact(hs e (JZ he)).auth
    have hf2:(seen++[id]).find? (EN j)=none:=by rw[aBs,O];simp[←u]
    rw[hev,aWn l _ hl hea];simp only[Aj];unfold cG;cases Pg l (ev l id)with
    |none=>
     grind
    |some x=>
     exact Y (seen++[id]) z x Ul (M.snoc (Q7.1 U) L) hf2
def ahs (l:A8 Aa)(j:A8 Int)(id:Int)(hl:l.length<=1000)(hs:Ea l)(hm:j.length<=100000):a7H l j id=some (Rh l j id):=by
 unfold a7H yH aVk;exact alW l j hl hs hm l.length [] 0 id Az Bf ⟨Yq,λx q=>absurd q Gn⟩ rfl (fuel_lt AQ)
def aiK (l:A8 Int)(x:Int)(h:l.length<=100000):aAU l x=some ((l.findIdx (· ==x):Nat):Int):=by
 unfold aAU aOT;rw[KU l (fuel_lt AQ) (· ==x) (λi=>some (i:Int)) (some (l.length:Int))]
 ·grind
 ·intro k i hi;unfold aGp;rw[DF hi]
 intro k;unfold aGp;rw[EL]
def aNe (l:A8 Aa)(j:A8 Int)(id:Int)(hl:l.length<=1000)(hs:Ea l)(hm:j.length<=100000):yM l j id=some (Rh l j id):=by
 unfold yM;rw[aU9 l id hl hs];simp only[Aj];have q:=aRk l id;unfold aQq Rh eK;generalize ZC l id=W at q;rw[KU W (fuel_lt AQ) (EN j) (λi=>some (match W[i]? with |some x=>((j.findIdx (· ==x):Nat):Int)|none=>0)) (some (j.length:Int))]
 ·rw[Kw]
  grind
 ·intro k i h;unfold aDb;rw[DF h,XO _ _ AQ,CU h,EO h];simp only[Aj];rw[aiK _ _ hm];rfl
 intro k;unfold aDb;rw[EL]
def FV (l:A8 Aa)(j:A8 Int)(id:Int):MZ:=⟨id,Rh l j id,(ev l id).Time⟩
def xM (x:MZ):Int×Int×Int:=(x.nR,x.zV,x.Dl)
def J5 (x y:MZ):Ad:=MS (xM x) (xM y)
def AU (l:A8 Aa)(j ids:A8 Int):A8 Int:=(SP J5 ((ids.filter (bQ l)).map (FV l j))).map (·.nR)
def aPT (l:A8 Aa)(j:A8 Int):∀ids:A8 Int,ids.flatMap (λid=>bif bQ l id then[FV l j id]else[])=(ids.filter (bQ l)).map (FV l j)
 | []=>
  rfl
 |i::ids=>by
  rw[P5,aPT l j ids,Uu]
  grind
def ana (s:A8 MZ)(hs:s.length<=1000000)(z:(s.map (·.nR)).Nodup):kF s=some s:=by
 unfold kF;by_cases h2:s.length<2
 ·rw[show decide ((s.length:Int)<2)=true by simp;omega];rfl
 rw[show decide ((s.length:Int)<2)=false by simp;omega];simp only[BQ];unfold aUb;refine dL.eq ?_;refine bU (body:=a2F) (λm a b=>∃i:Nat,a=i/\i+m=s.length/\0<i/\b=s) ?_ Az (s.length-1) 1 s (fuel_lt AQ) ⟨1,rfl,AQ,AQ,rfl⟩;rintro m a b k ⟨i,rfl,hm,hi,rfl⟩ I;unfold a2F;by_cases j:i<b.length
 ·rw[dec_lt j,CU j];simp only[Bj,Aj];have w:BA ((i:Int)-1)=((i-1:Nat):Int):=P8
  have q:i-1<b.length:=AQ
  rw[w,CU q];simp only[Aj]
  have u:b[i].nR≠b[i-1].nR:=by
   have :=JQ.1 z (i-1) i aZ aZ AQ;simp only[Ph]at this;exact λe=>this e.symm
  have J:yI b[i] b[i-1]=false:=by
   unfold yI;rw[show(b[i].nR==b[i-1].nR)=false by simpa using u];rfl
  rw[J,wrap_succ i AQ];exact I (m-1) _ _ AQ ⟨i+1,rfl,AQ,AQ,rfl⟩
 have :i=b.length:=AQ
 subst this;rw[DZ];exact .ret rfl
def aCF (l:A8 Aa)(j:A8 Int)(ids:A8 Int):(ids.map (FV l j)).map (·.nR)=ids:=by
 rw[cO];exact List.map_id' ids
def ah8 (l:A8 Aa)(j ids:A8 Int)(hl:l.length<=1000)(hs:Ea l)(hm:j.length<=100000)(hi:ids.length<=100000)(O:ids.Nodup):a3Q l j ids=some (AU l j ids):=by
 unfold a3Q aTu;rw[Iq (a0:=[]) ids AQ (λr id=>r++bif bQ l id then[FV l j id]else[]) (λi r=>r.length<=i) (λJ=>(a2o J).bind λu=>(kF u).bind λz=>aK8 z [] 0) (EW _)]
 ·rw[foldl_append (λid=>bif bQ l id then[FV l j id]else[]),JJ,aPT];have L:=Lc (bQ l) ids;have I:((ids.filter (bQ l)).map (FV l j)).length<=100000:=aZ
  unfold a2o a4q;rw[ET AQ];simp only[Aj];have e:(SP (λx y:MZ=>MS (x.nR,x.zV,x.Dl) (y.nR,y.zV,y.Dl)) ((ids.filter (bQ l)).map (FV l j)))=SP J5 ((ids.filter (bQ l)).map (FV l j)):=rfl;rw[e];unfold AU;have hp:=dA J5 ((ids.filter (bQ l)).map (FV l j))
  have q:((SP J5 ((ids.filter (bQ l)).map (FV l j))).map (·.nR)).Nodup:=by
   rw[(hp.map (·.nR)).nodup_iff,aCF]
   grind
  have hsl:(SP J5 ((ids.filter (bQ l)).map (FV l j))).length<=100000:=by rw[hp.length_eq];exact I
  generalize SP J5 ((ids.filter (bQ l)).map (FV l j))=S at q hsl;rw[ana S AQ q];simp only[Aj];unfold aK8;rw[Iq (a0:=[]) S AQ (λr x=>r++[x.nR]) (λi r=>r.length<=i) (λr=>some r) (EW _)]
  ·rw[foldl_append (λx:MZ=>[x.nR]),JJ];congr 1;clear q hsl
   induction S with
   |nil=>
    rfl
   |cons x S U=>
    grind
  ·intro k r i h M;refine⟨a1g,?_⟩;unfold aGt;rw[DF h,Dz G9];rfl
  intro k r _;unfold aGt;rw[EL]
 ·intro k r i h M;refine⟨?_,?_⟩
  ·grind
  unfold aJi a8c;rw[DF h,Ox l _ AQ];simp only[Aj];rw[Nw,ahs l j _ hl hs hm];simp only[Aj];rw[Dz G9];unfold bQ;cases(Eb l ids[i]).isSome with
  |true=>
   rfl
  |false=>
   simp
 intro k r _;unfold aJi;rw[EL]
def afs (l:A8 Aa)(j:A8 Int)(a b:Int)(hl:l.length<=1000)(hs:Ea l)(hm:j.length<=100000):a8a l j a b=some (!J5 (FV l j b) (FV l j a)):=by
 unfold a8a;rw[aNe l j a hl hs hm,aNe l j b hl hs hm,NG l a AQ,NG l b AQ];simp only[Aj]
 have q:(!J5 (FV l j b) (FV l j a))=decide (Rh l j b<Rh l j a\/Rh l j a=Rh l j b/\((ev l a).Time<(ev l b).Time\/(ev l a).Time=(ev l b).Time/\a<b)):=by
  rw[Oz,Ui,IQ];exact aRN (xM (FV l j b)) (xM (FV l j a))
 rw[q];show(bif Rh l j a != Rh l j b then some (decide (Rh l j a>Rh l j b))else bif (ev l a).Time != (ev l b).Time then some (decide ((ev l a).Time<(ev l b).Time))else some (decide (a<b)))=_
 grind
def aGL (x y z:MZ)(h:J5 x y=true)(k:J5 y z=true):J5 x z=true:=aBb _ _ _ h k
def aTg (x y:MZ)(h:J5 x y=false):J5 y x=true:=aNk _ _ h
def akB (x y:MZ)(h:J5 x y=true)(k:J5 y x=true):x=y:=by
 have :=aOj _ _ h k;unfold xM at this;cases x;cases y
 grind
def aT (l:A8 Aa)(j:A8 Int)(q:A8 Int)(x:Int):A8 Int:=q.take (q.findIdx λa=>J5 (FV l j x) (FV l j a))++x::q.drop (q.findIdx λa=>J5 (FV l j x) (FV l j a))
def aVM (l:A8 Aa)(j q:A8 Int)(x:Int):(aT l j q x).Perm (x::q):=by
 unfold aT;refine a4H.trans ?_;rw[Ve]
def alj (l:A8 Aa)(j q:A8 Int)(x:Int)(h:q.Pairwise λa b=>J5 (FV l j a) (FV l j b)=true):(aT l j q x).Pairwise λa b=>J5 (FV l j a) (FV l j b)=true:=by
 unfold aT
 have I:∀a∈q.take (q.findIdx λa=>J5 (FV l j x) (FV l j a)),J5 (FV l j a) (FV l j x)=true:=by
  intro a ha;obtain⟨i,hi,rfl⟩:=G8 ha;have z:i<q.findIdx λa=>J5 (FV l j x) (FV l j a):=by simp at hi;omega
  have :=aHh z;rw[nT];exact aTg _ _ a4o
 have ha:∀d∈q.drop (q.findIdx λa=>J5 (FV l j x) (FV l j a)),J5 (FV l j x) (FV l j d)=true:=by
  intro d hd;obtain⟨i,hi,rfl⟩:=G8 hd;rw[LY]at hi;have u:(q.findIdx λa=>J5 (FV l j x) (FV l j a))<q.length:=AQ
  have J:=List.findIdx_getElem (w:=u);rw[aHX];rcases Vb i with rfl|hp
  ·simpa using J
  exact aGL _ _ _ J (JQ.1 h _ _ u AQ AQ)
 refine Yf.2 ⟨h.sublist (List.take_sublist _ _),QY.2 ⟨ha,h.sublist (List.drop_sublist _ _)⟩,λa h1 b h2=>?_⟩;rcases FM.1 h2 with rfl|h2
 ·exact I a h1
 exact aGL _ _ _ (I a h1) (ha b h2)
def Zv (l:A8 Aa)(j:A8 Int)(q:A8 Int)(x:Int):A8 Int:=bif bQ l x then aT l j q x else q
def amh (l:A8 Aa)(j ids:A8 Int):ids.foldl (Zv l j) []=AU l j ids:=by
 have key:∀(ids q:A8 Int),q.Pairwise (λa b=>J5 (FV l j a) (FV l j b)=true)->(ids.foldl (Zv l j) q).Pairwise (λa b=>J5 (FV l j a) (FV l j b)=true)/\(ids.foldl (Zv l j) q).Perm (ids.filter (bQ l)++q):=by
  intro ids
  induction ids with
  |nil=>
   grind
  |cons x ids u=>
   intro q h;rw[Fl,Uu];unfold Zv;cases bQ l x with
   |false=>
    exact u q h
   |true=>
    obtain⟨h1,h2⟩:=u (aT l j q x) (alj l j q x h);refine⟨h1,h2.trans ?_⟩;simp only[KL,Zz];exact((aVM l j q x).append_left _).trans a4H
 obtain⟨h1,h2⟩:=key ids [] .nil;rw[UC]at h2;unfold AU
 have h3:(ids.foldl (Zv l j) []).map (FV l j)=SP J5 ((ids.filter (bQ l)).map (FV l j)):=
  aTp aGL aTg akB (h2.map _) (cu.2 h1)
 rw[←h3,aCF]
def agI (l:A8 Aa)(q ids:A8 Int)(hl:l.length<=1000)(hs:Ea l)(hm:q.length<=100000)(hi:ids.length<=100000)(O:ids.Nodup):a4Z l q ids=some (AU l q ids):=by
 unfold a4Z aVt;rw[Iq (a0:=[]) ids AQ (Zv l q) (λi r=>r.length<=i/\∀x∈r,x∈ids.take i) (λr=>some r) ⟨EW _,λx I=>absurd I Gn⟩]
 ·rw[amh]
 ·intro k r i h ⟨U,J⟩;have u:ids.take (i+1)=ids.take i++[ids[i]]:=OM h
  have M:EN r ids[i]=false:=Q7.2 λhm=>by
   obtain⟨j,z,e⟩:=G8 (J _ hm);rw[nT]at e;rw[H7]at z;exact JQ.1 O j i AQ h AQ e
  refine⟨?_,?_⟩
  ·unfold Zv;cases bQ l ids[i]with
   |false=>
    grind
   |true=>
    have hp:=aVM l q r ids[i];refine⟨?_,λx I=>?_⟩
    ·show(aT l q r ids[i]).length<=i+1;rw[hp.length_eq,GH];omega
    rw[u];rcases FM.1 (hp.mem_iff.1 I)with rfl|I
    ·exact a6Z _ (Jd.2 rfl)
    exact yZ _ (J x I)
  unfold aCC a0W;rw[DF h,NG l _ AQ,CU h];simp only[Aj];rw[XO _ _ AQ,M,Nw];unfold Zv bQ;cases(Eb l ids[i]).isSome with
  |false=>
   rfl
  |true=>
   simp only[El,BQ,Aj,Bj];unfold aVf
   have L:∀(k2:Int->AB (A8 Int)) (j:Nat),j<=r.length->a1K k2 (j:Int) r ids (i:Int) k false=k (r.take j++ids[i]::r.drop j) (BA ((i:Int)+1)):=by
    intro k2 j z;unfold a1K a0W;simp only[BQ];rw[Xl z];simp only[Aj];rw[Dz Ej];simp only[Aj,JJ];rw[yV z,CU h];simp only[Aj];rw[Dz Ej];simp only[Aj];rw[Dz Ej];simp
   rw[KU r (fuel_lt AQ) (λa=>J5 (FV l q ids[i]) (FV l q a)) (λj=>k (r.take j++ids[i]::r.drop j) (BA ((i:Int)+1))) (k (r.take r.length++ids[i]::r.drop r.length) (BA ((i:Int)+1)))]
   ·unfold aT;split
    ·rfl
    rename_i h2
    have :(r.findIdx λa=>J5 (FV l q ids[i]) (FV l q a))=r.length:=by
     grind
    rw[this]
   ·intro k2 j z;unfold aCm;rw[dec_lt z,CU z,CU h];simp only[Bj,Aj];rw[afs l q _ _ hl hs hm];simp only[Aj];cases J5 (FV l q ids[i]) (FV l q r[j])with
    |true=>
     grind
    |false=>
     rfl
   intro k2;unfold aCm;rw[DZ];simp only[BQ];rw[L k2 r.length (EW _)]
 intro k r _;unfold aCC;rw[EL]
def ako:x∈AU l j ids↔x∈ids/\bQ l x=true:=by
 unfold AU;rw[((dA J5 ((ids.filter (bQ l)).map (FV l j))).map (·.nR)).mem_iff,aCF,Gs]
def aht (l:A8 Aa)(j ids:A8 Int):(AU l j ids).length<=ids.length:=by
 unfold AU;rw[Df,(dA _ _).length_eq,Df]
 grind
def Pn (c:Int):Ad:=(decide (c>=97)&&(c<=122))||(decide (c>=48)&&(c<=57))
def aPG (c:Int):mM c=some (Pn c):=by
 unfold mM Pn
 grind
def aFU (c:Int):dH c=some (Pn c):=by
 unfold dH Pn
 grind
def Rn (l:A8 Int)(p:Int->Ad):Ad:=decide ((l.length:Int)>=1)&&((l.length:Int)<=32)&&l.all λc=>Pn c||p c
def isLocal (c:Int):Ad:=c==95||c==46||c==45||c==61
def Xu (c:Int):Ad:=c==46||c==45
def YN (l:A8 Int):Ad:=Rn l isLocal
def Zr (l:A8 Int):Ad:=Rn l Xu&&Pn (l.getD 0 0)&&Pn (l.getD (l.length-1) 0)
def aHM (h:n<=9223372036854775807):n<Az:=oM
variable {s:BP}
def aNy (hs:s.size<=9223372036854775807)(f:Int->AB Ad)(p:Int->Ad)(j:∀c,f c=some (p c)):dO s f=some (Rn (DL s) p):=by
 have hl:aIa s f 0=some ((DL s).all λc=>Pn c||p c):=by
  unfold aIa;rw[Hl (DL s) Yb (λc=> !(Pn c||p c)) false (some true) ?_ ?_,Lu,aIB]
  ·intro k i h;have h':i<s.size:=Xy
   simp only[aBy,dec_lt h',Bj,WH h,aPG,j,Aj]
   grind
  intro k;simp only[aBy,JI,DZ,BQ]
 unfold dO Rn;rw[hl,JI]
 grind
def akC (hs:s.size<=9223372036854775807):dO s (λa0=>a0R a0)=some (Rn (DL s) isLocal):=aNy hs _ isLocal (λc=>by unfold a0R isLocal;cases c==95<;>cases c==46<;>cases c==45<;>cases c==61<;>rfl)
def aXL (hs:s.size<=9223372036854775807):dO s (λa0=>xq a0)=some (Rn (DL s) Xu):=aNy hs _ Xu (λc=>by unfold xq Xu;cases c==46<;>cases c==45<;>rfl)
def aYq (hs:s.size<=9223372036854775807):a1e s=some (YN (DL s)):=by
 unfold a1e YN;rw[akC hs];rfl
def a5B (h:0<s.size):Ig s 0=some ((DL s).getD 0 0):=by
 have h':0<(DL s).length:=a4v
 rw[aa2 h'];simp[List.getD,h']
def aTx (h:0<s.size)(hs:s.size<=9223372036854775807):Ig s (BA ((s.size:Int)-1))=some ((DL s).getD ((DL s).length-1) 0):=by
 have h':s.size-1<(DL s).length:=by rw[JI];omega
 rw[Oh AQ AQ,show(s.size:Int)-1=((s.size-1:Nat):Int) by omega,WH h'];have h2:(DL s).length-1=s.size-1:=by rw[JI]
 rw[h2];simp[List.getD,h']
def aMO {l:A8 Int}{p:Int->Ad}(h:Rn l p=true):0<l.length/\l.length<=32:=by
 unfold Rn at h
 grind
def aXJ (hs:s.size<=9223372036854775807):a2l s=some (Zr (DL s)):=by
 unfold a2l Zr;rw[aXL hs];simp only[Aj];cases j:Rn (DL s) Xu with
 |false=>rfl
 |true=>
  have hp:0<s.size:=by have :=(aMO j).1;rwa [JI]at this
  simp only[Bj,a5B hp,aTx hp hs,aPG,Aj];cases Pn ((DL s).getD 0 0)<;>simp
def abn (hs:s.size<=9223372036854775807):a2n s=some (bif Zr (DL s)then 0 else 3):=by
 have hl:aBV s 0=some (bif (DL s).all λc=>Pn c||Xu c then 0 else 3):=by
  unfold aBV;rw[Hl (DL s) Yb (λc=> !(Pn c||Xu c)) 3 (some 0) ?_ ?_,Lu,←aIB]
  ·grind
  ·intro k i h;have h':i<s.size:=Xy
   simp only[aKS,dec_lt h',Bj,WH h,aFU,Aj,Xu,bne]
   grind
  intro k;simp only[aKS,JI,DZ,BQ]
 have j:decide ((s.size:Int)>=1)= !decide ((s.size:Int)<1):=by by_cases h:(s.size:Int)<1<;>simp[h]<;>omega
 have q:decide ((s.size:Int)<=32)= !decide ((s.size:Int)>32):=by by_cases h:(s.size:Int)>32<;>simp[h]<;>omega
 unfold a2n Zr Rn;rw[hl];rw[show((DL s).length:Int)=(s.size:Int) by rw[JI],j,q];by_cases h1:(s.size:Int)<1
 ·simp[h1]
 have hp:0<s.size:=AQ
 simp only[a5B hp,aTx hp hs,aFU,Aj];cases decide ((s.size:Int)<1)<;>cases decide ((s.size:Int)>32)<;>cases Pn ((DL s).getD 0 0)<;>cases Pn ((DL s).getD ((DL s).length-1) 0)<;>cases((DL s).all λc=>Pn c||Xu c)<;>rfl
def amC (hs:s.size<=9223372036854775807):a5i s=some (YN (DL s)):=by
 unfold a5i aPU;rw[Hl (DL s) Yb (λc=> !(Pn c||isLocal c)) false (some (decide ((s.size:Int)>=1)&&((s.size:Int)<=32))) ?_ ?_]
 ·unfold YN Rn;rw[←aIB,JI]
  grind
 ·intro k i h;have h':i<s.size:=Xy
  simp only[aHs,dec_lt h',Bj,WH h,aFU,Aj,isLocal,bne]
  grind
 intro k;simp only[aHs,JI,DZ,BQ]
 grind
def aX3 (s:BP):(DL s).length=s.data.toList.length:=by simp[DL]
def Gt (s:BP):Nat:=(DL s).findIdx (· ==58)
def aEx (s:BP):Gt s<=s.size:=by unfold Gt;rw[←JI];exact a3B
def aUa (hs:s.size<=9223372036854775807):Fn2 s=some (Gt s:Int):=by
 unfold Fn2 aVK;rw[KU (DL s) Yb (· ==58) (λi=>some (i:Int)) (some (s.size:Int)) ?_ ?_]
 ·have :=aEx s;by_cases h:(DL s).findIdx (· ==58)<(DL s).length
  ·rw[ET h];rfl
  rw[Ef h];congr 2;unfold Gt at this ⊢;rw[JI]at h;omega
 ·intro k i h;have h':i<s.size:=Xy
  simp only[aCQ,dec_lt h',Bj,WH h,Aj,bne]
  grind
 intro k;simp only[aCQ,JI,DZ,BQ,Aj]
def WC (s:BP):BP:=s.extract 1 (Gt s)
def Tc (s:BP):BP:=s.extract (Gt s+1) s.size
def WE (s:BP):Ad:=decide (Gt s<s.size)&&YN (DL (WC s))&&Zr (DL (Tc s))
def IX (s:BP)(m:Int):Ad:=decide (0<s.size)&&(DL s).getD 0 0==m&&WE s
def extract_size (s:BP)(a b:Nat):(s.extract a b).size<=s.size:=by rw[aKr];omega
def aNQ (h:0<s.size)(hm:(DL s).getD 0 0≠58):1<=Gt s:=by
 unfold Gt;have hl:0<(DL s).length:=a4v
 grind
def a1x (hs:s.size<=9223372036854775807){m:Int}(hm:m≠58):eI s m=some (IX s m):=by
 unfold eI IX;by_cases j:0<s.size
 ·rw[show decide ((s.size:Int)<1)=false from by simp;omega,show decide (0<s.size)=true by simpa using j];simp only[BQ,a5B j,Aj,bne];cases u:(DL s).getD 0 0==m with
  |false=>rfl
  |true=>
   have q:(DL s).getD 0 0=m:=Ql
   have h1:=aNQ j (by rw[q];exact hm);have h2:=aEx s;simp only[El,BQ,aUa hs,Aj,Fv];unfold WE;by_cases h3:Gt s<s.size
   ·have z:Oj s 1 (Gt s:Int)=some (WC s):=kY (lo:=1) h1 h2
    have I:Oj s (BA ((Gt s:Int)+1)) (s.size:Int)=some (Tc s):=by
     rw[Oh AQ AQ,show(Gt s:Int)+1=((Gt s+1:Nat):Int) by omega];exact kY AQ (EW _)
    rw[show decide ((Gt s:Int)<(s.size:Int))=true from by simpa using h3,show decide (Gt s<s.size)=true by simpa using h3];have J:(WC s).size<=9223372036854775807:=EI (extract_size _ _ _) hs;have L:(Tc s).size<=9223372036854775807:=EI (extract_size _ _ _) hs;simp only[Bj,z,I,amC J,abn L,Aj];cases YN (DL (WC s))<;>cases Zr (DL (Tc s))<;>rfl
   rw[show decide ((Gt s:Int)<(s.size:Int))=false from by simpa using h3,show decide (Gt s<s.size)=false by simpa using h3];rfl
 rw[show decide ((s.size:Int)<1)=true from by simp;omega,show decide (0<s.size)=false by simpa using j];rfl
def splitB (s:BP)(b:Ad):BP×BP×Ad:=bif b then(WC s,Tc s,true)else(CX,CX,false)
def aZa (b c:UInt8):(b==c)=(((b.toNat:Nat):Int)==((c.toNat:Nat):Int)):=by
 by_cases h:b=c
 ·subst h;simp
 have :¬b.toNat=c.toNat:=λe=>h (UInt8.toNat_inj.1 e)
 grind
def aPg (s:BP)(c:UInt8):s.data.toList.findIdx (· ==c)=(DL s).findIdx (· ==((c.toNat:Nat):Int)):=by
 unfold DL;rw[List.findIdx_map];congr 1;funext b;exact aZa b c
def af9 (s:BP):∀x∈DL s,0<=x/\x<256:=by
 intro x j;unfold DL at j;rw[FT]at j;obtain⟨c,_,rfl⟩:=j;have :=c.toNat_lt;omega
def getD_mem (h:0<s.size):(DL s).getD 0 0∈DL s:=by
 have hl:0<(DL s).length:=a4v
 have e:(DL s).getD 0 0=(DL s)[0]:=by simp[List.getD,hl]
 grind
def agz (marks:BP){c:Int}(j:0<=c)(h1:c<256):decide (Lib.indexByte marks.data.toList c.toNat.toUInt8<0)= !(DL marks).contains c:=by
 have e:(((c.toNat.toUInt8).toNat:Nat):Int)=c:=by
  rw[Nat.toUInt8,UInt8.toNat_ofNat'];omega
 rw[aKc,aPg,e,←aX3 marks]
 grind
def aMk (s:BP)(a b:Nat):(s.extract 1 s.size).extract a b=s.extract (1+a) (min (1+b) s.size):=by
 refine bytes_inj ?_;simp only[aVZ];have :(DL s).take s.size=DL s:=Qx (by rw[JI];omega);rw[this,List.take_drop,aDY]
 grind
def ahe (h:0<s.size)(hm:(DL s).getD 0 0≠58):(DL (s.extract 1 s.size)).findIdx (· ==58)+1=Gt s:=by
 unfold Gt;rw[aVZ];have :(DL s).take s.size=DL s:=Qx (by rw[JI];omega);rw[this];have hl:0<(DL s).length:=a4v
 match j:DL s with
 | []=>rw[j]at hl;simp at hl
 |c::l=>
  rw[j]at hm;simp only[List.getD_cons_zero]at hm;rw[YF,show(c==58)=false from by simpa using hm];rfl
def agb (hs:s.size<=9223372036854775807)(h:0<s.size)(hm:(DL s).getD 0 0≠58):∃a b,strings_Cut (s.extract 1 s.size) a0e=some (a,b,decide (Gt s<s.size))/\(Gt s<s.size->a=WC s/\b=Tc s):=by
 have h1:=aNQ h hm;have h2:=aEx s;have I:=ahe h hm;have j:(s.extract 1 s.size).size=s.size-1:=by rw[aKr];omega
 have q:a8R (s.extract 1 s.size) a0e=some (if Gt s<s.size then((Gt s-1:Nat):Int)else -1):=by
  show some (Lib.indexByte (s.extract 1 s.size).data.toList 58)=_;rw[aKc,aPg,←aX3 (s.extract 1 s.size)];show some (if(DL (s.extract 1 s.size)).findIdx (· ==58)<_ then(((DL (s.extract 1 s.size)).findIdx (· ==58):Nat):Int)else -1)=_;rw[JI,j]
  grind
 unfold strings_Cut aFZ;rw[q,Aj];by_cases h3:Gt s<s.size
 ·rw[ET h3,show decide (((Gt s-1:Nat):Int)>=0)=true from by simp,show decide (Gt s<s.size)=true by simpa using h3];have u:Oj (s.extract 1 s.size) 0 ((Gt s-1:Nat):Int)=some ((s.extract 1 s.size).extract 0 (Gt s-1)):=kY (lo:=0) AQ AQ
  have z:Oj (s.extract 1 s.size) (BA (((Gt s-1:Nat):Int)+(a0e.size:Int))) ((s.extract 1 s.size).size:Int)=some ((s.extract 1 s.size).extract (Gt s) (s.size-1)):=by
   rw[show(a0e.size:Int)=1 from rfl,Oh AQ AQ,show((Gt s-1:Nat):Int)+1=((Gt s:Nat):Int) by omega,j];exact kY AQ AQ
  simp only[Bj,u,z,Aj];refine⟨_,_,rfl,λ_=>⟨?_,?_⟩⟩
  ·rw[aMk];unfold WC;congr 1;omega
  rw[aMk];unfold Tc;rw[Vx 1 (Gt s)];congr 1;omega
 rw[Ef h3,show decide ((-1:Int)>=0)=false from rfl,show decide (Gt s<s.size)=false by simpa using h3];exact⟨_,_,rfl,λh=>absurd h h3⟩
def aK7 (hs:s.size<=9223372036854775807){marks:BP}(u:∀m∈DL marks,m≠58):pJ s marks=some (splitB s ((DL marks).any λm=>IX s m)):=by
 unfold pJ;by_cases q:0<s.size
 ·have z:(s.toList==CX.toList)=false:=by
   rw[Ja];simp only[mV];intro e;rw[e]at q;exact absurd q Bl
  have I:=af9 s _ (getD_mem q)
  have j:((DL marks).any λm=>IX s m)=((DL marks).contains ((DL s).getD 0 0)&&WE s):=by
   unfold IX
   grind
  rw[z,j];simp only[BQ,a5B q,Aj,strings_IndexByte,agz marks I.1 I.2];cases J:(DL marks).contains ((DL s).getD 0 0)with
  |false=>
   rfl
  |true=>
   have hm:(DL s).getD 0 0≠58:=u _ jw;obtain⟨a,b,L,M⟩:=agb hs q hm;have O:Oj s 1 (s.size:Int)=some (s.extract 1 s.size):=kY (lo:=1) AQ (EW _);simp only[El,BQ,O,L,Aj,Fv];unfold WE;cases h3:decide (Gt s<s.size)with
   |false=>
    rfl
   |true=>
    obtain⟨rfl,rfl⟩:=M (PI h3);have U:(WC s).size<=9223372036854775807:=EI (extract_size _ _ _) hs;have Y:(Tc s).size<=9223372036854775807:=EI (extract_size _ _ _) hs;simp only[El,BQ,aYq U,aXJ Y,Aj];cases YN (DL (WC s))<;>cases Zr (DL (Tc s))<;>rfl
 have Z:s.size=0:=AQ
 have he:s=CX:=bytes_inj (by
  have h1:DL s=[]:=He (by rw[JI];exact Z)
  rw[h1];rfl)
 have j:((DL marks).any λm=>IX s m)=false:=by
  rw[jy];intro m _;unfold IX;rw[show decide (0<s.size)=false by simpa using q];simp
 rw[j,he,show(CX.toList==CX.toList)=true from by simp];rfl
def L9 (s:BP):Ad:=IX s 64||(IX s 33||false)
def acB (hs:s.size<=9223372036854775807):pJ s a6i=some (splitB s (L9 s)):=
 aK7 hs (marks:=a6i) (by rw[show DL a6i=[64,33]from rfl];intro m hm;simp only[FM,Gn,or_false]at hm;omega)
def aUW (h:WE s=true):Gt s<s.size:=by unfold WE at h;simp only[DR,IQ]at h;exact h.1.1
def qy (hs:s.size<=9223372036854775807):lJ s=some (splitB s (L9 s)).2.1/\oU s=some (splitB s (L9 s)).2.1:=by
 have z:Gt s<s.size->Oj s (BA ((Gt s:Int)+1)) (s.size:Int)=some (Tc s):=λh3=>by
  rw[Oh AQ AQ,show(Gt s:Int)+1=((Gt s+1:Nat):Int) by omega];exact kY AQ (EW _)
 unfold lJ oU;rw[acB hs,a1x hs Bl,a1x hs Bl,aUa hs];refine⟨rfl,?_⟩;unfold L9;cases j:IX s 64 with
 |true=>
  have u:=aUW (s:=s) (by unfold IX at j;simp only[DR]at j;exact j.2);simp only[Aj,El,BQ,z u,Bool.true_or];rfl
 |false=>
  cases q:IX s 33 with
  |true=>
   have u:=aUW (s:=s) (by unfold IX at q;simp only[DR]at q;exact q.2);simp only[Aj,El,JV,BQ,Bj,z u,OW,Bool.true_or];rfl
  |false=>rfl
end Go.Proofs.YtfmoknlmaldmlaaGreat
