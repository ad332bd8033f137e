/- Part 6 of the laws' proofs (short forms by wip/shrink2.py). -/
import Derived.Test.YtfmoknlmaldmlaaGreatRk5
set_option linter.defProp false
set_option linter.unnecessarySimpa false
set_option linter.unusedSectionVars false
set_option linter.unusedVariables false
set_option linter.unusedSimpArgs false
namespace Go.Proofs.YtfmoknlmaldmlaaGreat
open Go.RowKit Go.Proofs.Tryz
section
set_option maxRecDepth 20000
set_option maxHeartbeats 4000000
def aGO (j:C9)(q:(Int->AB Int)):Int->AB Int:=λu=>(bif u<(j.Waiting.length:Int) then(Aq j.Waiting u).bind λz=>(aBF j.Events z).bind λI=>(bif I then some 26 else q (Aw (u+1)))else(bif (j.Waiting.length:Int)>200 then some 29 else some 0))
def aHU (j:C9):Int->AB Int:=bC (aGO j) Ar
def aEJ (j:C9)(u:(Int->AB Int)):Int->AB Int:=λq=>(bif q<(j.Waiting.length:Int) then(Aq j.Waiting q).bind λz=>(LK j.Events z.Id).bind λI=>(bif I.2 then some 4 else u (Aw (q+1)))else aHU j 0)
def aQ7 (j:C9):Int->AB Int:=bC (aEJ j) Ar
def a5u (j:C9):AB Int:=(zJ j j.Waiting).bind λq=>(bif (q != 0)then some q else aQ7 j 0)
def afI :=Dk func80 rfl a5u IV AY λj r h=>AZ<|AO h λq u h=>AP 3<|.X (aOA u)<|Aa<|AZ<|BJ h CJ λh=>Aa<|AZ<|Am<|Du (λq=>⟨BA 54 [(1,.ptr 0 0),(4,AY q)],[.box (BD (Cb j))],0⟩) _ _ _ (Ae [AV 0]) h<|λq u I z h=>Aa<|AP 3<|.Z (BK BF j.Waiting)<|Bo h (λh=>Aa<|Am<|Bv h λq u z J h=>dW [Td 5 (Go.Op.indexAddr 22 (Go.Operand.tmp 26) (Go.Operand.tmp 27)) (λq I z=>Yq (k:=.i64) BF u NU IY AA z),Yj 8 (Me J) ag5] 66<|a0I) λh=>Cj<|Aa<|AZ<|Am<|Du (λq=>⟨BA 54 [(1,.ptr 0 0),(7,AY q)],[.box (BD (Cb j))],0⟩) _ _ _ (Ae [AV 0]) h<|λq u I z h=>Aa<|AP 3<|.Z (BK BF j.Waiting)<|Bo h (λh=>Aa<|Am<|Bv h λq u z J h=>F9 AA AA AA (.a 5<|.p (BH BF u)<|.a 1<|.ca (ab8 J)<|.nil _)<|BJ h CJ λh=>YD) λh=>Cj<|Aa<|AP 2<|.Z (BK BF j.Waiting)<|JO
def a2y (k3:(AU->Int->AB AU))(v2:Int)(j:AU):AB AU:=k3 j (Aw (v2+1))
def aFj (j:Ah)(q:Fz)(k3:(AU->Int->AB AU)):AU->Int->AB AU:=λu v2=>(bif v2<(j.length:Int) then(Aq j v2).bind λL=>(Yg q L.Id).bind λJ=>(bif J.2 then some (J.1.Err==0)else some false).bind λM=>(bif M then(Aq j v2).bind λz=>(DL 8 u [z.Id]).bind λI=>a2y k3 v2 I else a2y k3 v2 u)else some u)
def aVn (j:Ah)(q:Fz):AU->Int->AB AU:=aQ (aFj j q) Ar
def aAH (j:Ah)(q:Fz):AB AU:=aVn j q [] 0
def aeF :=GZ func243 rfl aAH BN Tq Ci λj q r h=>BP<|.f (Cc 3 1)<|.aY<|BP<|.f (Cc 3 1)<|.aY<|Aa<|AZ<|Am<|DW (λI u=>⟨BA 40 [(0,BN j),(1,Tq q),(5,.aS 0),(6,AY u)],[(Ci I)],0⟩) _ _ _ _ (Ae [AV 1]) h<|λI u z L J h=>Aa<|AP 2<|.Z (BK BF j)<|Bo h (λh=>DC (λs=>∃(M:(A8 Int)),CP s ⟨BA 40 [(0,BN j),(1,Tq q),(5,.aS 0),(6,AY J)],[(Ci M)],0⟩/\a2y u J M=some r) (by rintro s ⟨M,hs,h⟩;exact DK hs<|X8)<|λI=>Am<|Bv h λu z J O h=>AP 3<|.p (BH BF z)<|.a 2<|.X (a1X O)<|AP 1<|AO h λu z h=>.mg 26 4 (Af u) (.bi z)<|.aY<|BJ h (λh=>Bv h λu z L J h=>CZ<|.a 3<|.p (BH BF z)<|.a 2<|.p (EI Dx zero3 [Ac u.Id])<|.f (Dv (k:=0) Ac J Dx AA (λ_=>rfl) Bj)<|.aN<|I _ ⟨L,Ae [AV 2],h⟩) λh=>I _ ⟨L,Ae [AV 0],h⟩) λh=>JE
def aBQ (j:(AU->Int->AB AU))(q:Int)(u:AU):AB AU:=j u (Aw (q+1))
def a3d (j:(AX->Int->AU->AB AU))(z:Int)(q:AX)(u:AU):AB AU:=j q (Aw (z+1)) u
def cD (j:(AX->Int->AU->AB AU))(z:Int)(q:AU)(I:AX)(u:AX):AB AU:=(bif u then a3d j z false q else a3d j z I q)
def aHZ (L:AU)(z:Ah)(I:Int)(k4:(AU->Int->AB AU))(q:(AX->Int->AU->AB AU)):AX->Int->AU->AB AU:=λM u j=>(bif u<(L.length:Int) then(Aq L u).bind λO=>(LK z O).bind λJ=>(bif J.2 then(bif (u != I)then(Aq L I).bind λU=>(Tj J.1.bH U).bind λY=>cD q u j M Y else cD q u j M false)else cD q u j M false)else(bif M then(Aq L I).bind λZ=>(DL 8 j [Z]).bind λx27=>aBQ k4 I x27 else aBQ k4 I j))
def aQp (q:AU)(j:Ah)(u:Int)(z:(AU->Int->AB AU)):AX->Int->AU->AB AU:=iZ (aHZ q j u z) Ar
def aHT (q:AU)(j:Ah)(z:(AU->Int->AB AU)):AU->Int->AB AU:=λv2 u=>(bif u<(q.length:Int) then aQp q j u z true 0 v2 else some v2)
def aN0 (q:AU)(j:Ah):AU->Int->AB AU:=aQ (aHT q j) Ar
def aA1 (q:Ah)(j:AU):AB AU:=(qZ j).bind λu=>aN0 u q [] 0
def aYS :=GZ func242 rfl aA1 BN Bg Ci λj IL r h=>BP<|.f (Cc 3 1)<|.aY<|AO h λu q h=>AP 1<|.X (aGV q).view<|BP<|.Y (Hy Dx zero3 [])<|Aa<|AZ<|Am<|DW (λq z=>⟨BA 60 [(0,BN j),(5,Bg u),(6,.aS 0),(7,AY z)],[(Ci q)],0⟩) _ _ _ _ (Ae [AV 1]) h<|λq z I J L h=>Aa<|AP 2<|.Z (BK Ac u)<|Bo h (λh=>DC (λs=>∃(v6:(A8 Int)),CP s ⟨BA 60 [(0,BN j),(5,Bg u),(6,.aS 0),(7,AY L)],[(Ci v6)],0⟩/\aBQ z L v6=some r) (by rintro s ⟨v6,hs,h⟩;exact DK hs<|UF)<|λq=>Am<|AZ<|Aa<|AZ<|Am<|Qm (λq z I=>⟨BA 60 [(0,BN j),(5,Bg u),(6,.aS 0),(7,AY L),(8,Af q),(9,AY z)],[(Ci I)],0⟩) _ _ _ _ _ (Ae [AV 0]) h<|λz I J Y x8 Z h=>Aa<|AP 2<|.Z (BK Ac u)<|Bo h (λh=>DC (λs=>∃(M:AX) (O:(A8 Int)),CP s ⟨BA 60 [(0,BN j),(5,Bg u),(6,.aS 0),(7,AY L),(8,Af M),(9,AY x8)],[(Ci O)],0⟩/\a3d I x8 M O=some r) (by rintro s ⟨M,O,hs,h⟩;exact DK hs<|DJ<|J _ _ _ _ (Ae [AV 0]) h)<|λq=>Am<|Bv h λz J x10 x11 h=>AP 3<|.p (BH Ac J)<|.a 1<|.X (Me x11)<|DC (λs=>∃(U:AX),CP s ⟨BA 60 [(0,BN j),(5,Bg u),(6,.aS 0),(7,AY L),(8,Af Y),(9,AY x8),(50,Af U)],[(Ci Z)],0⟩/\cD I x8 Z Y U=some r) (by rintro s ⟨U,hs,h⟩;exact DK hs<|BJ h (λh=>DJ<|q _ ⟨false,Z,Ae [AV 0],h⟩) λh=>q _ ⟨Y,Z,Ae [AV 0],h⟩)<|λu=>EU h (λq h=>EU h (λz h=>Bv h λI J L Y h=>DV AA AA AA (.a 1<|.c (BG some q)<|.a 4<|.c (BG some z)<|.a 4<|.p (BH Ac J)<|.a 1<|.ca (X0 Y)<|.a 1<|.nil _)<|u _ ⟨L,Ae [AV 0],h⟩) λz h=>DV AA AA AA (.a 1<|.c (BG some q)<|.a 4<|.c (BG some z)<|.a 8<|.nil _)<|u _ ⟨false,Ae [AV 0],h⟩) λq h=>DV AA AA AA (.a 1<|.c (BG some q)<|.a 13<|.nil _)<|u _ ⟨false,Ae [AV 0],h⟩) λh=>Cj<|AZ<|BJ h (λh=>Bv h λu z I J h=>CZ<|.a 3<|.p (BH Ac z)<|.a 1<|.p (EI Dx zero3 [Ac u])<|.f (Dv (k:=0) Ac J Dx AA (λ_=>rfl) Bj)<|.aN<|q _ ⟨I,Ae [AV 1],h⟩) λh=>q _ ⟨Z,Ae [AV 0],h⟩) λh=>JE
def zM (j:Ah)(q:Fz):AB AU:=(aAH j q).bind λu=>(aA1 j u).bind λz=>some z
def aSf :=GZ func157 rfl zM BN Tq Ci λj q r h=>BP<|.f (Cc 3 1)<|.aY<|Bv h λu z J I h=>AP 3<|.ca (aeF z).view<|.Y (x:=.aS 1) (Jo [BN j,Bg u] (aYS I))<|KA
def aAe (j:Ah):AB AU:=(nV j).bind λq=>(zM j q).bind λu=>some u
def aV6 :=L8 func81 rfl aAe BN Ci λj r h=>BP<|.f (Cc 3 1)<|.aY<|Bv h λq u I z h=>AP 2<|.ca (aCU u).view<|.Y (x:=.aS 1) (Jo [BN j,Tq q] (aSf z))<|KA
def aEU (j:AU)(q:AU)(k3:(Int->AB AX)):Int->AB AX:=λv2=>(bif v2<(j.length:Int) then(Aq j v2).bind λu=>(Aq q v2).bind λz=>(bif (u != z)then some false else k3 (Aw (v2+1)))else some true)
def aS4 (j:AU)(q:AU):Int->AB AX:=bC (aEU j q) Ar
def a5K (j:AU)(q:AU):AB AX:=(bif ((j.length:Int) != (q.length:Int))then some false else aS4 j q 0)
def aWm :=DZ func37 rfl a5K Bg Bg Af λj q r h=>AZ<|Aa<|AP 1<|.p (BK Ac j)<|.a 1<|.Z (BK Ac q)<|BJ h CJ λh=>Aa<|AZ<|Am<|Du (λu=>⟨BA 26 [(0,Bg j),(1,Bg q),(5,AY u)],[],0⟩) _ _ _ (Ae []) h<|λu z I J h=>Aa<|AP 2<|.Z (BK Ac j)<|Bo h (λh=>Aa<|Am<|Bv h λu z J L h=>F9 AA AA AA (.a 2<|.p (BH Ac z)<|.a 3<|.p (BH Ac L)<|.a 2<|.nil _)<|BJ h CJ λh=>Sz) λh=>Eo
def aDQ (I:AU)(j:Fz)(q:Ah)(J:(Fr->Int->AB Bc)):Fr->Int->AB Bc:=λv2 u=>(bif u<(I.length:Int) then(Aq I u).bind λL=>(Yg j L).bind λM=>(DL 24 v2 [M.1.After]).bind λO=>J O (Aw (u+1))else(bif ((v2.length:Int)==0)then some []else(rW q v2).bind λz=>some z))
def aS5 (u:AU)(j:Fz)(q:Ah):Fr->Int->AB Bc:=aQ (aDQ u j q) Ar
def a2Z (j:Ah)(q:Fz):AB Bc:=(zM j q).bind λu=>aS5 u q j [] 0
def aXY :=DZ func158 rfl a2Z BN Tq Dh λq u r h=>AZ<|AO h λz j h=>AP 2<|.X (aSf j).view<|BP<|.f (Cc 41 1)<|.aY<|Aa<|AZ<|Am<|DW (λj I=>⟨BA 39 [(0,BN q),(1,Tq u),(5,Bg z),(6,.aS 0),(7,AY I)],[.arr 41 1 (List.map (BZ BX) j)],0⟩) _ _ _ _ (Ae [AV 0]) h<|λj I L J M h=>Aa<|AP 2<|.Z (BK Ac z)<|Bo h (λh=>Aa<|Am<|Bv h λz j I J h=>AP 3<|.p (BH Ac j)<|.a 1<|.X (a1X J)<|AO h λz j h=>CZ<|.a 3<|.p (EI aU VR [(BZ BX) I.1.After])<|.f (Dv (k:=0) (BZ BX) j aU AA (λ_=>rfl) Bj)<|.aN<|DJ<|L _ _ _ (Ae [AV 2]) h) λh=>Cj<|Aa<|AP 1<|.Z (KX (k:=0) (e':=41) (s:=1) (BZ BX) J AA aFC)<|BJ h CJ λh=>AO h λz j h=>AP 2<|.conv _ (Jq (e:=41) (s:=1) 0 (xs:=List.map (BZ BX) J) AA)<|.X (aUe j)<|Ch
def a6x (j:Ah):AB Bc:=(nV j).bind λq=>(a2Z j q).bind λu=>some u
def agL :=Dk func82 rfl a6x BN Dh λj r h=>AZ<|Bv h λz q I u h=>AP 2<|.ca (aCU q).view<|.X (aXY u)<|Ch
def vP (k3:(Int->AB AX))(v2:Int)(j:AX):AB AX:=(bif j then some false else k3 (Aw (v2+1)))
def aKt (j:Bc)(q:Bc)(k3:(Int->AB AX)):Int->AB AX:=λv2=>(bif v2<(j.length:Int) then(Aq j v2).bind λL=>(Aq q v2).bind λM=>(bif (L.Kind != M.Kind)then vP k3 v2 true else(Aq j v2).bind λu=>(Aq q v2).bind λz=>(bif (!(u.Key.toList==z.Key.toList))then vP k3 v2 true else(Aq j v2).bind λI=>(Aq q v2).bind λJ=>vP k3 v2 (I.Id != J.Id)))else some true)
def aMC (j:Bc)(q:Bc):Int->AB AX:=bC (aKt j q) Ar
def aAk (j:Bc)(q:Bc):AB AX:=(bif ((j.length:Int) != (q.length:Int))then some false else aMC j q 0)
def adt :=DZ func71 rfl aAk Dh Dh Af λj q r h=>AZ<|Aa<|AP 1<|.p (BK BX j)<|.a 1<|.Z (BK BX q)<|BJ h CJ λh=>Aa<|AZ<|Am<|Du (λI=>⟨BA 54 [(0,Dh j),(1,Dh q),(5,AY I)],[],0⟩) _ _ _ (Ae []) h<|λI z J u h=>Aa<|AP 2<|.Z (BK BX j)<|Bo h (λh=>Aa<|Am<|DC (λs=>∃(L:AX),CP s ⟨BA 54 [(0,Dh j),(1,Dh q),(5,AY u),(53,Af L)],[],0⟩/\vP z u L=some r) (by rintro s ⟨L,hs,h⟩;exact DK hs<|BJ h CJ λh=>Zr)<|λI=>Bv h λz J u M h=>EU h (λz h=>DV AA AA AA (.a 2<|.p (BH BX J)<|.a 4<|.p (BH BX M)<|.a 3<|.c (BG some z)<|.a 25<|.nil _)<|I _ ⟨true,Ae [],h⟩) λz h=>Bv h λu Y Z x8 h=>EU h (λu h=>DV AA AA AA (.a 2<|.p (BH BX J)<|.a 4<|.p (BH BX M)<|.a 3<|.c (BG some z)<|.a 2<|.p (BH BX Y)<|.a 4<|.p (BH BX x8)<|.a 4<|.c (BG some u)<|.a 12<|.nil _)<|I _ ⟨true,Ae [],h⟩) λu h=>Bv h λZ x9 O U h=>DV AA AA AA (.a 2<|.p (BH BX J)<|.a 4<|.p (BH BX M)<|.a 3<|.c (BG some z)<|.a 2<|.p (BH BX Y)<|.a 4<|.p (BH BX x8)<|.a 4<|.c (BG some u)<|.a 2<|.p (BH BX x9)<|.a 4<|.p (BH BX U)<|.a 4<|.nil _)<|I _ ⟨(Z.Id != O.Id),Ae [],h⟩) λh=>Eo
def aB4 (j:AX):AB Int:=(bif j then some 6 else some 0)
def a00 (j:C9)(J:Int):AB Int:=(bif (J != 0)then some J else(a7Z j).bind λM=>(bif (!M)then some 6 else(a5u j).bind λL=>(bif (L != 0)then some L else(aAe j.Events).bind λq=>(a5K j.vY q).bind λu=>(bif (!u)then aB4 true else(a6x j.Events).bind λz=>(aAk j.State z).bind λI=>aB4 (!I)))))
def ou (j:C9):AB Int:=(iJ j.Id).bind λz=>(bif (z != 0)then some 3 else(zJ j j.Events).bind λu=>(bif (u==0)then(wF j.Events).bind λq=>a00 j q else a00 j u))
def aQi :=Dk func24 rfl ou IV AY λu r h=>AZ<|Aa<|AO h λq j h=>AP 2<|.X (aH4 j)<|BJ h CJ λh=>AO h λq j h=>AP 3<|.X (aOA j)<|DC (λs=>∃(J:Int),CP s ⟨BA 44 [(1,.ptr 0 0),(3,AY J)],[.box (BD (Cb u))],0⟩/\a00 u J=some r) (by rintro s ⟨J,hs,h⟩;exact DK hs<|Aa<|AZ<|BJ h CJ λh=>Aa<|AO h λq j h=>AP 1<|.X (akv j)<|BJ h CJ λh=>AO h λq j h=>AP 1<|.X (afI j)<|Aa<|AZ<|BJ h CJ λh=>Aa<|DC (λs=>∃(z:AX),CP s ⟨BA 44 [(43,Af z)],[],0⟩/\aB4 z=some r) aN8<|λq=>Bv h λj I Z O h=>EU h (λL h=>DV AA AA AA (.a 4<|.ca (aV6 I).view<|.ca (aWm O)<|.a 1<|.c (BG some L)<|.a 8<|.nil _)<|q _ ⟨true,Ae [],h⟩) λL h=>Bv h λx7 U Y M h=>DV AA AA AA (.a 4<|.ca (aV6 I).view<|.ca (aWm O)<|.a 1<|.c (BG some L)<|.a 4<|.ca (agL U)<|.ca (adt M)<|.a 2<|.nil _)<|q _ ⟨(!Y),Ae [],h⟩)<|λj=>AZ<|BJ h (λh=>AO h λq I h=>CZ<|.a 2<|.ca (aQW I)<|.aN<|j _ ⟨q,Ae [AV 0],h⟩) λh=>j _ ⟨q,Ae [AV 0],h⟩
def Fit (j:(Int->AB AX))(q:Int)(u:AX):AB AX:=(bif u then some false else j (Aw (q+1)))
def aD3 (u:Int)(j:Ah)(k2:(Int->AB AX))(O:(Int->AB AX)):Int->AB AX:=λq=>(bif q<u then(Aq j u).bind λz=>(Aq j q).bind λI=>(bif (z.Id==I.Id)then(Aq j u).bind λJ=>(Aq j q).bind λL=>(aAN J L).bind λM=>Fit O q M else Fit O q false)else k2 (Aw (u+1)))
def aOf (q:Int)(j:Ah)(k2:(Int->AB AX)):Int->AB AX:=bC (aD3 q j k2) Ar
def aCT (j:Ah)(k2:(Int->AB AX)):Int->AB AX:=λq=>(bif q<(j.length:Int) then aOf q j k2 0 else some true)
def aW4 (j:Ah):Int->AB AX:=bC (aCT j) Ar
def nO (j:Ah):AB AX:=aW4 j 0
def ag0 :=Dk func25 rfl nO BN Af λj r h=>AZ<|Aa<|AZ<|Am<|Du (λq=>⟨BA 38 [(0,BN j),(3,AY q)],[],0⟩) _ _ _ (Ae []) h<|λq u z I h=>Aa<|AP 2<|.Z (BK BF j)<|Bo h (λh=>Aa<|Am<|AZ<|Am<|Du (λq=>⟨BA 38 [(0,BN j),(3,AY I),(4,AY q)],[],0⟩) _ _ _ (Ae []) h<|λq u J L h=>Aa<|AZ<|Bo h (λh=>Aa<|Am<|DC (λs=>∃(M:AX),CP s ⟨BA 38 [(0,BN j),(3,AY I),(4,AY L),(37,Af M)],[],0⟩/\Fit u L M=some r) (by rintro s ⟨M,hs,h⟩;exact DK hs<|BJ h CJ λh=>Zr)<|λq=>Bv h λu z I J h=>EU h (λu h=>Hz h λI L Z U Y O h=>DV AA AA AA (.a 2<|.p (BH BF z)<|.a 4<|.p (BH BF J)<|.a 3<|.c (BG some u)<|.a 2<|.p (BH BF L)<|.a 3<|.p (BH BF U)<|.a 1<|.ca (aef O)<|.a 1<|.nil _)<|q _ ⟨Y,Ae [],h⟩) λu h=>DV AA AA AA (.a 2<|.p (BH BF z)<|.a 4<|.p (BH BF J)<|.a 3<|.c (BG some u)<|.a 10<|.nil _)<|q _ ⟨false,Ae [],h⟩) λh=>Cj<|UK) λh=>Eo
def aDF (q:AQ)(j:BO):AB AQ:=(xH q).bind λu=>(zy ({ q with Hash:=u })).bind λz=>some ({ { { q with Hash:=u }with Id:=z }with rV:=(⟨j,({ { q with Hash:=u }with Id:=z }).Id⟩:PW) })
def aWB :=DZ func55 rfl aDF DY D7 DY λq j r h=>AZ<|AO h λz u h=>AP 1<|.X (aMH u)<|AO h λu I h=>AP 1<|.X (aWI I)<|AZ<|AZ<|F5<|by rw[←CQ h];exact⟨[DY ({ { { q with Hash:=z }with Id:=u }with rV:=(⟨j,({ { q with Hash:=z }with Id:=u }).Id⟩:PW) })],[],⟨⟨1,BD (BF ({ { { q with Hash:=z }with Id:=u }with rV:=(⟨j,({ { q with Hash:=z }with Id:=u }).Id⟩:PW) })),true,29,AA,AA,AA,IY,Dt AA,sZ,AA⟩,trivial⟩,AA,AA,AA⟩
def abn (I:AQ)(k3:(Int->(A8 (Int×AX))->AB AU))(J:Int)(u:(Int->(A8 (Int×AX))->AB AU)):Int->(A8 (Int×AX))->AB AU:=λj q=>(bif j<(I.bJ.length:Int) then(Aq I.bJ j).bind λz=>u (Aw (j+1)) (ET q z true)else k3 (Aw (J+1)) q)
def aYN (j:AQ)(k3:(Int->(A8 (Int×AX))->AB AU))(q:Int):Int->(A8 (Int×AX))->AB AU:=aQ (abn j k3 q) Ar
def aiq (j:AQ)(k3:(Int->(A8 (Int×AX))->AB AU))(I:Int)(J:(Int->(A8 (Int×AX))->AB AU)):Int->(A8 (Int×AX))->AB AU:=λq z=>(bif q<(j.bH.length:Int) then(Aq j.bH q).bind λu=>J (Aw (q+1)) (ET z u true)else aYN j k3 I 0 z)
def ac3 (j:AQ)(k3:(Int->(A8 (Int×AX))->AB AU))(q:Int):Int->(A8 (Int×AX))->AB AU:=aQ (aiq j k3 q) Ar
def ac1 (j:Ah)(k3:(Int->(A8 (Int×AX))->AB AU)):Int->(A8 (Int×AX))->AB AU:=λq v2=>(bif q<(j.length:Int) then(Aq j q).bind λz=>ac3 z k3 q 0 v2 else(ZV v2).bind λu=>some u)
def aXc (j:Ah):Int->(A8 (Int×AX))->AB AU:=aQ (ac1 j) Ar
def aEc (j:Ah):AB AU:=aXc j 0 []
def aSw :=L8 func108 rfl aEc BN Ci λj r h=>BP<|.f (Cc 3 1)<|.aY<|BP<|.Y (x:=.mp 1) lQ<|Aa<|AP 1<|.Z (BK BF j)<|Am<|DW (λq u=>⟨BA 40 [(3,.mp 0),(11,BN j),(12,AY (j.length:Int)),(13,AY q)],[.map (List.map (CV D6 EC) u)],0⟩) _ _ _ _ (Ae [AV 1]) h<|λq u z I L h=>AZ<|Aa<|Bo h (λh=>Aa<|Am<|AO h λq u h=>BP<|.Z (BH BF u)<|Aa<|AP 2<|.Z (BK Ac q.bH)<|Am<|DW (λu z=>⟨BA 40 [(3,.mp 0),(5,.ptr 1 0),(11,BN j),(12,AY (j.length:Int)),(13,AY I),(18,Bg q.bH),(19,AY (q.bH.length:Int)),(20,AY u)],[.map (List.map (CV D6 EC) z),.box (BD (BF q))],0⟩) _ _ _ _ (Ae [AV 0,AV 1]) h<|λu L J O M h=>AZ<|Aa<|Bo h (λh=>Aa<|Am<|AO h λq u h=>BP<|.Z (BH Ac u)<|CZ<|.a 2<|.f (Xk (k:=0) (key:=q) (val:=true) (m:=M) EC QX Hu AA)<|.nil<|uo) λh=>Cj<|AP 2<|.Z (BK Ac q.bJ)<|Am<|DW (λu z=>⟨BA 40 [(3,.mp 0),(11,BN j),(12,AY (j.length:Int)),(13,AY I),(28,Bg q.bJ),(29,AY (q.bJ.length:Int)),(30,AY u)],[.map (List.map (CV D6 EC) z)],0⟩) _ _ _ _ (Ae [AV 0]) h<|λq u I L J h=>AZ<|Aa<|Bo h (λh=>Aa<|Am<|AO h λq u h=>BP<|.Z (BH Ac u)<|CZ<|.a 2<|.f (Xk (k:=0) (key:=q) (val:=true) (m:=J) EC QX Hu AA)<|.nil<|UF) λh=>Cj<|X8) λh=>Cj<|AO h λq u h=>AP 1<|.Y (x:=.aS 1) (EL [.ent 0] [.mp 0] (aXK u))<|KA
def aD7 (j:C9):AB AU:=(aEc j.Events).bind λq=>(aEc j.Waiting).bind λu=>(aVX q u).bind λz=>(jR j.Events z).bind λI=>(jR j.Waiting I).bind λJ=>some J
def aLd :=Dk func38 rfl aD7 IV Bg λu r h=>AZ<|Hz h λz j I q L J h=>F9 AA AA AA (.a 2<|.ca (aSw j).view<|.a 2<|.ca (aSw q).view<|.ca (aek J).view<|.a 1<|.nil _)<|Bv h λz j I q h=>F9 AA AA AA (.a 5<|.ca (a1w j).view<|.ca (a1w q).view<|.a 1<|.nil _)<|Ch
def an7 (j:Ah)(q:C9)(z:(Int->AB Int)):Int->AB Int:=λu=>(bif u<(j.length:Int) then(Aq j u).bind λI=>(bif (!(I.Room.toList==q.Id.toList))then some 13 else z (Aw (u+1)))else some 0)
def adh (j:Ah)(q:C9):Int->AB Int:=bC (an7 j q) Ar
def aKK (q:C9)(j:Ah):AB Int:=(Mc j).bind λu=>(bif (u != 0)then some u else adh j q 0)
def aMJ :=DZ func90 rfl aKK IV BN AY λq j r h=>AZ<|Aa<|AO h λu z h=>AP 1<|.X (aLe z)<|AZ<|BJ h CJ λh=>Aa<|AP 1<|.Z (BK BF j)<|Am<|Du (λu=>⟨BA 25 [(2,.ptr 0 0),(13,BN j),(14,AY (j.length:Int)),(15,AY u)],[.box (BD (Cb q))],0⟩) _ _ _ (Ae [AV 0]) h<|λu z I J h=>AZ<|Aa<|Bo h (λh=>Aa<|Am<|AO h λu z h=>BP<|.Z (BH BF z)<|a0I) λh=>Eo
def aXA (j:Int):AB AU:=cu 8 j
def aj6 {p1 r}(h:aXA p1=some r):E9 256 [.d (.lit (.slice none 0 0)),AY p1] [] (.aS 0) [(Ci r)]:=
 aYD Ac p1 r h
def aU4 (j:QE)(q:(AU->Int->AB AU)):AU->Int->AB AU:=λJ u=>(bif u<(j.length:Int) then(Aq j u).bind λz=>(DL 8 J z).bind λI=>q I (Aw (u+1))else some J)
def ab3 (j:QE):AU->Int->AB AU:=aQ (aU4 j) Ar
def aUh (j:QE)(k3:(Int->Int->AB AU)):Int->Int->AB AU:=λq v2=>(bif v2<(j.length:Int) then(Aq j v2).bind λu=>(bif (Aw (q+(u.length:Int)))<0 then none else k3 (Aw (q+(u.length:Int))) (Aw (v2+1)))else(aXA q).bind λz=>ab3 j z 0)
def anb (j:QE):Int->Int->AB AU:=aQ (aUh j) Ar
def aGf (j:QE):AB AU:=anb j 0 0
def aYP {mX r}(h:aGf mX=some r):E9 174 [.d ((BZ (BZ Ac)) mX)] [] (.aS 0) [(Ci r)]:=by
 refine Ec func174 rfl ?_;unfold aGf at h;refine BP<|.f (Cc 3 1)<|.aY<|AZ<|Aa<|AP 1<|.Z (BK (BZ Ac) mX)<|Am ?_;refine DW (λz v2=>⟨BA 36 [(0,.d ((BZ (BZ Ac)) mX)),(3,AY z),(9,.d ((BZ (BZ Ac)) mX)),(10,AY (mX.length:Int)),(11,AY v2)],[],0⟩) _ _ _ _ (Ae []) h ?_;clear h;intro U k3 I z v2 h;unfold aUh at h;refine AZ<|Aa<|Dc h (λh=>?_) λh=>?_
 ·refine Ew<|Aa<|Am ?_;obtain⟨Y,J,h⟩:=Dl h;refine BP<|.Z (BH (BZ Ac) J)<|AP 2<|.Z (BK Ac Y)<|AZ<|Dc h (λh=>?_) λh=>?_
  ·cases h
  refine Ew<|CZ<|.a 2<|.nil ?_;exact I _ _ _ (Ae []) h
 refine Cj ?_;obtain⟨x7,L,h⟩:=Dl h;refine AP 1<|.Y (x:=.aS 0) (Jo [.d (.lit (.slice none 0 0)),AY z] (aj6 L))<|Aa<|AP 1<|.Z (BK (BZ Ac) mX)<|Am ?_;refine DW (λM O=>⟨BA 36 [(6,.aS 0),(25,.d ((BZ (BZ Ac)) mX)),(26,AY (mX.length:Int)),(27,AY O)],[(Ci M)],0⟩) _ _ _ _ (Ae [AV 0]) h ?_;clear h;intro Z k10 j M O h;unfold aU4 at h;refine AZ<|Aa<|Dc h (λh=>?_) λh=>?_
 ·refine Ew<|Aa<|Am ?_;obtain⟨x12,q,h⟩:=Dl h;refine BP<|.p (BH (BZ Ac) q)<|.aM 2 ?_;obtain⟨x13,u,h⟩:=Dl h;refine CZ<|.a 2<|.f (Dv (k:=0) Ac u Dx AA (λ_=>rfl) Bj)<|.aN<|CZ<|.a 2<|.nil ?_;exact j _ _ _ (Ae [AV 1]) h
 refine Cj<|BP<|.aM 2 ?_;rw[←CQ h];exact .ret (Et [AV 0])
def aCM (j:AQ)(q:FZ):AB AX:=some (j.Id==q.Id)
def aev :=DZ func173 rfl aCM DY (λj=>.d (.ref (Em j).cells 0)) Af λq j r h=>Zy
def aZv (z:AU)(q:(A8 (Int×Int)))(j:FZ)(I:Int)(x7:AU)(M:Int)(O:(Int->C9->(A8 (Int×Int))->AB AX))(v9:C9)(U:(Int->AB AX)):Int->AB AX:=λu=>(bif u<(z.length:Int) then(Aq z u).bind λJ=>(bif (!((DN (ET q j.Id I) J).isSome))then some true else some (decide (((DN (ET q j.Id I) J).getD 0)>=I))).bind λY=>(bif Y then some false else U (Aw (u+1)))else(Aq x7 M).bind λL=>(bif (!((L==2)==(j.Status==2)))then some true else(bif (!(L==2))then some (j.Status != 3)else some false).bind λZ=>(bif Z then some (j.Status != 4)else some false).bind λx37=>some x37).bind λx33=>(bif x33 then some false else O (Aw (I+1)) v9 (ET q j.Id I)))
def ab9 (j:AU)(q:(A8 (Int×Int)))(u:FZ)(J:Int)(L:AU)(z:Int)(I:(Int->C9->(A8 (Int×Int))->AB AX))(M:C9):Int->AB AX:=bC (aZv j q u J L z I M) Ar
def anW (u:C9)(x7:AU)(L:(Int->C9->(A8 (Int×Int))->AB AX)):Int->C9->(A8 (Int×Int))->AB AX:=λI J z=>(bif I<(u.Rows.length:Int) then(Aq u.Rows I).bind λq=>(aH J.Events (λa0=>aCM a0 q)).bind λj=>(bif j<0 then some true else some ((DN z q.Id).isSome)).bind λM=>(bif M then some true else some (q.Pos != I)).bind λO=>(bif O then some true else some (decide (j>=(x7.length:Int)))).bind λU=>(bif U then some false else(Aq J.Events j).bind λY=>(Aq J.Events j).bind λZ=>(aGf [Y.bH,Z.bJ]).bind λx24=>ab9 x24 z q I x7 j L J 0)else some true)
def abG (j:C9)(q:AU):Int->C9->(A8 (Int×Int))->AB AX:=iZ (anW j q) Ar
def aRi (j:C9):AB AX:=(bif ((j.Rows.length:Int) != (j.Events.length:Int))then some true else some (j.Next != (j.Rows.length:Int))).bind λq=>(bif q then some true else(jW j.Events).bind λu=>some (decide (u>1))).bind λz=>(bif z then some false else(vk j.Events).bind λI=>abG j I 0 j [])
def amP :=Dk func92 rfl aRi IV Af λq r h=>AZ<|Aa<|AP 2<|.p (BK Em q.Rows)<|.a 2<|.p (BK BF q.Events)<|.a 1<|AO h λu j h=>.mg 22 7 (Af u) (.bi j (k2:=λh=>.a 4<|.Z (BK Em q.Rows)<|D9))<|.a 1<|AO h λu j h=>.mg 31 4 (Af u) (DU j (k2:=λe i=>by subst e;have h:=i;exact AO h λu j h=>.a 2<|.X (aDY j)<|D9))<|.aY<|BJ h CJ λh=>AO h λu j h=>AP 2<|.X (aQ0 j).view<|BP<|.Y (x:=.mp 1) lQ<|Aa<|AP 2<|.Z (BK Em q.Rows)<|Am<|Qm (λj z L=>⟨BA 138 [(1,.ptr 0 0),(3,Bg u),(4,.mp 1),(41,kC q.Rows),(42,AY (q.Rows.length:Int)),(43,AY j)],[.box (BD (Cb z)),.map (List.map (CV D6 Ac) L)],0⟩) _ _ _ _ _ (Ae [AV 0,AV 1]) h<|λj z L M Y J h=>AZ<|Aa<|Bo h (λh=>Aa<|Am<|AO h λj z h=>AP 1<|.Z (BH Em z)<|AO h λz I h=>AP 2<|.conv _ (RH (cs:=BD (Em j)) 2 AA AA)<|.p (x:=.d (.fn (.func 173) [] [(.ref (Em j).cells 0)])) (Pe [(.ref (Em j).cells 0)] rfl)<|.X (a0P Y.Events (λu=>aCM u j) (.fn (.func 173) [] [(.ref (Em j).cells 0)]) ⟨173,[(.ref (Em j).cells 0)],rfl,ahr,λu z L=>aev L⟩ z I)<|Aa<|AP 3<|.Z (x:=.eX [AY ((DN J j.Id).getD 0),Af ((DN J j.Id).isSome)]) (kX (k:=1) (key:=j.Id) (m:=J) Ac 0 PG Hu zero3 AA AA AA)<|AP 2<|AO h λI O h=>.mg 61 2 (Af I) (.bi O)<|.a 1<|AO h λI O h=>.mg 65 4 (Af I) (DU O)<|.a 1<|AO h λI O h=>.mg 71 4 (Af I) (DU O (k2:=λe i=>by subst e;have h:=i;exact .a 2<|.Z (BK Ac u)<|D9))<|.aY<|BJ h CJ λh=>AP 4<|.f (Xk (k:=1) (key:=j.Id) (val:=M) (m:=J) Ac PG Hu AA)<|.aY<|Aa<|Hz h λI O Z x11 U x13 h=>F9 AA AA AA (.a 3<|.p (BH BF O)<|.a 5<|.p (BH BF x11)<|.a 2<|.p (EI a6S jg [(BZ Ac) I.bH,(BZ Ac) Z.bJ])<|.ca (aYP x13).view<|.p (BK Ac U)<|.a 1<|.nil _)<|Am<|Du (λL=>⟨BA 138 [(1,.ptr 0 0),(3,Bg u),(4,.mp 1),(5,AY M),(6,.d (.ref (Em j).cells 0)),(7,AY z),(41,kC q.Rows),(42,AY (q.Rows.length:Int)),(43,AY M),(93,Bg U),(94,AY (U.length:Int)),(95,AY L)],[.box (BD (Cb Y)),.map (List.map (CV D6 Ac) (ET J j.Id M))],0⟩) _ _ _ (Ae [AV 0,AV 1]) h<|λu z Y I h=>AZ<|Aa<|Bo h (λh=>Aa<|Am<|AO h λu z h=>BP<|.Z (BH Ac z)<|AP 2<|.Z (x:=.eX [AY ((DN (ET J j.Id M) u).getD 0),Af ((DN (ET J j.Id M) u).isSome)]) (kX (k:=1) (key:=u) (m:=(ET J j.Id M)) Ac 0 PG Hu zero3 AA AA AA)<|AP 2<|AO h λu j h=>.mg 107 4 (Af u) (.bi j)<|.aY<|BJ h CJ λh=>DJ<|Y _ _ (Ae [AV 0,AV 1]) h) λh=>Cj<|AO h λu j h=>AP 2<|.Z (BH Ac j)<|AP 5<|AO h λu j h=>.mg 123 13 (Af u) (.bi j (k2:=λh=>.a 2<|AO h λu j h=>.mg 126 4 (Af u) (.bi j)<|.a 1<|AO h λu j h=>.mg 132 3 (Af u) (DU j)<|.aW<|D9))<|.aY<|BJ h CJ λh=>DJ<|L _ _ _ _ (Ae [AV 0,AV 1]) h) λh=>Eo
def aH2 (j:AQ)(q:C9):AB AX:=(MI q.Events j.Id).bind λu=>some u.2
def an6 :=DZ func93 rfl aH2 DY (λj=>.d (.ref (Cb j).cells 0)) Af λq j r h=>AZ<|AO h λz u h=>AP 4<|.X (Pv u)<|AZ<|Ch
def aFL (j:Ah)(q:(AQ->AB AX)):AB AX:=(aH j q).bind λu=>some (decide (u>=0))
def aN6 (q:(A8 AQ))(u:(AQ->AB AX))(j:D)(z:TP Au BF EC j u)(r:AX)(h:aFL q u=some r):E9 95 [BN q,.d j] [] (Af r) []:=Ec func95 rfl<|AZ<|AO h λI J h=>AP 2<|.X (a0P q u j z I J)<|Ch
def aId (q:C9)(j:C9):AB AX:=(aFL q.Waiting (λa0=>aH2 a0 j)).bind λu=>some u
def ada :=DZ func94 rfl aId (λu=>.d (.ref (Cb u).cells 0)) (λj=>.d (.ref [(.fn (.func 93) [] [(.ref (Cb j).cells 0)])] 0)) Af λu j r h=>AZ<|AO h λq z h=>AP 3<|.X (aN6 u.Waiting (λq=>aH2 q j) (.fn (.func 93) [] [(.ref (Cb j).cells 0)]) ⟨93,[(.ref (Cb j).cells 0)],rfl,amc,λq z I=>an6 I⟩ q z)<|Ch
def aG4 (j:AQ)(q:C9):AB AX:=(iG q.Events j).bind λu=>some u
def aaR :=DZ func97 rfl aG4 DY (λj=>.d (.ref (Cb j).cells 0)) Af λq j r h=>AZ<|AO h λz u h=>AP 3<|.X (aEQ u)<|Ch
def aCF (j:C9):AB AX:=(aFL j.Waiting (λa0=>aG4 a0 j)).bind λq=>some q
def ahH :=Dk func96 rfl aCF (λj=>.d (.ref (Cb j).cells 0)) Af λj r h=>AZ<|AO h λq u h=>AP 2<|.p (x:=.d (.fn (.func 97) [] [(.ref (Cb j).cells 0)])) (Pe [(.ref (Cb j).cells 0)] rfl)<|.X (aN6 j.Waiting (λq=>aG4 q j) (.fn (.func 97) [] [(.ref (Cb j).cells 0)]) ⟨97,[(.ref (Cb j).cells 0)],rfl,an2,λq u z=>aaR z⟩ q u)<|Ch
def aJW (j:C9):AB AX:=some (decide ((j.Waiting.length:Int)>200))
def afu :=Dk func98 rfl aJW (λj=>.d (.ref (Cb j).cells 0)) Af λj r h=>AZ<|AP 2<|.Z (BK BF j.Waiting)<|Ch
def aYC (j:AU)(q:AU)(k3:(Int->AB AX)):Int->AB AX:=λv2=>(bif v2<(j.length:Int) then(Aq j v2).bind λu=>(Aq q v2).bind λz=>(bif (u != z)then some false else k3 (Aw (v2+1)))else some true)
def aY2 (j:AU)(q:AU):Int->AB AX:=bC (aYC j q) Ar
def aN3 (j:AU)(q:AU):AB AX:=(bif ((j.length:Int) != (q.length:Int))then some false else aY2 j q 0)
def aQT :=DZ func100 rfl aN3 Bg Bg Af λj q r h=>AZ<|Aa<|AP 1<|.p (BK Ac j)<|.a 1<|.Z (BK Ac q)<|BJ h CJ λh=>Aa<|AP 1<|.Z (BK Ac j)<|Am<|Du (λu=>⟨BA 26 [(0,Bg j),(1,Bg q),(12,AY (j.length:Int)),(13,AY u)],[],0⟩) _ _ _ (Ae []) h<|λu z I J h=>AZ<|Aa<|Bo h (λh=>Aa<|Am<|AZ<|Bv h λu z J L h=>F9 AA AA AA (.a 2<|.p (BH Ac z)<|.a 3<|.p (BH Ac L)<|.a 2<|.nil _)<|BJ h CJ λh=>Sz) λh=>Eo
def adn (j:Bc)(q:Bc)(k3:(Int->AB AX)):Int->AB AX:=λv2=>(bif v2<(j.length:Int) then(Aq j v2).bind λu=>(Aq q v2).bind λz=>(bif (!aLS u z)then some false else k3 (Aw (v2+1)))else some true)
def adQ (j:Bc)(q:Bc):Int->AB AX:=bC (adn j q) Ar
def aX4 (j:Bc)(q:Bc):AB AX:=(bif ((j.length:Int) != (q.length:Int))then some false else adQ j q 0)
def afq :=DZ func102 rfl aX4 Dh Dh Af λj q r h=>AZ<|Aa<|AP 1<|.p (BK BX j)<|.a 1<|.Z (BK BX q)<|BJ h CJ λh=>Aa<|AP 1<|.Z (BK BX j)<|Am<|Du (λu=>⟨BA 26 [(1,Dh q),(12,Dh j),(13,AY (j.length:Int)),(14,AY u)],[],0⟩) _ _ _ (Ae []) h<|λu z J I h=>AZ<|Aa<|Bo h (λh=>Aa<|Am<|AO h λu z h=>AP 1<|.Z (BH BX z)<|AO h λz I h=>F9 AA AA AA (.a 3<|.p (BH BX I)<|.a 1<|.p (x:=(Af (!aLS u z))) (pX [.int .i64 u.Kind,.string u.Key,.int .i64 u.Id] [.int .i64 z.Kind,.string z.Key,.int .i64 z.Id] (adA u z) Bj amA)<|.nil _)<|BJ h CJ λh=>Zr) λh=>Eo
def aE9 (j:AX):AB AX:=some j
def aF1 (j:C9):AB AX:=(kn j.Events).bind λq=>(aN3 j.vY q).bind λu=>(bif (!u)then aE9 true else(lS j.Events).bind λz=>(aX4 j.State z).bind λI=>aE9 (!I))
def abI :=Dk func99 rfl aF1 (λz=>.d (.ref (Cb z).cells 0)) Af λz r h=>AZ<|DC (λs=>∃(j:AX),CP s ⟨BA 18 [(1,Af j)],[],0⟩/\aE9 j=some r) (by rintro s ⟨j,hs,h⟩;exact DK hs<|Ch)<|λI=>Bv h λU J Y L h=>EU h (λq h=>DV AA AA AA (.a 4<|.ca (aIV J).view<|.ca (aQT L)<|.a 1<|.c (BG some q)<|.a 9<|.nil _)<|I _ ⟨true,Ae [],h⟩) λq h=>Bv h λZ M O u h=>DV AA AA AA (.a 4<|.ca (aIV J).view<|.ca (aQT L)<|.a 1<|.c (BG some q)<|.a 4<|.ca (aX6 M)<|.ca (afq u)<|.a 3<|.nil _)<|I _ ⟨(!O),Ae [],h⟩
def aOG (j:C9):AB Int:=(eP j.Id).bind λO=>(bif (O != 0)then some 3 else(aKK j j.Events).bind λJ=>(bif (J != 0)then some J else(eG j.Events).bind λL=>(bif (L != 0)then some L else(aRi j).bind λU=>(bif (!U)then some 6 else(aKK j j.Waiting).bind λM=>(bif (M != 0)then some M else((aId j j)).bind λq=>(bif q then some 4 else((aCF j)).bind λu=>(bif u then some 26 else((aJW j)).bind λz=>(bif z then some 29 else((aF1 j)).bind λI=>(bif I then some 6 else some 0)))))))))
def aNm :=Dk func28 rfl aOG IV AY λj r h=>AZ<|Aa<|AO h λu q h=>AP 2<|.X (a2E q)<|BJ h CJ λh=>Aa<|AO h λu q h=>AP 3<|.X (aMJ q)<|AZ<|BJ h CJ λh=>Aa<|AO h λu q h=>AP 2<|.X (aBq q)<|AZ<|BJ h CJ λh=>Aa<|AO h λu q h=>AP 1<|.X (amP q)<|BJ h CJ λh=>Aa<|AO h λu q h=>AP 3<|.X (aMJ q)<|AZ<|BJ h CJ λh=>BP<|.conv _ (RH (cs:=BD (Cb j)) 0 AA AA)<|.Z (x:=.d (.fn (.func 93) [] [(.ref (Cb j).cells 0)])) (Pe [(.ref (Cb j).cells 0)] rfl)<|Aa<|BP<|.conv _ (RH (cs:=[.d (.fn (.func 93) [] [(.ref (Cb j).cells 0)])]) 1 AA AA)<|.p (x:=.d (.fn (.func 94) [] [(.ref (Cb j).cells 0),(.ref [(.fn (.func 93) [] [(.ref (Cb j).cells 0)])] 0)])) (Pe [(.ref (Cb j).cells 0),(.ref [(.fn (.func 93) [] [(.ref (Cb j).cells 0)])] 0)] rfl)<|.a 1<|.p (x:=.d (.fn (.func 96) [] [(.ref (Cb j).cells 0)])) (Pe [(.ref (Cb j).cells 0)] rfl)<|.a 1<|.p (x:=.d (.fn (.func 98) [] [(.ref (Cb j).cells 0)])) (Pe [(.ref (Cb j).cells 0)] rfl)<|.a 1<|.p (x:=.d (.fn (.func 99) [] [(.ref (Cb j).cells 0)])) (Pe [(.ref (Cb j).cells 0)] rfl)<|.a 1<|.p (EI acp aHK [(.agg [(Ac 4),(.fn (.func 94) [] [(.ref (Cb j).cells 0),(.ref [(.fn (.func 93) [] [(.ref (Cb j).cells 0)])] 0)])]),(.agg [(Ac 26),(.fn (.func 96) [] [(.ref (Cb j).cells 0)])]),(.agg [(Ac 29),(.fn (.func 98) [] [(.ref (Cb j).cells 0)])]),(.agg [(Ac 6),(.fn (.func 99) [] [(.ref (Cb j).cells 0)])])])<|.Z (x:=(AY 4)) (aPd (xs:=[(.agg [(Ac 4),(.fn (.func 94) [] [(.ref (Cb j).cells 0),(.ref [(.fn (.func 93) [] [(.ref (Cb j).cells 0)])] 0)])]),(.agg [(Ac 26),(.fn (.func 96) [] [(.ref (Cb j).cells 0)])]),(.agg [(Ac 29),(.fn (.func 98) [] [(.ref (Cb j).cells 0)])]),(.agg [(Ac 6),(.fn (.func 99) [] [(.ref (Cb j).cells 0)])])]) jl)<|Am<|Bq.rounds 5<|wX<|AZ<|Aa<|OJ AA<|Ew<|Aa<|Am<|BP<|.Z (x:=.d (.ref [(Ac 4),(.fn (.func 94) [] [(.ref (Cb j).cells 0),(.ref [(.fn (.func 93) [] [(.ref (Cb j).cells 0)])] 0)])] 0)) (a0y (k:=.i64) (i:=0) (xs:=[(.agg [(Ac 4),(.fn (.func 94) [] [(.ref (Cb j).cells 0),(.ref [(.fn (.func 93) [] [(.ref (Cb j).cells 0)])] 0)])]),(.agg [(Ac 26),(.fn (.func 96) [] [(.ref (Cb j).cells 0)])]),(.agg [(Ac 29),(.fn (.func 98) [] [(.ref (Cb j).cells 0)])]),(.agg [(Ac 6),(.fn (.func 99) [] [(.ref (Cb j).cells 0)])])]) (el:=(.agg [(Ac 4),(.fn (.func 94) [] [(.ref (Cb j).cells 0),(.ref [(.fn (.func 93) [] [(.ref (Cb j).cells 0)])] 0)])])) (size:=2) jl a0e Bj rfl rfl)<|AO h λu q h=>AP 2<|.p (a7Y (d:=(.fn (.func 94) [] [(.ref (Cb j).cells 0),(.ref [(.fn (.func 93) [] [(.ref (Cb j).cells 0)])] 0)])) (⟨94,[(.ref (Cb j).cells 0),(.ref [(.fn (.func 93) [] [(.ref (Cb j).cells 0)])] 0)],rfl,aer,fun  u q=>ada q⟩:zI Au EC (.fn (.func 94) [] [(.ref (Cb j).cells 0),(.ref [(.fn (.func 93) [] [(.ref (Cb j).cells 0)])] 0)]) (aId j j)) q)<|.aY<|BJ h CJ λh=>DJ<|wX<|AZ<|Aa<|OJ AA<|Ew<|Aa<|Am<|BP<|.Z (x:=.d (.ref [(Ac 26),(.fn (.func 96) [] [(.ref (Cb j).cells 0)])] 0)) (a0y (k:=.i64) (i:=1) (xs:=[(.agg [(Ac 4),(.fn (.func 94) [] [(.ref (Cb j).cells 0),(.ref [(.fn (.func 93) [] [(.ref (Cb j).cells 0)])] 0)])]),(.agg [(Ac 26),(.fn (.func 96) [] [(.ref (Cb j).cells 0)])]),(.agg [(Ac 29),(.fn (.func 98) [] [(.ref (Cb j).cells 0)])]),(.agg [(Ac 6),(.fn (.func 99) [] [(.ref (Cb j).cells 0)])])]) (el:=(.agg [(Ac 26),(.fn (.func 96) [] [(.ref (Cb j).cells 0)])])) (size:=2) jl a0e Bj rfl rfl)<|AO h λu q h=>AP 2<|.p (a7Y (d:=(.fn (.func 96) [] [(.ref (Cb j).cells 0)])) (⟨96,[(.ref (Cb j).cells 0)],rfl,aXg,fun  u q=>ahH q⟩:zI Au EC (.fn (.func 96) [] [(.ref (Cb j).cells 0)]) (aCF j)) q)<|.aY<|BJ h CJ λh=>DJ<|wX<|AZ<|Aa<|OJ AA<|Ew<|Aa<|Am<|BP<|.Z (x:=.d (.ref [(Ac 29),(.fn (.func 98) [] [(.ref (Cb j).cells 0)])] 0)) (a0y (k:=.i64) (i:=2) (xs:=[(.agg [(Ac 4),(.fn (.func 94) [] [(.ref (Cb j).cells 0),(.ref [(.fn (.func 93) [] [(.ref (Cb j).cells 0)])] 0)])]),(.agg [(Ac 26),(.fn (.func 96) [] [(.ref (Cb j).cells 0)])]),(.agg [(Ac 29),(.fn (.func 98) [] [(.ref (Cb j).cells 0)])]),(.agg [(Ac 6),(.fn (.func 99) [] [(.ref (Cb j).cells 0)])])]) (el:=(.agg [(Ac 29),(.fn (.func 98) [] [(.ref (Cb j).cells 0)])])) (size:=2) jl a0e Bj rfl rfl)<|AO h λu q h=>AP 2<|.p (a7Y (d:=(.fn (.func 98) [] [(.ref (Cb j).cells 0)])) (⟨98,[(.ref (Cb j).cells 0)],rfl,ake,fun  u q=>afu q⟩:zI Au EC (.fn (.func 98) [] [(.ref (Cb j).cells 0)]) (aJW j)) q)<|.aY<|BJ h CJ λh=>DJ<|wX<|AZ<|Aa<|OJ AA<|Ew<|Aa<|Am<|BP<|.Z (x:=.d (.ref [(Ac 6),(.fn (.func 99) [] [(.ref (Cb j).cells 0)])] 0)) (a0y (k:=.i64) (i:=3) (xs:=[(.agg [(Ac 4),(.fn (.func 94) [] [(.ref (Cb j).cells 0),(.ref [(.fn (.func 93) [] [(.ref (Cb j).cells 0)])] 0)])]),(.agg [(Ac 26),(.fn (.func 96) [] [(.ref (Cb j).cells 0)])]),(.agg [(Ac 29),(.fn (.func 98) [] [(.ref (Cb j).cells 0)])]),(.agg [(Ac 6),(.fn (.func 99) [] [(.ref (Cb j).cells 0)])])]) (el:=(.agg [(Ac 6),(.fn (.func 99) [] [(.ref (Cb j).cells 0)])])) (size:=2) jl a0e Bj rfl rfl)<|AO h λu q h=>AP 2<|.p (a7Y (d:=(.fn (.func 99) [] [(.ref (Cb j).cells 0)])) (⟨99,[(.ref (Cb j).cells 0)],rfl,ads,fun  u q=>abI q⟩:zI Au EC (.fn (.func 99) [] [(.ref (Cb j).cells 0)]) (aF1 j)) q)<|.aY<|BJ h CJ λh=>DJ<|wX<|AZ<|Aa<|Nq AA<|Eo
def akM :AQ:={ Fj with Room:=aGy,bQ:=aJ0,Kind:=1,State:=true,Time:=1,Depth:=1 }
def QL (j:AX):AB AX:=some j
def a6A  :AB AX:=(aDF akM aQ5).bind λq=>(aDF ({ Fj with Room:=aGy,bQ:=aJ0,Kind:=2,State:=true,Key:=aJ0,Time:=2,Depth:=2,bH:=[q.Id],bJ:=[q.Id],Content:={ Eu with N:=3 } }) aQ5).bind λO=>(aVS aGy).bind λU=>(Vh U.1 O).bind λu=>(Vh u.1 q).bind λj=>(Vh j.1 Fj).bind λY=>(bif ((j.1.Rows.length:Int) != 2)then some true else(aD7 u.1).bind λZ=>some ((Z.length:Int) != 1)).bind λx7=>(bif x7 then some false else(Zu j.1 O.Id).bind λz=>(bif (U.2==0)then(bif (u.2.2==0)then(bif (j.2.2==0)then(bif (Y.2.2 != 0)then(bif (u.2.1==1)then(bif (j.2.1==4)then(bif (Y.2.1==0)then(Aq j.1.Rows 0).bind λI=>(bif (I.Id==q.Id)then(bif z.2 then(bif (z.1.Pos==1)then(bif ((j.1.State.length:Int)==2)then(bif ((j.1.Waiting.length:Int)==0)then(aOG j.1).bind λJ=>(bif (J==0)then(aD7 u.1).bind λL=>(Aq L 0).bind λM=>QL (M==q.Id)else QL false)else QL false)else QL false)else QL false)else QL false)else QL false)else QL false)else QL false)else QL false)else QL false)else QL false)else QL false)else QL false))
def aRb (r:AX)(h:a6A=some r):E9 26 [] [] (Af r) []:=Ec func26 rfl<|AZ<|AO h λj u h=>AP 1<|.X (aWB u)<|AO h λu O h=>AP 2<|.p (EI Dx zero3 [Ac j.Id])<|.a 2<|.p (EI Dx zero3 [Ac j.Id])<|.a 2<|.X (aWB O)<|AO h λO x4 h=>BP<|.X (abm x4)<|AO h λx4 q h=>AP 2<|.X (a1D q)<|AO h λO q h=>AP 2<|.X (a1D q)<|AO h λq z h=>AP 2<|.X (a1D z)<|Aa<|AP 2<|.p (BK Em O.1.Rows)<|.a 1<|AO h λq z h=>.mg 56 5 (Af q) (.bi z (k2:=λh=>AO h λj u h=>.a 1<|.ca (aLd u)<|.Z (BK Ac j)<|D9))<|.aY<|BJ h CJ λh=>AO h λq z h=>AP 3<|.X (aKr z)<|DC (λs=>∃(v12:AX),CP s ⟨BA 139 [(0,Af v12)],[],0⟩/\QL v12=some r) (by rintro s ⟨v12,hs,h⟩;exact DK hs<|Ch)<|λu=>EU h (λq h=>EU h (λz h=>EU h (λU h=>EU h (λZ h=>EU h (λx9 h=>EU h (λI h=>EU h (λJ h=>AO h λL M h=>EU h (λL h=>EU h (λY h=>EU h (λx15 h=>EU h (λx16 h=>EU h (λx17 h=>AO h λx18 x19 h=>EU h (λx20 h=>Bv h λx21 x22 x23 x24 h=>DV AA AA AA (.a 2<|.c (BG some q)<|.a 3<|.c (BG some z)<|.a 3<|.c (BG some U)<|.a 3<|.c (BG some Z)<|.a 3<|.c (BG some x9)<|.a 3<|.c (BG some I)<|.a 3<|.c (BG some J)<|.a 2<|.p (BH Em M)<|.a 6<|.c (BG some L)<|.a 2<|.c (BG some Y)<|.a 4<|.c (BG some x15)<|.a 2<|.p (BK BX O.1.State)<|.a 2<|.c (BG some x16)<|.a 2<|.p (BK BF O.1.Waiting)<|.a 2<|.c (BG some x17)<|.a 1<|.ca (aNm x19)<|.a 2<|.c (BG some x20)<|.a 1<|.ca (aLd x22)<|.p (BH Ac x24)<|.a 6<|.nil _)<|u _ ⟨(x23==j.Id),Ae [],h⟩) λj h=>DV AA AA AA (.a 2<|.c (BG some q)<|.a 3<|.c (BG some z)<|.a 3<|.c (BG some U)<|.a 3<|.c (BG some Z)<|.a 3<|.c (BG some x9)<|.a 3<|.c (BG some I)<|.a 3<|.c (BG some J)<|.a 2<|.p (BH Em M)<|.a 6<|.c (BG some L)<|.a 2<|.c (BG some Y)<|.a 4<|.c (BG some x15)<|.a 2<|.p (BK BX O.1.State)<|.a 2<|.c (BG some x16)<|.a 2<|.p (BK BF O.1.Waiting)<|.a 2<|.c (BG some x17)<|.a 1<|.ca (aNm x19)<|.a 2<|.c (BG some j)<|.a 9<|.nil _)<|u _ ⟨false,Ae [],h⟩) λj h=>DV AA AA AA (.a 2<|.c (BG some q)<|.a 3<|.c (BG some z)<|.a 3<|.c (BG some U)<|.a 3<|.c (BG some Z)<|.a 3<|.c (BG some x9)<|.a 3<|.c (BG some I)<|.a 3<|.c (BG some J)<|.a 2<|.p (BH Em M)<|.a 6<|.c (BG some L)<|.a 2<|.c (BG some Y)<|.a 4<|.c (BG some x15)<|.a 2<|.p (BK BX O.1.State)<|.a 2<|.c (BG some x16)<|.a 2<|.p (BK BF O.1.Waiting)<|.a 2<|.c (BG some j)<|.a 14<|.nil _)<|u _ ⟨false,Ae [],h⟩) λj h=>DV AA AA AA (.a 2<|.c (BG some q)<|.a 3<|.c (BG some z)<|.a 3<|.c (BG some U)<|.a 3<|.c (BG some Z)<|.a 3<|.c (BG some x9)<|.a 3<|.c (BG some I)<|.a 3<|.c (BG some J)<|.a 2<|.p (BH Em M)<|.a 6<|.c (BG some L)<|.a 2<|.c (BG some Y)<|.a 4<|.c (BG some x15)<|.a 2<|.p (BK BX O.1.State)<|.a 2<|.c (BG some j)<|.a 20<|.nil _)<|u _ ⟨false,Ae [],h⟩) λj h=>DV AA AA AA (.a 2<|.c (BG some q)<|.a 3<|.c (BG some z)<|.a 3<|.c (BG some U)<|.a 3<|.c (BG some Z)<|.a 3<|.c (BG some x9)<|.a 3<|.c (BG some I)<|.a 3<|.c (BG some J)<|.a 2<|.p (BH Em M)<|.a 6<|.c (BG some L)<|.a 2<|.c (BG some Y)<|.a 4<|.c (BG some j)<|.a 26<|.nil _)<|u _ ⟨false,Ae [],h⟩) λj h=>DV AA AA AA (.a 2<|.c (BG some q)<|.a 3<|.c (BG some z)<|.a 3<|.c (BG some U)<|.a 3<|.c (BG some Z)<|.a 3<|.c (BG some x9)<|.a 3<|.c (BG some I)<|.a 3<|.c (BG some J)<|.a 2<|.p (BH Em M)<|.a 6<|.c (BG some L)<|.a 2<|.c (BG some j)<|.a 31<|.nil _)<|u _ ⟨false,Ae [],h⟩) λj h=>DV AA AA AA (.a 2<|.c (BG some q)<|.a 3<|.c (BG some z)<|.a 3<|.c (BG some U)<|.a 3<|.c (BG some Z)<|.a 3<|.c (BG some x9)<|.a 3<|.c (BG some I)<|.a 3<|.c (BG some J)<|.a 2<|.p (BH Em M)<|.a 6<|.c (BG some j)<|.a 34<|.nil _)<|u _ ⟨false,Ae [],h⟩) λj h=>DV AA AA AA (.a 2<|.c (BG some q)<|.a 3<|.c (BG some z)<|.a 3<|.c (BG some U)<|.a 3<|.c (BG some Z)<|.a 3<|.c (BG some x9)<|.a 3<|.c (BG some I)<|.a 3<|.c (BG some j)<|.a 44<|.nil _)<|u _ ⟨false,Ae [],h⟩) λj h=>DV AA AA AA (.a 2<|.c (BG some q)<|.a 3<|.c (BG some z)<|.a 3<|.c (BG some U)<|.a 3<|.c (BG some Z)<|.a 3<|.c (BG some x9)<|.a 3<|.c (BG some j)<|.a 48<|.nil _)<|u _ ⟨false,Ae [],h⟩) λj h=>DV AA AA AA (.a 2<|.c (BG some q)<|.a 3<|.c (BG some z)<|.a 3<|.c (BG some U)<|.a 3<|.c (BG some Z)<|.a 3<|.c (BG some j)<|.a 52<|.nil _)<|u _ ⟨false,Ae [],h⟩) λj h=>DV AA AA AA (.a 2<|.c (BG some q)<|.a 3<|.c (BG some z)<|.a 3<|.c (BG some U)<|.a 3<|.c (BG some j)<|.a 56<|.nil _)<|u _ ⟨false,Ae [],h⟩) λj h=>DV AA AA AA (.a 2<|.c (BG some q)<|.a 3<|.c (BG some z)<|.a 3<|.c (BG some j)<|.a 60<|.nil _)<|u _ ⟨false,Ae [],h⟩) λj h=>DV AA AA AA (.a 2<|.c (BG some q)<|.a 3<|.c (BG some j)<|.a 64<|.nil _)<|u _ ⟨false,Ae [],h⟩) λj h=>DV AA AA AA (.a 2<|.c (BG some j)<|.a 68<|.nil _)<|u _ ⟨false,Ae [],h⟩
def a4y (j:AQ):AB (AQ×Int):=(Ko j).bind λq=>(bif (q != 0)then some (Fj,q)else some (j,0))
def aKA (j:AQ):AB (AQ×Int):=(UW j).bind λq=>(bif (!q)then(XJ j).bind λu=>a4y u else a4y j)
def dw (q:Ah)(j:Int):AB Int:=(Yz q).bind λz=>YE z ((aHg j).bind λI=>(bif (!I)then some 5 else none)) λu=>(vZ u.1 u.2.1 u.2.2 j).bind λJ=>(bif (!J)then some 5 else some ((DN u.2.2 j).getD 0))
def aQU {dn mG r}(h:dw dn mG=some r):E9 29 [BN dn,AY mG] [] (AY r) []:=by
 refine Ec func29 rfl ?_;unfold dw at h;refine BP<|.aM 1 ?_;obtain⟨I,j,h⟩:=Dl h;cases I with
 |none=>
  replace h:=yc h;refine AP 1<|.X (Vr j)<|Aa ?_;obtain⟨J,q,h⟩:=Dl h;refine AP 2<|.Y (x:=(Af J)) (EL [] [.d (.lit (.pointer none)),AY mG] (aX8 q))<|Dc h (λh=>?_) λh=>?_
  ·refine BP<|.aM 1 ?_;rw[←CQ h];exact .ret (Et [])
  refine Ew ?_;cases h
 |some z=>
  replace h:=zh h;refine AP 1<|.Y (x:=.ptr 0 0) (EL [] [BN dn] (Vr j))<|Aa ?_;obtain⟨L,u,h⟩:=Dl h;refine AP 2<|.Y (x:=(Af L)) (EL [.ent 0,.ent 1,.ent 2,.ent 3] [.ptr 0 0,AY mG] (aUw u) (hE:=XY))<|Dc h (λh=>?_) λh=>?_
  ·refine BP<|.aM 1 ?_;rw[←CQ h];exact .ret (Et [])
  refine Ew<|AP 5<|.p (x:=(AY ((DN z.2.2 mG).getD 0))) (jQ (k:=3) (key:=mG) (m:=z.2.2) Ac 0 jy Hu zero64 AA AA AA)<|.aM 1 ?_;rw[←CQ h];exact .ret (Et [])
def aER (j:Int)(L:(C9×Int×Int))(u:(Int->AB AX))(z:(Int->AB AX)):Int->AB AX:=λq=>(bif q<j then(Aq L.1.Rows q).bind λI=>(Aq L.1.Rows j).bind λJ=>(bif (I.Id==J.Id)then some false else z (Aw (q+1)))else u (Aw (j+1)))
def aVr (j:Int)(u:(C9×Int×Int))(q:(Int->AB AX)):Int->AB AX:=bC (aER j u q) Ar
def qW (j:Int)(z:(C9×Int×Int))(q:(Int->AB AX))(u:AX):AB AX:=(bif u then some false else aVr j z q 0)
def aEg (q:(C9×Int×Int))(u:(Int->AB AX)):Int->AB AX:=λj=>(bif j<(q.1.vY.length:Int) then(Aq q.1.vY j).bind λz=>(dw q.1.Events z).bind λI=>(bif (I != 0)then some false else u (Aw (j+1)))else(a6A).bind λJ=>some J)
def aF8 (j:(C9×Int×Int)):Int->AB AX:=bC (aEg j) Ar
def aCB (q:(C9×Int×Int))(u:(Int->AB AX)):Int->AB AX:=λj=>(bif j<(q.1.State.length:Int) then(Aq q.1.State j).bind λz=>(dw q.1.Events z.Id).bind λI=>(bif (I != 0)then some false else u (Aw (j+1)))else aF8 q 0)
def aJj (j:(C9×Int×Int)):Int->AB AX:=bC (aCB j) Ar
def aCI (q:(C9×Int×Int))(u:C9)(z:(Int->AB AX)):Int->AB AX:=λj=>(bif j<(q.1.Rows.length:Int) then(bif j<(u.Rows.length:Int) then(Aq q.1.Rows j).bind λI=>(Aq u.Rows j).bind λJ=>(bif (!o9 I J)then qW j q z true else(Aq q.1.Rows j).bind λL=>qW j q z (L.Pos != j))else(Aq q.1.Rows j).bind λM=>qW j q z (M.Pos != j))else aJj q 0)
def aJQ (q:(C9×Int×Int))(j:C9):Int->AB AX:=bC (aCI q j) Ar
def ay (j:C9)(u:AQ)(z:AX):AB AX:=(bif z then(a6A).bind λI=>some I else(Vh j u).bind λq=>(bif (q.1.Rows.length:Int)<(j.Rows.length:Int) then some true else some ((q.1.Rows.length:Int) != (q.1.Events.length:Int))).bind λJ=>(bif J then some true else some (q.1.Next != (q.1.Rows.length:Int))).bind λL=>(bif L then some false else aJQ q j 0))
def aH1 (j:C9)(q:AQ):AB AX:=(pY j).bind λu=>(bif (!u)then ay j q true else(ou j).bind λz=>(bif (z != 0)then ay j q true else(DL 376 [q] j.Events).bind λI=>(DL 376 I j.Waiting).bind λJ=>(nO J).bind λL=>ay j q (!L)))
def abA (FX lM r)(h:aH1 FX lM=some r):E9 7 [IV FX,DY lM] [] (Af r) []:=Ec func7 rfl<|AZ<|Aa<|DC (λs=>∃(Y:AX),CP s ⟨BA 151 [(2,.ptr 0 0),(3,.ptr 1 0),(31,Af Y)],[.box (BD (Cb FX)),.box (BD (BF lM))],0⟩/\ay FX lM Y=some r) (by rintro s ⟨Y,hs,h⟩;exact DK hs<|BJ h (λh=>AO h λu j h=>BP<|.X (aRb  u j)<|Ch) λh=>AO h λu j h=>AP 2<|.X (a1D j)<|Aa<|AP 2<|.p (BK Em u.1.Rows)<|.a 2<|.p (BK Em FX.Rows)<|.a 1<|AO h λj q h=>.mg 47 8 (Af j) (.bi q (k2:=λh=>.a 2<|.p (BK Em u.1.Rows)<|.a 2<|.Z (BK BF u.1.Events)<|D9))<|.a 1<|AO h λj q h=>.mg 57 6 (Af j) (DU q (k2:=λe i=>by subst e;have h:=i;exact .a 4<|.Z (BK Em u.1.Rows)<|D9))<|.aY<|BJ h CJ λh=>Aa<|AZ<|Am<|Du (λj=>⟨BA 151 [(2,.ptr 0 0),(5,.ptr 1 0),(8,AY j)],[.box (BD (Cb FX)),.box (BD (Cb u.1))],0⟩) _ _ _ (Ae [AV 0,AV 2]) h<|λj q I J h=>Aa<|AP 3<|.Z (BK Em u.1.Rows)<|Bo h (λh=>Aa<|Am<|Aa<|DC (λs=>∃(M:AX),CP s ⟨BA 151 [(2,.ptr 0 0),(5,.ptr 1 0),(8,AY J),(98,Af M)],[.box (BD (Cb FX)),.box (BD (Cb u.1))],0⟩/\qW J u q M=some r) (by rintro s ⟨M,hs,h⟩;exact DK hs<|BJ h CJ λh=>AZ<|Am<|Du (λj=>⟨BA 151 [(2,.ptr 0 0),(5,.ptr 1 0),(8,AY J),(9,AY j)],[.box (BD (Cb FX)),.box (BD (Cb u.1))],0⟩) _ _ _ (Ae [AV 0,AV 1]) h<|λu j q J h=>Aa<|AZ<|Bo h (λh=>Aa<|Am<|Bv h λu j I J h=>F9 AA AA AA (.a 3<|.p (BH Em j)<|.a 5<|.p (BH Em J)<|.a 3<|.nil _)<|BJ h CJ λh=>DJ<|q _ _ (Ae [AV 0,AV 1]) h) λh=>Cj<|a1B)<|λu=>EU h (λj h=>Bv h λq I z O h=>EU h (λJ h=>DV AA AA AA (.a 3<|.p (BK Em FX.Rows)<|.a 1<|.c (BG some j)<|.a 3<|.p (BH Em I)<|.a 4<|.p (BH Em O)<|.a 1<|.p (x:=(Af (!o9 q z))) (pX [.int .i64 q.Pos,.int .i64 q.Id,.int .i64 q.Status,.bool q.Gone] [.int .i64 z.Pos,.int .i64 z.Id,.int .i64 z.Status,.bool z.Gone] (aTC q z) Bj aMN)<|.a 1<|.c (BG some J)<|.a 9<|.nil _)<|u _ ⟨true,Ae [AV 0,AV 1],h⟩) λU h=>AO h λZ L h=>DV AA AA AA (.a 3<|.p (BK Em FX.Rows)<|.a 1<|.c (BG some j)<|.a 3<|.p (BH Em I)<|.a 4<|.p (BH Em O)<|.a 1<|.p (x:=(Af (!o9 q z))) (pX [.int .i64 q.Pos,.int .i64 q.Id,.int .i64 q.Status,.bool q.Gone] [.int .i64 z.Pos,.int .i64 z.Id,.int .i64 z.Status,.bool z.Gone] (aTC q z) Bj aMN)<|.a 1<|.c (BG some U)<|.a 3<|.p (BH Em L)<|.a 5<|.nil _)<|u _ ⟨(Z.Pos != J),Ae [AV 0,AV 1],h⟩) λj h=>AO h λq I h=>DV AA AA AA (.a 3<|.p (BK Em FX.Rows)<|.a 1<|.c (BG some j)<|.a 16<|.p (BH Em I)<|.a 5<|.nil _)<|u _ ⟨(q.Pos != J),Ae [AV 0,AV 1],h⟩) λh=>Cj<|Aa<|AZ<|Am<|Du (λj=>⟨BA 151 [(5,.ptr 0 0),(10,AY j)],[.box (BD (Cb u.1))],0⟩) _ _ _ (Ae [AV 1]) h<|λj q I J h=>Aa<|AP 3<|.Z (BK BX u.1.State)<|Bo h (λh=>Aa<|Am<|Bv h λj q J z h=>F9 AA AA AA (.a 5<|.p (BH BX q)<|.a 2<|.ca (aQU z)<|.a 1<|.nil _)<|BJ h CJ λh=>YD) λh=>Cj<|Aa<|AZ<|Am<|Du (λj=>⟨BA 151 [(5,.ptr 0 0),(11,AY j)],[.box (BD (Cb u.1))],0⟩) _ _ _ (Ae [AV 0]) h<|λj q I J h=>Aa<|AP 3<|.Z (BK Ac u.1.vY)<|Bo h (λh=>Aa<|Am<|Bv h λj q J z h=>F9 AA AA AA (.a 5<|.p (BH Ac q)<|.a 1<|.ca (aQU z)<|.a 1<|.nil _)<|BJ h CJ λh=>YD) λh=>Cj<|AO h λu j h=>BP<|.X (aRb  u j)<|Ch)<|λu=>AO h λj q h=>EU h (λI h=>DV AA AA AA (.a 1<|.ca (aCS q)<|.a 1<|.c (BG some I)<|.a 16<|.nil _)<|u _ ⟨true,Ae [AV 0,AV 1],h⟩) λI h=>AO h λJ z h=>EU h (λO h=>DV AA AA AA (.a 1<|.ca (aCS q)<|.a 1<|.c (BG some I)<|.a 1<|.ca (aQi z)<|.a 2<|.c (BG some O)<|.a 11<|.nil _)<|u _ ⟨true,Ae [AV 0,AV 1],h⟩) λO h=>Hz h λU Z L x11 x12 x13 h=>Bq.aDw [Yj 1 (aCS q) acr,Td 3 (Go.Op.move (Go.Operand.tmp 14)) (λu es q=>(aK1 (v:=(Af (!j))) q).cast (aSj (BG some I))),Yj 5 (aQi z) aXT,Td 8 (Go.Op.move (Go.Operand.tmp 19)) (λu es j=>(aK1 (v:=(Af (J != 0))) j).cast (aSj (BG some O))),Tm 10 (Go.Op.buildSlice 22 1 #[(0,(Go.Operand.tmp 21))]) [.box (BD (Cb FX)),.box (BD (BF lM))] [.box (BD (Cb FX)),.box (BD (BF lM)),(FY [lM])] (λu j=>a2A JH O5 AA AA (Dt AA) [DY lM] [BF lM] AA AA AA AA j),Tm 13 (Go.Op.call { callee:=(Go.Callee.builtin Go.Builtin.append),args:= #[(Go.Operand.tmp 22),(Go.Operand.tmp 24)],argTypes:= #[22,22] }) [.box (BD (Cb FX)),.box (BD (BF lM)),(FY [lM])] [.box (BD (Cb FX)),.box (BD (BF lM)),.dead,(FY U)] (λu j=>Dv (k:=2) BF Z JH AA (λ_=>rfl) Bj j),Tm 16 (Go.Op.call { callee:=(Go.Callee.builtin Go.Builtin.append),args:= #[(Go.Operand.tmp 25),(Go.Operand.tmp 27)],argTypes:= #[22,22] }) [.box (BD (Cb FX)),.box (BD (BF lM)),.dead,(FY U)] [.box (BD (Cb FX)),.box (BD (BF lM)),.dead,.dead,.dead] (λu j=>CM.thaw (k:=4) (e:=38) (s:=29) (xs:=List.map BF L) (es:=[.box (BD (Cb FX)),.box (BD (BF lM)),.dead,(FY U)]) (es':=[.box (BD (Cb FX)),.box (BD (BF lM)),.dead,.dead,(FY L)]) (Dv (k:=3) BF x11 JH AA (λ_=>rfl) Bj j) AA),Yj 17 (ag0 x13) aZk] 42<|u _ ⟨(!x12),Ae [AV 0,AV 1],h⟩
end
def fF (l:A8 Int)(h:l.length<=1099511627776):UZ l=some (FW l):=by
 unfold UZ a0s PV YA;rw[Dy Ej];have h2:(Np l).length<=1099511627776:=by rw[(VB l).length_eq];exact h
 simp[h,aC4,aKi]
def Nw (l:A8 Int):(FW l).length<=l.length:=by
 rw[←aKi];exact EK (Lib.compact_length_le _) Bf
def aLI (a b:A8 Int):(Ph a b).length<=a.length:=by
 unfold Ph;exact EK (Lu _ _) (Nw a)
def aI3 (a b:A8 Int):(JF a b).length<=a.length+b.length:=by
 rw[wC];exact EK (Nw _) Bf
def aah (a b:Int):cmp_Less_int a b=some (decide (a<b)):=by
 simp[cmp_Less_int,cmp_isNaN_int]
def akc (l:A8 Int)(x:Int)(hi:Inc l)(hn:l.length<=1099511627776):dL (a3E l x) (λr=>r.2=ER l x):=by
 unfold a3E aQj;refine aB (λ(m:Nat) (a b:Int)=>∃i j:Nat,a=i/\b=j/\i<=j/\j<=l.length/\m=j-i/\(∀q,(u:q<i)->(hl:q<l.length)->l[q]<x)/\(∀q,(u:j<=q)->(hl:q<l.length)->x<=l[q])) ?_ Ar l.length 0 (l.length:Int) jZ ⟨0,l.length,rfl,rfl,F7 _,Eb _,rfl,λq u=>AL,λq u hl=>AL⟩;rintro m a b k ⟨i,j,rfl,rfl,hij,hj,rfl,h1,h2⟩ Z;unfold aSY;refine dL.bif (λe=>?_) λe=>?_
 ·have O:i<j:=Tz
  have w1:Aw ((i:Int)+(j:Int))=((i+j:Nat):Int):=Oj
  have w2:IntKind.u64.wrap ((i+j:Nat):Int)=((i+j:Nat):Int):=by rw[pI];omega
  have w3:QO .shr .u64 ((i+j:Nat):Int) 1=some (((i+j)/2:Nat):Int):=by
   have e0:((i+j:Nat):Int).fdiv (2^(min (1:Int).toNat IntKind.u64.bits))=(((i+j)/2:Nat):Int):=by
    have :(2:Int)^(min (1:Int).toNat IntKind.u64.bits)=2:=rfl;rw[this,Int.fdiv_eq_ediv_of_nonneg _ AL];omega
   unfold QO;rw[Eh AL];exact BG some e0
  have w4:Aw (((i+j)/2:Nat):Int)=(((i+j)/2:Nat):Int):=Oj
  have hm:(i+j)/2<l.length:=AL
  rw[w1,w2,w3];simp only[Ad];rw[w4,CY hm];simp only[Ad];rw[aah,wrap_succ _ AL];simp only[Ad];have mono:∀p q,(hp:p<l.length)->(u:q<l.length)->p<q->l[p]<l[q]:=λp q hp u z=>J9.1 hi p q hp u z;refine dL.bif (λU=>?_) λU=>?_
  ·have I:l[(i+j)/2]<x:=by simpa using U
   refine Z (j-((i+j)/2+1)) _ _ AL ⟨(i+j)/2+1,j,rfl,rfl,AL,hj,rfl,λq u hl=>?_,h2⟩;by_cases eq:q=(i+j)/2
   ·subst eq;exact I
   have :=mono q ((i+j)/2) hl hm AL;omega
  have I:¬l[(i+j)/2]<x:=by simpa using U
  refine Z ((i+j)/2-i) _ _ AL ⟨i,(i+j)/2,rfl,rfl,AL,AL,rfl,h1,λq u hl=>?_⟩;by_cases eq:q=(i+j)/2
  ·subst eq;omega
  have :=mono ((i+j)/2) q hm hl AL;omega
 have O:¬i<j:=Tz
 have J:i=j:=AL
 subst J;have mono:∀p q,(hp:p<l.length)->(u:q<l.length)->p<q->l[p]<l[q]:=λp q hp u z=>J9.1 hi p q hp u z;by_cases hl:i<l.length
 ·rw[show decide ((i:Int)<(l.length:Int))=true by simpa using hl,CY hl];simp only[Bl,Ad];by_cases I:l[i]=x
  ·have M:(l[i]==x)=true:=jf
   rw[M];refine .ret ?_;exact(LQ.2 (I▸EY hl)).symm
  have M:(l[i]==x)=false:=jf
  rw[M]
  have Y:ER l x=false:=PO.2 λhm=>by
   obtain⟨q,u,e5⟩:=G8 hm;rcases uT q i with L|L|L
   ·have :=h1 q L u;omega
   ·subst L;exact I e5
   have :=mono i q hl u L;have :=h2 i (Eb _) hl;omega
  simp[aAs,Y,dL]
 rw[show decide ((i:Int)<(l.length:Int))=false by simpa using hl];refine .ret ?_;refine(PO.2 λhm=>?_).symm;obtain⟨q,u,M⟩:=G8 hm;have :=h1 q AL u;omega
variable {i:Nat}{l:A8 Int}
def abh {b:A8 Int}(h:i<l.length):(l.take (i+1)).filter (λx=> !ER b x)=(l.take i).filter (λx=> !ER b x)++(if ER b l[i]then[]else[l[i]]):=by
 rw[Nv h,Qy]
 grind
def alj (a b:A8 Int)(h:a.length<=274877906944)(h2:b.length<=274877906944):a1N a b=some (Ph a b):=by
 unfold a1N;rw[fF b AL,fF a AL];simp only[Ad];have ha:=Nw a;have O:=Nw b;have q:=NP b
 have J:Ph a b=((FW a).take (FW a).length).filter (λx=> !ER (FW b) x):=by
  rw[Gy];unfold Ph;congr 1;funext x;congr 1;by_cases j:x∈b
  ·rw[LQ.2 j,LQ.2 (Kw.2 j)]
  rw[PO.2 j,PO.2 (λh=>j (Kw.1 h))]
 rw[J];generalize FW a=S at *;generalize FW b=S2 at *;refine dL.eq ?_;unfold aSO;refine Jf S.length jZ (λi v=>v=(S.take i).filter (λx=> !ER S2 x)) Bf ?_ ?_
 ·rintro i v k hi rfl u;have z:=wrap_succ i AL;have L:((S.take i).filter (λx=> !ER S2 x)).length<=i:=EK (Lu _ _) Ej;have hst:=abh (b:=S2) hi;unfold aFq aBY;rw[show decide ((i:Int)<(S.length:Int))=true by simpa using hi,CY hi];simp only[Bl,Ad];refine(akc S2 S[i] q AL).bind ?_;rintro r M;rw[M];cases I:ER S2 S[i]with
  |true=>
   simp only[FU,BR,z];exact u _ (by rw[hst];simp[I])
  |false=>
   simp only[Jl,Bl,z];rw[Dy GR];exact u _ (by rw[hst];simp[I])
 rintro v k rfl;unfold aFq;rw[show decide ((S.length:Int)<(S.length:Int))=false by simp];exact .ret rfl
def XG (l:A8 Int)(x:Int)(h:l.length<=1099511627776):Tj l x=some (ER l x):=by
 refine dL.eq ?_;unfold Tj aVi;refine YQ l.length jZ (λi=>∀j,(q:j<i)->(hl:j<l.length)->l[j]≠x) (λj q=>AL) ?_ ?_
 ·intro i k hi u z;unfold aCt;rw[show decide ((i:Int)<(l.length:Int))=true by simpa using hi,CY hi,wrap_succ i AL];simp only[Bl,Ad];refine dL.bif (λe=>?_) λe=>?_
  ·refine .ret ?_;have :l[i]=x:=Tz
   rw[LQ.2 (this▸EY hi)]
  grind
 intro k u;unfold aCt;rw[show decide ((l.length:Int)<(l.length:Int))=false by simp];refine .ret ?_;rw[PO.2];intro hm;obtain⟨j,q,e⟩:=G8 hm;exact u j q q e
def aH5 (p:Int->AX):∀(l:A8 Int) (i:Nat),i<=l.length->(∀j,(h:j<i)->(hl:j<l.length)->p l[j]=true)->(∀h:i<l.length,p l[i]=false)->l.takeWhile p=l.take i/\l.dropWhile p=l.drop i
 | [],i,h,_,_=>by simp at h;subst h;simp
 |a::l,0,_,_,h2=>by
  have :=h2 Bf;simp at this;simp[this]
 |a::l,i+1,h,h1,h2=>by
  have q:=h1 0 AL Bf;simp at q;have :=aH5 p l i OG (λj u hl=>by have :=h1 (j+1) AL NM;simpa using this) (λhl=>by have :=h2 NM;simpa using this);simp[q,this.1,this.2]
def qC (l:A8 Int)(x:Int)(h:l.length<=1099511627776):Xm l x=some (put l x):=by
 unfold Xm;rw[XG l x h];simp only[Ad];unfold put;cases hh:ER l x with
 |true=>simp
 |false=>
  simp only[BR,TU,LP];refine dL.eq ?_;unfold aO0
  have q:∀i,i<=l.length->(∀j,(u:j<i)->(hl:j<l.length)->l[j]<x)->(∀h:i<l.length,¬l[i]<x)->
   dL ((Hw l 0 (i:Int)).bind λL=>(DL 8 [] L).bind λM=>(DL 8 M [x]).bind λO=>(Hw l (i:Int) ((l.length))).bind λI=>(DL 8 O I).bind λJ=>some J) (· =l.takeWhile (decide<| · <x)++x::l.dropWhile (decide<| · <x)):=by
   intro i hi h1 h2;obtain⟨U,Y⟩:=aH5 (decide<| · <x) l i hi (λj u hl=>by simpa using h1 j u hl) (λhl=>by simpa using h2 hl)
   have Z:Hw l 0 (i:Int)=some (l.take i):=by
    have :=Ya (l:=l) (lo:=0) (hi:=i) AL hi;simpa using this
   have e4:Hw l (i:Int) (l.length:Int)=some (l.drop i):=by
    rw[Ya (l:=l) (lo:=i) (hi:=l.length) hi AL];congr 1;exact Qj Bf
   rw[Z];simp only[Ad];rw[Dy Ej];simp only[Ad,JQ];rw[Dy Ej];simp only[Ad];rw[e4];simp only[Ad];rw[Dy Ej];refine .ret ?_;rw[U,Y];simp
  refine YQ l.length jZ (λi=>∀j,(u:j<i)->(hl:j<l.length)->l[j]<x) (λj u=>AL) ?_ ?_
  ·intro i k hi z hk;unfold aHw;rw[show decide ((i:Int)<(l.length:Int))=true by simpa using hi,CY hi,wrap_succ i AL];simp only[Bl,Ad];refine dL.bif (λe=>?_) λe=>?_
   ·refine hk λj u hl=>?_;by_cases ej:j=i
    ·subst ej;simpa using e
    exact z j AL hl
   exact q i AL z (λ_=>Tz)
  intro k z;unfold aHw;rw[show decide ((l.length:Int)<(l.length:Int))=false by simp];exact q l.length AL z (λh=>AL)
def qA (l:A8 Int)(x:Int):(put l x).length<=l.length+1:=by
 unfold put;split
 ·omega
 rw[Ei,GK];have :=BG List.length (sF (p:=(decide<| · <x)) (l:=l))
 grind
def qm :∀(l a:A8 Int),(l.foldl put a).length<=a.length+l.length
 | [],a=>Bf
 |x::l,a=>by
  have h1:=qm l (put a x);have h2:=qA a x
  grind
def aW5 {a:A8 Int}(h:i<l.length):(l.take (i+1)).foldl put a=put ((l.take i).foldl put a) l[i]:=by
 rw[Nv h,Uk];rfl
def aH6 (l:A8 Int)(h:l.length<=274877906944):qZ l=some (FW l):=by
 refine dL.eq ?_;unfold qZ aOh;refine Jf l.length jZ (λi v=>v=(l.take i).foldl put []) Bf ?_ ?_
 ·rintro i v k hi rfl j;have hl:=qm (l.take i) [];simp only[Q7,H6]at hl;unfold aFu;rw[show decide ((i:Int)<(l.length:Int))=true by simpa using hi,CY hi,wrap_succ i AL];simp only[Bl,Ad];rw[qC _ _ AL];exact j _ (aW5 hi).symm
 rintro v k rfl;unfold aFu;rw[show decide ((l.length:Int)<(l.length:Int))=false by simp];exact .ret (by rw[Gy];rfl)
def aAn (a b:A8 Int)(h:a.length<=274877906944)(h2:b.length<=274877906944):ZQ a b=some (JF a b):=by
 unfold ZQ;rw[aH6 a h];have hs:=Nw a;refine dL.eq ?_;simp only[Ad];unfold aVc;refine Jf b.length jZ (λi v=>v=(b.take i).foldl put (FW a)) Bf ?_ ?_
 ·rintro i v k hi rfl j;have hl:=qm (b.take i) (FW a);simp only[H6]at hl;unfold aK9;rw[show decide ((i:Int)<(b.length:Int))=true by simpa using hi,CY hi,wrap_succ i AL];simp only[Bl,Ad];rw[qC _ _ AL];exact j _ (aW5 hi).symm
 rintro v k rfl;unfold aK9;rw[show decide ((b.length:Int)<(b.length:Int))=false by simp];exact .ret (by rw[Gy];rfl)
def je (a b:A8 Int):AX:=decide (a=b)
def a8f (a b:A8 Int)(h:a.length<=1099511627776):rJ a b=some (je a b):=by
 unfold rJ;refine dL.eq (dL.bif (λe=>?_) λe=>?_)
 ·refine .ret ?_;have :a≠b:=λe'=>by subst e';simp at e
  simp[je,this]
 have hl:a.length=b.length:=by
   have :(a.length:Int)=b.length:=Tz
   omega
 unfold aPB;refine YQ a.length jZ (λi=>∀j,(z:j<i)->(h1:j<a.length)->(h2:j<b.length)->a[j]=b[j]) (λj z=>AL) ?_ ?_
 ·intro i k hi I J;have q:i<b.length:=AL
  unfold aDa;rw[show decide ((i:Int)<(a.length:Int))=true by simpa using hi,CY hi,CY q,wrap_succ i AL];simp only[Bl,Ad];refine dL.bif (λe=>.ret ?_) λe=>J λj z h1 h2=>?_
  ·have u:a[i]≠b[i]:=Tz
   have :a≠b:=λe'=>by subst e';exact u rfl
   simp[je,this]
  grind
 intro k I;unfold aDa;rw[show decide ((a.length:Int)<(a.length:Int))=false by simp];refine .ret ?_;have :a=b:=XM hl λj h1 h2=>I j h1 h1 h2;simp[je,this]
variable {A:Type}{s t:BO}
section
variable {α:Type}
def Lr {R:Type}(c:AX)(x y:R):(bif c then some x else some y)=some (bif c then x else y):=by cases c<;>rfl
def aB3 {R:Type}(c:AX)(x y:AB A)(f:A->AB R):(bif c then x else y).bind f=bif c then x.bind f else y.bind f:=by cases c<;>rfl
def oW (a b:AX):(bif a then true else b)=(a||b):=by cases a<;>rfl
def SV (a b:AX):(bif a then b else false)=(a&&b):=by cases a<;>rfl
def Vu (h:i<(DR s).length):Il s (i:Int)=some (DR s)[i]:=by
 unfold Il;rw[Ea (aCh i)];have h':i<s.size:=XT
 have e:s[i]? =some s[i]:=by simp[h']
 simp only[XI,e,KD,DR,Px];rfl
def aky (h:0<(DR s).length):Il s 0=some (DR s)[0]:=Vu (i:=0) h
def Hq {R α:Type}{body:(Int->AB R)->Int->AB R}(l:A8 α)(hl:l.length<Ar)(p:α->AX)(bad:R)(rest:AB R)(u:∀k (i:Nat) (h:i<l.length),body k (i:Int)=bif p l[i]then some bad else k (Aw ((i:Int)+1)))(z:∀k,body k (l.length:Int)=rest):
 bC body Ar 0=bif l.any p then some bad else rest:=by
 have J:Ar=9223372036854775808:=rfl
 have key:∀n (i:Nat),i+n=l.length->∀m,n<m->bC body m (i:Int)=bif (l.drop i).any p then some bad else rest:=by
  intro n
  induction n with
  |zero=>
   intro i hi m hm;obtain⟨m,rfl⟩:∃q,m=q+1:=⟨m-1,AL⟩
   have :i=l.length:=AL
   subst this;show body (bC body m) _=_;rw[z,PL];rfl
  |succ n I=>
   intro i hi m hm;obtain⟨m,rfl⟩:∃q,m=q+1:=⟨m-1,AL⟩
   have j:i<l.length:=AL
   show body (bC body m) _=_;rw[u _ i j,wrap_succ i AL,I (i+1) AL m AL,NW j,List.any_cons];cases p l[i]<;>rfl
 grind
def bytes_inj (h:DR s=DR t):s=t:=by
 have hd:s.data.toList=t.data.toList:=by
  unfold DR at h;refine List.map_inj_right (f:=λc:UInt8=>(c.toNat:Int)) (λa b j=>?_) |>.1 h;exact UInt8.toNat_inj.1 AL
 obtain⟨⟨a⟩⟩:=s;obtain⟨⟨b⟩⟩:=t;simp only at hd;rw[hd]
def toList_inj (h:s.toList=t.toList):s=t:=by
 rw[ByteArray.toList_eq,ByteArray.toList_eq]at h;obtain⟨⟨a⟩⟩:=s;obtain⟨⟨b⟩⟩:=t;simp only at h;rw[h]
def Ja:(s.toList==t.toList)=decide (s=t):=by
 by_cases h:s=t
 ·subst h;simp
 have :s.toList≠t.toList:=λe=>h (toList_inj e);simp[h,this]
def KC {R α:Type}{body:(Int->AB R)->Int->AB R}(l:A8 α)(hl:l.length<Ar)(q:α->AX)(g:Nat->AB R)(rest:AB R)(z:∀k (i:Nat) (h:i<l.length),body k (i:Int)=bif q l[i]then g i else k (Aw ((i:Int)+1)))(I:∀k,body k (l.length:Int)=rest):
 bC body Ar 0=if l.findIdx q<l.length then g (l.findIdx q)else rest:=by
 have L:Ar=9223372036854775808:=rfl
 have key:∀n (i:Nat),i+n=l.length->∀m,n<m->bC body m (i:Int)=if(l.drop i).findIdx q+i<l.length then g ((l.drop i).findIdx q+i)else rest:=by
  intro n
  induction n with
  |zero=>
   intro i hi m hm;obtain⟨m,rfl⟩:∃u,m=u+1:=⟨m-1,AL⟩
   have :i=l.length:=AL
   subst this;show body (bC body m) _=_;rw[I,PL,Eh AL]
  |succ n J=>
   intro i hi m hm;obtain⟨m,rfl⟩:∃u,m=u+1:=⟨m-1,AL⟩
   have j:i<l.length:=AL
   show body (bC body m) _=_;rw[z _ i j,wrap_succ i AL,J (i+1) AL m AL,NW j,YH];cases q l[i]with
   |true=>
    simp[j]
   |false=>
    grind
 grind
def qB {lo hi:Nat}(h1:lo<=hi)(h2:hi<=s.size):OV s (lo:Int) (hi:Int)=some (s.extract lo hi):=by
 unfold OV;rw[Ea ⟨AL,AL,AL⟩];simp
def aOk (s:BO)(a b:Nat):DR (s.extract a b)=((DR s).take b).drop a:=by
 simp[DR,ByteArray.data_extract,iy,aV,List.extract_eq_drop_take']
def aHd (l:A8 α)(q:α->AX):(bif l.any (λc=> !q c)then false else true)=l.all q:=by
 grind
def aLD :∀(l:A8 UInt8) (c:UInt8),Lib.indexByte l c=if l.findIdx (· ==c)<l.length then((l.findIdx (· ==c):Nat):Int)else -1
 | [],c=>rfl
 |b::l,c=>by
  unfold Lib.indexByte;rw[YH];cases h:b==c with
  |true=>simp
  |false=>
   rw[aLD l c];simp only[TU,LP,BR,GK];by_cases hl:l.findIdx (· ==c)<l.length
   ·simp only[hl,KP,show l.findIdx (· ==c)+1<l.length+1 by omega];have :(((l.findIdx (· ==c):Nat):Int)== -1)=false:=Bf
    simp[this]
   simp[hl,show ¬l.findIdx (· ==c)+1<l.length+1 by omega]
end
structure FH (e:AQ):Prop where
 prev:e.bH.length<=40
 auth:e.bJ.length<=40
 allow:e.Content.Allow.length<=100
 deny:e.Content.iK.length<=100
 users:e.Content.Levels.Users.length<=100
 kinds:e.Content.Levels.Kinds.length<=100
 room:e.Room.size<=2000
 sender:e.bQ.size<=2000
 key:e.Key.size<=2000
 text:e.Content.Text.size<=2000
 via:e.Content.Via.size<=2000
 server:e.rV.Server.size<=2000
 allows:∀x∈e.Content.Allow,x.size<=2000
 denies:∀x∈e.Content.iK,x.size<=2000
 names:∀x∈e.Content.Levels.Users,x.User.size<=2000
variable {α:Type}{l:A8 α}
def am4 {P:α->Prop}(h:∀j,(hl:j<l.length)->P l[j]):∀x∈l,P x:=λx q=>by
 obtain⟨j,u,rfl⟩:=G8 q;exact h j u
def DI {R:Type}(h:i<l.length)(f:α->AB R)(z:AB R):(bif (i:Int)<(l.length:Int) then(Aq l (i:Int)).bind f else z)=f l[i]:=by
 rw[show decide ((i:Int)<(l.length:Int))=true by simpa using h,CY h];rfl
def EM {R:Type}(y z:AB R):(bif (l.length:Int)<(l.length:Int) then y else z)=z:=by
 rw[show decide ((l.length:Int)<(l.length:Int))=false by simp];rfl
variable {n:Nat}
def fuel_lt (h:n<=1099511627776):n<Ar:=kN
def dec_lt (h:i<n):decide ((i:Int)<(n:Int))=true:=OG
def Di (n:Nat):decide ((n:Int)<(n:Int))=false:=Bf
variable {a0:A}
def Ip {R:Type}{body:(A->Int->AB R)->A->Int->AB R}(l:A8 α)(hl:l.length<=1099511627776)(step:A->α->A)(I:Nat->A->Prop)(j:A->AB R)(z:I 0 a0)(J:∀k a (i:Nat) (h:i<l.length),I i a->I (i+1) (step a l[i])/\body k a (i:Int)=k (step a l[i]) (Aw ((i:Int)+1)))(L:∀k a,I l.length a->body k a (l.length:Int)=j a):aQ body Ar a0 0=j (l.foldl step a0):=by
 have key:∀n (i:Nat) (a:A),i+n=l.length->I i a->∀m,n<m->aQ body m a (i:Int)=j ((l.drop i).foldl step a):=by
  intro n
  induction n with
  |zero=>
   intro i a hi ha m hm;obtain⟨m,rfl⟩:∃u,m=u+1:=⟨m-1,AL⟩
   have :i=l.length:=AL
   subst this;show body (aQ body m) _ _=_;rw[L _ _ ha,PL];rfl
  |succ n M=>
   intro i a hi ha m hm;obtain⟨m,rfl⟩:∃u,m=u+1:=⟨m-1,AL⟩
   have q:i<l.length:=AL
   obtain⟨h1,h2⟩:=J (aQ body m) a i q ha;show body (aQ body m) _ _=_;rw[h2,wrap_succ i AL,M (i+1) _ AL h1 m AL,NW q,Fv]
 have :=key l.length 0 a0 AL z Ar (fuel_lt hl);simpa using this
def qL {R:Type}{body:(Int->A->AB R)->Int->A->AB R}(l:A8 α)(hl:l.length<=1099511627776)(step:A->α->A)(I:Nat->A->Prop)(j:A->AB R)(z:I 0 a0)(J:∀k a (i:Nat) (h:i<l.length),I i a->I (i+1) (step a l[i])/\body k (i:Int) a=k (Aw ((i:Int)+1)) (step a l[i]))(L:∀k a,I l.length a->body k (l.length:Int) a=j a):aQ body Ar 0 a0=j (l.foldl step a0):=by
 have key:∀n (i:Nat) (a:A),i+n=l.length->I i a->∀m,n<m->aQ body m (i:Int) a=j ((l.drop i).foldl step a):=by
  intro n
  induction n with
  |zero=>
   intro i a hi ha m hm;obtain⟨m,rfl⟩:∃u,m=u+1:=⟨m-1,AL⟩
   have :i=l.length:=AL
   subst this;show body (aQ body m) _ _=_;rw[L _ _ ha,PL];rfl
  |succ n M=>
   intro i a hi ha m hm;obtain⟨m,rfl⟩:∃u,m=u+1:=⟨m-1,AL⟩
   have q:i<l.length:=AL
   obtain⟨h1,h2⟩:=J (aQ body m) a i q ha;show body (aQ body m) _ _=_;rw[h2,wrap_succ i AL,M (i+1) _ AL h1 m AL,NW q,Fv]
 have :=key l.length 0 a0 AL z Ar (fuel_lt hl);simpa using this
def Ku {α:Type}(p:α->AX):∀l:A8 α,l.find? p=l[l.findIdx p]?
 | []=>rfl
 |x::l=>by
  rw[Xr,YH];cases h:p x with
  |true=>rfl
  |false=>simp[Ku p l]
def Ef (l:A8 AQ)(id:Int):Option AQ:=l.find? λe=>e.Id==id
def IK (l:A8 AQ)(id:Int):AQ×AX:=match Ef l id with
 |some e=>(e,true)
 |none=>(Fj,false)
variable {e:AQ}{l:A8 AQ}
def a1v {id:Int}(h:Ef l id=some e):e.Id=id:=by
 have :=xU h;simpa using this
def JM {id:Int}(h:Ef l id=some e):e∈l:=Ug h
def Nb (l:A8 AQ)(id:Int):(IK l id).2=(Ef l id).isSome:=by
 unfold IK;cases Ef l id<;>rfl
def a1Q (l:A8 AQ)(hl:l.length<=1099511627776)(f:AQ->AB AX)(p:AQ->AX)(j:∀e,f e=some (p e)):
 aH l f=some (if l.findIdx p<l.length then((l.findIdx p:Nat):Int)else -1):=by
 unfold aH aRN;rw[KC l (fuel_lt hl) p (λi=>some (i:Int)) (some (-1))]
 ·split<;>rfl
 ·intro k i h;unfold aGw;rw[DI h,j];rfl
 intro k;unfold aGw;rw[EM]
def found_eq (l:A8 AQ)(p:AQ->AX){n:Int}(j:n=if l.findIdx p<l.length then((l.findIdx p:Nat):Int)else -1):
 (bif n<0 then some (Fj,false)else(Aq l n).bind λq=>some (q,true))=some (match l.find? p with |some e=>(e,true)|none=>(Fj,false)):=by
 subst j;rw[Ku];by_cases h:l.findIdx p<l.length
 ·rw[Ea h,ES h,show decide (((l.findIdx p:Nat):Int)<0)=false by simp,CY h];rfl
 grind
def Om (l:A8 AQ)(id:Int)(hl:l.length<=1099511627776):MI l id=some (IK l id):=by
 unfold MI nZ xI;rw[a1Q l hl _ (λe=>e.Id==id) λ_=>rfl];exact found_eq l _ rfl
def aWq (l:A8 AQ)(id:Int)(hl:l.length<=1099511627776):sS l id=some (if l.findIdx (λe=>e.Id==id)<l.length then((l.findIdx (λe=>e.Id==id):Nat):Int)else -1):=by
 unfold sS aV8;rw[KC l (fuel_lt hl) (λe=>e.Id==id) (λi=>some (i:Int)) (some (-1))]
 ·split<;>rfl
 ·intro k i h;unfold aBn;rw[DI h]
 intro k;unfold aBn;rw[EM]
def N7 (l:A8 AQ)(id:Int)(hl:l.length<=1099511627776):LK l id=some (IK l id):=by
 unfold LK;rw[aWq l id hl];exact found_eq l _ rfl
def ofIds (l:A8 AQ)(ids:A8 Int):A8 AQ:=ids.filterMap (Ef l)
def foldl_append {α β:Type}(f:α->A8 β):∀(l:A8 α) (a:A8 β),l.foldl (λr x=>r++f x) a=a++l.flatMap f
 | [],a=>Bf
 |x::l,a=>by rw[Fv,foldl_append f l,Ov,JU]
def aQy (l:A8 AQ):∀ids,ofIds l ids=ids.flatMap λid=>(Ef l id).toList
 | []=>rfl
 |id::ids=>by
  unfold ofIds;rw[VD,Ov,←aQy l ids];cases Ef l id<;>rfl
def toList_le (o:AB α):o.toList.length<=1:=by cases o<;>simp
def Og {id:Int}(h:Ef l id=some e):IK l id=(e,true):=by unfold IK;rw[h]
def RN {id:Int}(h:Ef l id=none):IK l id=(Fj,false):=by unfold IK;rw[h]
def eS (l:A8 AQ)(ids:A8 Int):(ofIds l ids).length<=ids.length:=List.length_filterMap_le ..
def aOc (l:A8 AQ)(ids:A8 Int):ids.foldl (λr id=>r++(Ef l id).toList) []=ofIds l ids:=by
 rw[foldl_append (λid=>(Ef l id).toList),aQy];rfl
def aeW (l:A8 AQ)(ids:A8 Int)(hl:l.length<=1000)(hi:ids.length<=1000000):a5d l ids=some (ofIds l ids):=by
 unfold a5d
 have hm:Jj 376 Fj 0 (ids.length:Int)=some []:=by
  unfold Jj;rw[Ea a7J];rfl
 rw[hm];simp only[Ad];unfold aW1;rw[Ip ids AL (λr id=>r++(Ef l id).toList) (λi r=>r.length<=i) (λr=>some r) Bf]
 ·rw[aOc]
 ·intro k a i h q;have u:=toList_le (Ef l ids[i]);refine⟨Ln,?_⟩;unfold aDn a5Z;rw[DI h,Om l _ AL];cases j:Ef l ids[i]with
  |none=>simp[RN j]
  |some e=>
   rw[Og j];simp only[Ad,Bl,SB];rw[Dy GR];rfl
 intro k a q;unfold aDn;rw[EM]
def aGT (l:A8 AQ)(ids:A8 Int)(hl:l.length<=1000)(hi:ids.length<=1000000):oG l ids=some (ofIds l ids):=by
 unfold oG aR8;rw[Ip ids AL (λr id=>r++(Ef l id).toList) (λi r=>r.length<=i) (λr=>some r) Bf]
 ·rw[aOc]
 ·intro k a i h q;have u:=toList_le (Ef l ids[i]);refine⟨Ln,?_⟩;unfold aBz a6V;rw[DI h,N7 l _ AL];cases j:Ef l ids[i]with
  |none=>simp[RN j]
  |some e=>
   rw[Og j];simp only[Ad,Bl,SB];rw[Dy GR];rfl
 intro k a q;unfold aBz;rw[EM]
def aP5 (l:A8 α)(i:Nat)(x:α)(h:i<l.length):l.set i x=l.take i++x::l.drop (i+1):=aEz▸by simp[h]
def aW9 (A:A8 α)(g:α)(D:A8 α)(h:A.length=n):(A++g::D).take n=A/\(A++g::D).drop (n+1)=D:=by
 subst h;simp
def aJT (l:A8 Int)(x:Int)(hi:Inc l)(hl:l.length<=1000000):oD l x=some (put l x):=by
 refine dL.eq ?_;unfold oD aOx
 have L:∀i,i<=l.length->(∀j,(U:j<i)->(hl:j<l.length)->l[j]<x)->(∀h:i<l.length,x<l[i])->put l x=l.take i++x::l.drop i:=by
  intro i hi' h1 h2;obtain⟨e1,O⟩:=aH5 (decide<| · <x) l i hi' (λj U hl=>by simpa using h1 j U hl) (λhl=>by have :=h2 hl;simp;omega)
  have hno:ER l x=false:=PO.2 λhm=>by
   obtain⟨q,hq,e4⟩:=G8 hm;rcases kK q i with h5|h5
   ·have :=h1 q h5 hq;omega
   have h6:=h2 AL;rcases kK i q with h7|h7
   ·have :=J9.1 hi i q AL hq h7;omega
   have :q=i:=AL
   subst this;omega
  unfold put;rw[hno,e1,O];rfl
 have z:∀i,i<=l.length->∀d,d<=l.length-i->∀m,d<m->dL (aQ (Vk (i:Int) x) m ((i+d:Nat):Int) (l.take (i+d)++(l++[x]).getD (i+d) 0::l.drop (i+d))) (· =l.take i++x::l.drop i):=by
  intro i I d
  induction d with
  |zero=>
   intro _ m hm;obtain⟨m,rfl⟩:∃m',m=m'+1:=⟨m-1,AL⟩
   show dL (Vk (i:Int) x (aQ (Vk (i:Int) x) m) _ _) _;generalize aQ (Vk (i:Int) x) m=k;unfold Vk;rw[show decide (((i+0:Nat):Int)>(i:Int))=false by simp];simp only[BR,Pz];have hlen:i<(l.take i++(l++[x]).getD i 0::l.drop i).length:=Ej
   rw[CY hlen];refine .ret ?_;rw[XI,aP5 _ _ _ hlen];simp[List.take_append,List.drop_append,yh I]
  |succ d ih=>
   intro hd m hm;obtain⟨m,rfl⟩:∃m',m=m'+1:=⟨m-1,AL⟩
   have Y:=ih AL m AL;show dL (Vk (i:Int) x (aQ (Vk (i:Int) x) m) _ _) _;generalize aQ (Vk (i:Int) x) m=k at Y ⊢;unfold Vk;rw[show decide (((i+(d+1):Nat):Int)>(i:Int))=true by simp;omega];simp only[Bl];have w:Aw (((i+(d+1):Nat):Int)-1)=((i+d:Nat):Int):=Oj
   have J:i+d<l.length:=AL
   have hL:(l.take (i+(d+1))++(l++[x]).getD (i+(d+1)) 0::l.drop (i+(d+1))).length=l.length+1:=Ej
   have h1:i+d<(l.take (i+(d+1))++(l++[x]).getD (i+(d+1)) 0::l.drop (i+(d+1))).length:=AL
   have h2:i+(d+1)<(l.take (i+(d+1))++(l++[x]).getD (i+(d+1)) 0::l.drop (i+(d+1))).length:=AL
   rw[w,CY h1];simp only[Ad];rw[CY h2];simp only[Ad]
   have hg:(l.take (i+(d+1))++(l++[x]).getD (i+(d+1)) 0::l.drop (i+(d+1)))[i+d]=l[i+d]:=by
    rw[a2z Ej];simp
   rw[hg,XI,aP5 _ _ _ h2]
   have e:(l.take (i+(d+1))++(l++[x]).getD (i+(d+1)) 0::l.drop (i+(d+1))).take (i+(d+1))++l[i+d]::(l.take (i+(d+1))++(l++[x]).getD (i+(d+1)) 0::l.drop (i+(d+1))).drop (i+(d+1)+1)=l.take (i+d)++(l++[x]).getD (i+d) 0::l.drop (i+d):=by
    have ht:(l.take (i+(d+1))).length=i+(d+1):=Ej
    rw[(aW9 _ _ _ ht).1,(aW9 _ _ _ ht).2];have h3:(l++[x]).getD (i+d) 0=l[i+d]:=by simp[List.getD,KJ J,J]
    rw[h3,show i+(d+1)=i+d+1 by omega,Nv J,NW J,JU];rfl
   rw[e];exact Y
 have u:l++[x]=l.take l.length++(l++[x]).getD l.length 0::l.drop l.length:=Bf
 refine YQ l.length (fuel_lt AL) (λi=>∀j,(U:j<i)->(hl:j<l.length)->l[j]<x) (λj U=>AL) ?_ ?_
 ·intro i k I Z hk;unfold aDE;rw[show decide ((i:Int)<(l.length:Int))=true by simpa using I,CY I];simp only[Bl,Ad];refine dL.bif (λe=>?_) λe=>?_
  ·rw[wrap_succ i AL];refine hk λj U hl'=>?_;by_cases ej:j=i
   ·subst ej;simpa using e
   exact Z j AL hl'
  have hge:¬l[i]<x:=Tz
  refine dL.bif (λO=>?_) λO=>?_
  ·have hx:l[i]=x:=Yh
   refine .ret ?_;unfold put;rw[LQ.2 (hx▸EY I)];rfl
  have hx:l[i]≠x:=Yh
  rw[Dy GR];simp only[Ad];rw[L i AL Z (λ_=>AL)];have w:Aw (((l++[x]).length:Int)-1)=((i+(l.length-i):Nat):Int):=aJt
  rw[w];have M:=z i AL (l.length-i) (Eb _) Ar (fuel_lt AL);rw[show i+(l.length-i)=l.length by omega]at M ⊢;rw[←u]at M;exact M
 intro k Z;unfold aDE;rw[show decide ((l.length:Int)<(l.length:Int))=false by simp];simp only[BR,Ad];rw[Dy GR];simp only[Ad];rw[L l.length (Eb _) Z (λh=>AL)];have w:Aw (((l++[x]).length:Int)-1)=((l.length+0:Nat):Int):=aJt
 rw[w];have M:=z l.length (Eb _) 0 AL Ar (fuel_lt AL);rw[Pz]at M ⊢;rw[←u]at M;exact M
def bU (l:A8 AQ)(id:Int):AX:=(Ef l id).isSome
def Qr (l:A8 AQ)(ids:A8 Int):A8 Int:=ids.foldl (λr id=>bif bU l id then r else put r id) []
def gK (l:A8 AQ)(ids:A8 Int):A8 Int:=(FW ids).filter (bU l)
variable {ids:A8 Int}{x:Int}
def NT:x∈gK l ids↔x∈ids/\bU l x=true:=by unfold gK;rw[Gx,Kw]
def dG (l:A8 AQ)(ids:A8 Int):Inc (gK l ids):=(NP ids).sublist Uc
def ajO (l:A8 AQ)(ids:A8 Int):(gK l ids).length<=ids.length:=EK (Lu _ _) (Nw ids)
def a6X (l:A8 AQ):∀(ids r:A8 Int),Inc r->Inc (ids.foldl (λr id=>bif bU l id then r else put r id) r)/\∀x,x∈ids.foldl (λr id=>bif bU l id then r else put r id) r↔x∈r\/x∈ids/\bU l x=false
 | [],r,h=>⟨h,λx=>Bf⟩
 |id::ids,r,h=>by
  rw[Fv];cases j:bU l id with
  |true=>
   obtain⟨h1,h2⟩:=a6X l ids r h;refine⟨h1,λx=>(h2 x).trans ⟨λh=>?_,λh=>?_⟩⟩
   ·rcases h with h|h
    ·exact .inl h
    exact .inr ⟨IZ _ h.1,h.2⟩
   rcases h with h|⟨h,h3⟩
   ·exact .inl h
   rcases FP.1 h with rfl|h
   ·rw[j]at h3;cases h3
   exact .inr ⟨h,h3⟩
  |false=>
   obtain⟨h1,h2⟩:=a6X l ids (put r id) (TG h);refine⟨h1,λx=>(h2 x).trans ?_⟩;rw[Wy,FP];constructor
   ·rintro((h|rfl)|h)
    ·exact .inl h
    ·exact .inr ⟨.inl rfl,j⟩
    exact .inr ⟨.inr h.1,h.2⟩
   rintro(h|⟨rfl|h,h3⟩)
   ·exact .inl (.inl h)
   ·exact .inl (.inr rfl)
   exact .inr ⟨h,h3⟩
def lZ:x∈Qr l ids↔x∈ids/\bU l x=false:=by
 unfold Qr;rw[(a6X l ids [] .nil).2 x];simp
def aks (l:A8 AQ)(ids:A8 Int):Inc (Qr l ids):=(a6X l ids [] .nil).1
def aPH (l:A8 AQ)(ids:A8 Int):(Qr l ids).length<=ids.length:=by
 have key:∀(ids r:A8 Int),(ids.foldl (λr id=>bif bU l id then r else put r id) r).length<=r.length+ids.length:=by
  intro ids
  induction ids with
  |nil=>intro r;simp
  |cons id ids j=>
   intro r;rw[Fv];have h1:=j (bif bU l id then r else put r id)
   have h2:(bif bU l id then r else put r id).length<=r.length+1:=by
    cases bU l id with
    |true=>exact Nat.le_succ _
    |false=>exact qA r id
   simp only[GK];omega
 have :=key ids [];simpa[Qr]using this
def rX (l:A8 AQ)(ids:A8 Int)(hl:l.length<=1000)(hi:ids.length<=100000):YX l ids=some (Qr l ids):=by
 unfold YX aSt;rw[Ip ids AL (λr id=>bif bU l id then r else put r id) (λi r=>Inc r/\r.length<=i) (λr=>some r) ⟨.nil,Eb _⟩]
 ·rfl
 ·intro k a i h j;have hp:=aWq l ids[i] AL
  have u:bU l ids[i]=decide (l.findIdx (λe=>e.Id==ids[i])<l.length):=by
   unfold bU Ef;rw[Ku];by_cases h:l.findIdx (λe=>e.Id==ids[i])<l.length
   ·rw[ES h,KL h];rfl
   rw[Oo AL,IC h];rfl
  refine⟨?_,?_⟩
  ·cases bU l ids[i]with
   |true=>exact⟨j.1,by have :=j.2;show a.length<=i+1;omega⟩
   |false=>exact⟨TG j.1,by have :=qA a ids[i];have :=j.2;show(put a ids[i]).length<=i+1;omega⟩
  unfold aJ5 a4i;rw[DI h,hp];simp only[Ad];by_cases q:l.findIdx (λe=>e.Id==ids[i])<l.length
  ·rw[Ea q,u,KL q,show decide (((l.findIdx (λe=>e.Id==ids[i]):Nat):Int)<0)=false by simp];rfl
  rw[Eh q,u,IC q,CY h];simp only[show decide ((-1:Int)<0)=true by decide,Bl,BR,Ad];rw[aJT a _ j.1 (by have :=j.2;omega)];rfl
 intro k a j;unfold aJ5;rw[EM]
def aAt (a b:A8 Int)(h:a.length<=274877906944)(h2:b.length<=274877906944):jL a b=some (Ph a b):=by
 unfold jL;rw[aH6 a h];simp only[Ad];have ha:=Nw a;unfold aPe;rw[Ip (FW a) AL (λr x=>bif ER b x then r else r++[x]) (λi r=>r.length<=i) (λr=>some r) (Eb _)]
 ·congr 1;unfold Ph;generalize FW a=S
  have key:∀(S r:A8 Int),S.foldl (λr x=>bif ER b x then r else r++[x]) r=r++S.filter (λx=> !ER b x):=by
   intro S
   induction S with
   |nil=>
    intro r;simp
   |cons x S j=>
    intro r;rw[Fv,j,VH];cases ER b x<;>simp
  simpa using key S []
 ·intro k r i h q;have u:=XG b (FW a)[i] AL;refine⟨?_,?_⟩
  ·cases ER b (FW a)[i]with
   |true=>
    grind
   |false=>
    show(r++[(FW a)[i]]).length<=i+1;simp;omega
  unfold aIt aAD;rw[DI h,u];simp only[Ad];cases ER b (FW a)[i]with
  |true=>
   rfl
  |false=>
   simp only[Jl,Bl,BR];rw[CY h];simp only[Ad];rw[Dy GR];rfl
 intro k r q;unfold aIt;rw[EM]
def aSS (l:A8 AQ)(ids:A8 Int):Ph ids (Qr l ids)=gK l ids:=
 Dp (aIX _ _) (dG _ _) λx=>by
  rw[aEO,lZ,NT]
  grind
def aXW (l:A8 AQ)(ids:A8 Int)(hl:l.length<=1000)(hi:ids.length<=100000):a3W l ids=some (gK l ids):=by
 unfold a3W;rw[rX l ids hl hi];simp only[Ad];have :=aPH l ids;rw[aAt _ _ AL AL,aSS];rfl
def aLn (l:A8 AQ)(ids:A8 Int)(hl:l.length<=1000)(hi:ids.length<=100000):a0f l ids=some (gK l ids):=by
 unfold a0f;rw[rX l ids hl hi];simp only[Ad];have :=aPH l ids;rw[aAt _ _ AL AL,aSS];rfl
def iQ (l:A8 AQ)(id:Int):A8 Int:=(IK l id).1.bJ
def VN (l:A8 AQ)(r:A8 Int)(x:Int):A8 Int:=bif bU l x then put r x else r
def Lj (l:A8 AQ)(ids:A8 Int):A8 Int:=ids.foldl (λr id=>(iQ l id).foldl (VN l) r) []
def a7G (l:A8 AQ):∀(xs r:A8 Int),Inc r->Inc (xs.foldl (VN l) r)/\(∀x,x∈xs.foldl (VN l) r↔x∈r\/x∈xs/\bU l x=true)/\(xs.foldl (VN l) r).length<=r.length+xs.length
 | [],r,h=>⟨h,λx=>Bf,Bf⟩
 |y::xs,r,h=>by
  rw[Fv];unfold VN;cases q:bU l y with
  |true=>
   obtain⟨h1,h2,h3⟩:=a7G l xs (put r y) (TG h);refine⟨h1,λx=>(h2 x).trans ?_,?_⟩
   ·rw[Wy,FP];constructor
    ·rintro((h|rfl)|h)
     ·exact .inl h
     ·exact .inr ⟨.inl rfl,q⟩
     exact .inr ⟨.inr h.1,h.2⟩
    rintro(h|⟨rfl|h,j⟩)
    ·exact .inl (.inl h)
    ·exact .inl (.inr rfl)
    exact .inr ⟨h,j⟩
   have :=qA r y;simp only[GK,Bl]at h3 ⊢;exact EK h3 AL
  |false=>
   obtain⟨h1,h2,h3⟩:=a7G l xs r h;refine⟨h1,λx=>(h2 x).trans ⟨λh=>?_,λh=>?_⟩,?_⟩
   ·rcases h with h|h
    ·exact .inl h
    exact .inr ⟨IZ _ h.1,h.2⟩
   ·rcases h with h|⟨h,j⟩
    ·exact .inl h
    rcases FP.1 h with rfl|h
    ·rw[q]at j;cases j
    exact .inr ⟨h,j⟩
   simp only[GK,BR]at h3 ⊢;exact EK h3 AL
def aKT (l:A8 AQ):∀(ids r:A8 Int),Inc r->Inc (ids.foldl (λr id=>(iQ l id).foldl (VN l) r) r)/\∀x,x∈ids.foldl (λr id=>(iQ l id).foldl (VN l) r) r↔x∈r\/bU l x=true/\∃id∈ids,x∈iQ l id
 | [],r,h=>⟨h,λx=>Bf⟩
 |id::ids,r,h=>by
  rw[Fv];obtain⟨j,q,_⟩:=a7G l (iQ l id) r h;obtain⟨h1,h2⟩:=aKT l ids _ j
  grind
def zn (l:A8 AQ)(ids:A8 Int):Inc (Lj l ids):=(aKT l ids [] .nil).1
def Ti:x∈Lj l ids↔bU l x=true/\∃id∈ids,x∈iQ l id:=by
 unfold Lj;rw[(aKT l ids [] .nil).2 x];simp
def chainOf (l:A8 AQ)(ids:A8 Int):A8 Int:=l.foldl (λs _=>JF s (Lj l s)) (Lj l (gK l ids))
inductive Ls (l:List AQ) (ids:List Int):Int->Prop
 |one {i x:Int} (h:i∈ids) (hx:x∈iQ l i) (hk:bU l x=true):Ls l ids x
 |more {y x:Int} (h:Ls l ids y) (hx:x∈iQ l y) (hk:bU l x=true):Ls l ids x
def alN {i:Int}(h:x∈iQ l i):bU l i=true:=by
 unfold iQ at h;unfold bU;cases j:Ef l i with
 |none=>rw[RN j]at h;cases h
 |some e=>rfl
def yH {s t:A8 Int}(hs:Inc s)(j:Inc t)(h:∀x∈s,x∈t):s.length<=t.length/\(t.length<=s.length->s=t):=by
 have e:s=t.filter (λx=>ER s x):=Dp hs (j.sublist Uc) λx=>by
  rw[Gx,LQ]
  grind
 have hl:=Lu (λx=>ER s x) t;refine⟨by rw[e];exact hl,λq=>?_⟩;have h3:(t.filter (λx=>ER s x)).length=t.length:=by have :=BG List.length e;omega
 rw[e];exact nS.2 (List.length_filter_eq_length_iff.1 h3)
def UG (l:A8 AQ):A8 Int:=FW (l.map (·.Id))
def yB (h:bU l x=true):x∈UG l:=by
 unfold bU at h;obtain⟨e,j⟩:=SX.1 h;exact Kw.2 (Ez.2 ⟨e,JM j,a1v j⟩)
def a4h (l:A8 AQ):∀(l':A8 AQ) (s:A8 Int),Inc s->(∀x∈s,bU l x=true)->
 Inc (l'.foldl (λs _=>JF s (Lj l s)) s)/\(∀x∈l'.foldl (λs _=>JF s (Lj l s)) s,bU l x=true)/\(∀x∈s,x∈l'.foldl (λs _=>JF s (Lj l s)) s)/\
 ((UG l).length<=s.length+l'.length->∀x∈Lj l (l'.foldl (λs _=>JF s (Lj l s)) s),x∈l'.foldl (λs _=>JF s (Lj l s)) s)
 | [],s,hs,u=>⟨hs,u,λ_ h=>h,λhlen x j=>by
     have h1:=(yH hs (NP _) (λx j=>yB (u x j))).2 (by show(UG l).length<=s.length;simpa using hlen);have h2:=yB (Ti.1 j).1;unfold UG at h2
     rw[←h1]at h2;exact h2⟩
 |e::l',s,hs,u=>by
  rw[Fv]
  have z:∀x∈JF s (Lj l s),bU l x=true:=λx j=>by
   rcases Uf.1 j with h|h
   ·exact u x h
   exact(Ti.1 h).1
  obtain⟨h1,h2,h3,J⟩:=a4h l l' (JF s (Lj l s)) (uO _ _) z;refine⟨h1,h2,λx j=>h3 x (Uf.2 (.inl j)),λhlen=>?_⟩;have I:=yH hs (uO s (Lj l s)) λx j=>Uf.2 (.inl j);by_cases q:s=JF s (Lj l s)
  ·
   have hst:∀(l':A8 AQ),l'.foldl (λs _=>JF s (Lj l s)) s=s:=by
    intro l'
    induction l' with
    |nil=>
     rfl
    |cons e l' L=>
     grind
   rw[←q,hst];intro x j;rw[q];exact Uf.2 (.inr j)
  grind
def a7L (l:A8 AQ)(ids:A8 Int):Inc (chainOf l ids):=(a4h l l _ (zn _ _) λ_ j=>(Ti.1 j).1).1
def abr (h:x∈chainOf l ids):bU l x=true:=(a4h l l _ (zn _ _) λ_ j=>(Ti.1 j).1).2.1 x h
def aX7 (l:A8 AQ)(ids:A8 Int):∀(l':A8 AQ) (s:A8 Int),(∀x∈s,Ls l ids x)->∀x∈l'.foldl (λs _=>JF s (Lj l s)) s,Ls l ids x
 | [],s,h=>h
 |e::l',s,h=>by
  rw[Fv];refine aX7 l ids l' _ λx j=>?_;rcases Uf.1 j with j|j
  ·exact h x j
  obtain⟨h1,y,h2,h3⟩:=Ti.1 j;exact .more (h y h2) h3 h1
def jO:x∈chainOf l ids↔Ls l ids x:=by
 constructor
 ·refine aX7 l ids l _ (λx j=>?_) x;obtain⟨h1,y,h2,h3⟩:=Ti.1 j;exact .one (NT.1 h2).1 h3 h1
 obtain⟨h1,h2,h3,u⟩:=a4h l l _ (zn l (gK l ids)) λ_ j=>(Ti.1 j).1
 have hlen:(UG l).length<=(Lj l (gK l ids)).length+l.length:=by
  have :=Nw (l.map (·.Id));unfold UG
  grind
 have z:=u hlen;intro h
 induction h with
 |one h j q=>
  exact h3 _ (Ti.2 ⟨q,_,NT.2 ⟨h,alN j⟩,j⟩)
 |more h j q I=>
  exact z _ (Ti.2 ⟨q,_,I,j⟩)
def bY (l:A8 AQ)(ids:A8 Int):(chainOf l ids).length<=l.length:=by
 have h1:=(yH (t:=UG l) (a7L l ids) (NP _) λx j=>yB (abr j)).1;have h2:=Nw (l.map λe:AQ=>e.Id);unfold UG at h1
 grind
def RI (l:A8 AQ):Prop:=∀e∈l,e.bJ.length<=40
def a6l (h:RI l)(id:Int):(iQ l id).length<=40:=by
 unfold iQ;cases j:Ef l id with
 |none=>rw[RN j];exact F7 _
 |some e=>rw[Og j];exact h e (JM j)
def ahG (l:A8 AQ)(ids:A8 Int):(Lj l ids).length<=l.length:=by
 have h1:=(yH (t:=UG l) (zn l ids) (NP _) λx j=>yB (Ti.1 j).1).1;have h2:=Nw (l.map λe:AQ=>e.Id);unfold UG at h1
 grind
variable {r:A8 Int}
def lI (hi:Inc r)(h:∀x∈r,bU l x=true):r.length<=l.length:=by
 have h1:=(yH (t:=UG l) hi (NP _) λx j=>yB (h x j)).1;have h2:=Nw (l.map λe:AQ=>e.Id);unfold UG at h1
 grind
def aXD (l:A8 AQ)(ids:A8 Int)(hl:l.length<=1000)(ha:RI l)(hi:ids.length<=100000):tY l ids true=some (Lj l ids):=by
 unfold tY aQx;rw[Ip ids AL (λr id=>(iQ l id).foldl (VN l) r) (λi r=>Inc r/\∀x∈r,bU l x=true) (λr=>some r) ⟨.nil,λx u=>by cases u⟩]
 ·rfl
 ·intro k r i h z;obtain⟨L,U,_⟩:=a7G l (iQ l ids[i]) r z.1;refine⟨⟨L,λx u=>?_⟩,?_⟩
  ·grind
  unfold aJS a6y;rw[DI h,N7 l _ AL];simp only[Ad,Bl];show aI6 (iQ l ids[i]) l k (i:Int) r 0=_;have M:=a6l ha ids[i];unfold aI6;rw[Ip (iQ l ids[i]) AL (VN l) (λ_ r=>Inc r/\∀x∈r,bU l x=true) (λr=>k r (Aw ((i:Int)+1))) z]
  ·intro k2 O j I q;refine⟨?_,?_⟩
   ·unfold VN;cases J:bU l (iQ l ids[i])[j]with
    |true=>
     exact⟨TG q.1,λx u=>(Wy.1 u).elim (q.2 x) λe=>e▸J⟩
    |false=>
     exact q
   unfold aHG a5T;rw[DI I,N7 l _ AL];simp only[Ad,Nb];show(bif bU l (iQ l ids[i])[j]then _ else _)=_;unfold VN;cases J:bU l (iQ l ids[i])[j]with
   |true=>
    simp only[Bl];rw[CY I];simp only[Ad];have :=lI q.1 q.2;rw[qC _ _ AL];rfl
   |false=>
    rfl
  intro k2 O _;unfold aHG;rw[EM]
 intro k r z;unfold aJS;rw[EM]
def ab2 (l:A8 AQ)(ids:A8 Int)(hl:l.length<=1000)(ha:RI l)(h1:Inc ids)(h2:∀x∈ids,bU l x=true):a3V l ids true=some (l.foldl (λs _=>JF s (Lj l s)) ids):=by
 unfold a3V aOR;rw[Ip l AL (λs _=>JF s (Lj l s)) (λ_ r=>Inc r/\∀x∈r,bU l x=true) (λr=>some r) ⟨h1,h2⟩]
 ·intro k r i h j;refine⟨⟨uO _ _,λx q=>(Uf.1 q).elim (j.2 x) λh=>(Ti.1 h).1⟩,?_⟩;have u:=lI j.1 j.2;have z:=ahG l r;unfold aDp;rw[dec_lt h];simp only[Bl];rw[aXD l r hl ha AL];simp only[Ad];rw[aAn _ _ AL AL];rfl
 intro k r j;unfold aDp;rw[Di];rfl
def aIb (l:A8 AQ)(ids:A8 Int)(hl:l.length<=1000)(ha:RI l)(hi:ids.length<=100000):fK l ids=some (chainOf l ids):=by
 unfold fK;have q:=ajO l ids;rw[aXW l ids hl hi];simp only[Ad];rw[aXD l _ hl ha AL];simp only[Ad];rw[ab2 l _ hl ha (zn _ _) λx j=>(Ti.1 j).1];rfl
section
variable {R A B C D E F G:Type} {Q:R->Prop}
def UQ {body:(A->B->C->AB R)->A->B->C->AB R}(I:Nat->A->B->C->Prop)(hs:∀m a b c k,I m a b c->(∀j a' q u,j<m->I j a' q u->dL (k a' q u) Q)->dL (body k a b c) Q):
 ∀n m a b c,m<n->I m a b c->dL (iZ body n a b c) Q
 |0,m,_,_,_,h,_=>AL
 |n+1,m,a,b,c,h,hi=>hs m a b c _ hi λj a' q u h' z=>UQ I hs n j a' q u AL z
def a6v {body:(A->B->C->D->E->AB R)->A->B->C->D->E->AB R}(I:Nat->A->B->C->D->E->Prop)(hs:∀m a b c d e k,I m a b c d e->(∀j a' q u z e',j<m->I j a' q u z e'->dL (k a' q u z e') Q)->dL (body k a b c d e) Q):
 ∀n m a b c d e,m<n->I m a b c d e->dL (DF body n a b c d e) Q
 |0,m,_,_,_,_,_,h,_=>AL
 |n+1,m,a,b,c,d,e,h,hi=>hs m a b c d e _ hi λj a' q u z e' h' J=>a6v I hs n j a' q u z e' AL J
def aDP {body:(A->B->C->D->E->F->AB R)->A->B->C->D->E->F->AB R}(I:Nat->A->B->C->D->E->F->Prop)(hs:∀m a b c d e f k,I m a b c d e f->(∀j a' q u z e' J,j<m->I j a' q u z e' J->dL (k a' q u z e' J) Q)->dL (body k a b c d e f) Q):
 ∀n m a b c d e f,m<n->I m a b c d e f->dL (Gw body n a b c d e f) Q
 |0,m,_,_,_,_,_,_,h,_=>AL
 |n+1,m,a,b,c,d,e,f,h,hi=>hs m a b c d e f _ hi λj a' q u z e' J h' L=>aDP I hs n j a' q u z e' J AL L
def aLh {body:(A->B->C->D->E->F->G->AB R)->A->B->C->D->E->F->G->AB R}(I:Nat->A->B->C->D->E->F->G->Prop)(hs:∀m a b c d e f g k,I m a b c d e f g->(∀j a' q u z e' J L,j<m->I j a' q u z e' J L->dL (k a' q u z e' J L) Q)->dL (body k a b c d e f g) Q):
 ∀n m a b c d e f g,m<n->I m a b c d e f g->dL (adp body n a b c d e f g) Q
 |0,m,_,_,_,_,_,_,_,h,_=>AL
 |n+1,m,a,b,c,d,e,f,g,h,hi=>hs m a b c d e f g _ hi λj a' q u z e' J L h' M=>aLh I hs n j a' q u z e' J L AL M
end
def RX {V:Type}:∀(m:A8 (Int×V)) (k k':Int) (v:V),DN (ET m k v) k'=bif k'==k then some v else DN m k'
 | [],k,k',v=>by
   unfold ET DN;rfl
 |p::m,k,k',v=>by
  unfold ET;cases h:k==p.1 with
  |true=>
   have h1:k=p.1:=OG
   subst h1;simp only[Bl,DN];cases k'==p.1<;>rfl
  |false=>
   have h1:k≠p.1:=OG
   simp only[BR,DN,RX m k k' v];cases h2:k'==p.1 with
   |true=>
    have h3:k'=p.1:=L9
    subst h3;have :(p.1==k)=false:=by simpa using λe:p.1=k=>h1 e.symm
    rw[this];rfl
   |false=>rfl
def aF (l:A8 AQ)(m:A8 (Int×Int)):Prop:=∀id,(DN m id=none/\Ef l id=none)\/∃(n:Nat) (e:AQ),DN m id=some (n:Int)/\Ef l id=some e/\l[n]? =some e
variable {m:A8 (Int×Int)}
def aF.isSome (h:aF l m)(id:Int):(DN m id).isSome=bU l id:=by
 unfold bU;rcases h id with⟨h1,h2⟩|⟨n,e,h1,h2,_⟩<;>rw[h1,h2]<;>rfl
def aF.get (h:aF l m){id:Int}(j:Ef l id=some e):Aq l ((DN m id).getD 0)=some e:=by
 rcases h id with⟨_,h2⟩|⟨n,e',h1,h2,h3⟩
 ·grind
 rw[j]at h2;cases h2;rw[h1];show Aq l (n:Int)=_;rw[a7m,h3]
def a0R (l:A8 AQ)(hl:l.length<=1000):dL (YR l) (aF l):=by
 unfold YR aMv
 refine aB (λm a b=>∃i:Nat,a=(i:Int)-1/\m=i/\i<=l.length/\∀id,(DN b id=none/\(l.drop i).find? (λe=>e.Id==id)=none)\/∃(n:Nat) (e:AQ),DN b id=some (n:Int)/\(l.drop i).find? (λe=>e.Id==id)=some e/\l[n]? =some e) ?_ Ar l.length _ _ (fuel_lt AL)
  ⟨l.length,Oj,rfl,Eb _,λid=>.inl ⟨rfl,Bf⟩⟩
 rintro m a b k ⟨i,rfl,hm,hi,h⟩ u;unfold aTW;refine dL.bif (λe=>?_) λe=>?_
 ·have q:0<i:=by have :=P7 e;omega
  have j:i-1<l.length:=AL
  have z:(i:Int)-1=((i-1:Nat):Int):=AL
  rw[z,CY j];simp only[Ad];refine u (i-1) _ _ AL ⟨i-1,Oj,rfl,AL,λid=>?_⟩;rw[RX,NW j,show i-1+1=i by omega,Xr]
  grind
 have I:i=0:=by have :=Nc e;omega
 subst I;refine .ret λid=>?_;have :=h id;rw[a1H]at this;exact this
inductive WH (l:List AQ) (from_:List Int):Int->Prop
 |one {x:Int} (h:x∈from_) (hk:bU l x=true):WH l from_ x
 |more {y x:Int} (h:WH l from_ y) (hx:x∈iQ l y) (hk:bU l x=true):WH l from_ x
def WH.bU {f:A8 Int}(h:WH l f x):bU l x=true:=by cases h<;>assumption
def adz (h:x∉r):(put r x).length=r.length+1:=by
 unfold put;rw[Eh (by rw[LQ];exact h),Ei,GK];have :=BG List.length (sF (p:=(decide<| · <x)) (l:=r))
 grind
def aVq (r:A8 Int)(x:Int):FW (r++[x])=put (FW r) x:=by unfold FW;rw[Uk];rfl
structure acO (l:List AQ) (from_ next aBX:List Int) (i:Nat) (out later:List Int) (found level:List (Int×Bool)):Prop where
 found:∀x,(DN found x).getD false=true↔x∈out
 level:∀x,(DN level x).getD false=true->x∈out
 nodup:(FW out).length=out.length
 rch:∀x∈out,WH l from_ x
 seen:∀x∈next.take i,bU l x=true->x∈out
 sub:∀x∈aBX,x∈out
 ref:∀y∈out,y∈aBX\/∀x∈iQ l y,x∈later
 back:∀x∈later,∃y∈out,x∈iQ l y
 size:later.length+40*aBX.length<=40*out.length
 same:out.length=aBX.length->later=[]
variable {j:A8 Int}
def aHp (h:(FW j).length=j.length)(q:∀x∈j,bU l x=true):j.length<=l.length:=by
 rw[←h];exact lI (NP j) λx u=>q x (Kw.1 u)
def afw (l:A8 AQ)(h:Ef l x=some e):ZE e=some (iQ l x):=by
 unfold ZE iQ;rw[Og h]
def aaS (l:A8 AQ)(q:A8 Int)(hl:l.length<=1000)(ha:RI l)(hf:q.length<=10000000):
 dL (yY l q λa0=>ZE a0) (λr=>Inc r/\∀x,x∈r↔WH l q x):=by
 unfold yY;refine(a0R l hl).bind λat_ Z=>?_;unfold aWb
 refine a6v (λm z next at' found level=>at'=at_/\m=2*(l.length-z.length)+(if next=[]then 0 else 1)/\next.length<=10000000/\(∀x,(DN found x).getD false=true↔x∈z)/\(FW z).length=z.length/\
  (∀x∈z,WH l q x)/\(∀x∈next,bU l x=true->WH l q x)/\(∀x∈q,bU l x=true->x∈z\/x∈next)/\(∀y∈z,∀x∈iQ l y,bU l x=true->x∈z\/x∈next)) ?_ Ar (2*(l.length-([]:A8 Int).length)+(if q=[]then 0 else 1)) _ _ _ _ _ ?_ ?_
 ·rintro m z next at2 found level k ⟨aMa,rfl,hn,h1,h2,h3,h4,h5,h6⟩ M;subst aMa;unfold aTb;have hol:=aHp h2 λx j=>(h3 x j).bU;refine dL.bif (λe=>?_) λe=>?_
  ·have hne:next≠[]:=by
    rintro rfl;simp at e
   unfold aPt;refine aDP (body:=aGd next l (λa0=>ZE a0) k) (λ(m:Nat) (o la:A8 Int) (c:Int) (d:A8 (Int×Int)) (fo le:A8 (Int×AX))=>∃i:Nat,c=i/\i+m=next.length/\d=at2/\acO l q next z i o la fo le) ?_ Ar next.length _ _ _ _ _ _ kN ?_
   ·rintro m o la c d fo le k2 ⟨i,rfl,hm,rfl,u⟩ U;unfold aGd;refine dL.bif (λe=>?_) λe=>?_
    ·have hi:i<next.length:=Tz
     have w:=wrap_succ i AL;have aMb:=aHp u.nodup λx j=>(u.rch x j).bU;rw[CY hi];simp only[Ad];rw[Z.isSome];unfold aAF;have J:next.take (i+1)=next.take i++[next[i]]:=by rw[Nv hi]
     cases Y:bU l next[i]with
     |false=>
      simp only[Jl,Bl,Ad,w];refine U (m-1) _ _ _ _ _ _ AL ⟨i+1,rfl,AL,rfl,{ u with seen:=λx j M=>?_ }⟩;rw[J,I8]at j;rcases j with j|j
      ·exact u.seen x j M
      rw[JI.1 j,Y]at M;cases M
     |true=>
      simp only[FU,BR,Ad];by_cases O:next[i]∈o
      ·rw[(u.found next[i]).2 O];simp only[Bl,Ad,w];refine U (m-1) _ _ _ _ _ _ AL ⟨i+1,rfl,AL,rfl,{ u with seen:=λx j M=>?_ }⟩;rw[J,I8]at j;rcases j with j|j
       ·exact u.seen x j M
       rw[JI.1 j];exact O
      have f1:(DN fo next[i]).getD false=false:=by
       cases h:(DN fo next[i]).getD false with
       |false=>
        rfl
       |true=>
        exact absurd ((u.found _).1 h) O
      have f2:(DN le next[i]).getD false=false:=by
       cases h:(DN le next[i]).getD false with
       |false=>
        rfl
       |true=>
        exact absurd (u.level _ h) O
      rw[f1,f2];simp only[BR,Ad];obtain⟨ev,hev⟩:=SX.1 (show(Ef l next[i]).isSome=true from Y);rw[Dy GR];simp only[Ad];rw[Z.get hev];simp only[Ad];rw[afw l hev];simp only[Ad];have hau:=a6l ha next[i];have hsz:=u.size;rw[Dy AL];simp only[Ad,w];refine U (m-1) _ _ _ _ _ _ AL ⟨i+1,rfl,AL,rfl,?_⟩;have hnx:WH l q next[i]:=h4 _ (EY hi) Y;refine⟨λx=>?_,λx j=>?_,?_,λx j=>?_,λx j M=>?_,λx j=>zo _ (u.sub x j),λy L=>?_,λx j=>?_,?_,λh=>?_⟩
      ·rw[RX,I8,JI];cases j:x==next[i]with
       |true=>
        grind
       |false=>
        simp only[BR];rw[u.found x];exact⟨.inl,λh=>h.elim id λh=>by simp[h]at j⟩
      ·rw[RX]at j;rw[I8,JI];cases hxe:x==next[i]with
       |true=>
        grind
       |false=>
        rw[hxe]at j;exact .inl (u.level x j)
      ·rw[aVq,adz (λh=>O (Kw.1 h)),u.nodup];simp
      ·rcases I8.1 j with j|j
       ·exact u.rch x j
       rw[JI.1 j];exact hnx
      ·rw[J,I8]at j;rcases j with j|j
       ·exact zo _ (u.seen x j M)
       exact a2j _ j
      ·rcases I8.1 L with L|L
       ·exact(u.ref y L).imp id λh x j=>zo _ (h x j)
       rw[JI.1 L];exact .inr λx j=>a2j _ j
      ·rcases I8.1 j with j|j
       ·obtain⟨y,L,h⟩:=u.back x j;exact⟨y,zo _ L,h⟩
       exact⟨next[i],a2j _ (JI.2 rfl),j⟩
      ·simp only[Ei,Oe];omega
      have :=u.size;simp only[Ei,Oe]at h;omega
    have hi:i=next.length:=by
      have :¬i<next.length:=Tz
      omega
    subst hi;have aMb:=aHp u.nodup λx j=>(u.rch x j).bU;have hsz:=u.size;refine M (2*(l.length-o.length)+(if la=[]then 0 else 1)) _ _ _ _ _ ?_ ⟨rfl,rfl,AL,u.found,u.nodup,u.rch,λx j I=>?_,λx j I=>?_,λy L x j I=>?_⟩
    ·rw[Eh hne];have hle:z.length<=o.length:=AL
     rcases kK z.length o.length with h|h
     ·split<;>omega
     have :=u.same AL
     grind
    ·obtain⟨y,L,h⟩:=u.back x j;exact .more (u.rch y L) h I
    ·rcases h5 x j I with h|h
     ·exact .inl (u.sub x h)
     exact .inl (u.seen x (by rw[Gy];exact h) I)
    rcases u.ref y L with h|h
    ·rcases h6 y h x j I with h|h
     ·exact .inl (u.sub x h)
     exact .inl (u.seen x (by rw[Gy];exact h) I)
    grind
   exact⟨0,rfl,AL,rfl,⟨h1,λx j=>by simp[DN]at j,h2,h3,λx j=>wV,λ_ h=>h,λy L=>.inl L,λx j=>(G7 j).elim,Bf,λ_=>rfl⟩⟩
  have hz:next=[]:=by
   cases next with
   |nil=>
    rfl
   |cons a b=>
    simp at e
  subst hz;rw[fF z AL];refine .ret ⟨NP _,λx=>?_⟩;rw[Kw];refine⟨h3 x,λh=>?_⟩
  induction h with
  |one h I=>
   grind
  |more h j I ih=>
   grind
 ·have :Ar=9223372036854775808:=rfl
  grind
 exact⟨rfl,rfl,hf,λx=>by simp[DN],rfl,λx j=>(G7 j).elim,λx j M=>.one j M,λx j _=>.inr j,λy L=>(G7 L).elim⟩
def aFf (l:A8 AQ)(ids:A8 Int)(hl:l.length<=1000)(ha:RI l)(hi:ids.length<=100000):ZM l ids=some (chainOf l ids):=by
 refine dL.eq ?_;unfold ZM;refine(a0R l hl).bind λat_ q=>?_;unfold aT9;rw[Ip ids AL (λr id=>r++iQ l id) (λi r=>r.length<=40*i) (λr=>(yY l r λa0=>ZE a0).bind λJ=>some J) Bf]
 ·rw[foldl_append (iQ l),JQ]
  have hlen:(ids.flatMap (iQ l)).length<=40*ids.length:=by
   have key:∀ids:A8 Int,(ids.flatMap (iQ l)).length<=40*ids.length:=by
    intro ids
    induction ids with
    |nil=>simp
    |cons x ids I=>have :=a6l ha x;rw[Ov,Ei,GK];omega
   exact key ids
  refine(aaS l _ hl ha AL).bind λr L=>.ret ?_;refine Dp L.1 (a7L l ids) λx=>(L.2 x).trans (Iff.trans ?_ jO.symm);constructor
  ·intro h
   induction h with
   |one h j=>
    obtain⟨i,hi,h⟩:=Um.1 h;exact .one hi h j
   |more h u j I=>exact .more I u j
  intro h
  induction h with
  |one h u j=>exact .one (Um.2 ⟨_,h,u⟩) j
  |more h u j I=>exact .more I u j
 ·intro k r i h O;have M:=a6l ha ids[i];refine⟨by simp only[Ei];omega,?_⟩;unfold aGR a2e;rw[DI h,q.isSome];cases j:bU l ids[i]with
  |false=>
   have :iQ l ids[i]=[]:=by
    unfold iQ;rw[RN (by unfold bU at j;simpa using j)];rfl
   rw[this,RZ];rfl
  |true=>
   obtain⟨ev,z⟩:=SX.1 (show(Ef l ids[i]).isSome=true from j);simp only[Bl];rw[q.get z];simp only[Ad];have :iQ l ids[i]=ev.bJ:=by unfold iQ;rw[Og z]
   rw[←this,Dy AL];rfl
 intro k r _;unfold aGR;rw[EM]
def aHe :∀x:A8 UInt8,Op.bytesLess x x=false
 | []=>rfl
 |a::x=>by
  unfold Op.bytesLess;rw[aHe x];simp
def aQQ :∀{x y z:A8 UInt8},Op.bytesLess x y=true->Op.bytesLess y z=true->Op.bytesLess x z=true
 |_,_,[],_,h=>a4l
 | [],_,_::_,_,_=>
     rfl
 |_::_,[],_::_,h,_=>a4l
 |a::x,b::y,c::z,h,k=>by
  simp only[Op.bytesLess,ZT,Dj,Iz,MZ]at h k ⊢;rcases h with h|⟨rfl,h⟩<;>rcases k with k|⟨rfl,k⟩
  ·grind
  ·exact .inl h
  ·exact .inl k
  exact .inr ⟨rfl,aQQ h k⟩
def aMF :∀{x y:A8 UInt8},Op.bytesLess x y=false->Op.bytesLess y x=false->x=y
 | [],[],_,_=>rfl
 | [],_::_,h,_=>a4l
 |_::_,[],_,h=>a4l
 |a::x,b::y,h,k=>by
  simp only[Op.bytesLess,a4Y,Bool.and_eq_false_iff,jw,beq_eq_false_iff_ne]at h k;have e:a=b:=UInt8.le_antisymm (UInt8.not_lt.1 k.1) (UInt8.not_lt.1 h.1);subst e;have h2:=h.2.resolve_left (λh=>h rfl);have k2:=k.2.resolve_left (λh=>h rfl);rw[aMF h2 k2]
def G6 (a b:BL):AX:=decide (a.Kind<b.Kind)||(a.Kind==b.Kind&&Op.bytesLess a.Key.toList b.Key.toList)
def Jc (a b:BL):AX:=a.Kind==b.Kind&&(a.Key=b.Key)
def agG (a:BL):G6 a a=false:=by unfold G6;rw[aHe];simp
variable {a b c:BL}
def aOo (h:G6 a b=true)(k:G6 b c=true):G6 a c=true:=by
 unfold G6 at *;simp only[ZT,Dj,Iz,MZ]at *;rcases h with h|⟨h1,h2⟩<;>rcases k with k|⟨j,k2⟩
 ·grind
 ·grind
 ·grind
 exact .inr ⟨AL,aQQ h2 k2⟩
def Xh:Jc a b=true↔a.Kind=b.Kind/\a.Key=b.Key:=by unfold Jc;simp
def aQc (h:G6 a b=false)(k:G6 b a=false):Jc a b=true:=by
 unfold G6 at *;simp only[a4Y,Bool.and_eq_false_iff,jw,beq_eq_false_iff_ne]at *;have e:a.Kind=b.Kind:=AL
 rw[Xh];exact⟨e,toList_inj (aMF (h.2.resolve_left λn=>n e) (k.2.resolve_left λn=>n e.symm))⟩
def xF (h:Jc a b=true):G6 a b=false:=by
 obtain⟨h1,h2⟩:=Xh.1 h;unfold G6;rw[h1,h2,aHe];simp
def zs (h:Jc a b=true):G6 a c=G6 b c/\G6 c a=G6 c b:=by
 obtain⟨h1,h2⟩:=Xh.1 h;unfold G6
 grind
def afc (a b:BL):Fn0 a b=some (G6 a b):=by
 unfold Fn0 G6
 grind
def anf (k:Int)(key:BO)(m:Int)(o:BO)(i j:Int):a3Z k key m o=some (G6 ⟨k,key,i⟩ ⟨m,o,j⟩):=by
 unfold a3Z G6
 grind
def Fh (s:A8 BL)(e:BL):Nat:=s.findIdx λx=> !G6 x e
def Ll (s:A8 BL)(e:BL):AX:=match s[Fh s e]? with
 |some x=>Jc x e
 |none=>false
def vX (s:A8 BL)(e:BL):Fh s e<=s.length:=a15
variable {e:BL}{s:A8 BL}
def aWp (h:Fh s e<s.length):G6 s[Fh s e] e=false:=by
 have :=List.findIdx_getElem (w:=h);unfold Fh;simpa using this
def aND (s:A8 BL)(k:Int)(key:BO)(hs:s.length<=1000000):tH s k key=some (((Fh s ⟨k,key,0⟩:Nat):Int),Ll s ⟨k,key,0⟩):=by
 unfold tH aEk aTj;generalize j:(⟨k,key,0⟩:BL)=e
 have hp:bC (a1r s (λa0=>a0T a0 e) (λa0=>rH a0 e)) Ar 0=some (((Fh s e:Nat):Int),Ll s e):=by
  rw[KC s (fuel_lt AL) (λx=> !G6 x e) (λi=>some (((i:Nat):Int),match s[i]? with |some x=> !G6 e x|none=>false)) (some (((s.length:Nat):Int),false))]
  ·split
   ·rename_i h;congr 2;unfold Ll Fh;rw[ES h];have h1:G6 s[s.findIdx λx=> !G6 x e] e=false:=aWp h;show(!G6 e s[s.findIdx λx=> !G6 x e])=Jc s[s.findIdx λx=> !G6 x e] e;cases h2:G6 e s[s.findIdx λx=> !G6 x e]with
    |false=>
     rw[aQc h1 h2];rfl
    |true=>
     cases h3:Jc s[s.findIdx λx=> !G6 x e] e with
     |false=>
      rfl
     |true=>
      rw[(zs h3).2,agG]at h2;cases h2
   rename_i h;have h':Fh s e=s.length:=by have :=vX s e;unfold Fh at *;omega
   have h2:Ll s e=false:=by unfold Ll;rw[h',Oo (Eb _)]
   rw[h',h2]
  ·intro k2 i h;unfold a1r;rw[DI h,DI h];simp only[a0T,rH,afc,Ad]
   grind
  intro k2;unfold a1r;rw[EM,EM];rfl
 rw[hp];rfl
def KT (s:A8 BL):Prop:=s.Pairwise λa b=>G6 a b=true
def Ht (s:A8 BL)(k:Int)(key:BO):Int×AX:=match s.find? λx=>Jc x ⟨k,key,0⟩with
 |some x=>(x.Id,true)
 |none=>(0,false)
def aGF (s:A8 BL)(k:Int)(key:BO)(hs:s.length<=1000000):pJ s k key=some (Ht s k key):=by
 unfold pJ aOQ;rw[KC s (fuel_lt AL) (λx=>Jc x ⟨k,key,0⟩) (λi=>(Aq s (i:Int)).bind λj=>some (j.Id,true)) (some (0,false))]
 ·unfold Ht;rw[Ku];split
  ·rename_i h;rw[CY h,ES h];rfl
  rename_i h;rw[Oo AL]
 ·intro k2 i h;unfold aJZ;rw[DI h,CY h];simp only[Ad];unfold Jc;rw[Ja];cases s[i].Kind==k<;>rfl
 intro k2;unfold aJZ;rw[EM]
def aga (h:KT s)(e:BL):s.find? (λx=>Jc x e)=match s[Fh s e]? with |some x=>if Jc x e then some x else none|none=>none:=by
 induction s with
 |nil=>rfl
 |cons a s j=>
  have h':=QB.1 h;unfold Fh;rw[Xr,YH];cases hp:G6 a e with
  |true=>
   have hs:Jc a e=false:=by
    cases hs:Jc a e with
    |false=>rfl
    |true=>rw[xF hs]at hp;cases hp
   rw[hs];simp only[FU,BR,lV];exact j h'.2
  |false=>
   simp only[Jl,Bl,fA];cases hs:Jc a e with
   |true=>rfl
   |false=>
    simp only[TU,LP];refine aBH.2 λx q u=>?_;have h1:=h'.1 x q;rw[(zs u).2,hp]at h1;cases h1
def aGb (s:A8 BL)(k:Int)(key:BO)(hs:s.length<=1000000)(h:KT s):qK s k key=some (Ht s k key):=by
 unfold qK;rw[aND s k key hs];simp only[Ad];unfold Ht Ll;rw[aga h];by_cases hl:Fh s ⟨k,key,0⟩<s.length
 ·rw[ES hl];simp only;cases j:Jc s[Fh s ⟨k,key,0⟩] ⟨k,key,0⟩with
  |true=>
   simp only[Bl,KP];rw[CY hl];rfl
  |false=>
   rfl
 grind
def Gh (s:A8 BL)(k:Int)(key:BO)(id:Int):A8 BL:=
 s.take (Fh s ⟨k,key,0⟩)++⟨k,key,id⟩::s.drop (Fh s ⟨k,key,0⟩+bif Ll s ⟨k,key,0⟩then 1 else 0)
def agW (h:Ll s e=true):Fh s e<s.length:=by
 unfold Ll at h
 grind
variable {l:A8 α}
def a01 (hi:i<=l.length):Hw l 0 (i:Int)=some (l.take i):=by
 have :=Ya (l:=l) (lo:=0) (hi:=i) AL hi;simpa using this
def Wn (hi:i<=l.length):Hw l (i:Int) (l.length:Int)=some (l.drop i):=by
 rw[Ya (l:=l) (lo:=i) (hi:=l.length) hi AL];congr 1;exact Qj Bf
def YZ (s:A8 BL)(k:Int)(key:BO)(id:Int)(hs:s.length<=1000000):TD s k key id=some (Gh s k key id):=by
 unfold TD;rw[aND s k key hs];simp only[Ad];have hp:=vX s ⟨k,key,0⟩;unfold a8g Gh;rw[a01 hp];simp only[Ad];rw[Dy Ej];simp only[Ad,JQ];rw[Dy Ej];simp only[Ad];cases j:Ll s ⟨k,key,0⟩with
 |true=>
  have hl:=agW j;simp only[Bl];rw[wrap_succ _ AL,Wn hl];simp only[Ad];rw[Dy Ej];simp
 |false=>
  simp only[BR];rw[Wn hp];simp only[Ad];rw[Dy Ej];simp
def aDt (s:A8 BL)(k:Int)(key:BO)(id:Int)(hs:s.length<=1000000):gY s k key id=some (Gh s k key id):=by
 unfold gY aMx
 have j:∀(k2:Int->AB (A8 BL)),Zx k2 ((Fh s ⟨k,key,0⟩:Nat):Int) s k key id false=some (Gh s k key id):=by
  intro k2;have hp:=vX s ⟨k,key,0⟩;unfold Zx a4L Gh;simp only[BR];rw[a01 hp];simp only[Ad];rw[Dy Ej];simp only[Ad,JQ];rw[Dy Ej];simp only[Ad];by_cases hl:Fh s ⟨k,key,0⟩<s.length
  ·rw[dec_lt hl,CY hl];simp only[Bl,Ad]
   have u:Ll s ⟨k,key,0⟩=(s[Fh s ⟨k,key,0⟩].Kind==k&&(s[Fh s ⟨k,key,0⟩].Key=key)):=by
    unfold Ll;rw[ES hl];rfl
   rw[u,Ja,←SV];cases z:s[Fh s ⟨k,key,0⟩].Kind==k with
   |false=>
    simp only[BR,Ad];rw[Wn hp];simp only[Ad];rw[Dy Ej];simp
   |true=>
    simp only[Bl,Ad];cases decide (s[Fh s ⟨k,key,0⟩].Key=key)with
    |true=>
     simp only[Bl];rw[wrap_succ _ AL,Wn hl];simp only[Ad];rw[Dy Ej];simp
    |false=>
     simp only[BR];rw[Wn hp];simp only[Ad];rw[Dy Ej];simp
  have q:Fh s ⟨k,key,0⟩=s.length:=AL
  have u:Ll s ⟨k,key,0⟩=false:=by unfold Ll;rw[q,Oo (Eb _)]
  rw[u,q,Di];simp only[BR,Ad];rw[Wn (Eb _)];simp only[Ad];rw[Dy Ej];simp
 rw[KC s (fuel_lt AL) (λx=> !G6 x ⟨k,key,0⟩) (λi=>Zx (λ_=>none) (i:Int) s k key id false) (Zx (λ_=>none) (s.length:Int) s k key id false)]
 ·split
  ·exact j _
  rename_i h;have q:Fh s ⟨k,key,0⟩=s.length:=aVI
  have :=j λ_=>none;rw[q]at this;exact this
 ·intro k2 i h;unfold aCJ;rw[dec_lt h,CY h];simp only[Bl,Ad];rw[anf _ _ _ _ s[i].Id 0];simp only[Ad];show Zx k2 _ s k key id (G6 s[i] ⟨k,key,0⟩)=_;cases G6 s[i] ⟨k,key,0⟩<;>rfl
 intro k2;unfold aCJ;rw[Di];rfl
def Ql (s:A8 BL)(k:Int)(key:BO)(id:Int):(Gh s k key id).length<=s.length+1:=by
 unfold Gh
 grind
def ajN {x:BL}(h:x∈s.take (Fh s e)):G6 x e=true:=by
 obtain⟨i,hi,rfl⟩:=G8 h;have j:i<Fh s e:=by simp at hi;omega
 have :=aLM j
 grind
def aQ3 (hs:KT s){x:BL}(h:x∈s.drop (Fh s e+bif Ll s e then 1 else 0)):G6 e x=true:=by
 generalize q:(Fh s e+bif Ll s e then 1 else 0)=n at h;obtain⟨i,hi,rfl⟩:=G8 h;rw[aEr];rw[Ld]at hi;by_cases hl:Fh s e<s.length
 ·have h1:=aWp hl;cases j:Ll s e with
  |true=>
   rw[j]at q;simp only[Bl]at q;have h2:Jc s[Fh s e] e=true:=aTv
   rw[←(zs h2).1];exact J9.1 hs _ _ hl AL AL
  |false=>
   rw[j]at q;simp only[BR,Pz]at q;subst q;have h2:Jc s[Fh s e] e=false:=aTv
   have h3:G6 e s[Fh s e]=true:=by
    cases h:G6 e s[Fh s e]with
    |true=>rfl
    |false=>rw[aQc h1 h]at h2;cases h2
   rcases Ux i with u|u
   ·subst u;simpa using h3
   exact aOo h3 (J9.1 hs _ _ hl AL AL)
 omega
def Y8 (h:KT s)(k:Int)(key:BO)(id:Int):KT (Gh s k key id):=by
 have u:Jc ⟨k,key,id⟩ ⟨k,key,0⟩=true:=Xh.2 ⟨rfl,rfl⟩;unfold Gh KT;refine Yt.2 ⟨h.sublist (List.take_sublist ..),QB.2 ⟨λx j=>?_,h.sublist (List.drop_sublist ..)⟩,λx j y q=>?_⟩
 ·rw[(zs u).1];exact aQ3 h j
 have h1:G6 x ⟨k,key,0⟩=true:=ajN j;rcases FP.1 q with rfl|q
 ·rw[(zs u).2];exact h1
 exact aOo h1 (aQ3 h q)
structure PY (l:List (List BL)):Prop where
 len:l.length<=100
 each:∀s∈l,s.length<=100/\KT s
def Jy (l:A8 (A8 BL))(x:BL):AX:=l.all λs=>(Ht s x.Kind x.Key).2&&(Ht s x.Kind x.Key).1==x.Id
def ahn (l:A8 (A8 BL))(x:BL)(h:PY l):a8d l x=some (Jy l x):=by
 unfold a8d aPf;rw[Hq l (fuel_lt aKs) (λs=> !((Ht s x.Kind x.Key).2&&(Ht s x.Kind x.Key).1==x.Id)) false (some true)]
 ·unfold Jy
  grind
 ·intro k i hi;obtain⟨h1,h2⟩:=h.each l[i] (EY hi);unfold aCo;rw[DI hi,aGb _ _ _ AL h2]
  grind
 intro k;unfold aCo;rw[EM]
def agN (l:A8 (A8 BL))(x:BL)(h:PY l):a2Y l x=some (Jy l x):=by
 unfold a2Y aRp;rw[Hq l (fuel_lt aKs) (λs=> !((Ht s x.Kind x.Key).2&&(Ht s x.Kind x.Key).1==x.Id)) false (some true)]
 ·unfold Jy
  grind
 ·intro k i hi;obtain⟨h1,h2⟩:=h.each l[i] (EY hi);unfold aIm;rw[DI hi,aGF _ _ _ AL]
  grind
 intro k;unfold aIm;rw[EM]
def Iu (l:A8 (A8 BL)):A8 BL:=match l with
 | []=>[]
 |s::_=>s.filter (Jy l)
def Qw (l:A8 (A8 BL)):A8 Int:=(l.flatMap λs=>s.filter λx=> !Jy l x).map (·.Id)
def Rn (l:A8 (A8 BL))(i:Nat):A8 BL:=if i=0 then[]else Iu l
def OT (l:A8 (A8 BL))(i:Nat):A8 Int:=((l.take i).flatMap λs=>s.filter λx=> !Jy l x).map (·.Id)
variable {l:A8 (A8 BL)}
def aMP (h:i<l.length):Rn l (i+1)=Rn l i++(if i=0 then l[i].filter (Jy l)else[]):=by
 unfold Rn Iu
 grind
def aCO (h:i<l.length):OT l (i+1)=OT l i++(l[i].filter λx=> !Jy l x).map (·.Id):=by
 unfold OT;rw[Nv h,List.flatMap_append,JY];simp
def aKD (l:A8 (A8 BL)):OT l l.length=Qw l:=by unfold OT Qw;rw[Gy]
def aQn (l:A8 (A8 BL)):Rn l l.length=Iu l:=by
 unfold Rn;cases l with
 |nil=>rfl
 |cons s l=>simp
def aEu (h:PY l)(i:Nat):(OT l i).length<=100*i:=by
 induction i with
 |zero=>simp[OT]
 |succ i j=>
  by_cases hi:i<l.length
  ·rw[aCO hi,Ei,Df];have :=(h.each _ (EY hi)).1;have :=Lu (λx=> !Jy l x) l[i];omega
  have :OT l (i+1)=OT l i:=by unfold OT;rw[Qj AL,Qj AL]
  rw[this];omega
def a6q (h:PY l):(Qw l).length<=10000:=by
 have :=aEu h l.length;rw[aKD]at this;have :=h.len;omega
def iD (h:PY l):(Iu l).length<=100:=by
 unfold Iu;cases l with
 |nil=>exact F7 _
 |cons s l=>exact EK (Lu _ _) (h.each s (Gt ..)).1
def aNA (h:PY l):KT (Iu l):=by
 unfold Iu;cases l with
 |nil=>exact .nil
 |cons s l=>exact(h.each s (Gt ..)).2.sublist Uc
def aOW (l:A8 (A8 BL))(h:PY l):tC l=some (Iu l,FW (Qw l)):=by
 have hlen:=h.len;refine dL.eq ?_;unfold tC aX5;refine aDP (body:=aDy l) (λ(m:Nat) (a:A8 BL) (b:A8 Int) (c:Int) (d:A8 (A8 BL)) (_:A8 BL) (_:A8 Int)=>∃i:Nat,c=i/\i+m=l.length/\d=l/\a=Rn l i/\b=OT l i) ?_ Ar l.length [] [] 0 l [] [] (fuel_lt AL) ⟨0,rfl,AL,rfl,rfl,by simp[OT]⟩;rintro m a b c d e f k ⟨i,rfl,hm,rfl,rfl,rfl⟩ U;unfold aDy;refine dL.bif (λhi=>?_) λhi=>?_
 ·have hi:i<d.length:=IW
  have hs:=(h.each d[i] (EY hi)).1;have Y:=aEu h i;rw[CY hi];simp only[Ad,vw];unfold aUs
  refine aLh (body:=aKI d[i] k (i:Int)) (λ(J:Nat) (a:A8 BL) (b:A8 Int) (c:Int) (u:A8 (A8 BL)) (_:A8 BL) (_:A8 Int) (g:Int)=>
   ∃j:Nat,c=j/\j+J=d[i].length/\u=d/\g=i/\a=Rn d i++(if i=0 then(d[i].take j).filter (Jy d)else[])/\b=OT d i++((d[i].take j).filter λx=> !Jy d x).map (·.Id)) ?_ Ar d[i].length _ _ _ _ _ _ _ (fuel_lt AL) ⟨0,rfl,AL,rfl,rfl,Bf,Bf⟩
  rintro J a b c u e2 f2 g k2 ⟨j,rfl,Z,rfl,rfl,rfl,rfl⟩ I;unfold aKI;refine dL.bif (λz=>?_) λz=>?_
  ·have z:j<u[i].length:=aC
   have q:u[i].take (j+1)=u[i].take j++[u[i][j]]:=by rw[Nv z]
   rw[CY z];simp only[Ad];rw[ahn u _ h];simp only[Ad];have w:=wrap_succ j AL;have L:=Lu (λx=> !Jy u x) (u[i].take j);have M:=Lu (Jy u) (u[i].take j)
   have hst:(Rn u i).length<=100:=by
     unfold Rn;split; ·exact F7 _
     ·exact iD h
   rw[H6]at L M;cases ha:Jy u u[i][j]with
   |false=>
    simp only[Jl,Bl];rw[Dy (by simp only[Ei,Df,Oe];omega)];simp only[Ad,w];refine I (J-1) _ _ _ _ _ _ _ AL ⟨j+1,rfl,AL,rfl,rfl,?_,?_⟩
    ·rw[q,Qy];simp[ha]
    rw[q,Qy];simp[ha]
   |true=>
    simp only[FU,BR];by_cases O:i=0
    ·subst O;simp only[show(((0:Nat):Int)==0)=true from rfl,Bl,KP];rw[Dy VE];simp only[Ad,w];refine I (J-1) _ _ _ _ _ _ _ AL ⟨j+1,rfl,AL,rfl,rfl,?_,?_⟩
     ·rw[q,Qy];simp[ha]
     rw[q,Qy];simp[ha]
    have :((i:Int)==0)=false:=Yh
    rw[this];simp only[BR,w];refine I (J-1) _ _ _ _ _ _ _ AL ⟨j+1,rfl,AL,rfl,rfl,?_,?_⟩
    ·simp[O]
    rw[q,Qy];simp[ha]
  have z:j=u[i].length:=by
    have :¬j<u[i].length:=aC
    omega
  subst z;rw[wrap_succ i AL,Gy];exact U (m-1) _ _ _ _ _ _ AL ⟨i+1,rfl,AL,rfl,(aMP hi).symm,(aCO hi).symm⟩
 have hi:i=d.length:=by
   have :¬i<d.length:=IW
   omega
 subst hi;have :=a6q h;rw[aKD,aQn,fF _ AL];exact .ret rfl
def aVO (l:A8 (A8 BL))(h:PY l):sN l=some (Iu l,FW (Qw l)):=by
 have hlen:=h.len;refine dL.eq ?_;unfold sN aVh;refine UQ (body:=aI7 l) (λ(m:Nat) (a:A8 BL) (b:A8 Int) (c:Int)=>∃i:Nat,c=i/\i+m=l.length/\a=Rn l i/\b=FW (OT l i)) ?_ Ar l.length [] [] 0 (fuel_lt AL) ⟨0,rfl,AL,rfl,by simp[OT,FW]⟩;rintro m a b c k ⟨i,rfl,hm,rfl,rfl⟩ U;unfold aI7;refine dL.bif (λhi=>?_) λhi=>?_
 ·have hi:i<l.length:=IW
  have hs:=(h.each l[i] (EY hi)).1;have Y:=aEu h i;unfold aLm
  refine UQ (body:=aCg l (i:Int) k) (λ(I:Nat) (a:A8 BL) (b:A8 Int) (c:Int)=>
   ∃j:Nat,c=j/\j+I=l[i].length/\a=Rn l i++(if i=0 then(l[i].take j).filter (Jy l)else[])/\b=FW (OT l i++((l[i].take j).filter λx=> !Jy l x).map (·.Id))) ?_ Ar l[i].length _ _ _ (fuel_lt AL) ⟨0,rfl,AL,Bf,Bf⟩
  rintro I a b c k2 ⟨j,rfl,Z,rfl,rfl⟩ z;unfold aCg;rw[CY hi];simp only[Ad];refine dL.bif (λu=>?_) λu=>?_
  ·have u:j<l[i].length:=Rf
   have q:l[i].take (j+1)=l[i].take j++[l[i][j]]:=by rw[Nv u]
   rw[CY u];simp only[Ad];rw[agN l _ h];simp only[Ad];have w:=wrap_succ j AL;have J:=Lu (λx=> !Jy l x) (l[i].take j);have L:=Lu (Jy l) (l[i].take j)
   have hst:(Rn l i).length<=100:=by
     unfold Rn;split; ·exact F7 _
     ·exact iD h
   have M:=Nw (OT l i++((l[i].take j).filter λx=> !Jy l x).map λe:BL=>e.Id);rw[Ei,Df]at M;rw[H6]at J L;cases ha:Jy l l[i][j]with
   |false=>
    simp only[Jl,Bl];rw[qC _ _ AL];unfold nM;simp only[Ad,w];refine z (I-1) _ _ _ AL ⟨j+1,rfl,AL,?_,?_⟩
    ·rw[q,Qy];simp[ha]
    rw[q,Qy,JY,←JU];simp only[ha,VH,Jl,KP,List.filter_nil,Gs,List.map_nil];rw[aVq]
   |true=>
    simp only[FU,BR];unfold nM;by_cases O:i=0
    ·subst O;simp only[show(((0:Nat):Int)==0)=true from rfl,Bl,KP,Ad];rw[Dy VE];simp only[Ad,w];refine z (I-1) _ _ _ AL ⟨j+1,rfl,AL,?_,?_⟩
     ·rw[q,Qy];simp[ha]
     rw[q,Qy];simp[ha]
    have :((i:Int)==0)=false:=Yh
    rw[this];simp only[BR,w];refine z (I-1) _ _ _ AL ⟨j+1,rfl,AL,?_,?_⟩
    ·simp[O]
    rw[q,Qy];simp[ha]
  have u:j=l[i].length:=by
    have :¬j<l[i].length:=Rf
    omega
  subst u;rw[wrap_succ i AL,Gy];exact U (m-1) _ _ _ AL ⟨i+1,rfl,AL,(aMP hi).symm,by rw[←aCO hi]⟩
 have hi:i=l.length:=by
   have :¬i<l.length:=IW
   omega
 subst hi;rw[aKD,aQn];exact .ret rfl
def TY (s:A8 BL):A8 Int:=s.map (·.Id)
def Fe (l:A8 AQ)(s:A8 BL):A8 Int:=JF (TY s) (chainOf l (TY s))
def allOf (l:A8 AQ)(aX:A8 (A8 BL)):A8 Int:=aX.foldl (λa s=>JF a (Fe l s)) []
def Ji (l:A8 AQ)(aX:A8 (A8 BL))(x:Int):Nat:=aX.countP λs=>ER (Fe l s) x
def PE (l:A8 AQ)(aX:A8 (A8 BL)):A8 Int:=(allOf l aX).filter λx=>Ji l aX x<aX.length
def Jd (l:A8 AQ)(aX:A8 (A8 BL)):A8 Int:=JF (FW (Qw aX)) (PE l aX)
def aNe (l:A8 AQ)(s:A8 BL):Inc (Fe l s):=uO _ _
def aJP (s:A8 BL):(TY s).length=s.length:=Df _
def wK (l:A8 AQ)(s:A8 BL):(Fe l s).length<=s.length+l.length:=by
 have h1:=aI3 (TY s) (chainOf l (TY s));have h2:=bY l (TY s);rw[aJP]at h1;unfold Fe;omega
def aCv (l:A8 AQ):∀(aX:A8 (A8 BL)) (a:A8 Int),Inc a->Inc (aX.foldl (λa s=>JF a (Fe l s)) a)/\∀x,x∈aX.foldl (λa s=>JF a (Fe l s)) a↔x∈a\/∃s∈aX,x∈Fe l s
 | [],a,h=>⟨h,λx=>Bf⟩
 |s::aX,a,h=>by
  rw[Fv];obtain⟨h1,h2⟩:=aCv l aX (JF a (Fe l s)) (uO _ _);refine⟨h1,λx=>(h2 x).trans ?_⟩;rw[Uf]
  grind
def akp (l:A8 AQ)(aX:A8 (A8 BL)):Inc (allOf l aX):=(aCv l aX [] .nil).1
variable {aX:A8 (A8 BL)}{l:A8 AQ}
def aXG:x∈allOf l aX↔∃s∈aX,x∈Fe l s:=by
 unfold allOf;rw[(aCv l aX [] .nil).2 x];simp
def aZU (l:A8 AQ)(aX:A8 (A8 BL)):Inc (PE l aX):=(akp l aX).sublist Uc
def cnt_lt:Ji l aX x<aX.length↔∃s∈aX,x∉Fe l s:=by
 unfold Ji;have h:=List.countP_le_length (p:=λs=>ER (Fe l s) x) (l:=aX);have h2:=List.countP_eq_length (p:=λs=>ER (Fe l s) x) (l:=aX);constructor
 ·intro u;by_cases q:∀s∈aX,ER (Fe l s) x=true
  ·grind
  simp only[Classical.not_forall]at q;obtain⟨s,hs,j⟩:=q;exact⟨s,hs,λhm=>j (LQ.2 hm)⟩
 rintro⟨s,hs,j⟩;rcases kK (aX.countP λs=>ER (Fe l s) x) aX.length with h3|h3
 ·exact h3
 exact absurd (LQ.1 (h2.1 AL s hs)) j
def aMl:x∈PE l aX↔(∃s∈aX,x∈Fe l s)/\∃s∈aX,x∉Fe l s:=by
 unfold PE;rw[Gx,aXG,Iz,cnt_lt]
variable {x:BL}
def aPF:Jy aX x=true↔∀s∈aX,(Ht s x.Kind x.Key).2=true/\(Ht s x.Kind x.Key).1=x.Id:=by
 unfold Jy
 grind
def aBN (l:A8 AQ):∀(aX:A8 (A8 BL)) (a:A8 Int),(∀s∈aX,s.length<=100)->(aX.foldl (λa s=>JF a (Fe l s)) a).length<=a.length+aX.length*(100+l.length)
 | [],a,_=>Bf
 |s::aX,a,h=>by
  rw[Fv];have h1:=aBN l aX (JF a (Fe l s)) λt j=>h t (IZ _ j);have h2:=aI3 a (Fe l s);have h3:=wK l s;have q:=h s (Gt ..);rw[GK,dR];omega
def aR4 (hs:PY aX)(hl:l.length<=1000):(PE l aX).length<=110000:=by
 have h1:=aBN l aX [] λs h=>(hs.2 s h).1;have h2:=hs.1;have h3:=Lu (λx=>Ji l aX x<aX.length) (allOf l aX);have j:aX.length*(100+l.length)<=100*1100:=a1j h2 AL;unfold PE;unfold allOf at h3 ⊢
 grind
def af8 (h:KT s)(z:x∈s):Ht s x.Kind x.Key=(x.Id,true):=by
 unfold Ht;cases u:s.find? (λy=>Jc y ⟨x.Kind,x.Key,0⟩)with
 |none=>
  have :=aBH.1 u x z;unfold Jc at this;simp at this
 |some y=>
  have h1:=xU u;have J:=Ug u;have h2:Jc y x=true:=by unfold Jc at h1 ⊢;exact h1
  have :y=x:=by
   obtain⟨i,hi,rfl⟩:=G8 z;obtain⟨j,I,rfl⟩:=G8 J;rcases uT i j with h3|h3|h3
   ·have q:=J9.1 h i j hi I h3;have L:Jc s[i] s[j]=true:=by obtain⟨a,b⟩:=Xh.1 h2;exact Xh.2 ⟨a.symm,b.symm⟩
    rw[xF L]at q;cases q
   ·subst h3;rfl
   have q:=J9.1 h j i I hi h3;rw[xF h2]at q;cases q
  rw[this]
variable {k:Int}{key:BO}
def aJe {n:Int}(h:Ht s k key=(n,true)):(⟨k,key,n⟩:BL)∈s:=by
 unfold Ht at h;cases j:s.find? (λy=>Jc y ⟨k,key,0⟩)with
 |none=>
  grind
 |some y=>
  rw[j]at h;have q:Jc y ⟨k,key,0⟩=true:=by have :=xU j;exact this
  have h1:=Xh.1 q;have u:=Ug j;obtain⟨a,b,c⟩:=y;cases h;simp only at h1;rw[←h1.1,←h1.2];exact u
def ajE (j:Jy aX x=true)(hs:s∈aX):x∈s:=by
 obtain⟨h1,h2⟩:=aPF.1 j s hs;exact aJe (s:=s) (k:=x.Kind) (key:=x.Key) (n:=x.Id) (by rw[←h1,←h2])
def alp (h:PY aX)(j:∀s∈aX,x∈s):Jy aX x=true:=
 aPF.2 λs hs=>by rw[af8 (h.2 s hs).2 (j s hs)];exact⟨rfl,rfl⟩
def aSp (h:PY aX)(q:aX≠[]):x∈Iu aX↔∀s∈aX,x∈s:=by
 cases aX with
 |nil=>exact absurd rfl q
 |cons s aX=>
  show x∈s.filter (Jy (s::aX))↔_;rw[Gx];exact⟨λj t u=>ajE j.2 u,λj=>⟨j s (Gt ..),alp h j⟩⟩
def aOw (l:A8 Int)(h:l.length<=1099511627776):((PV l).bind λx=>(YA x).bind λy=>some y)=some (FW l):=by
 unfold PV YA;have h2:(Np l).length<=1099511627776:=by rw[(VB l).length_eq];exact h
 simp[h,aC4,aKi]
def aUX (s:A8 BL):s.foldl (λr x=>r++[x.Id]) []=TY s:=by
 rw[foldl_append (λx:BL=>[x.Id])];unfold TY;rw[JQ]
 induction s with
 |nil=>rfl
 |cons x s j=>rw[Ov,j];rfl
def agX (l:A8 AQ)(s:A8 BL)(hl:l.length<=1000)(ha:RI l)(hs:s.length<=100):a7E l s=some (Fe l s):=by
 unfold a7E
 have hm:Jj 8 (0:Int) 0 (s.length:Int)=some []:=by
  unfold Jj;rw[Ea a7J];rfl
 rw[hm];simp only[Ad];unfold aU7;rw[Ip s AL (λr x=>r++[x.Id]) (λi r=>r.length<=i) (λr=>(ZM l r).bind λu=>(DL 8 r u).bind λz=>(PV z).bind λj=>(YA j).bind λq=>some q) Bf]
 ·have h1:=bY l (TY s);have h2:=aJP s;rw[aUX,aFf l _ hl ha AL];simp only[Ad];rw[Dy AL];simp only[Ad];rw[aOw _ Ln];unfold Fe;rw[wC]
 ·intro k a i h I;refine⟨a6s,?_⟩;unfold aDH;rw[DI h,Dy GR];rfl
 intro k a I;unfold aDH;rw[EM]
def aly (l:A8 AQ)(s:A8 BL)(hl:l.length<=1000)(ha:RI l)(hs:s.length<=100):a2M l s=some (Fe l s):=by
 unfold a2M aQo;rw[Ip s AL (λr x=>r++[x.Id]) (λi r=>r.length<=i) (λr=>(fK l r).bind λj=>(ZQ r j).bind λq=>some q) Bf]
 ·have h1:=bY l (TY s);have h2:=aJP s;rw[aUX,aIb l _ hl ha AL];simp only[Ad];rw[aAn _ _ AL AL];rfl
 ·intro k a i h u;refine⟨a6s,?_⟩;unfold aDL;rw[dec_lt h,CY h];simp only[Bl,Ad];rw[Dy GR];rfl
 intro k a u;unfold aDL;rw[Di];rfl
def stepM (m:A8 (Int×Int))(x:Int):A8 (Int×Int):=ET m x (Aw (((DN m x).getD 0)+1))
structure Nj (m:List (Int×Int)) (f:Int->Nat):Prop where
 nodup:(m.map (·.1)).Nodup
 find:∀x,DN m x=if f x=0 then none else some (f x:Int)
variable {v:Int}
def alf {y:Int}:y∈(ET m k v).map (·.1)↔y=k\/y∈m.map (·.1):=by
 induction m with
 |nil=>simp[ET]
 |cons p m j=>
  unfold ET;cases h:k==p.1 with
  |true=>
   have h1:k=p.1:=OG
   simp only[Bl,Gs,FP];rw[h1];simp
  |false=>
   simp only[BR,Gs,FP,j];exact⟨λh=>h.elim (λe=>.inr (.inl e)) λh=>h.elim .inl λh=>.inr (.inr h),λh=>h.elim (λe=>.inr (.inl e)) λh=>h.elim .inl λh=>.inr (.inr h)⟩
def aaW (h:(m.map (·.1)).Nodup):((ET m k v).map (·.1)).Nodup:=by
 induction m with
 |nil=>simp[ET]
 |cons p m q=>
  have h':=KN.1 h;unfold ET;cases j:k==p.1 with
  |true=>
   have h1:k=p.1:=Vp
   simp only[Bl,Gs];rw[h1];exact h
  |false=>
   have h1:k≠p.1:=Vp
   simp only[BR,Gs];refine KN.2 ⟨λhm=>?_,q h'.2⟩;rcases alf.1 hm with e|hm
   ·exact h1 e.symm
   exact h'.1 hm
def aic (m:A8 (Int×Int))(k v:Int):(ET m k v).length<=m.length+1:=by
 induction m with
 |nil=>simp[ET]
 |cons p m j=>
  unfold ET;cases k==p.1 with
  |true=>simp
  |false=>simp only[BR,GK];omega
variable {f:Int->Nat}
def Nj.step (h:Nj m f)(x:Int)(u:f x<=1000000):Nj (stepM m x) (λy=>f y+if y=x then 1 else 0):=by
 refine⟨aaW h.nodup,λy=>?_⟩;unfold stepM;rw[RX,h.find x]
 have e:Aw (((if f x=0 then none else some (f x:Int)).getD 0)+1)=((f x+1:Nat):Int):=by
  by_cases j:f x=0
  ·rw[Ea j,j];rfl
  rw[Eh j];show Aw ((f x:Int)+1)=_;exact wrap_succ _ AL
 by_cases q:y=x
 ·subst q;simp only[VJ,Bl,KP];rw[e,Eh AL]
 have :(y==x)=false:=YF
 rw[this];simp only[BR,Eh q,Pz];exact h.find y
def Nj.fold:∀(c:A8 Int) {m:A8 (Int×Int)} {f:Int->Nat},c.Nodup->Nj m f->(∀x,f x<=1000)->Nj (c.foldl stepM m) (λy=>f y+if y∈c then 1 else 0)
 | [],m,f,_,h,_=>by
   refine⟨h.nodup,λx=>?_⟩;simp only[List.foldl_nil,G7,LP,Pz];exact h.find x
 |x::c,m,f,q,h,L=>by
  have j:=KN.1 q
  have key:∀(c:A8 Int) (m:A8 (Int×Int)) (g:Int->Nat),c.Nodup->Nj m g->(∀x∈c,g x<=1000)->Nj (c.foldl stepM m) (λy=>g y+if y∈c then 1 else 0):=by
   intro c
   induction c with
   |nil=>intro m g _ h _;refine⟨h.nodup,λx=>?_⟩;simp only[List.foldl_nil,G7,LP,Pz];exact h.find x
   |cons z c M=>
    intro m g q h I;have j:=KN.1 q
    have h1:=M (stepM m z) (λy=>g y+if y=z then 1 else 0) j.2 (h.step z (by have :=I z (Gt ..);omega)) λy J=>by
     have u:y≠z:=λe=>j.1 (e▸J);simp only[Eh u,Pz];exact I y (IZ _ J)
    refine⟨h1.nodup,λy=>?_⟩;rw[Fv,h1.find y]
    have :(g y+if y=z then 1 else 0)+(if y∈c then 1 else 0)=g y+if y∈z::c then 1 else 0:=by
     by_cases e:y=z
     ·subst e;simp[j.1]
     simp[e]
    simp only[this]
  exact key (x::c) m f q h λy _=>L y
def aKH :∀(c:A8 Int) (m:A8 (Int×Int)),(c.foldl stepM m).length<=m.length+c.length
 | [],m=>Bf
 |x::c,m=>by
  have h1:=aKH c (stepM m x);have h2:=aic m x (Aw (((DN m x).getD 0)+1));rw[Fv,GK];unfold stepM at h1 ⊢;omega
def TK {l:A8 Int}(h:Inc l):l.Nodup:=h.imp λh=>AL
variable {x:Int}
def Nj.mem (h:Nj m f){n:Int}:(x,n)∈m↔f x≠0/\n=f x:=by
 have key:∀m:A8 (Int×Int),(m.map (·.1)).Nodup->((x,n)∈m↔DN m x=some n):=by
  intro m
  induction m with
  |nil=>intro _;simp[DN]
  |cons p m z=>
   intro I;have j:=KN.1 I;unfold DN;rw[FP];cases u:x==p.1 with
   |true=>
    have h1:x=p.1:=Rf
    simp only[Bl,OM];constructor
    ·rintro(e|hm)
     ·rw[←e]
     exact absurd (Ez.2 ⟨_,hm,h1⟩) j.1
    intro e;left;rw[h1,←e]
   |false=>
    have h1:x≠p.1:=Rf
    simp only[BR];rw[←z j.2];exact⟨λh=>h.elim (λe=>absurd (by rw[←e]) h1) id,.inr⟩
 rw[key m h.nodup,h.find x];by_cases q:f x=0
 ·simp[q]
 rw[Eh q];simp only[OM,ne_eq,q,not_false_eq_true,true_and];exact eq_comm
def aPL {l:A8 Int}(h:l.Nodup):Np l=FW l:=by
 refine Dp ?_ (NP l) λx=>by rw[Kw];exact(VB l).mem_iff
 have h1:=Rep l;have h2:(Np l).Nodup:=(VB l).nodup_iff.2 h;exact(h1.and h2).imp λh=>AL
def aJ3 (n:Int):∀(m:A8 (Int×Int)) (r:A8 Int) (aX:A8 (A8 BL)),(aX.length:Int)=n->r.length+m.length<=1000000->List.foldlM (Xf aX) r m=some (r++(m.filter λp=>p.2<n).map (·.1))
 | [],r,aX,_,_=>Bf
 |p::m,r,aX,hs,q=>by
  simp only[GK]at q;have e:Xf aX r p=(bif p.2<n then(DL 8 r [p.1]).bind λj=>some j else some r):=by unfold Xf;rw[hs]
  rw[VK,e];cases hd:decide (p.2<n)with
  |true=>
   simp only[Bl];rw[Dy GR];simp only[Ad];show List.foldlM (Xf aX) (r++[p.1]) m=_;rw[aJ3 n m (r++[p.1]) aX hs VE,VH,Ea hd];simp
  |false=>
   simp only[BR];show List.foldlM (Xf aX) r m=_;rw[aJ3 n m r aX hs AL,VH,Eh (by simp[hd])]
def aMq (l:A8 AQ)(aX:A8 (A8 BL))(x:Int):Ji l aX x<=aX.length:=List.countP_le_length
def Nj.of_eq {g:Int->Nat}(h:Nj m f)(e:∀x,f x=g x):Nj m g:=⟨h.nodup,λx=>by rw[h.find,e]⟩
def agS (l:A8 AQ)(aX:A8 (A8 BL))(hl:l.length<=1000)(ha:RI l)(hs:PY aX):a0l l aX=some (PE l aX):=by
 unfold a0l aVf;have hsl:=hs.len;rw[qL (a0:=[]) aX AL (λm s=>(Fe l s).foldl stepM m) (λi m=>Nj m (Ji l (aX.take i))/\m.length<=1100*i) (λv2=>(Jj 8 (0:Int) 0 (v2.length:Int)).bind λI=>(List.foldlM (Xf aX) I v2).bind qN) ⟨⟨aG,λx=>rfl⟩,F7 _⟩]
 ·obtain⟨z,hlen⟩:Nj (aX.foldl (λm s=>(Fe l s).foldl stepM m) []) (Ji l aX)/\(aX.foldl (λm s=>(Fe l s).foldl stepM m) []).length<=1100*aX.length:=by
   have key:∀(b a:A8 (A8 BL)) (m:A8 (Int×Int)),(∀s∈b,s.length<=100)->a.length+b.length<=100->Nj m (Ji l a)->m.length<=1100*a.length->Nj (b.foldl (λm s=>(Fe l s).foldl stepM m) m) (Ji l (a++b))/\(b.foldl (λm s=>(Fe l s).foldl stepM m) m).length<=1100*(a.length+b.length):=by
    intro b
    induction b with
    |nil=>intro a m _ _ h1 h2;simpa using⟨h1,h2⟩
    |cons s b Z=>
     intro a m Y J h1 h2;rw[Fv,List.append_cons];have hc:=wK l s;have q:=Y s (Gt ..);have h3:=aKH (Fe l s) m;simp only[GK]at J ⊢;have :=Z (a++[s]) ((Fe l s).foldl stepM m) (λt ht=>Y t (IZ _ ht)) VE ?_ VE
     ·simpa[Ur,WQ 1]using this
     refine(Nj.fold (Fe l s) (TK (aNe l s)) h1 λx=>by have :=aMq l a x;omega).of_eq λx=>?_;unfold Ji;rw[List.countP_append,List.countP_singleton];by_cases u:x∈Fe l s
     ·rw[Ea u,Ea (LQ.2 u)]
     rw[Eh u,Eh (by rw[PO.2 u];simp)]
   have :=key aX [] [] (λs h=>(hs.each s h).1) (by simpa using hs.len) ⟨aG,λx=>rfl⟩ (F7 _);simpa using this
  generalize aX.foldl (λm s=>(Fe l s).foldl stepM m) []=m at z hlen
  have hm:Jj 8 (0:Int) 0 (m.length:Int)=some []:=by
   unfold Jj;rw[Ea a7J];rfl
  rw[hm];simp only[Ad];rw[aJ3 (aX.length:Int) m [] aX rfl SG];simp only[Ad,JQ];have L:((m.filter λp=>p.2<(aX.length:Int)).map (·.1)).Nodup:=z.nodup.sublist (Uc.map _);have hle:((m.filter λp=>p.2<(aX.length:Int)).map (·.1)).length<=m.length:=by rw[Df];exact Lu _ _
  unfold qN PV;rw[Ea AL];simp only[Ad];congr 1;rw[aPL L];refine Dp (NP _) (aZU _ _) λx=>?_;rw[Kw,Ez];unfold PE;rw[Gx,aXG];constructor
  ·rintro⟨⟨y,n⟩,hp,rfl⟩;rw[Gx]at hp;obtain⟨h1,h2⟩:=z.mem.1 hp.1;have h3:n<(aX.length:Int):=by simpa using hp.2
   subst h2;refine⟨?_,Ej⟩;have :0<Ji l aX y:=AL
   obtain⟨s,M,O⟩:=List.countP_pos_iff.1 this;exact⟨s,M,LQ.1 O⟩
  rintro⟨⟨s,h1,h2⟩,h3⟩;have h4:0<Ji l aX x:=List.countP_pos_iff.2 ⟨s,h1,LQ.2 h2⟩;refine⟨(x,(Ji l aX x:Int)),Gx.2 ⟨z.mem.2 ⟨AL,rfl⟩,?_⟩,rfl⟩;have h5:Ji l aX x<aX.length:=Ve
  simp;omega
 ·intro k m i h U;have hc:=wK l aX[i];have q:=(hs.each aX[i] (EY h)).1;refine⟨⟨?_,?_⟩,?_⟩
  ·refine(Nj.fold (Fe l aX[i]) (TK (aNe l aX[i])) U.1 λx=>by have :=aMq l (aX.take i) x;rw[H6]at this;omega).of_eq λx=>?_;rw[Nv h];unfold Ji;rw[List.countP_append,List.countP_singleton];by_cases u:x∈Fe l aX[i]
   ·rw[Ea u,Ea (LQ.2 u)]
   rw[Eh u,Eh (by rw[PO.2 u];simp)]
  ·have :=aKH (Fe l aX[i]) m;have :=U.2;omega
  unfold a2B;rw[DI h,agX l _ hl ha q];simp only[Ad];unfold aQ4;rw[qL (Fe l aX[i]) AL stepM (λ_ _=>True) (λv8=>k (Aw ((i:Int)+1)) v8) trivial]
  ·intro k2 a j hj _;refine⟨trivial,?_⟩;unfold aAh;rw[DI hj];rfl
  intro k2 a _;unfold aAh;rw[EM]
 intro k m U;unfold a2B;rw[EM]
def ai2 {R B:Type}{body:(A->B->Int->AB R)->A->B->Int->AB R}(l:A8 α)(hl:l.length<=1099511627776)(f:A->B->α->A)(g:A->B->α->B)(I:Nat->A->B->Prop)(j:A->B->AB R){Q:R->Prop}{q:B}(u:I 0 a0 q)(z:∀k a b (i:Nat) (h:i<l.length),I i a b->I (i+1) (f a b l[i]) (g a b l[i])/\body k a b (i:Int)=k (f a b l[i]) (g a b l[i]) (Aw ((i:Int)+1)))(J:∀k a b,I l.length a b->body k a b (l.length:Int)=j a b)(L:∀a b,I l.length a b->dL (j a b) Q):dL (iZ body Ar a0 q 0) Q:=by
 refine UQ (body:=body) (Q:=Q) (λm a b c=>∃i:Nat,c=i/\i+m=l.length/\I i a b) ?_ Ar l.length a0 q 0 (fuel_lt hl) ⟨0,rfl,AL,u⟩;rintro m a b c k ⟨i,rfl,hm,hi⟩ M;by_cases e:i<l.length
 ·obtain⟨h1,h2⟩:=z k a b i e hi;rw[h2,wrap_succ i AL];exact M (m-1) _ _ _ AL ⟨i+1,rfl,AL,h1⟩
 have :i=l.length:=AL
 subst this;rw[J _ _ _ hi];exact L a b hi
def aI5 (x:Int):∀(cs:A8 (A8 Int)) (n:Nat),n+cs.length<=1000000->cs.foldl (λ(n:Int) c=>bif ER c x then Aw (n+1)else n) (n:Int)=((n+cs.countP (λc=>ER c x):Nat):Int)
 | [],n,_=>Bf
 |c::cs,n,h=>by
  rw[GK]at h;rw[Fv,List.countP_cons];cases j:ER c x with
  |true=>
   simp only[Bl,KP];rw[wrap_succ n AL,aI5 x cs (n+1) AL];congr 1;omega
  |false=>
   simp only[BR,TU,LP,Pz];exact aI5 x cs n AL
def alQ (l:A8 AQ)(aX:A8 (A8 BL))(hl:l.length<=1000)(ha:RI l)(hs:PY aX):a7W l aX=some (PE l aX):=by
 refine dL.eq ?_;unfold a7W aP6;have hsl:=hs.len
 have z:∀i,(allOf l (aX.take i)).length<=1100*i:=by
  intro i;have h1:=aBN l (aX.take i) [] λs h=>(hs.each s (YU h)).1;rw[H6,Q7]at h1;have h2:min i aX.length*(100+l.length)<=i*1100:=a1j (aCj _ _) AL;unfold allOf;omega
 refine ai2 aX AL (λa _ s=>a++[Fe l s]) (λ_ b s=>JF b (Fe l s)) (λi a b=>a=(aX.take i).map (Fe l)/\b=allOf l (aX.take i)) (λa b=>aJw b a [] 0) ⟨rfl,rfl⟩ ?_ ?_ ?_
 ·rintro k a b i h ⟨rfl,rfl⟩;have M:=wK l aX[i];have q:=(hs.each aX[i] (EY h)).1;have u:aX.take (i+1)=aX.take i++[aX[i]]:=Nv h;refine⟨⟨by rw[u,JY];rfl,by rw[u];unfold allOf;rw[Uk];rfl⟩,?_⟩;unfold aDU;rw[dec_lt h,CY h];simp only[Bl,Ad];rw[aly l _ hl ha q];simp only[Ad];rw[Dy (by simp only[Df,H6,Oe];omega)];simp only[Ad];have :=z i;rw[aAn _ _ AL AL];rfl
 ·rintro k a b ⟨rfl,rfl⟩;unfold aDU;rw[Di];rfl
 rintro a b ⟨rfl,rfl⟩;rw[Gy];refine dL.of ?_;have O:=z aX.length;rw[Gy]at O;unfold aJw;rw[Ip (allOf l aX) AL (λr x=>bif Ji l aX x<aX.length then r++[x]else r) (λi r=>r.length<=i) (λr=>some r) (Eb _)]
 ·congr 1;unfold PE
  have key:∀(S r:A8 Int),S.foldl (λr x=>bif Ji l aX x<aX.length then r++[x]else r) r=r++S.filter (λx=>Ji l aX x<aX.length):=by
   intro S
   induction S with
   |nil=>intro r;simp
   |cons x S U=>
    intro r;rw[Fv,U,VH];cases decide (Ji l aX x<aX.length)<;>simp
  simpa using key (allOf l aX) []
 ·intro k r i h Y;refine⟨?_,?_⟩
  ·cases decide (Ji l aX (allOf l aX)[i]<aX.length)with
   |false=>show r.length<=i+1;omega
   |true=>show(r++[(allOf l aX)[i]]).length<=i+1;simp;omega
  unfold aKL;rw[dec_lt h];simp only[Bl];unfold aWl
  rw[Ip (aX.map (Fe l)) ZL (λ(n:Int) c=>bif ER c (allOf l aX)[i]then Aw (n+1)else n) (λ_ _=>True)
   (λn=>bif n<((aX.map (Fe l)).length:Int) then k (r++[(allOf l aX)[i]]) (Aw ((i:Int)+1))else k r (Aw ((i:Int)+1))) trivial]
  ·have I:=aI5 (allOf l aX)[i] (aX.map (Fe l)) 0 ZL;rw[show((0:Nat):Int)=0 from rfl]at I;rw[I,List.countP_map,Df,Ky]
   have e:decide (((aX.countP ((λc=>ER c (allOf l aX)[i])∘Fe l):Nat):Int)<(aX.length:Int))=decide (Ji l aX (allOf l aX)[i]<aX.length):=by
    unfold Ji;rw[decide_eq_decide];exact Int.ofNat_lt
   rw[e];cases decide (Ji l aX (allOf l aX)[i]<aX.length)<;>rfl
  ·intro k2 n j J _;refine⟨trivial,?_⟩;have L:j<aX.length:=by rw[Df]at J;exact J
   have M:=wK l aX[j];have q:=(hs.each aX[j] (EY L)).1;unfold aHA;rw[dec_lt J,CY J,CY h];simp only[Bl,Ad];rw[XG _ _ (by rw[Px];omega)];simp only[Ad];cases ER (aX.map (Fe l))[j] (allOf l aX)[i]<;>rfl
  intro k2 n _;unfold aHA;rw[Di];simp only[BR];rw[CY h];simp only[Ad];rw[Dy GR];cases decide (n<((aX.map (Fe l)).length:Int))<;>rfl
 intro k r _;unfold aKL;rw[Di];rfl
def aYJ (l:A8 AQ)(aX:A8 (A8 BL))(hl:l.length<=1000)(ha:RI l)(hs:PY aX):a2b l aX=some (Jd l aX):=by
 have h1:=a6q hs;have h2:=Nw (Qw aX);have h3:=aR4 hs hl;unfold a2b;rw[aOW aX hs,agS l aX hl ha hs];simp only[Ad];rw[Dy AL];simp only[Ad];rw[aOw _ Ln];unfold Jd;rw[wC]
def agU (l:A8 AQ)(aX:A8 (A8 BL))(hl:l.length<=1000)(ha:RI l)(hs:PY aX):a3q l aX=some (Jd l aX):=by
 have h1:=a6q hs;have h2:=Nw (Qw aX);have h3:=aR4 hs hl;unfold a3q;rw[aVO aX hs,alQ l aX hl ha hs];simp only[Ad];rw[aAn _ _ AL AL];rfl
def EX (l:A8 AQ):Prop:=∀e∈l,FH e
def EX.amG (h:EX l):RI l:=λe j=>(h e j).auth
def aKO {R:Type}{body:(A->Int->AB R)->A->Int->AB R}(l:A8 α)(hl:l.length<Ar)(p:α->AX)(g:Nat->AB R)(rest:AB R)(a0:A)(u:∀k (i:Nat) (h:i<l.length),body k a0 (i:Int)=bif p l[i]then g i else k a0 (Aw ((i:Int)+1)))(z:∀k,body k a0 (l.length:Int)=rest):
 aQ body Ar a0 0=if l.findIdx p<l.length then g (l.findIdx p)else rest:=by
 have J:Ar=9223372036854775808:=rfl
 have key:∀n (i:Nat),i+n=l.length->∀m,n<m->aQ body m a0 (i:Int)=if(l.drop i).findIdx p+i<l.length then g ((l.drop i).findIdx p+i)else rest:=by
  intro n
  induction n with
  |zero=>
   intro i hi m hm;obtain⟨m,rfl⟩:∃q,m=q+1:=⟨m-1,AL⟩
   have :i=l.length:=AL
   subst this;show body (aQ body m) _ _=_;rw[z,PL,Eh Bf]
  |succ n I=>
   intro i hi m hm;obtain⟨m,rfl⟩:∃q,m=q+1:=⟨m-1,AL⟩
   have j:i<l.length:=AL
   show body (aQ body m) _ _=_;rw[u _ i j,wrap_succ i AL,I (i+1) AL m AL,NW j,YH];cases p l[i]with
   |true=>
    grind
   |false=>
    simp only[BR];rw[show(l.drop (i+1)).findIdx p+(i+1)=(l.drop (i+1)).findIdx p+1+i by omega]
 grind
def Rt {id:Int}{x:BL}(h:x∈Gh s k key id):x=⟨k,key,id⟩\/x∈s:=by
 unfold Gh at h
 grind
def yD (s:A8 BL):Prop:=∀x∈s,x.Id=0
def jD (h:yD s):yD (Gh s k key 0):=λx j=>by
 rcases Rt j with rfl|j
 ·rfl
 exact h x j
def uz (l:A8 BL)(k:Int)(key:BO)(j:Int):AB Bc:=
 (bif j<(l.length:Int) then(Aq l j).bind λq=>some (q.Kind==k)else some false).bind λu=>(bif u then(Aq l j).bind λz=>some (z.Key.toList==key.toList)else some false).bind λI=>(bif I then some l else(Hw l 0 j).bind λJ=>(DL 32 [] J).bind λL=>(DL 32 L [(⟨k,key,0⟩:BL)]).bind λM=>(Hw l j ((l).length)).bind λO=>(DL 32 M O).bind λU=>some U)
def su (s:A8 BL)(k:Int)(key:BO)(hs:s.length<=1000000)(u:yD s):XB s k key=some (Gh s k key 0):=by
 unfold XB aNn
 have j:uz s k key ((Fh s ⟨k,key,0⟩:Nat):Int)=some (Gh s k key 0):=by
  have hp:=vX s ⟨k,key,0⟩;unfold uz Gh
  have q:((Hw s 0 ((Fh s ⟨k,key,0⟩:Nat):Int)).bind λz=>(DL 32 [] z).bind λI=>(DL 32 I [(⟨k,key,0⟩:BL)]).bind λJ=>(Hw s ((Fh s ⟨k,key,0⟩:Nat):Int) ((s).length)).bind λL=>(DL 32 J L).bind λM=>some M)=some (s.take (Fh s ⟨k,key,0⟩)++⟨k,key,0⟩::s.drop (Fh s ⟨k,key,0⟩)):=by
   rw[a01 hp];simp only[Ad];rw[Dy Ej];simp only[Ad,JQ];rw[Dy Ej];simp only[Ad];rw[Wn hp];simp only[Ad];rw[Dy Ej];simp
  rw[q];by_cases hl:Fh s ⟨k,key,0⟩<s.length
  ·rw[dec_lt hl,CY hl];simp only[Bl,Ad]
   have O:Ll s ⟨k,key,0⟩=(s[Fh s ⟨k,key,0⟩].Kind==k&&(s[Fh s ⟨k,key,0⟩].Key=key)):=by
    unfold Ll;rw[ES hl];rfl
   rw[O,Ja];cases Y:s[Fh s ⟨k,key,0⟩].Kind==k with
   |false=>rfl
   |true=>
    simp only[Bl,Ad,GX];cases hd:decide (s[Fh s ⟨k,key,0⟩].Key=key)with
    |true=>
     simp only[Bl];have h1:s[Fh s ⟨k,key,0⟩].Kind=k:=by simpa using Y
     have h2:s[Fh s ⟨k,key,0⟩].Key=key:=by simpa using hd
     have h3:=u _ (EY hl)
     have Z:(⟨k,key,0⟩:BL)=s[Fh s ⟨k,key,0⟩]:=by
      have :∀(y:BL),y.Kind=k->y.Key=key->y.Id=0->(⟨k,key,0⟩:BL)=y:=λy a b c=>by cases y;simp only at a b c;rw[a,b,c]
      exact this _ h1 h2 h3
     congr 1
     conv=>rhs;arg 2;arg 1;rw[Z]
     rw[←NW hl,UU]
    |false=>rfl
  have u:Fh s ⟨k,key,0⟩=s.length:=AL
  have O:Ll s ⟨k,key,0⟩=false:=by unfold Ll;rw[u,Oo (Eb _)]
  rw[O,u,Di];rfl
 rw[KC s (fuel_lt AL) (λx=> !G6 x ⟨k,key,0⟩) (λi=>uz s k key (i:Int)) (uz s k key (s.length:Int))]
 ·split
  ·exact j
  rename_i h;have u:Fh s ⟨k,key,0⟩=s.length:=aVI
  rw[u]at j;exact j
 ·intro k2 i h;unfold aLL
  have e:(bif (i:Int)<(s.length:Int) then(Aq s (i:Int)).bind λx5=>(bif x5.Kind<k then some true else(Aq s (i:Int)).bind λx8=>(bif (x8.Kind==k)then(Aq s (i:Int)).bind λU=>some (Op.bytesLess (U.Key.toList) (key.toList))else some false).bind λx9=>some x9).bind λx6=>some x6 else some false)=some (G6 s[i] ⟨k,key,0⟩):=by
   rw[dec_lt h,CY h];simp only[Bl,Ad];unfold G6;cases decide (s[i].Kind<k)<;>cases s[i].Kind==k<;>rfl
  rw[e];simp only[Ad];cases G6 s[i] ⟨k,key,0⟩<;>rfl
 intro k2;unfold aLL;rw[Di];simp only[BR,Ad];unfold uz;rw[Di];rfl
def MW (e:AQ):A8 BL:=Gh (Gh (Gh [] 1 Ce 0) 3 Ce 0) 2 e.bQ 0
def keysOf (e:AQ):A8 BL:=
 bif e.Kind==1 then[]else bif e.Kind==2 then(bif e.Content.N==3||e.Content.N==1||e.Content.N==2 then Gh (Gh (MW e) 2 e.Key 0) 4 Ce 0 else Gh (MW e) 2 e.Key 0)else MW e
def aHY (e:AQ):(MW e).length<=3:=by
 have h1:=Ql [] 1 Ce 0;have h2:=Ql (Gh [] 1 Ce 0) 3 Ce 0;have h3:=Ql (Gh (Gh [] 1 Ce 0) 3 Ce 0) 2 e.bQ 0;unfold MW;simp only[Q7]at h1;omega
def aPr (e:AQ):yD (MW e):=jD (jD (jD λx j=>absurd j G7))
def YC (e:AQ):(keysOf e).length<=5:=by
 have h1:=aHY e;have h2:=Ql (MW e) 2 e.Key 0;have h3:=Ql (Gh (MW e) 2 e.Key 0) 4 Ce 0;unfold keysOf
 grind
def aUz (e:AQ):xK e=some (keysOf e):=by
 have h1:=aHY e;have h2:=Ql (MW e) 2 e.Key 0;have j:=Ql [] 1 Ce 0;have q:=Ql (Gh [] 1 Ce 0) 3 Ce 0;simp only[Q7]at j;unfold xK keysOf;rw[YZ [] 1 Ce 0 Bf];simp only[Ad];rw[YZ _ 3 Ce 0 AL];simp only[Ad];rw[YZ _ 2 e.bQ 0 AL];simp only[Ad];show(bif e.Kind==1 then some []else bif e.Kind==2 then(TD (MW e) 2 e.Key 0).bind _ else oC (MW e))=_;rw[YZ (MW e) 2 e.Key 0 AL];simp only[Ad];rw[YZ _ 4 Ce 0 AL];unfold oC;cases e.Kind==1<;>cases e.Kind==2<;>cases e.Content.N==3<;>cases e.Content.N==1<;>cases e.Content.N==2<;>rfl
def aFt (e:AQ):ql e=some (keysOf e):=by
 have h1:=aHY e;have h2:=Ql (MW e) 2 e.Key 0;have q:=Ql [] 1 Ce 0;have z:=Ql (Gh [] 1 Ce 0) 3 Ce 0;have z0:yD []:=λx u=>absurd u G7;simp only[Q7]at q;unfold ql keysOf;rw[su [] 1 Ce Bf z0];simp only[Ad];rw[su _ 3 Ce AL (jD z0)];simp only[Ad];rw[su _ 2 e.bQ AL (jD (jD z0))];simp only[Ad];show(bif e.Kind==1 then some []else bif e.Kind != 2 then some (MW e)else(XB (MW e) 2 e.Key).bind _)=_;rw[su (MW e) 2 e.Key AL (aPr e)];simp only[Ad];rw[su _ 4 Ce AL (jD (aPr e))];unfold a1f;have j:(e.Kind != 2)= !(e.Kind==2):=rfl;rw[j];cases e.Kind==1<;>cases e.Kind==2<;>cases e.Content.N==3<;>cases e.Content.N==1<;>cases e.Content.N==2<;>rfl
def F6 (k:BL)(x:AQ):AX:=x.Kind==k.Kind&&(x.Key=k.Key)
def TA (l:A8 AQ)(e:AQ):A8 AQ:=(keysOf e).flatMap λk=>((ofIds l e.bJ).find? (F6 k)).toList
def flat_length {α β:Type}{f:α->A8 β}{n:Nat}(h:∀x,(f x).length<=n):∀l:A8 α,(l.flatMap f).length<=n*l.length
 | []=>Bf
 |x::l=>by
  have h1:=h x;have h2:=flat_length h l;rw[Ov,Ei,GK,Nat.mul_succ];omega
def a2t (l:A8 AQ)(e:AQ):(TA l e).length<=5:=by
 have h1:=flat_length (f:=λk=>((ofIds l e.bJ).find? (F6 k)).toList) (n:=1) (λk=>toList_le _) (keysOf e);have h2:=YC e;unfold TA;omega
def aKq {x:AQ}(h:x∈ofIds l ids):x∈l:=by
 obtain⟨i,_,h⟩:=dX.1 h;exact JM h
def al5 {e x:AQ}(h:x∈TA l e):x∈l:=by
 obtain⟨k,_,h⟩:=Um.1 h;have :(ofIds l e.bJ).find? (F6 k)=some x:=OG
 exact aKq (Ug this)
def KE (x:BL):VP:=⟨x.Kind,x.Key⟩
def aPO (e:AQ):rP e=some ((keysOf e).map KE):=by
 unfold rP;rw[aUz];simp only[Ad];have j:=YC e;unfold aM7;rw[Ip (keysOf e) AL (λr x=>r++[KE x]) (λi r=>r.length<=i) (λr=>some r) (Eb _)]
 ·rw[foldl_append (λx=>[KE x]),JQ];congr 1
  induction keysOf e with
  |nil=>
   rfl
  |cons x s q=>
   grind
 ·intro k r i h u;refine⟨a6s,?_⟩;unfold aCq;rw[DI h,Dy GR];rfl
 intro k r _;unfold aCq;rw[EM]
def aSk (l:A8 AQ)(p:AQ->AX):∀ids:A8 Int,(ofIds l ids).find? p=(ids.find? λi=>match Ef l i with |some x=>p x|none=>false).bind (Ef l)
 | []=>
  rfl
 |i::ids=>by
  have j:=aSk l p ids;unfold ofIds at j ⊢
  grind
def aVD (l:A8 AQ)(e:AQ)(hl:l.length<=1000)(I:e.bJ.length<=40):yg l e=some (TA l e):=by
 unfold yg;rw[aPO];simp only[Ad];have J:=YC e;unfold aQb;rw[Ip (a0:=[]) ((keysOf e).map KE) ZL (λr k=>r++((ofIds l e.bJ).find? λx=>x.Kind==k.adx&&(x.Key=k.ady)).toList) (λi r=>r.length<=i) (λr=>some r) (Eb _)]
 ·congr 1;rw[foldl_append (λk:VP=>((ofIds l e.bJ).find? λx=>x.Kind==k.adx&&(x.Key=k.ady)).toList),JQ,List.flatMap_map];rfl
 ·intro k r i h L;have M:=toList_le ((ofIds l e.bJ).find? λx=>x.Kind==((keysOf e).map KE)[i].adx&&(x.Key=((keysOf e).map KE)[i].ady));refine⟨Ln,?_⟩;have hi:i<5:=by rw[Df]at h;omega
  unfold aGN;rw[DI h];generalize((keysOf e).map KE)[i]=K;unfold aRc
  rw[aKO e.bJ (fuel_lt AL) (λid=>match Ef l id with |some x=>x.Kind==K.adx&&(x.Key=K.ady)|none=>false)
   (λj=>Fin k (i:Int) (r++(match e.bJ[j]? with |some id=>(Ef l id).toList|none=>[]))) (Fin k (i:Int) r)]
  ·rw[aSk,Ku];by_cases q:e.bJ.findIdx (λid=>match Ef l id with |some x=>x.Kind==K.adx&&(x.Key=K.ady)|none=>false)<e.bJ.length
   ·rw[Ea q,ES q];rfl
   rw[Eh q,Oo AL];simp only[Option.bind_none,Option.toList_none,RZ];rfl
  ·intro k2 j u;unfold aEZ;rw[DI u,Om l _ AL,ES u];simp only[Ad];cases z:Ef l e.bJ[j]with
   |none=>rw[RN z];rfl
   |some x=>
    rw[Og z];simp only[Bl,SB];unfold Wu;rw[Ja];rw[Dy GR];cases x.Kind==K.adx<;>cases decide (x.Key=K.ady)<;>rfl
  intro k2;unfold aEZ;rw[EM]
 intro k r _;unfold aGN;rw[EM]
def aNh (l:A8 AQ)(e:AQ)(hl:l.length<=1000)(Z:e.bJ.length<=40):rD l e=some (TA l e):=by
 unfold rD;rw[aFt,aGT l _ hl AL];simp only[Ad];have hk:=YC e;have L:=eS l e.bJ;unfold aPw;rw[Ip (a0:=[]) (keysOf e) AL (λr k=>r++((ofIds l e.bJ).find? (F6 k)).toList) (λi r=>r.length<=i) (λr=>some r) (Eb _)]
 ·rw[foldl_append (λk:BL=>((ofIds l e.bJ).find? (F6 k)).toList),JQ];rfl
 ·intro k r i h hI;have M:=toList_le ((ofIds l e.bJ).find? (F6 (keysOf e)[i]));refine⟨Ln,?_⟩;have hi:i<5:=AL
  unfold aEw;rw[dec_lt h];simp only[Bl];generalize ofIds l e.bJ=O at L M;unfold aLz
  have u:∀m (a:A8 AQ) (j:Int),0<m->iZ (RV O (keysOf e) (i:Int) k) m a true j=k a (Aw ((i:Int)+1)):=by
   intro m a j hm;obtain⟨m,rfl⟩:∃I,m=I+1:=⟨m-1,AL⟩
   show RV O (keysOf e) (i:Int) k (iZ (RV O (keysOf e) (i:Int) k) m) a true j=_;unfold RV
   grind
  have key:∀n (j:Nat),j+n=O.length->∀m,n+1<m->iZ (RV O (keysOf e) (i:Int) k) m r false (j:Int)=k (r++((O.drop j).find? (F6 (keysOf e)[i])).toList) (Aw ((i:Int)+1)):=by
   intro n
   induction n with
   |zero=>
    intro j U m hm;obtain⟨m,rfl⟩:∃I,m=I+1:=⟨m-1,AL⟩
    have :j=O.length:=AL
    subst this;show RV O (keysOf e) (i:Int) k (iZ (RV O (keysOf e) (i:Int) k) m) r false _=_;unfold RV;rw[Di,PL];simp
   |succ n Y=>
    intro j U m hm;obtain⟨m,rfl⟩:∃I,m=I+1:=⟨m-1,AL⟩
    have z:j<O.length:=AL
    have J:=Y (j+1) AL m AL;show RV O (keysOf e) (i:Int) k (iZ (RV O (keysOf e) (i:Int) k) m) r false _=_;have q:=u m;generalize iZ (RV O (keysOf e) (i:Int) k) m=K at J q;unfold RV a2Q a2a;rw[dec_lt z,CY z,CY h];simp only[Bl,Jl,Ad];rw[Ja,wrap_succ j AL,NW z,Xr,J];rw[Dy GR];simp only[Ad];rw[q _ _ AL];unfold F6;cases O[j].Kind==(keysOf e)[i].Kind<;>cases decide (O[j].Key=(keysOf e)[i].Key)<;>rfl
  have :=key O.length 0 AL Ar kN;exact this
 intro k r _;unfold aEw;rw[Di];rfl
def Xo (c:BO):Cx:=bif !(c.toList==Ce.toList)then{ Xp with Users:=[⟨c,100⟩] }else Xp
def UL (l:A8 AQ):BO:=match l.find? λx=>x.Kind==1 with |some x=>x.bQ|none=>Ce
def Gf (l:A8 AQ):Cx:=match l.find? λx=>x.Kind==3 with |some x=>x.Content.Levels|none=>Xo (UL l)
def aZ0 (c:BO):a2k c=some (Xo c):=by
 unfold a2k Xo aAB
 grind
def aXw (c:BO):a7I c=some (Xo c):=by
 unfold a7I Xo a3b;cases c.toList==Ce.toList<;>rfl
def aMu (l:A8 AQ)(k:Int)(hl:l.length<=1000):wz l k=some (if l.findIdx (λe=>e.Kind==k)<l.length then((l.findIdx (λe=>e.Kind==k):Nat):Int)else -1):=by
 unfold wz;rw[a1Q l AL (λa0=>a2p a0 k) (λe=>e.Kind==k) λ_=>rfl];rfl
def aDk (l:A8 AQ)(hl:l.length<=1000)(hs:EX l):kU l=some (Gf l,UL l):=by
 have q:∀c,lX l c=some (match l.find? λx=>x.Kind==3 with |some x=>x.Content.Levels|none=>Xo c,c):=by
  intro c;unfold lX;rw[aMu l 3 hl,Ku];simp only[Ad];by_cases h:l.findIdx (λe=>e.Kind==3)<l.length
  ·rw[Ea h,show decide (((l.findIdx (λe=>e.Kind==3):Nat):Int)>=0)=true by simp,CY h,ES h];simp only[Bl,Ad];have u:=hs _ (EY h);have h1:=u.users;have h2:=u.kinds;unfold a4K a4g;rw[Dy SG,Dy SG];rfl
  rw[Eh h,Oo AL,aZ0];rfl
 unfold kU;rw[aMu l 1 hl];simp only[Ad];by_cases h:l.findIdx (λe=>e.Kind==1)<l.length
 ·have j:UL l=l[l.findIdx (λe=>e.Kind==1)].bQ:=by unfold UL;rw[Ku,ES h]
  rw[Ea h,show decide (((l.findIdx (λe=>e.Kind==1):Nat):Int)>=0)=true by simp,CY h];simp only[Bl,Ad];rw[q,←j];rfl
 have j:UL l=Ce:=by unfold UL;rw[Ku,Oo AL]
 rw[Eh h];show lX l Ce=_;rw[q,←j];rfl
def aDg (l:A8 AQ)(hl:l.length<=1000):og l=some (Gf l,UL l):=by
 have I:∀c,aAj l c 0 KU=some (match l.find? λx=>x.Kind==3 with |some x=>x.Content.Levels|none=>Xo c,c):=by
  intro c;unfold aAj
  have O:∀{R:Type} {body:(Int->Cx->AB R)->Int->Cx->AB R} (p:AQ->AX) (g:Nat->AB R) (rest:AB R) (a0:Cx)
   (Y:∀k (i:Nat) (h:i<l.length),body k (i:Int) a0=bif p l[i]then g i else k (Aw ((i:Int)+1)) a0) (Z:∀k,body k (l.length:Int) a0=rest),
   aQ body Ar 0 a0=if l.findIdx p<l.length then g (l.findIdx p)else rest:=by
   intro R body p g rest a0 Y Z;have hf:Ar=9223372036854775808:=rfl
   have key:∀n (i:Nat),i+n=l.length->∀m,n<m->aQ body m (i:Int) a0=if(l.drop i).findIdx p+i<l.length then g ((l.drop i).findIdx p+i)else rest:=by
    intro n
    induction n with
    |zero=>
     intro i hi m hm;obtain⟨m,rfl⟩:∃z,m=z+1:=⟨m-1,AL⟩
     have :i=l.length:=AL
     subst this;show body (aQ body m) _ _=_;rw[Z,PL,Eh Bf]
    |succ n U=>
     intro i hi m hm;obtain⟨m,rfl⟩:∃z,m=z+1:=⟨m-1,AL⟩
     have q:i<l.length:=AL
     show body (aQ body m) _ _=_;rw[Y _ i q,wrap_succ i AL,U (i+1) AL m AL,NW q,YH];cases p l[i]with
     |true=>simp only[Bl,Ky];rw[Ea q]
     |false=>
      simp only[BR];rw[show(l.drop (i+1)).findIdx p+(i+1)=(l.drop (i+1)).findIdx p+1+i by omega]
   have :=key l.length 0 AL Ar AL;simpa using this
  rw[O (λx=>x.Kind==3) (λi=>some ((match l[i]? with |some x=>x.Content.Levels|none=>KU),c)) (some (Xo c,c))]
  ·rw[Ku];by_cases h:l.findIdx (λe=>e.Kind==3)<l.length
   ·rw[Ea h,ES h]
   rw[Eh h,Oo AL]
  ·intro k i h;unfold aHM;rw[DI h,CY h,ES h];rfl
  intro k;unfold aHM;rw[EM,aXw];rfl
 unfold og aOS;obtain⟨F,M⟩:∃F:BO->AB (Cx×BO),∀c,aAj l c 0 KU=F c:=⟨_,λ_=>rfl⟩
 simp only[M]at I
 have J:∀m (c:BO) (j:Int),0<m->iZ (SN l) m c true j=F c:=by
  intro m c j hm;obtain⟨m,rfl⟩:∃z,m=z+1:=⟨m-1,AL⟩
  show SN l (iZ (SN l) m) c true j=_;unfold SN;simp only[M];cases decide (j<(l.length:Int))<;>rfl
 have key:∀n (j:Nat),j+n=l.length->∀m,n+1<m->iZ (SN l) m Ce false (j:Int)=F (match(l.drop j).find? λx=>x.Kind==1 with |some x=>x.bQ|none=>Ce):=by
  intro n
  induction n with
  |zero=>
   intro j hj m hm;obtain⟨m,rfl⟩:∃z,m=z+1:=⟨m-1,AL⟩
   have :j=l.length:=AL
   subst this;show SN l (iZ (SN l) m) Ce false _=_;unfold SN;simp only[M];rw[Di,PL];rfl
  |succ n U=>
   intro j hj m hm;obtain⟨m,rfl⟩:∃z,m=z+1:=⟨m-1,AL⟩
   have q:j<l.length:=AL
   have L:=U (j+1) AL m AL;show SN l (iZ (SN l) m) Ce false _=_;have u:=J m;generalize iZ (SN l) m=K at L u;unfold SN aAl;simp only[M];rw[dec_lt q,CY q];simp only[Bl,Jl,Ad];rw[wrap_succ j AL,NW q,Xr,L,u _ _ AL];cases l[j].Kind==1<;>rfl
 have :=key l.length 0 AL Ar kN;rw[show((0:Nat):Int)=0 from rfl]at this;rw[this,I];rfl
def FK (v:Cx)(u:BO):Int:=match v.Users.find? λx=>decide (x.User=u)with |some x=>x.N|none=>v.User
def eI (v:Cx)(u:BO)(h:v.Users.length<=1000):V8 v u=some (FK v u):=by
 unfold V8 aVY FK;rw[KC v.Users (fuel_lt AL) (λx=>x.User=u) (λi=>some (match v.Users[i]? with |some x=>x.N|none=>0)) (some v.User)]
 ·rw[Ku]
  grind
 ·intro k i h;unfold aCk;rw[DI h,Ja,ES h]
 intro k;unfold aCk;rw[EM]
def aJ (v:Cx)(u:BO)(h:v.Users.length<=1000):Un v u=some (FK v u):=by
 unfold Un aPu FK;rw[KC v.Users (fuel_lt AL) (λx=>x.User=u) (λi=>some (match v.Users[i]? with |some x=>x.N|none=>0)) (some v.User)]
 ·rw[Ku]
  grind
 ·intro k i h;unfold aJY;rw[DI h,Ja,ES h,CY h];rfl
 intro k;unfold aJY;rw[EM]
def mZ (h:EX l):(Gf l).Users.length<=100/\(Gf l).Kinds.length<=100:=by
 unfold Gf;cases j:l.find? λx=>x.Kind==3 with
 |some x=>
  have :=h x (Ug j);exact⟨this.users,this.kinds⟩
 |none=>
  simp only;unfold Xo;cases(UL l).toList==Ce.toList with
  |true=>
   show Xp.Users.length<=100/\Xp.Kinds.length<=100;exact⟨Bj,Bj⟩
  |false=>
   show 1<=100/\Xp.Kinds.length<=100;exact⟨Bj,Bj⟩
def aBG (l:A8 AQ)(e:AQ):Int:=FK (Gf (TA l e)) e.bQ
def EX.from (h:EX l)(e:AQ):EX (TA l e):=λx j=>h x (al5 j)
def ai8 (l:A8 AQ)(e:AQ)(hl:l.length<=1000)(hs:EX l)(j:e.bJ.length<=40):a4r l e=some (aBG l e):=by
 have h1:=a2t l e;have h2:=(mZ (hs.from e)).1;unfold a4r;rw[aVD l e hl j];simp only[Ad];rw[aDk _ AL (hs.from e)];simp only[Ad];rw[eI _ _ AL];rfl
def aUU (l:A8 AQ)(e:AQ)(hl:l.length<=1000)(hs:EX l)(j:e.bJ.length<=40):a0H l e=some (aBG l e):=by
 have h1:=a2t l e;have h2:=(mZ (hs.from e)).1;unfold a0H;rw[aNh l e hl j];simp only[Ad];rw[aDg _ AL];simp only[Ad];rw[aJ _ _ AL];rfl
def QV (e:AQ):AX:=bif e.Kind==2 then(e.Content.N==0||e.Content.N==4)&& !(decide (e.Key=e.bQ))else e.Kind==3||e.Kind==4
def akN (e:AQ):a2f e=some (QV e):=by
 unfold a2f a3I QV;rw[Ja];by_cases h2:e.Kind=2
 ·simp[h2]
  grind
 grind
def adF (e:AQ):a6P e=some (QV e):=by
 unfold a6P QV;rw[Ja]
 grind
def aRd (l:A8 Int)(x:Int)(h:l.length<=1099511627776):uY l x=some (if l.findIdx (· ==x)<l.length then((l.findIdx (· ==x):Nat):Int)else -1):=by
 unfold uY aQa;rw[KC l (fuel_lt h) (· ==x) (λi=>some (i:Int)) (some (-1))]
 ·split<;>rfl
 ·intro k i hi;unfold aFE;rw[DI hi]
  grind
 intro k;unfold aFE;rw[EM]
def aQw (l:A8 Int)(x:Int):decide (l.findIdx (· ==x)<l.length)=ER l x:=by
 rw[Ox,LQ,Iz,dM]
 grind
def a08 (l:A8 Int)(x:Int)(h:l.length<=1099511627776):pK l x=some (ER l x):=by
 unfold pK;rw[aRd l x h,←aQw];by_cases hl:l.findIdx (· ==x)<l.length
 ·rw[Ea hl,KL hl];simp
 rw[Eh hl,IC hl];rfl
def aXN (l:A8 Int)(x:Int)(h:l.length<=1099511627776):jv l x=some (ER l x):=by
 unfold jv;rw[a08 l x h];rfl
def ev (l:A8 AQ)(id:Int):AQ:=(IK l id).1
def Xl (l:A8 AQ)(id:Int):AX:=bU l id&&QV (ev l id)
def H8 (l:A8 AQ)(full:A8 Int):A8 Int:=full.filter (Xl l)
def Wp (l:A8 AQ)(full:A8 Int):A8 Int:=FW (H8 l full++full.filter (ER (chainOf l (H8 l full))))
def aA6 {full:A8 Int}:x∈Wp l full↔x∈full/\(Xl l x=true\/Ls l (H8 l full) x):=by
 unfold Wp;rw[Kw,I8,Gx,LQ,jO];unfold H8
 grind
def aMW (l:A8 AQ)(full:A8 Int):Inc (Wp l full):=NP _
def aIx (p:Int->AX):∀(S r:A8 Int),S.foldl (λr x=>bif p x then r++[x]else r) r=r++S.filter p
 | [],r=>Bf
 |x::S,r=>by
  rw[Fv,aIx p S,VH];cases p x<;>simp
def aav (l:A8 AQ)(full:A8 Int)(hl:l.length<=1000)(hs:EX l)(I:full.length<=120000)(j:(H8 l full).length<=100000):aAQ l full=some (Wp l full):=by
 unfold aAQ aVm;rw[Ip (a0:=[]) full AL (λr x=>bif Xl l x then r++[x]else r) (λi r=>r.length<=i) (λr=>(ZM l r).bind λq=>aKn full q r 0) (Eb _)]
 ·have z:full.foldl (λr x=>bif Xl l x then r++[x]else r) []=H8 l full:=by rw[aIx];rfl
  have J:=bY l (H8 l full);rw[z,aFf l _ hl hs.amG j];simp only[Ad];unfold aKn;rw[Ip full AL (λr x=>bif ER (chainOf l (H8 l full)) x then r++[x]else r) (λi r=>r.length<=(H8 l full).length+i) (λr=>some (FW r)) (Eb _)]
  ·rw[aIx];rfl
  ·intro k r i h u;refine⟨?_,?_⟩
   ·cases ER (chainOf l (H8 l full)) full[i]with
    |false=>
     grind
    |true=>
     show(r++[full[i]]).length<=(H8 l full).length+(i+1);simp;omega
   unfold aC1 aAf;rw[DI h,aXN _ _ AL];simp only[Ad];rw[Dy GR]
   grind
  intro k r u;unfold aC1;rw[EM,fF _ AL];rfl
 ·intro k r i h u;refine⟨?_,?_⟩
  ·cases Xl l full[i]with
   |false=>
    grind
   |true=>
    show(r++[full[i]]).length<=i+1;simp;omega
  unfold aGo aBJ;rw[DI h,Om l _ AL];simp only[Ad];rw[Dy GR];unfold Xl bU ev;rw[akN,Nb];cases(Ef l full[i]).isSome<;>cases QV (IK l full[i]).1<;>rfl
 intro k r _;unfold aGo;rw[EM]
def Ls.aJM {i:Int}(hi:i∈ids)(h:Ls l [i] x):Ls l ids x:=by
 induction h with
 |one h j q=>rw[JI.1 h]at j;exact .one hi j q
 |more h j q u=>exact .more u j q
def Ls.split:Ls l ids x↔∃i∈ids,Ls l [i] x:=by
 constructor
 ·intro h
  induction h with
  |one h j q=>exact⟨_,h,.one (JI.2 rfl) j q⟩
  |more h j q u=>obtain⟨i,h1,h2⟩:=u;exact⟨i,h1,.more h2 j q⟩
 rintro⟨i,h1,h2⟩;exact .aJM h1 h2
def Ls.bU (h:Ls l ids x):bU l x=true:=by cases h<;>assumption
def bZ (h r:A8 Int)(y:Int):A8 Int:=bif ER h y then put r y else r
def a6Z (h:A8 Int):∀(c r:A8 Int),Inc r->Inc (c.foldl (bZ h) r)/\∀x,x∈c.foldl (bZ h) r↔x∈r\/x∈c/\x∈h
 | [],r,j=>⟨j,λx=>Bf⟩
 |y::c,r,j=>by
  rw[Fv];unfold bZ;cases u:ER h y with
  |true=>
   obtain⟨h1,h2⟩:=a6Z h c (put r y) (TG j);refine⟨h1,λx=>(h2 x).trans ?_⟩;rw[Wy,FP];constructor
   ·rintro((h3|rfl)|h3)
    ·exact .inl h3
    ·exact .inr ⟨.inl rfl,LQ.1 u⟩
    exact .inr ⟨.inr h3.1,h3.2⟩
   rintro(h3|⟨rfl|h3,q⟩)
   ·exact .inl (.inl h3)
   ·exact .inl (.inr rfl)
   exact .inr ⟨h3,q⟩
  |false=>
   obtain⟨h1,h2⟩:=a6Z h c r j;refine⟨h1,λx=>(h2 x).trans ⟨λh3=>h3.imp id λh3=>⟨IZ _ h3.1,h3.2⟩,λh3=>h3.imp id λh3=>⟨?_,h3.2⟩⟩⟩;rcases FP.1 h3.1 with rfl|q
   ·exact absurd h3.2 (PO.1 u)
   exact q
def iI (l:A8 AQ)(h r:A8 Int)(x:Int):A8 Int:=bif QV (ev l x)then(chainOf l [x]).foldl (bZ h) (put r x)else r
def aGj (l:A8 AQ)(h:A8 Int):∀(c r:A8 Int),Inc r->Inc (c.foldl (iI l h) r)/\∀x,x∈c.foldl (iI l h) r↔x∈r\/∃i∈c,QV (ev l i)=true/\(x=i\/Ls l [i] x/\x∈h)
 | [],r,u=>⟨u,λx=>Bf⟩
 |y::c,r,u=>by
  rw[Fv];unfold iI;cases z:QV (ev l y)with
  |true=>
   obtain⟨I,J⟩:=a6Z h (chainOf l [y]) (put r y) (TG u);obtain⟨h1,h2⟩:=aGj l h c _ I;refine⟨h1,λx=>(h2 x).trans ?_⟩;rw[J x,Wy,jO];constructor
   ·rintro(((h3|rfl)|h3)|⟨i,h3,q⟩)
    ·exact .inl h3
    ·exact .inr ⟨x,Gt ..,z,.inl rfl⟩
    ·exact .inr ⟨y,Gt ..,z,.inr h3⟩
    exact .inr ⟨i,IZ _ h3,q⟩
   rintro(h3|⟨i,h3,q,j⟩)
   ·exact .inl (.inl (.inl h3))
   rcases FP.1 h3 with rfl|h3
   ·rcases j with rfl|j
    ·exact .inl (.inl (.inr rfl))
    exact .inl (.inr j)
   exact .inr ⟨i,h3,q,j⟩
  |false=>
   obtain⟨h1,h2⟩:=aGj l h c r u;refine⟨h1,λx=>(h2 x).trans ⟨λh3=>h3.imp id λ⟨i,q,j⟩=>⟨i,IZ _ q,j⟩,λh3=>h3.imp id λ⟨i,q,j,L⟩=>⟨i,?_,j,L⟩⟩⟩;rcases FP.1 q with rfl|q
   ·rw[z]at j;cases j
   exact q
def aeK (l:A8 AQ)(full:A8 Int):(gK l full).foldl (iI l (gK l full)) []=Wp l full:=by
 obtain⟨h1,h2⟩:=aGj l (gK l full) (gK l full) [] .nil;refine Dp h1 (aMW _ _) λx=>(h2 x).trans ?_;rw[aA6,NT,Ls.split];unfold H8 Xl;constructor
 ·rintro(h3|⟨i,h3,j,q⟩)
  ·grind
  have u:=NT.1 h3
  grind
 rintro⟨h3,j|⟨i,j,q⟩⟩
 ·rw[Dj]at j;exact .inr ⟨x,NT.2 ⟨h3,j.1⟩,j.2,.inl rfl⟩
 rw[Gx,Dj]at j;exact .inr ⟨i,NT.2 ⟨j.1,j.2.1⟩,j.2.2,.inr ⟨q,h3,q.bU⟩⟩
def aXf (l:A8 AQ)(full:A8 Int)(hl:l.length<=1000)(hs:EX l)(L:full.length<=100000):a1d l full=some (Wp l full):=by
 unfold a1d;rw[aLn l full hl L];simp only[Ad];have M:(gK l full).length<=l.length:=lI (dG l full) λx q=>(NT.1 q).2;unfold aU5;rw[Ip (a0:=[]) (gK l full) AL (iI l (gK l full)) (λ_ r=>Inc r/\∀x∈r,bU l x=true) (λr=>some r) ⟨.nil,λx q=>absurd q G7⟩]
 ·rw[aeK]
 ·intro k r i h u;have z:bU l (gK l full)[i]=true:=(NT.1 (EY h)).2;have O:=lI u.1 u.2;have g:=a6Z (gK l full) (chainOf l [(gK l full)[i]]) (put r (gK l full)[i]) (TG u.1);refine⟨?_,?_⟩
  ·unfold iI;cases QV (ev l (gK l full)[i])with
   |false=>exact u
   |true=>
    refine⟨g.1,λx q=>?_⟩;rcases(g.2 x).1 q with h3|h3
    ·rcases Wy.1 h3 with h3|rfl
     ·exact u.2 x h3
     exact z
    exact(NT.1 h3.2).2
  unfold aJa zT;rw[DI h,N7 l _ AL];simp only[Ad];rw[adF,CY h];simp only[Ad];rw[qC _ _ AL];simp only[Ad];rw[aIb l _ hl hs.amG Bf];simp only[Ad];unfold iI;show(bif QV (ev l (gK l full)[i])then _ else _)=_;cases QV (ev l (gK l full)[i])with
  |false=>rfl
  |true=>
   simp only[Bl];have hc:=bY l [(gK l full)[i]];unfold aNO
   rw[Ip (chainOf l [(gK l full)[i]]) AL (bZ (gK l full)) (λ_ r=>Inc r/\∀x∈r,bU l x=true) (λr=>k r (Aw ((i:Int)+1))) ⟨TG u.1,λx q=>by
    rcases Wy.1 q with h3|rfl
    ·exact u.2 x h3
    exact z⟩]
   ·intro k2 U j J I;have Y:=lI I.1 I.2;refine⟨?_,?_⟩
    ·unfold bZ;cases Z:ER (gK l full) (chainOf l [(gK l full)[i]])[j]with
     |false=>exact I
     |true=>
      refine⟨TG I.1,λx q=>?_⟩;rcases Wy.1 q with h3|rfl
      ·exact I.2 x h3
      exact(NT.1 (LQ.1 Z)).2
    unfold aDD a5U;rw[DI J,XG _ _ AL,CY J];simp only[Ad];rw[qC _ _ AL];unfold bZ;cases ER (gK l full) (chainOf l [(gK l full)[i]])[j]<;>rfl
   intro k2 U _;unfold aDD zT;rw[EM]
 intro k r _;unfold aJa;rw[EM]
def a6F (l:A8 AQ)(full:A8 Int):(Wp l full).length<=l.length:=
 lI (aMW l full) λx j=>by
  rcases(aA6.1 j).2 with h|h
  ·unfold Xl at h;rw[Dj]at h;exact h.1
  exact h.bU
def GL (l:A8 AQ)(id:Int):SY:=⟨id,aBG l (ev l id),(ev l id).Time,chainOf l [id]⟩
def gV (l:A8 AQ)(left:A8 Int)(x:Int):AX:= !left.any λy=>ER (chainOf l [x]) y
def gX (a b:SY):AX:=bif a.SL != b.SL then decide (a.SL>b.SL)else decide (a.CW<b.CW)
def IJ (l:A8 AQ)(left:A8 Int)(b:AB Int)(x:Int):AB Int:=bif gV l left x&&(match b with |none=>true|some y=>gX (GL l x) (GL l y))then some x else b
def VT (l:A8 AQ)(left:A8 Int):AB Int:=left.foldl (IJ l left) none
def sO (l:A8 AQ):Nat->A8 Int->A8 Int
 |0,_=>[]
 |n+1,left=>match VT l left with
  |none=>[]
  |some b=>b::sO l n (left.filter (· != b))
def aTU (l:A8 AQ):∀ids:A8 Int,ids.flatMap (λid=>bif bU l id then[GL l id]else[])=(ids.filter (bU l)).map (GL l)
 | []=>
  rfl
 |i::ids=>by
  rw[Ov,aTU l ids,VH]
  grind
def ajn (l:A8 AQ)(ids:A8 Int)(hl:l.length<=1000)(hs:EX l)(hi:ids.length<=100000):a1x l ids=some ((gK l ids).map (GL l)):=by
 unfold a1x;rw[fF ids AL];simp only[Ad];have hsl:=Nw ids;unfold aUx;rw[Ip (a0:=[]) (FW ids) AL (λr id=>r++bif bU l id then[GL l id]else[]) (λi r=>r.length<=i) (λr=>some r) (Eb _)]
 ·rw[foldl_append (λid=>bif bU l id then[GL l id]else[]),JQ,aTU];rfl
 ·intro k r i h z;refine⟨?_,?_⟩
  ·grind
  unfold aID a3C;rw[DI h,Om l _ AL];simp only[Ad];unfold bU;cases j:Ef l (FW ids)[i]with
  |none=>
   rw[RN j];simp
  |some e=>
   have u:=hs e (JM j);have q:ev l (FW ids)[i]=e:=by unfold ev;rw[Og j]
   rw[Og j];simp only[Bl,Option.isSome_some];rw[ai8 l e hl hs u.auth,aFf l _ hl hs.amG Bf];simp only[Ad];rw[Dy GR];unfold GL;rw[q];rfl
 intro k r _;unfold aID;rw[EM]
def aQD (l:A8 AQ)(left:A8 Int):∀(c:A8 Int) (b:AB Int) {x:Int},c.foldl (IJ l left) b=some x->b=some x\/x∈c
 | [],b,x,h=>.inl h
 |y::c,b,x,h=>by
  rw[Fv]at h;rcases aQD l left c _ h with h1|h1
  ·have key:∀c:AX,(bif c then some y else b)=some x->b=some x\/x=y:=λc j=>by
    grind
   rcases key _ h1 with h2|h2
   ·exact .inl h2
   grind
  grind
variable {left:A8 Int}
def aai (h:VT l left=some x):x∈left:=by
 rcases aQD l left left none h with h|h
 ·cases h
 exact h
def aOb (u:left.Nodup){j:Nat}(z:j<left.length):left.take j++left.drop (j+1)=left.filter (· != left[j]):=by
 have e:left=left.take j++left[j]::left.drop (j+1):=by rw[←NW z,UU]
 have q:(left.take j++left[j]::left.drop (j+1)).Nodup:=by rw[←e];exact u
 have h1:=qO.1 q;have h2:=KN.1 h1.2.1
 have J:(left.take j).filter (· != left[j])=left.take j:=nS.2 λx I=>by
  grind
 have L:(left.drop (j+1)).filter (· != left[j])=left.drop (j+1):=nS.2 λx I=>by
  grind
 grind
def aQt (q:left.Nodup){b:Int}(u:b∈left):(left.filter (· != b)).length+1=left.length:=by
 obtain⟨j,z,rfl⟩:=G8 u;rw[←aOb q z,Ei,H6,Ld];omega
def abN (h:Inc left)(b:Int):Ph left [b]=left.filter (· != b):=by
 unfold Ph;rw[ajI h];congr 1;funext x;by_cases e:x=b
 ·subst e;simp[ER]
 simp[ER,e]
def am1 (l:A8 AQ)(hl:l.length<=1000):∀(m:Nat) (left q:A8 Int) (N:Nat),left.length=m->Inc left->(∀x∈left,bU l x=true)->q.length+left.length<=1000000->m<N->aQ Z8 N (left.map (GL l)) q=some (q++sO l m left):=by
 intro m
 induction m with
 |zero=>
  intro left q N hm hi hk hacc hN;obtain⟨N,rfl⟩:∃N',N=N'+1:=⟨N-1,AL⟩
  have :left=[]:=Ho hm;subst this;show Z8 _ _ _=_;unfold Z8 sO;simp
 |succ m ih=>
  intro left q N hm hi hk hacc hN;obtain⟨N,rfl⟩:∃N',N=N'+1:=⟨N-1,AL⟩
  have hll:=lI hi hk;refine dL.eq ?_;show dL (Z8 (aQ Z8 N) _ _) _;have ih':=λleft' acc' h1 h2 h3 h4=>ih left' acc' N h1 h2 h3 h4 AL;generalize aQ Z8 N=K at ih';unfold Z8;rw[show decide (((left.map (GL l)).length:Int)>0)=true by rw[Df];simp;omega];simp only[Bl];unfold aNi;refine UQ (body:=aFJ (left.map (GL l)) K) (λm2 a b c=>∃i:Nat,b=i/\i+m2=left.length/\c=q/\((a= -1/\(left.take i).foldl (IJ l left) none=none)\/∃(j:Nat) (I:j<left.length),a=(j:Int)/\(left.take i).foldl (IJ l left) none=some left[j])) ?_ Ar left.length (-1) 0 q (fuel_lt AL) ⟨0,rfl,AL,rfl,.inl ⟨rfl,rfl⟩⟩;rintro m2 a b c k ⟨i,rfl,hm2,rfl,hI⟩ J;unfold aFJ;by_cases M:i<left.length
  ·have U:i<(left.map (GL l)).length:=by rw[Df];exact M
   rw[dec_lt U,CY U,Px];simp only[Bl,Ad]
   have hst:(left.take (i+1)).foldl (IJ l left) none=IJ l left ((left.take i).foldl (IJ l left) none) left[i]:=by
    rw[Nv M,Uk];rfl
   unfold aTH;have hc:=bY l [left[i]]
   have hin:∀(k2:Int->Int->A8 Int->AB (A8 Int)),aQ (Yu (left.map (GL l)) (GL l left[i]) k2 (i:Int) a) Ar 0 c=bif gV l left left[i]then(bif a<0 then ZH k2 (i:Int) a true c else(Aq (left.map (GL l)) a).bind λx27=>(iT (GL l left[i]) x27).bind λx28=>ZH k2 (i:Int) a x28 c)else jC k2 (i:Int) a c:=by
    intro k2
    have key:∀n (j:Nat),j+n=left.length->∀m,n<m->aQ (Yu (left.map (GL l)) (GL l left[i]) k2 (i:Int) a) m (j:Int) c=bif !(left.drop j).any (λy=>ER (chainOf l [left[i]]) y)then(bif a<0 then ZH k2 (i:Int) a true c else(Aq (left.map (GL l)) a).bind λx27=>(iT (GL l left[i]) x27).bind λx28=>ZH k2 (i:Int) a x28 c)else jC k2 (i:Int) a c:=by
     intro n
     induction n with
     |zero=>
      intro j I m hm;obtain⟨m,rfl⟩:∃m',m=m'+1:=⟨m-1,AL⟩
      have :j=left.length:=AL
      subst this;show Yu _ _ _ _ _ _ _ _=_;unfold Yu;rw[show decide ((left.length:Int)<((left.map (GL l)).length:Int))=false by rw[Df];exact Di _,PL];rfl
     |succ n ihn=>
      intro j I m hm;obtain⟨m,rfl⟩:∃m',m=m'+1:=⟨m-1,AL⟩
      have hjl:j<left.length:=AL
      have aMc:j<(left.map (GL l)).length:=by rw[Df];exact hjl
      have Y:=ihn (j+1) AL m AL;show Yu _ _ _ _ _ (aQ _ m) _ _=_;generalize aQ (Yu (left.map (GL l)) (GL l left[i]) k2 (i:Int) a) m=L at Y;unfold Yu;rw[DI aMc,Px];show((jv (chainOf l [left[i]]) left[j]).bind _)=_;rw[aXN _ _ AL,wrap_succ j AL,NW hjl,List.any_cons];simp only[Ad];cases ER (chainOf l [left[i]]) left[j]with
      |true=>
       rfl
      |false=>
       simp only[BR,Qv];exact Y
    exact key left.length 0 AL Ar (fuel_lt AL)
   rw[hin];have hw:=wrap_succ i AL;unfold ZH jC;rw[hw];cases O:gV l left left[i]with
   |false=>
    simp only[BR];refine J (m2-1) _ _ _ AL ⟨i+1,rfl,AL,rfl,?_⟩;have e:IJ l left ((left.take i).foldl (IJ l left) none) left[i]=(left.take i).foldl (IJ l left) none:=by unfold IJ;rw[O];rfl
    rw[hst,e];exact hI
   |true=>
    simp only[Bl];rcases hI with⟨rfl,Z⟩|⟨j,I,rfl,Z⟩
    ·rw[show decide ((-1:Int)<0)=true by decide];simp only[Bl];refine J (m2-1) _ _ _ AL ⟨i+1,rfl,AL,rfl,.inr ⟨i,M,rfl,?_⟩⟩;rw[hst,Z];unfold IJ;rw[O];rfl
    have u:j<(left.map (GL l)).length:=by rw[Df];exact I
    rw[show decide ((j:Int)<0)=false by simp,CY u,Px];simp only[BR,Ad]
    have e1:iT (GL l left[i]) (GL l left[j])=some (gX (GL l left[i]) (GL l left[j])):=by
     unfold iT gX
     grind
    rw[e1];simp only[Ad];cases ha:gX (GL l left[i]) (GL l left[j])with
    |true=>
     simp only[Bl];refine J (m2-1) _ _ _ AL ⟨i+1,rfl,AL,rfl,.inr ⟨i,M,rfl,?_⟩⟩;rw[hst,Z];unfold IJ;rw[O];simp only[ha];rfl
    |false=>
     simp only[BR];refine J (m2-1) _ _ _ AL ⟨i+1,rfl,AL,rfl,.inr ⟨j,I,rfl,?_⟩⟩;rw[hst,Z];unfold IJ;rw[O];simp only[ha];rfl
  have hie:i=left.length:=AL
  subst hie;rw[show decide ((left.length:Int)<((left.map (GL l)).length:Int))=false by rw[Df];exact Di _];simp only[BR];rw[Gy]at hI;have z:sO l (m+1) left=match VT l left with |none=>[]|some b=>b::sO l m (left.filter (· != b)):=rfl
  rcases hI with⟨rfl,Z⟩|⟨j,I,rfl,Z⟩
  ·rw[show decide ((-1:Int)<0)=true by decide];refine .ret ?_;have h1:VT l left=none:=Z;rw[z,h1];simp
  have u:j<(left.map (GL l)).length:=by rw[Df];exact I
  rw[show decide ((j:Int)<0)=false by simp,CY u,Px];simp only[BR,Ad];have h1:VT l left=some left[j]:=Z;rw[Dy GR];simp only[Ad];rw[a01 (Nat.le_of_lt u),wrap_succ j AL,Wn u];simp only[Ad];rw[Dy (by rw[H6,Ld,Df];omega)];simp only[Ad]
  have e2:(left.map (GL l)).take j++(left.map (GL l)).drop (j+1)=(left.filter (· != left[j])).map (GL l):=by
   rw[←aOb (TK hi) I,JY,aV,iy]
  rw[e2];have hwl:=aQt (TK hi) (EY I);rw[ih' (left.filter (· != left[j])) (c++[(GL l left[j]).nR]) AL (hi.sublist Uc) (λx hx=>hk x ((Gx.1 hx).1)) VE];refine .ret ?_;rw[z,h1,JU];rfl
def afj (l:A8 AQ)(ids:A8 Int)(hl:l.length<=1000)(hs:EX l)(hi:ids.length<=100000):a4I l ids=some (sO l (gK l ids).length (gK l ids)):=by
 have q:(gK l ids).length<=l.length:=lI (dG l ids) λx j=>(NT.1 j).2;unfold a4I;rw[ajn l ids hl hs hi];simp only[Ad];unfold aQG;rw[am1 l hl _ (gK l ids) [] Ar rfl (dG l ids) (λx j=>(NT.1 j).2) SG (fuel_lt AL)];rfl
def aZT (l:A8 AQ)(left:A8 Int)(x:Int)(hl:l.length<=1000)(hs:EX l)(j:left.length<=100000):a3u l left x=some (gV l left x):=by
 unfold a3u;rw[aIb l _ hl hs.amG Bf];simp only[Ad];have q:=bY l [x];unfold aNS;rw[Hq (chainOf l [x]) (fuel_lt AL) (λy=>ER left y) false (some true)]
 ·unfold gV
  have e:(chainOf l [x]).any (λy=>ER left y)=left.any λy=>ER (chainOf l [x]) y:=by
   rw[Ox,JV,JV];simp only[LQ];exact⟨λ⟨y,a,b⟩=>⟨y,b,a⟩,λ⟨y,a,b⟩=>⟨y,b,a⟩⟩
  rw[e];cases left.any λy=>ER (chainOf l [x]) y<;>rfl
 ·intro k i h;unfold aGi;rw[DI h,XG _ _ AL];simp only[Ad]
 intro k;unfold aGi;rw[EM]
def aKX {R A B C D:Type}{Q:R->Prop}{body:(A->B->C->D->AB R)->A->B->C->D->AB R}(I:Nat->A->B->C->D->Prop)(hs:∀m a b c d k,I m a b c d->(∀j a' q u z,j<m->I j a' q u z->dL (k a' q u z) Q)->dL (body k a b c d) Q):
 ∀n m a b c d,m<n->I m a b c d->dL (WI body n a b c d) Q
 |0,m,_,_,_,_,h,_=>AL
 |n+1,m,a,b,c,d,h,hi=>hs m a b c d _ hi λj a' q u z h' J=>aKX I hs n j a' q u z AL J
def Ib (h:bU l x=true):Ef l x=some (ev l x)/\(ev l x).Id=x:=by
 unfold bU at h;obtain⟨e,j⟩:=SX.1 h;have :ev l x=e:=by unfold ev;rw[Og j]
 rw[this];exact⟨j,a1v j⟩
def aZe (l:A8 AQ)(x y:Int)(hl:l.length<=1000)(hs:EX l)(j:bU l x=true)(q:bU l y=true)(u:y<x):a1m l (ev l x) (ev l y)=some (gX (GL l x) (GL l y)):=by
 obtain⟨z,J⟩:=Ib j;obtain⟨I,L⟩:=Ib q;unfold a1m;rw[aUU l _ hl hs (hs _ (JM z)).auth,aUU l _ hl hs (hs _ (JM I)).auth];simp only[Ad];unfold gX GL
 grind
def anK (l:A8 AQ)(hl:l.length<=1000)(hs:EX l):∀(m:Nat) (left q:A8 Int) (N:Nat),left.length=m->Inc left->(∀x∈left,bU l x=true)->q.length+left.length<=1000000->m<N->aQ (YV l) N left q=some (q++sO l m left):=by
 intro m
 induction m with
 |zero=>
  intro left q N hm hi Y hacc hN;obtain⟨N,rfl⟩:∃N',N=N'+1:=⟨N-1,AL⟩
  have :left=[]:=Ho hm;subst this;show YV _ _ _ _=_;unfold YV sO;simp
 |succ m ih=>
  intro left q N hm hi Y hacc hN;obtain⟨N,rfl⟩:∃N',N=N'+1:=⟨N-1,AL⟩
  have hll:=lI hi Y;refine dL.eq ?_;show dL (YV l (aQ (YV l) N) _ _) _;have ih':=λO acc' h1 h2 h3 h4=>ih O acc' N h1 h2 h3 h4 AL;generalize aQ (YV l) N=K at ih';unfold YV;rw[show decide ((left.length:Int)>0)=true by simp;omega];simp only[Bl];unfold aO2;refine aKX (body:=aCe left l K) (λZ a b c d=>∃i:Nat,b=i/\i+Z=left.length/\c=q/\((a=false/\(left.take i).foldl (IJ l left) none=none)\/∃(j:Nat) (J:j<left.length),j<i/\a=true/\d=ev l left[j]/\(left.take i).foldl (IJ l left) none=some left[j])) ?_ Ar left.length false 0 q Fj (fuel_lt AL) ⟨0,rfl,AL,rfl,.inl ⟨rfl,rfl⟩⟩;rintro Z a b c d k ⟨i,rfl,hm2,rfl,hI⟩ L;unfold aCe;by_cases u:i<left.length
  ·rw[dec_lt u,CY u];simp only[Bl,Ad];rw[N7 l _ AL];simp only[Ad];rw[aZT l left _ hl hs AL];simp only[Ad]
   have hst:(left.take (i+1)).foldl (IJ l left) none=IJ l left ((left.take i).foldl (IJ l left) none) left[i]:=by
    rw[Nv u,Uk];rfl
   unfold a6m;rw[wrap_succ i AL];cases M:gV l left left[i]with
   |false=>
    simp only[BR,Ad];refine L (Z-1) _ _ _ _ AL ⟨i+1,rfl,AL,rfl,?_⟩;have e:IJ l left ((left.take i).foldl (IJ l left) none) left[i]=(left.take i).foldl (IJ l left) none:=by unfold IJ;rw[M];rfl
    rw[hst,e];rcases hI with z|⟨j,J,U,z⟩
    ·exact .inl z
    exact .inr ⟨j,J,AL,z⟩
   |true=>
    simp only[Bl];rcases hI with⟨rfl,z⟩|⟨j,J,U,rfl,rfl,z⟩
    ·simp only[Jl,Bl,Ad];refine L (Z-1) _ _ _ _ AL ⟨i+1,rfl,AL,rfl,.inr ⟨i,u,AL,rfl,rfl,?_⟩⟩;rw[hst,z];unfold IJ;rw[M];rfl
    simp only[FU,BR];have hlt2:left[j]<left[i]:=J9.1 hi j i J u U;have e1:=aZe l left[i] left[j] hl hs (Y _ (EY u)) (Y _ (EY J)) hlt2;rw[show(IK l left[i]).1=ev l left[i]from rfl,e1];simp only[Ad];cases ha:gX (GL l left[i]) (GL l left[j])with
    |true=>
     simp only[Bl];refine L (Z-1) _ _ _ _ AL ⟨i+1,rfl,AL,rfl,.inr ⟨i,u,AL,rfl,rfl,?_⟩⟩;rw[hst,z];unfold IJ;rw[M];simp only[ha];rfl
    |false=>
     simp only[BR];refine L (Z-1) _ _ _ _ AL ⟨i+1,rfl,AL,rfl,.inr ⟨j,J,AL,rfl,rfl,?_⟩⟩;rw[hst,z];unfold IJ;rw[M];simp only[ha];rfl
  have hie:i=left.length:=AL
  subst hie;rw[Di];simp only[BR];rw[Gy]at hI;have I:sO l (m+1) left=match VT l left with |none=>[]|some b=>b::sO l m (left.filter (· != b)):=rfl
  rcases hI with⟨rfl,z⟩|⟨j,J,U,rfl,rfl,z⟩
  ·refine .ret ?_;have h1:VT l left=none:=z;rw[I,h1];simp
  simp only[FU,BR];have h1:VT l left=some left[j]:=z;have hid:=(Ib (Y _ (EY J))).2;rw[hid,Dy GR];simp only[Ad];rw[aAt _ _ AL Bf,abN hi];simp only[Ad];have hwl:=aQt (TK hi) (EY J);rw[ih' (left.filter (· != left[j])) (c++[left[j]]) AL (hi.sublist Uc) (λx hx=>Y x ((Gx.1 hx).1)) VE];refine .ret ?_;rw[I,h1,JU];rfl
def al2 (l:A8 AQ)(ids:A8 Int)(hl:l.length<=1000)(hs:EX l)(hi:ids.length<=100000):a5H l ids=some (sO l (gK l ids).length (gK l ids)):=by
 have q:(gK l ids).length<=l.length:=lI (dG l ids) λx j=>(NT.1 j).2;unfold a5H;rw[aLn l ids hl hi];simp only[Ad];unfold aWJ;rw[anK l hl hs _ (gK l ids) [] Ar rfl (dG l ids) (λx j=>(NT.1 j).2) SG (fuel_lt AL)];rfl
def aHX (l:A8 AQ):∀(n:Nat) (left:A8 Int) {x:Int},x∈sO l n left->x∈left
 |0,_,_,h=>absurd h G7
 |n+1,left,x,h=>by
  unfold sO at h;cases j:VT l left with
  |none=>
   grind
  |some b=>
   rw[j]at h;rcases FP.1 h with rfl|h
   ·exact aai j
   exact(Gx.1 (aHX l n _ h)).1
def aRS (l:A8 AQ):∀(n:Nat) (left:A8 Int),(sO l n left).length<=n
 |0,_=>Eb _
 |n+1,left=>by
  unfold sO;cases VT l left with
  |none=>exact F7 _
  |some b=>have :=aRS l n (left.filter (· != b));simp only[GK];omega
def Oy (l:A8 AQ)(e:AQ):Option Int:=e.bJ.find? λid=>bU l id&&(ev l id).Kind==3
def dB (l:A8 AQ)(e:AQ):Int×AX:=match Oy l e with |some x=>(x,true)|none=>(0,false)
def aSh (l:A8 AQ)(e:AQ)(hl:l.length<=1000)(j:e.bJ.length<=40):zU l e=some (dB l e):=by
 unfold zU aOC;rw[KC e.bJ (fuel_lt AL) (λid=>bU l id&&(ev l id).Kind==3) (λi=>some (match e.bJ[i]? with |some x=>(x,true)|none=>(0,false))) (some (0,false))]
 ·unfold dB Oy;rw[Ku];by_cases h:e.bJ.findIdx (λid=>bU l id&&(ev l id).Kind==3)<e.bJ.length
  ·rw[Ea h]
  rw[Eh h,Oo AL]
 ·intro k i h;unfold aCs;rw[DI h,Om l _ AL,ES h];simp only[Ad];unfold bU ev;rw[Nb];cases(Ef l e.bJ[i]).isSome<;>rfl
 intro k;unfold aCs;rw[EM]
def aak (l:A8 AQ)(e:AQ)(hl:l.length<=1000)(j:e.bJ.length<=40):aBP l e=some (dB l e):=by
 unfold aBP aUN;rw[KC e.bJ (fuel_lt AL) (λid=>bU l id&&(ev l id).Kind==3) (λi=>some (match e.bJ[i]? with |some x=>(x,true)|none=>(0,false))) (some (0,false))]
 ·unfold dB Oy;rw[Ku];by_cases h:e.bJ.findIdx (λid=>bU l id&&(ev l id).Kind==3)<e.bJ.length
  ·rw[Ea h]
  rw[Eh h,Oo AL]
 ·intro k i h;unfold aIn;rw[DI h,N7 l _ AL,ES h,CY h];simp only[Ad];unfold bU ev;rw[Nb];cases(Ef l e.bJ[i]).isSome<;>rfl
 intro k;unfold aIn;rw[EM]
def CG (l:A8 AQ):Nat->A8 Int->Int->A8 Int
 |0,seen,_=>seen
 |n+1,seen,id=>bif ER seen id|| !bU l id then seen else match Oy l (ev l id)with
  |none=>seen++[id]
  |some x=>CG l n (seen++[id]) x
def YK (l:A8 AQ)(id:Int):A8 Int:=CG l l.length [] id
structure WM (l:List AQ) (seen:List Int):Prop where
 nodup:seen.Nodup
 known:∀x∈seen,bU l x=true
variable {seen:A8 Int}
def WM.length (h:WM l seen):seen.length<=l.length:=by
 rw[←(VB seen).length_eq,aPL h.nodup];exact lI (NP _) λx j=>h.known x (Kw.1 j)
def WM.snoc (h:WM l seen){id:Int}(h1:id∉seen)(h2:bU l id=true):WM l (seen++[id]):=by
 refine⟨qO.2 ⟨h.nodup,Bf,λa ha b q=>?_⟩,λx j=>?_⟩
 ·grind
 rcases I8.1 j with j|j
 ·exact h.known x j
 grind
def aOz (l:A8 AQ):∀(n:Nat) (seen:A8 Int) (id:Int),WM l seen->WM l (CG l n seen id)
 |0,_,_,h=>h
 |n+1,seen,id,h=>by
  unfold CG;cases j:ER seen id|| !bU l id with
  |true=>exact h
  |false=>
   rw[a4Y,PO]at j;have h2:=h.snoc j.1 (by simpa using j.2);simp only[BR];cases Oy l (ev l id)with
   |none=>exact h2
   |some x=>exact aOz l n _ x h2
def aSx (l:A8 AQ):∀(n:Nat) (seen:A8 Int) (id:Int),∃t,CG l n seen id=seen++t
 |0,seen,_=>⟨[],by simp[CG]⟩
 |n+1,seen,id=>by
  unfold CG;cases ER seen id|| !bU l id with
  |true=>exact⟨[],Bf⟩
  |false=>
   simp only[BR];cases Oy l (ev l id)with
   |none=>exact⟨[id],rfl⟩
   |some x=>
    obtain⟨t,j⟩:=aSx l n (seen++[id]) x;exact⟨id::t,by simp only[j,JU];rfl⟩
def aMp (l:A8 AQ)(id:Int):(YK l id).length<=l.length:=(aOz l _ [] id ⟨aG,λx j=>absurd j G7⟩).length
def ajJ (l:A8 AQ)(hl:l.length<=1000)(hs:EX l)(Y Z:A8 Int):∀(m:Nat) (seen:A8 Int) (id:Int) (N:Nat),seen.length+m=l.length->WM l seen->m<N->Gw ZY N seen seen Y Z id l=some (CG l m seen id):=by
 intro m
 induction m with
 |zero=>
  intro seen id N hm u hN;obtain⟨N,rfl⟩:∃N',N=N'+1:=⟨N-1,AL⟩
  have I:=u.length;show ZY _ _ _ _ _ _ _=_;unfold ZY;rw[a08 _ _ AL,Om l _ AL];simp only[Ad];rw[Nb];cases J:ER seen id with
  |true=>rfl
  |false=>
   cases q:(Ef l id).isSome with
   |false=>rfl
   |true=>
    have h2:=(u.snoc (PO.1 J) q).length;simp only[Ei,Oe]at h2;omega
 |succ m ih=>
  intro seen id N hm u hN;obtain⟨N,rfl⟩:∃N',N=N'+1:=⟨N-1,AL⟩
  have I:=u.length;show ZY (Gw ZY N) _ _ _ _ _ _=_;have z:=λj L h1 h2=>ih j L N h1 h2 AL;generalize Gw ZY N=K at z;unfold ZY CG;rw[a08 _ _ AL,Om l _ AL];simp only[Ad];rw[Nb];cases J:ER seen id with
  |true=>rfl
  |false=>
   cases q:(Ef l id).isSome with
   |false=>rw[show bU l id=false from q];rfl
   |true=>
    obtain⟨e,U⟩:=SX.1 q;rw[show bU l id=true from q];simp only[Jl,FU,NV,Bl,BR];rw[Dy GR];simp only[Ad];unfold a4j;simp only[BR];rw[Dy GR];simp only[Ad];have M:(IK l id).1=ev l id:=rfl
    have O:(ev l id).bJ.length<=40:=by
     have :ev l id=e:=by unfold ev;rw[Og U]
     rw[this];exact(hs e (JM U)).auth
    rw[M,aSh l _ hl O];simp only[Ad];unfold dB;cases Oy l (ev l id)with
    |none=>rfl
    |some x=>exact z (seen++[id]) x VE (u.snoc (PO.1 J) q)
def amJ (l:A8 AQ)(id:Int)(hl:l.length<=1000)(hs:EX l):a6b l id=some (YK l id):=by
 unfold a6b wR aUR;exact ajJ l hl hs [] [] l.length [] id Ar Bf ⟨aG,λx j=>absurd j G7⟩ (fuel_lt AL)
def aZb (l:A8 AQ)(hl:l.length<=1000)(hs:EX l):∀(m:Nat) (seen:A8 Int) (id:Int) (i N:Nat),i+m=l.length->seen.length<=i->m<N->iZ (Ym l) N seen id (i:Int)=some (CG l m seen id):=by
 intro m
 induction m with
 |zero=>
  intro seen id i N hm M O;obtain⟨N,rfl⟩:∃N',N=N'+1:=⟨N-1,AL⟩
  have :i=l.length:=AL
  subst this;show Ym _ _ _ _ _=_;unfold Ym;rw[Di];rfl
 |succ m U=>
  intro seen id i N hm M O;obtain⟨N,rfl⟩:∃N',N=N'+1:=⟨N-1,AL⟩
  show Ym _ (iZ (Ym l) N) _ _ _=_;have q:=λj u Y h1 h2=>U j u Y N h1 h2 AL;generalize iZ (Ym l) N=K at q;unfold Ym CG;rw[dec_lt AL,N7 l _ AL,XG _ _ AL];simp only[Bl,Ad];rw[Nb];cases z:(Ef l id).isSome with
  |false=>rw[show bU l id=false from z];cases ER seen id<;>rfl
  |true=>
   rw[show bU l id=true from z];cases Z:ER seen id with
   |true=>rfl
   |false=>
    obtain⟨e,L⟩:=SX.1 z;simp only[FU,NV,BR,Ad];rw[Dy GR];simp only[Ad];have I:(IK l id).1=ev l id:=rfl
    have J:(ev l id).bJ.length<=40:=by
     have :ev l id=e:=by unfold ev;rw[Og L]
     rw[this];exact(hs e (JM L)).auth
    rw[I,aak l _ hl J,wrap_succ i AL];simp only[Ad];unfold dB;cases Oy l (ev l id)with
    |none=>rfl
    |some x=>exact q (seen++[id]) x (i+1) AL VE
def aO6 (l:A8 AQ)(id:Int)(hl:l.length<=1000)(hs:EX l):zl l id=some (YK l id):=by
 unfold zl aMD;exact aZb l hl hs l.length [] id 0 Ar Bf (Eb _) (fuel_lt AL)
def iH (j way:A8 Int):Int:=match way.find? (ER j)with |some x=>((j.findIdx (· ==x):Nat):Int)|none=>(j.length:Int)
def SQ (l:A8 AQ)(j:A8 Int)(id:Int):Int:=iH j (YK l id)
def anI (l:A8 AQ)(j:A8 Int)(hl:l.length<=1000)(hs:EX l)(hm:j.length<=100000):∀(m:Nat) (seen:A8 Int) (z id:Int) (N:Nat),seen.length+m=l.length->WM l seen->seen.find? (ER j)=none->m<N->DF Zo N seen j z id l=some (iH j (CG l m seen id)):=by
 have q:∀seen:A8 Int,seen.find? (ER j)=none->iH j seen=(j.length:Int):=λseen h=>by unfold iH;rw[h]
 intro m
 induction m with
 |zero=>
  intro seen z id N hm M O hN;obtain⟨N,rfl⟩:∃N',N=N'+1:=⟨N-1,AL⟩
  have hwl:=M.length;show Zo _ _ _ _ _ _=_;unfold Zo;rw[a08 _ _ AL,Om l _ AL];simp only[Ad];rw[Nb];have he:iH j (CG l 0 seen id)=(j.length:Int):=q seen O;rw[he];cases U:ER seen id with
  |true=>
   rfl
  |false=>
   cases L:(Ef l id).isSome with
   |false=>
    rfl
   |true=>
    have h2:=(M.snoc (PO.1 U) L).length;simp only[Ei,Oe]at h2;omega
 |succ m ih=>
  intro seen z id N hm M O hN;obtain⟨N,rfl⟩:∃N',N=N'+1:=⟨N-1,AL⟩
  have hwl:=M.length;show Zo (DF Zo N) _ _ _ _ _=_;have Y:=λJ z' id' h1 h2 h3=>ih J z' id' N h1 h2 h3 AL;generalize DF Zo N=K at Y;unfold Zo rC;rw[a08 _ _ AL,Om l _ AL,aRd _ _ AL];simp only[Ad];rw[Nb];have Z:CG l (m+1) seen id=bif ER seen id|| !bU l id then seen else match Oy l (ev l id)with |none=>seen++[id]|some x=>CG l m (seen++[id]) x:=rfl
  cases U:ER seen id with
  |true=>
   grind
  |false=>
   cases L:(Ef l id).isSome with
   |false=>
    rw[Z,U,show bU l id=false from L];simp only[Qv,Jl,Bl];rw[q seen O]
   |true=>
    obtain⟨e,he⟩:=SX.1 L;rw[Z,U,show bU l id=true from L];simp only[Jl,FU,NV,Bl,BR];have u:=aQw j id;by_cases I:j.findIdx (· ==id)<j.length
    ·rw[Ea I,show decide (((j.findIdx (· ==id):Nat):Int)>=0)=true by simp];simp only[Bl];rw[KL I]at u
     have hex:∃t,(match Oy l (ev l id)with |none=>seen++[id]|some x=>CG l m (seen++[id]) x)=seen++[id]++t:=by
      cases Oy l (ev l id)with
      |none=>
       exact⟨[],Bf⟩
      |some x=>
       exact aSx l m (seen++[id]) x
     obtain⟨t,ht⟩:=hex;rw[ht];unfold iH;rw[aKB,aKB,O];simp[←u]
    rw[Eh I,show decide ((-1:Int)>=0)=false by decide];simp only[BR];rw[IC I]at u;rw[Dy GR];simp only[Ad];have hev:(IK l id).1=ev l id:=rfl
    have hea:(ev l id).bJ.length<=40:=by
     have :ev l id=e:=by unfold ev;rw[Og he]
     rw[this];exact(hs e (JM he)).auth
    have hf2:(seen++[id]).find? (ER j)=none:=by rw[aKB,O];simp[←u]
    rw[hev,aSh l _ hl hea];simp only[Ad];unfold dB;cases Oy l (ev l id)with
    |none=>
     grind
    |some x=>
     exact Y (seen++[id]) z x VE (M.snoc (PO.1 U) L) hf2
def aXV (l:A8 AQ)(j:A8 Int)(id:Int)(hl:l.length<=1000)(hs:EX l)(hm:j.length<=100000):a1l l j id=some (SQ l j id):=by
 unfold a1l wR aU1;exact anI l j hl hs hm l.length [] 0 id Ar Bf ⟨aG,λx q=>absurd q G7⟩ rfl (fuel_lt AL)
def am0 (l:A8 Int)(x:Int)(h:l.length<=100000):a7Q l x=some ((l.findIdx (· ==x):Nat):Int):=by
 unfold a7Q aTt;rw[KC l (fuel_lt AL) (· ==x) (λi=>some (i:Int)) (some (l.length:Int))]
 ·grind
 ·intro k i hi;unfold aG6;rw[DI hi]
 intro k;unfold aG6;rw[EM]
def aSq (l:A8 AQ)(j:A8 Int)(id:Int)(hl:l.length<=1000)(hs:EX l)(hm:j.length<=100000):a0D l j id=some (SQ l j id):=by
 unfold a0D;rw[aO6 l id hl hs];simp only[Ad];have q:=aMp l id;unfold aWf SQ iH;generalize YK l id=W at q;rw[KC W (fuel_lt AL) (ER j) (λi=>some (match W[i]? with |some x=>((j.findIdx (· ==x):Nat):Int)|none=>0)) (some (j.length:Int))]
 ·rw[Ku]
  grind
 ·intro k i h;unfold aCQ;rw[DI h,XG _ _ AL,CY h,ES h];simp only[Ad];rw[am0 _ _ hm];rfl
 intro k;unfold aCQ;rw[EM]
def FV (l:A8 AQ)(j:A8 Int)(id:Int):MP:=⟨id,SQ l j id,(ev l id).Time⟩
def s0 (x:MP):Int×Int×Int:=(x.nR,x.zL,x.CW)
def J7 (x y:MP):AX:=MN (s0 x) (s0 y)
def Ap (l:A8 AQ)(j ids:A8 Int):A8 Int:=(Rq J7 ((ids.filter (bU l)).map (FV l j))).map (·.nR)
def aQN (l:A8 AQ)(j:A8 Int):∀ids:A8 Int,ids.flatMap (λid=>bif bU l id then[FV l j id]else[])=(ids.filter (bU l)).map (FV l j)
 | []=>
  rfl
 |i::ids=>by
  rw[Ov,aQN l j ids,VH]
  grind
def aho (s:A8 MP)(hs:s.length<=1000000)(z:(s.map (·.nR)).Nodup):o8 s=some s:=by
 unfold o8;by_cases h2:s.length<2
 ·rw[show decide ((s.length:Int)<2)=true by simp;omega];rfl
 rw[show decide ((s.length:Int)<2)=false by simp;omega];simp only[BR];unfold aNu;refine dL.eq ?_;refine aB (body:=a3t) (λm a b=>∃i:Nat,a=i/\i+m=s.length/\0<i/\b=s) ?_ Ar (s.length-1) 1 s (fuel_lt AL) ⟨1,rfl,AL,AL,rfl⟩;rintro m a b k ⟨i,rfl,hm,hi,rfl⟩ I;unfold a3t;by_cases j:i<b.length
 ·rw[dec_lt j,CY j];simp only[Bl,Ad];have w:Aw ((i:Int)-1)=((i-1:Nat):Int):=Oj
  have q:i-1<b.length:=AL
  rw[w,CY q];simp only[Ad]
  have u:b[i].nR≠b[i-1].nR:=by
   have :=J9.1 z (i-1) i ZL ZL AL;simp only[Px]at this;exact λe=>this e.symm
  have J:zY b[i] b[i-1]=false:=by
   unfold zY;rw[show(b[i].nR==b[i-1].nR)=false by simpa using u];rfl
  rw[J,wrap_succ i AL];exact I (m-1) _ _ AL ⟨i+1,rfl,AL,AL,rfl⟩
 have :i=b.length:=AL
 subst this;rw[Di];exact .ret rfl
def aI9 (l:A8 AQ)(j:A8 Int)(ids:A8 Int):(ids.map (FV l j)).map (·.nR)=ids:=by
 rw[jP];exact List.map_id' ids
def aY0 (l:A8 AQ)(j ids:A8 Int)(hl:l.length<=1000)(hs:EX l)(hm:j.length<=100000)(hi:ids.length<=100000)(O:ids.Nodup):a5k l j ids=some (Ap l j ids):=by
 unfold a5k aV2;rw[Ip (a0:=[]) ids AL (λr id=>r++bif bU l id then[FV l j id]else[]) (λi r=>r.length<=i) (λJ=>(a3s J).bind λu=>(o8 u).bind λz=>aHv z [] 0) (Eb _)]
 ·rw[foldl_append (λid=>bif bU l id then[FV l j id]else[]),JQ,aQN];have L:=Lu (bU l) ids;have I:((ids.filter (bU l)).map (FV l j)).length<=100000:=ZL
  unfold a3s aB7;rw[Ea AL];simp only[Ad];have e:(Rq (λx y:MP=>MN (x.nR,x.zL,x.CW) (y.nR,y.zL,y.CW)) ((ids.filter (bU l)).map (FV l j)))=Rq J7 ((ids.filter (bU l)).map (FV l j)):=rfl;rw[e];unfold Ap;have hp:=iP J7 ((ids.filter (bU l)).map (FV l j))
  have q:((Rq J7 ((ids.filter (bU l)).map (FV l j))).map (·.nR)).Nodup:=by
   rw[(hp.map (·.nR)).nodup_iff,aI9]
   grind
  have hsl:(Rq J7 ((ids.filter (bU l)).map (FV l j))).length<=100000:=by rw[hp.length_eq];exact I
  generalize Rq J7 ((ids.filter (bU l)).map (FV l j))=S at q hsl;rw[aho S AL q];simp only[Ad];unfold aHv;rw[Ip (a0:=[]) S AL (λr x=>r++[x.nR]) (λi r=>r.length<=i) (λr=>some r) (Eb _)]
  ·rw[foldl_append (λx:MP=>[x.nR]),JQ];congr 1;clear q hsl
   induction S with
   |nil=>
    rfl
   |cons x S U=>
    grind
  ·intro k r i h M;refine⟨a6s,?_⟩;unfold aIg;rw[DI h,Dy GR];rfl
  intro k r _;unfold aIg;rw[EM]
 ·intro k r i h M;refine⟨?_,?_⟩
  ·grind
  unfold aDd a2V;rw[DI h,Om l _ AL];simp only[Ad];rw[Nb,aXV l j _ hl hs hm];simp only[Ad];rw[Dy GR];unfold bU;cases(Ef l ids[i]).isSome with
  |true=>
   rfl
  |false=>
   simp
 intro k r _;unfold aDd;rw[EM]
def afx (l:A8 AQ)(j:A8 Int)(a b:Int)(hl:l.length<=1000)(hs:EX l)(hm:j.length<=100000):a4A l j a b=some (!J7 (FV l j b) (FV l j a)):=by
 unfold a4A;rw[aSq l j a hl hs hm,aSq l j b hl hs hm,N7 l a AL,N7 l b AL];simp only[Ad]
 have q:(!J7 (FV l j b) (FV l j a))=decide (SQ l j b<SQ l j a\/SQ l j a=SQ l j b/\((ev l a).Time<(ev l b).Time\/(ev l a).Time=(ev l b).Time/\a<b)):=by
  rw[Ox,V9,Iz];exact aTX (s0 (FV l j b)) (s0 (FV l j a))
 rw[q];show(bif SQ l j a != SQ l j b then some (decide (SQ l j a>SQ l j b))else bif (ev l a).Time != (ev l b).Time then some (decide ((ev l a).Time<(ev l b).Time))else some (decide (a<b)))=_
 grind
def aBr (x y z:MP)(h:J7 x y=true)(k:J7 y z=true):J7 x z=true:=aBs _ _ _ h k
def aOi (x y:MP)(h:J7 x y=false):J7 y x=true:=aP9 _ _ h
def aac (x y:MP)(h:J7 x y=true)(k:J7 y x=true):x=y:=by
 have :=aNU _ _ h k;unfold s0 at this;cases x;cases y
 grind
def Zi (l:A8 AQ)(j:A8 Int)(q:A8 Int)(x:Int):A8 Int:=q.take (q.findIdx λa=>J7 (FV l j x) (FV l j a))++x::q.drop (q.findIdx λa=>J7 (FV l j x) (FV l j a))
def aPM (l:A8 AQ)(j q:A8 Int)(x:Int):(Zi l j q x).Perm (x::q):=by
 unfold Zi;refine a5m.trans ?_;rw[UU]
def aa3 (l:A8 AQ)(j q:A8 Int)(x:Int)(h:q.Pairwise λa b=>J7 (FV l j a) (FV l j b)=true):(Zi l j q x).Pairwise λa b=>J7 (FV l j a) (FV l j b)=true:=by
 unfold Zi
 have I:∀a∈q.take (q.findIdx λa=>J7 (FV l j x) (FV l j a)),J7 (FV l j a) (FV l j x)=true:=by
  intro a ha;obtain⟨i,hi,rfl⟩:=G8 ha;have z:i<q.findIdx λa=>J7 (FV l j x) (FV l j a):=by simp at hi;omega
  have :=aLM z;rw[gZ];exact aOi _ _ a5p
 have ha:∀d∈q.drop (q.findIdx λa=>J7 (FV l j x) (FV l j a)),J7 (FV l j x) (FV l j d)=true:=by
  intro d hd;obtain⟨i,hi,rfl⟩:=G8 hd;rw[Ld]at hi;have u:(q.findIdx λa=>J7 (FV l j x) (FV l j a))<q.length:=AL
  have J:=List.findIdx_getElem (w:=u);rw[aEr];rcases Ux i with rfl|hp
  ·simpa using J
  exact aBr _ _ _ J (J9.1 h _ _ u AL AL)
 refine Yt.2 ⟨h.sublist (List.take_sublist _ _),QB.2 ⟨ha,h.sublist (List.drop_sublist _ _)⟩,λa h1 b h2=>?_⟩;rcases FP.1 h2 with rfl|h2
 ·exact I a h1
 exact aBr _ _ _ (I a h1) (ha b h2)
def ak (l:A8 AQ)(j:A8 Int)(q:A8 Int)(x:Int):A8 Int:=bif bU l x then Zi l j q x else q
def adi (l:A8 AQ)(j ids:A8 Int):ids.foldl (ak l j) []=Ap l j ids:=by
 have key:∀(ids q:A8 Int),q.Pairwise (λa b=>J7 (FV l j a) (FV l j b)=true)->(ids.foldl (ak l j) q).Pairwise (λa b=>J7 (FV l j a) (FV l j b)=true)/\(ids.foldl (ak l j) q).Perm (ids.filter (bU l)++q):=by
  intro ids
  induction ids with
  |nil=>
   grind
  |cons x ids u=>
   intro q h;rw[Fv,VH];unfold ak;cases bU l x with
   |false=>
    exact u q h
   |true=>
    obtain⟨h1,h2⟩:=u (Zi l j q x) (aa3 l j q x h);refine⟨h1,h2.trans ?_⟩;simp only[KP,aP];exact((aPM l j q x).append_left _).trans a5m
 obtain⟨h1,h2⟩:=key ids [] .nil;rw[RZ]at h2;unfold Ap
 have h3:(ids.foldl (ak l j) []).map (FV l j)=Rq J7 ((ids.filter (bU l)).map (FV l j)):=
  aXL aBr aOi aac (h2.map _) (Zn.2 h1)
 rw[←h3,aI9]
def aiY (l:A8 AQ)(q ids:A8 Int)(hl:l.length<=1000)(hs:EX l)(hm:q.length<=100000)(hi:ids.length<=100000)(O:ids.Nodup):aAI l q ids=some (Ap l q ids):=by
 unfold aAI aRs;rw[Ip (a0:=[]) ids AL (ak l q) (λi r=>r.length<=i/\∀x∈r,x∈ids.take i) (λr=>some r) ⟨Eb _,λx I=>absurd I G7⟩]
 ·rw[adi]
 ·intro k r i h ⟨U,J⟩;have u:ids.take (i+1)=ids.take i++[ids[i]]:=Nv h
  have M:ER r ids[i]=false:=PO.2 λhm=>by
   obtain⟨j,z,e⟩:=G8 (J _ hm);rw[gZ]at e;rw[H6]at z;exact J9.1 O j i AL h AL e
  refine⟨?_,?_⟩
  ·unfold ak;cases bU l ids[i]with
   |false=>
    grind
   |true=>
    have hp:=aPM l q r ids[i];refine⟨?_,λx I=>?_⟩
    ·show(Zi l q r ids[i]).length<=i+1;rw[hp.length_eq,GK];omega
    rw[u];rcases FP.1 (hp.mem_iff.1 I)with rfl|I
    ·exact a2j _ (JI.2 rfl)
    exact zo _ (J x I)
  unfold aJb rF;rw[DI h,N7 l _ AL,CY h];simp only[Ad];rw[XG _ _ AL,M,Nb];unfold ak bU;cases(Ef l ids[i]).isSome with
  |false=>
   rfl
  |true=>
   simp only[FU,BR,Ad,Bl];unfold aMZ
   have L:∀(k2:Int->AB (A8 Int)) (j:Nat),j<=r.length->sG k2 (j:Int) r ids (i:Int) k false=k (r.take j++ids[i]::r.drop j) (Aw ((i:Int)+1)):=by
    intro k2 j z;unfold sG rF;simp only[BR];rw[Wn z];simp only[Ad];rw[Dy Ej];simp only[Ad,JQ];rw[a01 z,CY h];simp only[Ad];rw[Dy Ej];simp only[Ad];rw[Dy Ej];simp
   rw[KC r (fuel_lt AL) (λa=>J7 (FV l q ids[i]) (FV l q a)) (λj=>k (r.take j++ids[i]::r.drop j) (Aw ((i:Int)+1))) (k (r.take r.length++ids[i]::r.drop r.length) (Aw ((i:Int)+1)))]
   ·unfold Zi;split
    ·rfl
    rename_i h2
    have :(r.findIdx λa=>J7 (FV l q ids[i]) (FV l q a))=r.length:=by
     grind
    rw[this]
   ·intro k2 j z;unfold aIR;rw[dec_lt z,CY z,CY h];simp only[Bl,Ad];rw[afx l q _ _ hl hs hm];simp only[Ad];cases J7 (FV l q ids[i]) (FV l q r[j])with
    |true=>
     grind
    |false=>
     rfl
   intro k2;unfold aIR;rw[Di];simp only[BR];rw[L k2 r.length (Eb _)]
 intro k r _;unfold aJb;rw[EM]
def abj:x∈Ap l j ids↔x∈ids/\bU l x=true:=by
 unfold Ap;rw[((iP J7 ((ids.filter (bU l)).map (FV l j))).map (·.nR)).mem_iff,aI9,Gx]
def ace (l:A8 AQ)(j ids:A8 Int):(Ap l j ids).length<=ids.length:=by
 unfold Ap;rw[Df,(iP _ _).length_eq,Df]
 grind
def Pg (c:Int):AX:=(decide (c>=97)&&(c<=122))||(decide (c>=48)&&(c<=57))
def aVb (c:Int):mD c=some (Pg c):=by
 unfold mD Pg
 grind
def aE7 (c:Int):iU c=some (Pg c):=by
 unfold iU Pg
 grind
def Sj (l:A8 Int)(p:Int->AX):AX:=decide ((l.length:Int)>=1)&&((l.length:Int)<=32)&&l.all λc=>Pg c||p c
def isLocal (c:Int):AX:=c==95||c==46||c==45||c==61
def Xn (c:Int):AX:=c==46||c==45
def XK (l:A8 Int):AX:=Sj l isLocal
def YL (l:A8 Int):AX:=Sj l Xn&&Pg (l.getD 0 0)&&Pg (l.getD (l.length-1) 0)
def aF4 (h:n<=9223372036854775807):n<Ar:=kN
variable {s:BO}
def aW2 (hs:s.size<=9223372036854775807)(f:Int->AB AX)(p:Int->AX)(j:∀c,f c=some (p c)):iO s f=some (Sj (DR s) p):=by
 have hl:aEm s f 0=some ((DR s).all λc=>Pg c||p c):=by
  unfold aEm;rw[Hq (DR s) Yx (λc=> !(Pg c||p c)) false (some true) ?_ ?_,Lr,aHd]
  ·intro k i h;have h':i<s.size:=XT
   simp only[aCy,dec_lt h',Bl,Vu h,aVb,j,Ad]
   grind
  intro k;simp only[aCy,JD,Di,BR]
 unfold iO Sj;rw[hl,JD]
 grind
def aiL (hs:s.size<=9223372036854775807):iO s (λa0=>a0A a0)=some (Sj (DR s) isLocal):=aW2 hs _ isLocal (λc=>by unfold a0A isLocal;cases c==95<;>cases c==46<;>cases c==45<;>cases c==61<;>rfl)
def aiN (hs:s.size<=9223372036854775807):iO s (λa0=>zZ a0)=some (Sj (DR s) Xn):=aW2 hs _ Xn (λc=>by unfold zZ Xn;cases c==46<;>cases c==45<;>rfl)
def aYE (hs:s.size<=9223372036854775807):a5l s=some (XK (DR s)):=by
 unfold a5l XK;rw[aiL hs];rfl
def a4p (h:0<s.size):Il s 0=some ((DR s).getD 0 0):=by
 have h':0<(DR s).length:=a6C
 rw[aky h'];simp[List.getD,h']
def aTm (h:0<s.size)(hs:s.size<=9223372036854775807):Il s (Aw ((s.size:Int)-1))=some ((DR s).getD ((DR s).length-1) 0):=by
 have h':s.size-1<(DR s).length:=by rw[JD];omega
 rw[OY AL AL,show(s.size:Int)-1=((s.size-1:Nat):Int) by omega,Vu h'];have h2:(DR s).length-1=s.size-1:=by rw[JD]
 rw[h2];simp[List.getD,h']
def aQd {l:A8 Int}{p:Int->AX}(h:Sj l p=true):0<l.length/\l.length<=32:=by
 unfold Sj at h
 grind
def af5 (hs:s.size<=9223372036854775807):a4N s=some (YL (DR s)):=by
 unfold a4N YL;rw[aiN hs];simp only[Ad];cases j:Sj (DR s) Xn with
 |false=>rfl
 |true=>
  have hp:0<s.size:=by have :=(aQd j).1;rwa [JD]at this
  simp only[Bl,a4p hp,aTm hp hs,aVb,Ad];cases Pg ((DR s).getD 0 0)<;>simp
def amU (hs:s.size<=9223372036854775807):a5A s=some (bif YL (DR s)then 0 else 3):=by
 have hl:aKu s 0=some (bif (DR s).all λc=>Pg c||Xn c then 0 else 3):=by
  unfold aKu;rw[Hq (DR s) Yx (λc=> !(Pg c||Xn c)) 3 (some 0) ?_ ?_,Lr,←aHd]
  ·grind
  ·intro k i h;have h':i<s.size:=XT
   simp only[aC2,dec_lt h',Bl,Vu h,aE7,Ad,Xn,bne]
   grind
  intro k;simp only[aC2,JD,Di,BR]
 have j:decide ((s.size:Int)>=1)= !decide ((s.size:Int)<1):=by by_cases h:(s.size:Int)<1<;>simp[h]<;>omega
 have q:decide ((s.size:Int)<=32)= !decide ((s.size:Int)>32):=by by_cases h:(s.size:Int)>32<;>simp[h]<;>omega
 unfold a5A YL Sj;rw[hl];rw[show((DR s).length:Int)=(s.size:Int) by rw[JD],j,q];by_cases h1:(s.size:Int)<1
 ·simp[h1]
 have hp:0<s.size:=AL
 simp only[a4p hp,aTm hp hs,aE7,Ad];cases decide ((s.size:Int)<1)<;>cases decide ((s.size:Int)>32)<;>cases Pg ((DR s).getD 0 0)<;>cases Pg ((DR s).getD ((DR s).length-1) 0)<;>cases((DR s).all λc=>Pg c||Xn c)<;>rfl
def aiZ (hs:s.size<=9223372036854775807):aBD s=some (XK (DR s)):=by
 unfold aBD aW0;rw[Hq (DR s) Yx (λc=> !(Pg c||isLocal c)) false (some (decide ((s.size:Int)>=1)&&((s.size:Int)<=32))) ?_ ?_]
 ·unfold XK Sj;rw[←aHd,JD]
  grind
 ·intro k i h;have h':i<s.size:=XT
  simp only[aIh,dec_lt h',Bl,Vu h,aE7,Ad,isLocal,bne]
  grind
 intro k;simp only[aIh,JD,Di,BR]
 grind
def aPS (s:BO):(DR s).length=s.data.toList.length:=by simp[DR]
def Gu (s:BO):Nat:=(DR s).findIdx (· ==58)
def aJd (s:BO):Gu s<=s.size:=by unfold Gu;rw[←JD];exact a15
def aT7 (hs:s.size<=9223372036854775807):ug s=some (Gu s:Int):=by
 unfold ug aPh;rw[KC (DR s) Yx (· ==58) (λi=>some (i:Int)) (some (s.size:Int)) ?_ ?_]
 ·have :=aJd s;by_cases h:(DR s).findIdx (· ==58)<(DR s).length
  ·rw[Ea h];rfl
  rw[Eh h];congr 2;unfold Gu at this ⊢;rw[JD]at h;omega
 ·intro k i h;have h':i<s.size:=XT
  simp only[aCE,dec_lt h',Bl,Vu h,Ad,bne]
  grind
 intro k;simp only[aCE,JD,Di,BR,Ad]
def WG (s:BO):BO:=s.extract 1 (Gu s)
def TS (s:BO):BO:=s.extract (Gu s+1) s.size
def Vm (s:BO):AX:=decide (Gu s<s.size)&&XK (DR (WG s))&&YL (DR (TS s))
def IG (s:BO)(m:Int):AX:=decide (0<s.size)&&(DR s).getD 0 0==m&&Vm s
def extract_size (s:BO)(a b:Nat):(s.extract a b).size<=s.size:=by rw[aFB];omega
def aRr (h:0<s.size)(hm:(DR s).getD 0 0≠58):1<=Gu s:=by
 unfold Gu;have hl:0<(DR s).length:=a6C
 grind
def aBe (hs:s.size<=9223372036854775807){m:Int}(hm:m≠58):jc s m=some (IG s m):=by
 unfold jc IG;by_cases j:0<s.size
 ·rw[show decide ((s.size:Int)<1)=false from by simp;omega,show decide (0<s.size)=true by simpa using j];simp only[BR,a4p j,Ad,bne];cases u:(DR s).getD 0 0==m with
  |false=>rfl
  |true=>
   have q:(DR s).getD 0 0=m:=Rf
   have h1:=aRr j (by rw[q];exact hm);have h2:=aJd s;simp only[FU,BR,aT7 hs,Ad,GX];unfold Vm;by_cases h3:Gu s<s.size
   ·have z:OV s 1 (Gu s:Int)=some (WG s):=qB (lo:=1) h1 h2
    have I:OV s (Aw ((Gu s:Int)+1)) (s.size:Int)=some (TS s):=by
     rw[OY AL AL,show(Gu s:Int)+1=((Gu s+1:Nat):Int) by omega];exact qB AL (Eb _)
    rw[show decide ((Gu s:Int)<(s.size:Int))=true from by simpa using h3,show decide (Gu s<s.size)=true by simpa using h3];have J:(WG s).size<=9223372036854775807:=EK (extract_size _ _ _) hs;have L:(TS s).size<=9223372036854775807:=EK (extract_size _ _ _) hs;simp only[Bl,z,I,aiZ J,amU L,Ad];cases XK (DR (WG s))<;>cases YL (DR (TS s))<;>rfl
   rw[show decide ((Gu s:Int)<(s.size:Int))=false from by simpa using h3,show decide (Gu s<s.size)=false by simpa using h3];rfl
 rw[show decide ((s.size:Int)<1)=true from by simp;omega,show decide (0<s.size)=false by simpa using j];rfl
def splitB (s:BO)(b:AX):BO×BO×AX:=bif b then(WG s,TS s,true)else(Ce,Ce,false)
def acM (b c:UInt8):(b==c)=(((b.toNat:Nat):Int)==((c.toNat:Nat):Int)):=by
 by_cases h:b=c
 ·subst h;simp
 have :¬b.toNat=c.toNat:=λe=>h (UInt8.toNat_inj.1 e)
 grind
def aLl (s:BO)(c:UInt8):s.data.toList.findIdx (· ==c)=(DR s).findIdx (· ==((c.toNat:Nat):Int)):=by
 unfold DR;rw[List.findIdx_map];congr 1;funext b;exact acM b c
def agi (s:BO):∀x∈DR s,0<=x/\x<256:=by
 intro x j;unfold DR at j;rw[Ez]at j;obtain⟨c,_,rfl⟩:=j;have :=c.toNat_lt;omega
def getD_mem (h:0<s.size):(DR s).getD 0 0∈DR s:=by
 have hl:0<(DR s).length:=a6C
 have e:(DR s).getD 0 0=(DR s)[0]:=by simp[List.getD,hl]
 grind
def anX (marks:BO){c:Int}(j:0<=c)(h1:c<256):decide (Lib.indexByte marks.data.toList c.toNat.toUInt8<0)= !(DR marks).contains c:=by
 have e:(((c.toNat.toUInt8).toNat:Nat):Int)=c:=by
  rw[Nat.toUInt8,UInt8.toNat_ofNat'];omega
 rw[aLD,aLl,e,←aPS marks]
 grind
def aRV (s:BO)(a b:Nat):(s.extract 1 s.size).extract a b=s.extract (1+a) (min (1+b) s.size):=by
 refine bytes_inj ?_;simp only[aOk];have :(DR s).take s.size=DR s:=Qj (by rw[JD];omega);rw[this,List.take_drop,aFr]
 grind
def anL (h:0<s.size)(hm:(DR s).getD 0 0≠58):(DR (s.extract 1 s.size)).findIdx (· ==58)+1=Gu s:=by
 unfold Gu;rw[aOk];have :(DR s).take s.size=DR s:=Qj (by rw[JD];omega);rw[this];have hl:0<(DR s).length:=a6C
 match j:DR s with
 | []=>rw[j]at hl;simp at hl
 |c::l=>
  rw[j]at hm;simp only[List.getD_cons_zero]at hm;rw[YH,show(c==58)=false from by simpa using hm];rfl
def acV (hs:s.size<=9223372036854775807)(h:0<s.size)(hm:(DR s).getD 0 0≠58):∃a b,strings_Cut (s.extract 1 s.size) uQ=some (a,b,decide (Gu s<s.size))/\(Gu s<s.size->a=WG s/\b=TS s):=by
 have h1:=aRr h hm;have h2:=aJd s;have I:=anL h hm;have j:(s.extract 1 s.size).size=s.size-1:=by rw[aFB];omega
 have q:a6g (s.extract 1 s.size) uQ=some (if Gu s<s.size then((Gu s-1:Nat):Int)else -1):=by
  show some (Lib.indexByte (s.extract 1 s.size).data.toList 58)=_;rw[aLD,aLl,←aPS (s.extract 1 s.size)];show some (if(DR (s.extract 1 s.size)).findIdx (· ==58)<_ then(((DR (s.extract 1 s.size)).findIdx (· ==58):Nat):Int)else -1)=_;rw[JD,j]
  grind
 unfold strings_Cut aDG;rw[q,Ad];by_cases h3:Gu s<s.size
 ·rw[Ea h3,show decide (((Gu s-1:Nat):Int)>=0)=true from by simp,show decide (Gu s<s.size)=true by simpa using h3];have u:OV (s.extract 1 s.size) 0 ((Gu s-1:Nat):Int)=some ((s.extract 1 s.size).extract 0 (Gu s-1)):=qB (lo:=0) AL AL
  have z:OV (s.extract 1 s.size) (Aw (((Gu s-1:Nat):Int)+(uQ.size:Int))) ((s.extract 1 s.size).size:Int)=some ((s.extract 1 s.size).extract (Gu s) (s.size-1)):=by
   rw[show(uQ.size:Int)=1 from rfl,OY AL AL,show((Gu s-1:Nat):Int)+1=((Gu s:Nat):Int) by omega,j];exact qB AL AL
  simp only[Bl,u,z,Ad];refine⟨_,_,rfl,λ_=>⟨?_,?_⟩⟩
  ·rw[aRV];unfold WG;congr 1;omega
  rw[aRV];unfold TS;rw[WQ 1 (Gu s)];congr 1;omega
 rw[Eh h3,show decide ((-1:Int)>=0)=false from rfl,show decide (Gu s<s.size)=false by simpa using h3];exact⟨_,_,rfl,λh=>absurd h h3⟩
def aCw (hs:s.size<=9223372036854775807){marks:BO}(u:∀m∈DR marks,m≠58):nG s marks=some (splitB s ((DR marks).any λm=>IG s m)):=by
 unfold nG;by_cases q:0<s.size
 ·have z:(s.toList==Ce.toList)=false:=by
   rw[Ja];simp only[jw];intro e;rw[e]at q;exact absurd q Bj
  have I:=agi s _ (getD_mem q)
  have j:((DR marks).any λm=>IG s m)=((DR marks).contains ((DR s).getD 0 0)&&Vm s):=by
   unfold IG
   grind
  rw[z,j];simp only[BR,a4p q,Ad,strings_IndexByte,anX marks I.1 I.2];cases J:(DR marks).contains ((DR s).getD 0 0)with
  |false=>
   rfl
  |true=>
   have hm:(DR s).getD 0 0≠58:=u _ a02;obtain⟨a,b,L,M⟩:=acV hs q hm;have O:OV s 1 (s.size:Int)=some (s.extract 1 s.size):=qB (lo:=1) AL (Eb _);simp only[FU,BR,O,L,Ad,GX];unfold Vm;cases h3:decide (Gu s<s.size)with
   |false=>
    rfl
   |true=>
    obtain⟨rfl,rfl⟩:=M (P7 h3);have U:(WG s).size<=9223372036854775807:=EK (extract_size _ _ _) hs;have Y:(TS s).size<=9223372036854775807:=EK (extract_size _ _ _) hs;simp only[FU,BR,aYE U,af5 Y,Ad];cases XK (DR (WG s))<;>cases YL (DR (TS s))<;>rfl
 have Z:s.size=0:=AL
 have he:s=Ce:=bytes_inj (by
  have h1:DR s=[]:=Ho (by rw[JD];exact Z)
  rw[h1];rfl)
 have j:((DR marks).any λm=>IG s m)=false:=by
  rw[Z9];intro m _;unfold IG;rw[show decide (0<s.size)=false by simpa using q];simp
 rw[j,he,show(Ce.toList==Ce.toList)=true from by simp];rfl
def LU (s:BO):AX:=IG s 64||(IG s 33||false)
def aeB (hs:s.size<=9223372036854775807):nG s aAw=some (splitB s (LU s)):=
 aCw hs (marks:=aAw) (by rw[show DR aAw=[64,33]from rfl];intro m hm;simp only[FP,G7,or_false]at hm;omega)
def aWn (h:Vm s=true):Gu s<s.size:=by unfold Vm at h;simp only[Dj,Iz]at h;exact h.1.1
def jo (hs:s.size<=9223372036854775807):pW s=some (splitB s (LU s)).2.1/\oO s=some (splitB s (LU s)).2.1:=by
 have z:Gu s<s.size->OV s (Aw ((Gu s:Int)+1)) (s.size:Int)=some (TS s):=λh3=>by
  rw[OY AL AL,show(Gu s:Int)+1=((Gu s+1:Nat):Int) by omega];exact qB AL (Eb _)
 unfold pW oO;rw[aeB hs,aBe hs Bj,aBe hs Bj,aT7 hs];refine⟨rfl,?_⟩;unfold LU;cases j:IG s 64 with
 |true=>
  have u:=aWn (s:=s) (by unfold IG at j;simp only[Dj]at j;exact j.2);simp only[Ad,FU,BR,z u,Bool.true_or];rfl
 |false=>
  cases q:IG s 33 with
  |true=>
   have u:=aWn (s:=s) (by unfold IG at q;simp only[Dj]at q;exact q.2);simp only[Ad,FU,Jl,BR,Bl,z u,Qv,Bool.true_or];rfl
  |false=>rfl
end Go.Proofs.YtfmoknlmaldmlaaGreat
