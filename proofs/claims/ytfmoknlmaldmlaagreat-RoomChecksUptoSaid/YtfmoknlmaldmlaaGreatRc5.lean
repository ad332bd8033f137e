/- Part 5 of the laws' proofs (short forms by wip/shrink2.py). -/
import Derived.Test.YtfmoknlmaldmlaaGreatRc4
set_option linter.defProp false
set_option linter.unnecessarySimpa false
set_option linter.unusedSectionVars false
set_option linter.unusedVariables false
set_option linter.unusedSimpArgs false
namespace Go.Proofs.YtfmoknlmaldmlaaGreat
open Go.RowKit Go.Proofs.Tryz
section
set_option maxRecDepth 20000
set_option maxHeartbeats 4000000
def aHR (j:(AU->Int->AB AU))(q:Int)(u:AU):AB AU:=j u (Az (q+1))
def aJE (j:(Int->Int->AB AU))(q:Int)(u:Int):AB AU:=j u (Az (q+1))
def aFG (L:PE)(v2:AU)(j:Int)(z:AU)(I:(AU->Int->AB AU))(J:(Int->Int->AB AU)):Int->Int->AB AU:=λu q=>(cond (q<(L.length:Int)) ((Aj L q).bind λM=>(Aj v2 j).bind λO=>(TV M O).bind λU=>(cond U (aJE J q (Az (u+1))) (aJE J q u))) (cond (u<(L.length:Int)) ((Aj v2 j).bind λY=>(DC 8 z [Y]).bind λZ=>aHR I j Z) (aHR I j z)))
def aTz (z:PE)(v2:AU)(j:Int)(q:AU)(u:(AU->Int->AB AU)):Int->Int->AB AU:=aP (aFG z v2 j q u) Am
def aIT (v2:AU)(z:PE)(u:(AU->Int->AB AU)):AU->Int->AB AU:=λj q=>(cond (q<(v2.length:Int)) (aTz z v2 q j u 0 0) (some j))
def aHF (v2:AU)(j:PE):AU->Int->AB AU:=aP (aIT v2 j) Am
def aKk (j:Fb)(q:Ag)(J:(PE->AU->Int->AB AU)):PE->AU->Int->AB AU:=λz v2 u=>(cond (u<(j.length:Int)) ((Aj j u).bind λL=>(aAI q L).bind λI=>(DC 24 z [I]).bind λM=>(Xn v2 I).bind λO=>J M O (Az (u+1))) (aHF v2 z [] 0))
def aRs (j:Fb)(q:Ag):PE->AU->Int->AB AU:=iK (aKk j q) Am
def a7k (q:Ag)(j:Fb):AB AU:=aRs j q [] [] 0
def aeF :=G8 func417 rfl a7k BK Ie Cb λZ j r h=>BO<|.f (CY 3 1)<|.aU<|BO<|.f (CY 27 1)<|.aU<|AY<|AZ<|AY<|Ai<|Pv (λu q z=>⟨BA 67 [(0,BK Z),(1,Ie j),(5,.aQ 0),(6,Bf q),(7,AX z)],[(yS u)],0⟩) _ _ _ _ _ (Ae [AQ 1]) h<|λu q z I J L h=>AZ<|AP 2<|.Z (BJ (BQ BR) j)<|Bl h (λh=>AZ<|Ai<|Bo h λu q I L h=>AP 3<|.p (BF (BQ BR) q)<|.a 1<|.X (ae8 L).view<|AO h λu q h=>AP 2<|.p (Dx a4t nG [(BQ Ad) I])<|.Y (DZ (k:=0) (BQ Ad) q a4t A8 (λ_=>rfl) Bd)<|AO h λu q h=>CS<|.a 2<|.ca (qO q).view<|.aN<|DI<|z _ _ _ _ (Ae [AQ 1]) h) λh=>Cj<|BO<|.f (CY 3 1)<|.aU<|AZ<|AY<|Ai<|DW (λu q=>⟨BA 67 [(5,.aQ 0),(6,Bf J),(9,.aQ 1),(10,AX q)],[(yS I),(Cb u)],0⟩) _ _ _ _ (Ae [AQ 0,AQ 1]) h<|λu q z L Y h=>AZ<|AP 2<|.Z (BJ Ad J)<|Bl h (λh=>D9 (λs=>∃(M:(AA Int)),CO s ⟨BA 67 [(5,.aQ 0),(6,Bf J),(9,.aQ 1),(10,AX Y)],[(yS I),(Cb M)],0⟩/\aHR q Y M=some r) (by rintro s ⟨M,hs,h⟩;exact DJ hs<|aDn)<|λu=>Ai<|AY<|AZ<|AY<|Ai<|DW (λu q=>⟨BA 67 [(5,.aQ 0),(6,Bf J),(9,.aQ 1),(10,AX Y),(11,AX u),(12,AX q)],[(yS I),(Cb L)],0⟩) _ _ _ _ (Ae [AQ 0,AQ 1]) h<|λq z x8 x9 O h=>AZ<|AP 2<|.Z (Jq (k:=0) (e':=27) (s:=1) (BQ Ad) I A8 a5u)<|Bl h (λh=>D9 (λs=>∃(U:Int),CO s ⟨BA 67 [(5,.aQ 0),(6,Bf J),(9,.aQ 1),(10,AX Y),(11,AX U),(12,AX O)],[(yS I),(Cb L)],0⟩/\aJE z O U=some r) (by rintro s ⟨U,hs,h⟩;exact DJ hs<|DI<|x8 _ _ _ (Ae [AQ 0,AQ 1]) h)<|λu=>Ai<|Gt h λq z I J L Y h=>El A8 A8 A8 (.a 2<|.p (Hw (e':=27) (kd:=.i64) (BQ Ad) z (k:=0) A8 a5u aL7)<|.p (x:=(Bf q)) (JZ (e:=27) (size:=1) (k:=0) (i:=(O).toNat) (off:=0) (BQ Ad) A8 A8 (GZ z).2 aL7 (Dl A8) (λ_=>rfl))<|.a 2<|.p (BF Ad J)<|.a 1<|.ca (XB Y)<|.nil _)<|BG h (λh=>DI<|u _ ⟨(Az (x9+1)),Ae [AQ 0,AQ 1],h⟩) λh=>u _ ⟨x9,Ae [AQ 0,AQ 1],h⟩) λh=>Cj<|AP 2<|.Z (Jq (k:=0) (e':=27) (s:=1) (BQ Ad) I A8 a5u)<|BG h (λh=>Bo h λq z I J h=>CS<|.a 3<|.p (BF Ad z)<|.a 1<|.p (Dx Df zero3 [Ad q])<|.f (DZ (k:=1) Ad J Df A8 (λ_=>rfl) Bd)<|.aN<|u _ ⟨I,Ae [AQ 0,AQ 2],h⟩) λh=>u _ ⟨L,Ae [AQ 0,AQ 1],h⟩) λh=>Cj<|AY<|JL
def a1f (q:Ag)(j:Fb):AB AU:=(xI j).bind λu=>(a7k q j).bind λz=>(Xn u.2 z).bind λI=>some I
def aZm :=G8 func360 rfl a1f BK Ie Cb λz j r h=>BO<|.f (CY 3 1)<|.aU<|AO h λq u h=>AP 1<|.f (x:=.eG [.aQ 1,.aQ 2]) (EL [] [Ie j] (aOU u))<|.a 2<|.conv _ (IQ (e:=82) (s:=3) 1 (xs:=List.map BR q.1) A8)<|.a 1<|.conv _ (IQ (e:=3) (s:=1) 2 (xs:=List.map Ad q.2) A8)<|.aW<|Bo h λu I L J h=>AP 3<|.ca (aeF I).view<|.Y (x:=.aQ 3) (J9 [Bf q.2,Bf u] (qO J))<|jH
def yF (q:Ag)(j:AU):AB AU:=(VK q j).bind λu=>(dU j u).bind λz=>some z
def aOA :=G8 func418 rfl yF BK Bf Cb λq j r h=>BO<|.f (CY 3 1)<|.aU<|Bo h λu z J I h=>AP 3<|.ca (gW z).view<|.Y (x:=.aQ 1) (J9 [Bf j,Bf u] (a3y I))<|JL
def a1u (j:Aa):AB AV:=(cond (j.Kind==2) ((cond (j.Content.N==0) (some true) (some (j.Content.N==4))).bind λq=>(cond q (some (!(j.Key.toList==j.bQ.toList))) (some false)).bind λu=>some u) ((cond (j.Kind==3) (some true) (some (j.Kind==4))).bind λz=>some z))
def alp :=Dc func419 rfl a1u DV Af λu r h=>AY<|AZ<|AY<|BG h (λh=>AP 4<|AO h λj q h=>.mg 10 5 (Af j) (.bi q)<|.a 1<|AO h λj q h=>.mg 17 5 (Af j) (Cc q)<|.aW<|CW) λh=>AP 3<|AO h λj q h=>.mg 26 4 (Af j) (.bi q)<|.aW<|CW
def rQ (j:(AU->Int->AB AU))(q:Int)(u:AU):AB AU:=j u (Az (q+1))
def a1M (j:(AU->Int->AB AU))(q:Int)(u:AU):AB AU:=j u (Az (q+1))
def aDT (q:AU)(O:AU)(U:(AU->Int->AB AU))(Y:Int)(z:(AU->Int->AB AU)):AU->Int->AB AU:=λu j=>(cond (j<(q.length:Int)) ((Aj q j).bind λI=>(TV O I).bind λJ=>(cond J ((Aj q j).bind λL=>(WI u L).bind λM=>a1M z j M) (a1M z j u))) (rQ U Y u))
def aMy (j:AU)(q:AU)(u:(AU->Int->AB AU))(z:Int):AU->Int->AB AU:=aP (aDT j q u z) Am
def aJY (u:AU)(j:Ag)(O:(AU->Int->AB AU)):AU->Int->AB AU:=λv2 q=>(cond (q<(u.length:Int)) ((Aj u q).bind λU=>(Jc j U).bind λY=>(a1u Y.1).bind λz=>(cond z ((Aj u q).bind λI=>(WI v2 I).bind λJ=>(Aj u q).bind λL=>(fV j [L]).bind λM=>aMy M u O q J 0) (rQ O q v2))) (some v2))
def aQZ (q:AU)(j:Ag):AU->Int->AB AU:=aP (aJY q j) Am
def a0y (q:Ag)(j:AU):AB AU:=(yF q j).bind λu=>aQZ u q [] 0
def aar :=G8 func361 rfl a0y BK Bf Cb λu U r h=>BO<|.f (CY 3 1)<|.aU<|AO h λJ z h=>AP 2<|.X (aOA z).view<|BO<|.Y (GY Df zero3 [])<|AZ<|AY<|Ai<|DW (λz j=>⟨BA 65 [(0,BK u),(5,Bf J),(6,.aQ 0),(7,AX j)],[(Cb z)],0⟩) _ _ _ _ (Ae [AQ 1]) h<|λz j q I M h=>AZ<|AP 2<|.Z (BJ Ad J)<|Bl h (λh=>D9 (λs=>∃(Z:(AA Int)),CO s ⟨BA 65 [(0,BK u),(5,Bf J),(6,.aQ 0),(7,AX M)],[(Cb Z)],0⟩/\rQ j M Z=some r) (by rintro s ⟨Z,hs,h⟩;exact DJ hs<|DI<|q _ _ _ (Ae [AQ 0]) h)<|λz=>Ai<|Bo h λj q Y O h=>AP 3<|.p (BF Ad q)<|.a 1<|.X (KW O)<|AO h λj q h=>AP 1<|.ca (alp q)<|.aU<|BG h (λh=>Bo h λj q Y O h=>AP 3<|.p (BF Ad q)<|.a 1<|.Y (x:=.aQ 2) (EL [.ent 0] [.aQ 0,AX j] (pX O))<|Bo h λj q I Y h=>AP 3<|.p (BF Ad q)<|.a 1<|.p (Dx Df zero3 [Ad j])<|.X (aHa Y).view<|AY<|Ai<|DW (λz j=>⟨BA 65 [(0,BK u),(5,Bf J),(6,.aQ 0),(7,AX M),(10,Bf I),(11,AX j)],[(Cb z)],0⟩) _ _ _ _ (Ae [AQ 2]) h<|λj q Y O x9 h=>AZ<|AP 2<|.Z (BJ Ad I)<|Bl h (λh=>D9 (λs=>∃(L:(AA Int)),CO s ⟨BA 65 [(0,BK u),(5,Bf J),(6,.aQ 0),(7,AX M),(10,Bf I),(11,AX x9)],[(Cb L)],0⟩/\a1M q x9 L=some r) (by rintro s ⟨L,hs,h⟩;exact DJ hs<|aKC)<|λz=>Ai<|Bo h λj q I M h=>AP 3<|.p (BF Ad q)<|.a 1<|.ca (XB M)<|.aU<|BG h (λh=>Bo h λJ j q I h=>CS<|.a 3<|.p (BF Ad j)<|.a 1<|.f (x:=.aQ 1) (EL [.ent 0] [.aQ 0,AX J] (pX I))<|.aN<|z _ ⟨q,Ae [AQ 1],h⟩) λh=>z _ ⟨O,Ae [AQ 0],h⟩) λh=>Cj<|z _ ⟨O,Ae [AQ 0],h⟩) λh=>z _ ⟨I,Ae [AQ 0],h⟩) λh=>IW
def aJO (q:AU)(j:AU)(k3:(Int->AB AV)):Int->AB AV:=λv2=>(cond (v2<(q.length:Int)) ((Aj q v2).bind λu=>(TV j u).bind λz=>(cond z (some false) (k3 (Az (v2+1))))) (some true))
def aNc (q:AU)(j:AU):Int->AB AV:=bf (aJO q j) Am
def a4Q (u:Ag)(j:AU)(q:Int):AB AV:=(fV u [q]).bind λz=>aNc z j 0
def abX :=MR func421 rfl a4Q BK Bf AX Af λI j q r h=>AY<|AO h λz u h=>AP 2<|.p (Dx Df zero3 [Ad q])<|.X (aHa u).view<|AZ<|AY<|Ai<|Dk (λu=>⟨BA 25 [(1,Bf j),(7,Bf z),(8,AX u)],[],0⟩) _ _ _ (Ae []) h<|λu L M J h=>AZ<|AP 2<|.Z (BJ Ad z)<|Bl h (λh=>AZ<|Ai<|Bo h λz u L J h=>AP 3<|.p (BF Ad u)<|.a 1<|.ca (XB J)<|.aU<|aD7) λh=>EX
def aCY (j:Ba)(u:Int)(q:BL)(k2:(Int->AB Ba)):Int->AB Ba:=λz=>(cond (z<(j.length:Int)) ((Aj j z).bind λx5=>(cond (x5.Kind<u) (some true) ((Aj j z).bind λx8=>(cond (x8.Kind==u) ((Aj j z).bind λI=>some (Op.bytesLess (I.Key.toList) (q.toList))) (some false)).bind λx9=>some x9)).bind λx6=>some x6) (some false)).bind λx3=>(cond x3 (k2 (Az (z+1))) ((cond (z<(j.length:Int)) ((Aj j z).bind λJ=>some (J.Kind==u)) (some false)).bind λL=>(cond L ((Aj j z).bind λM=>some (M.Key.toList==q.toList)) (some false)).bind λO=>(cond O (some j) ((Hq j 0 z).bind λU=>(DC 32 [] U).bind λY=>(DC 32 Y [(⟨u,q,0⟩:BM)]).bind λZ=>(Hq j z ((j).length)).bind λx23=>(DC 32 Z x23).bind λx24=>some x24))))
def aRH (q:Ba)(u:Int)(j:BL):Int->AB Ba:=bf (aCY q u j) Am
def Wx (q:Ba)(u:Int)(j:BL):AB Ba:=aRH q u j 0
def Rep {cZ QW BZ r}(h:Wx cZ QW BZ=some r):Dw 432 [.aQ 0,AX QW,D5 BZ] [(KF cZ)] (.aQ 1) [.dead,(KF r)]:=ER func432 rfl<|BO<|.f (CY 82 3)<|.aU<|AY<|AZ<|Ai<|Dk (λq=>⟨BA 81 [(0,.aQ 1),(1,AX QW),(2,D5 BZ),(7,AX q)],[.dead,(KF cZ)],1⟩) _ _ _ (Ae [(0,false),AQ 0]) h<|λq k2 j u h=>AZ<|AP 2<|.p (Jq (k:=1) (e':=82) (s:=3) BR cZ A8 Rw)<|.a 1<|AO h λq z h=>.mg 13 26 (Af q) (.bi z (λh=>AO h λq j h=>.a 2<|.p (Hw (e':=82) (kd:=.i64) BR j (k:=1) A8 Rw QV)<|.a 1<|.p (x:=(AX q.Kind)) (JZ (e:=82) (size:=3) (k:=1) (i:=(u).toNat) (off:=0) BR A8 A8 (GZ j).2 Wu (Dl A8) (λ_=>rfl))<|.a 2<|AO h λq j h=>.mg 21 17 (Af q) (.bi j (k2:=λh=>AO h λq j h=>.a 2<|.p (Hw (e':=82) (kd:=.i64) BR j (k:=1) A8 Rw QV)<|.a 1<|.p (x:=(AX q.Kind)) (JZ (e:=82) (size:=3) (k:=1) (i:=(u).toNat) (off:=0) BR A8 A8 (GZ j).2 Wu (Dl A8) (λ_=>rfl))<|.a 2<|AO h λq j h=>.mg 29 8 (Af q) (.bi j (λh=>AO h λq j h=>.a 2<|.p (Hw (e':=82) (kd:=.i64) BR j (k:=1) A8 Rw QV)<|.a 1<|.Z (x:=(D5 q.Key)) (JZ (e:=82) (size:=3) (k:=1) (i:=(u).toNat) (off:=1) BR A8 A8 (GZ j).2 QD (Dl A8) (λ_=>rfl))<|Ce))<|.aW<|Ce))<|.aW<|Ce))<|.aU<|Bl h (λh=>Ai<|DI<|j _ _ (Ae [(0,false),AQ 1]) h) λh=>Cj<|AZ<|AP 2<|.p (Jq (k:=1) (e':=82) (s:=3) BR cZ A8 Rw)<|.a 1<|AO h λq j h=>.mg 46 8 (Af q) (.bi j (λh=>AO h λq j h=>.a 2<|.p (Hw (e':=82) (kd:=.i64) BR j (k:=1) A8 Rw QV)<|.a 1<|.Z (x:=(AX q.Kind)) (JZ (e:=82) (size:=3) (k:=1) (i:=(u).toNat) (off:=0) BR A8 A8 (GZ j).2 Wu (Dl A8) (λ_=>rfl))<|Ce))<|.a 1<|AO h λq j h=>.mg 56 7 (Af q) (Cc j (λe i=>by subst e;have h:=i;exact AO h λq j h=>.a 2<|.p (Hw (e':=82) (kd:=.i64) BR j (k:=1) A8 Rw QV)<|.a 1<|.Z (x:=(D5 q.Key)) (JZ (e:=82) (size:=3) (k:=1) (i:=(u).toNat) (off:=1) BR A8 A8 (GZ j).2 QD (Dl A8) (λ_=>rfl))<|Ce))<|.aU<|BG h (λh=>AY<|iV) λh=>Bo h λq j u z h=>BO<|.f (GY bZ QM [])<|.a 2<|.conv _ (IQ (e:=82) (s:=3) 1 (xs:=List.map BR cZ) A8)<|.p (Qq BR j (λ_=>rfl) Lc Rw QV (λ_=>rfl) rfl)<|.Y (DZ (k:=2) BR z bZ A8 (λ_=>rfl) Bd)<|AO h λq j h=>AP 4<|.p (Dx bZ QM [BR (⟨QW,BZ,0⟩:BM)])<|.Y (DZ (k:=3) BR j bZ A8 (λ_=>rfl) Bd)<|Bo h λq j u z h=>AP 3<|.p (Qq BR j Lc (λ_=>rfl) Rw QV (λ_=>rfl) rfl)<|.Y (DZ (k:=4) BR z bZ A8 (λ_=>rfl) Bd)<|aRv
def a6v (j:Ba):AB Ba:=some j
def jg (j:Aa):AB Ba:=(cond (j.Kind==1) (some []) ((Wx [] 1 Ci).bind λJ=>(Wx J 3 Ci).bind λL=>(Wx L 2 j.bQ).bind λz=>(cond (j.Kind != 2) (some z) ((Wx z 2 j.Key).bind λI=>(cond (j.Content.N==3) (some true) (some (j.Content.N==1))).bind λM=>(cond M (some true) (some (j.Content.N==2))).bind λq=>(cond q ((Wx I 4 Ci).bind λu=>a6v u) (a6v I))))))
def aGm :=Jv func383 rfl jg DV KF λq r h=>AP 1<|.f (CY 82 3)<|.aU<|AZ<|AY<|BG h (λh=>BO<|.f (CY 82 3)<|.aU<|KH) λh=>AO h λz I h=>BO<|.Y (x:=.aQ 2) (EL [.nil 3] [.d (.lit (.slice none 0 0)),AX 1,D5 Ci] (Rep I) (hE:=(alE (t:=82)<|trivial)) (ha:=⟨.inr (.inl ⟨0,3,rfl,rfl,rfl⟩),.inl rfl,.inl rfl,trivial⟩))<|AO h λI j h=>AP 1<|.Y (x:=.aQ 3) (EL [.ent 2] [.aQ 2,AX 3,D5 Ci] (Rep j))<|AO h λz j h=>AP 3<|.Y (x:=.aQ 4) (EL [.ent 3] [.aQ 3,AX 2,D5 q.bQ] (Rep j))<|AZ<|AY<|BG h (λh=>AY<|aAY) λh=>AO h λI j h=>AP 3<|.Y (x:=.aQ 5) (EL [.ent 4] [.aQ 4,AX 2,D5 q.Key] (Rep j))<|D9 (λs=>∃(J:(AA BM)),CO s ⟨BA 39 [(3,.aQ 0)],[(KF J)],0⟩/\a6v J=some r) aJz<|λz=>AY<|AP 2<|AO h λj u h=>.mg 28 3 (Af j) (.bi u)<|.a 1<|AO h λj u h=>.mg 33 2 (Af j) (Cc u)<|.aU<|BG h (λh=>AO h λj u h=>CS<|.a 1<|.f (x:=.aQ 6) (EL [.ent 5] [.aQ 5,AX 4,D5 Ci] (Rep u))<|.aN<|z _ ⟨j,Ae [AQ 6],h⟩) λh=>z _ ⟨I,Ae [AQ 5],h⟩
def a4u (k3:(Ag->Int->AB Ag))(v2:Int)(j:Ag):AB Ag:=k3 j (Az (v2+1))
def aIm (j:AU)(q:Ag)(k3:(Ag->Int->AB Ag)):Ag->Int->AB Ag:=λu v2=>(cond (v2<(j.length:Int)) ((Aj j v2).bind λJ=>(Jc q J).bind λI=>(cond I.2 ((DC 376 u [I.1]).bind λz=>a4u k3 v2 z) (a4u k3 v2 u))) (some u))
def aTg (j:AU)(q:Ag):Ag->Int->AB Ag:=aP (aIm j q) Am
def og (q:Ag)(j:AU):AB Ag:=aTg j q [] 0
def aG5 :=G8 func382 rfl og BK Bf FV λq j r h=>BO<|.f (CY 38 29)<|.aU<|BO<|.f (CY 38 29)<|.aU<|AZ<|AY<|Ai<|DW (λz u=>⟨BA 30 [(0,BK q),(1,Bf j),(5,.aQ 0),(6,AX u)],[(FV z)],0⟩) _ _ _ _ (Ae [AQ 1]) h<|λz u I M J h=>AZ<|AP 2<|.Z (BJ Ad j)<|Bl h (λh=>D9 (λs=>∃(L:(AA Aa)),CO s ⟨BA 30 [(0,BK q),(1,Bf j),(5,.aQ 0),(6,AX J)],[(FV L)],0⟩/\a4u u J L=some r) aCy<|λz=>Ai<|Bo h λu I J O h=>AP 3<|.p (BF Ad I)<|.a 1<|.X (KW O)<|AY<|BG h (λh=>AO h λu I h=>CS<|.a 2<|.p (Dx J7 Nz [BH J.1])<|.f (DZ (k:=0) BH I J7 A8 (λ_=>rfl) Bd)<|aLD) λh=>z _ ⟨M,Ae [AQ 0],h⟩) λh=>IW
def a5z (j:(Ag->AV->Int->AB Ag))(z:Int)(q:Ag)(u:AV):AB Ag:=j q u (Az (z+1))
def a7d (L:Ag)(q:Int)(J:Ag)(j:(Ag->AV->Int->AB Ag))(M:AV)(u:AV):AB Ag:=(cond u ((Aj L q).bind λz=>(DC 376 J [z]).bind λI=>a5z j q I true) (a5z j q J M))
def Qe (j:Ag)(Z:Ba)(z:Int)(k5:(Ag->Int->AB Ag))(q:(Ag->AV->Int->AB Ag)):Ag->AV->Int->AB Ag:=λI J u=>(cond (u<(j.length:Int)) (some (!J)) (some false)).bind λL=>(cond L ((Aj j u).bind λM=>(Aj Z z).bind λO=>(cond (M.Kind==O.Kind) ((Aj j u).bind λU=>(Aj Z z).bind λY=>a7d j u I q J (U.Key.toList==Y.Key.toList)) (a7d j u I q J false))) (k5 I (Az (z+1))))
def aWM (j:Ag)(q:Ba)(u:Int)(z:(Ag->Int->AB Ag)):Ag->AV->Int->AB Ag:=iK (Qe j q u z) Am
def aGw (j:Ba)(z:Ag)(I:(Ag->Int->AB Ag)):Ag->Int->AB Ag:=λq u=>(cond (u<(j.length:Int)) (aWM z j u I q false 0) (some q))
def aXM (j:Ba)(q:Ag):Ag->Int->AB Ag:=aP (aGw j q) Am
def yE (q:Ag)(j:Aa):AB Ag:=(jg j).bind λu=>(og q j.bJ).bind λz=>aXM u z [] 0
def aPQ :=G8 func309 rfl yE BK DV FV λcZ vJ r h=>AP 1<|.f (CY 38 29)<|.aU<|AO h λz j h=>AP 1<|.X (aGm j).view<|AO h λj q h=>AP 3<|.X (aG5 q).view<|BO<|.f (CY 38 29)<|.aU<|AZ<|AY<|Ai<|DW (λq u=>⟨BA 65 [(5,DY z),(6,BK j),(7,.aQ 0),(8,AX u)],[(FV q)],0⟩) _ _ _ _ (Ae [AQ 2]) h<|λq u J Z U h=>AZ<|AP 2<|.Z (BJ BR z)<|Bl h (λh=>AZ<|Ai<|AY<|AY<|Ai<|Pv (λq u J=>⟨BA 65 [(5,DY z),(6,BK j),(7,.aQ 0),(8,AX U),(9,Af u),(10,AX J)],[(FV q)],0⟩) _ _ _ _ _ (Ae [AQ 0]) h<|λq u Z Y x9 I h=>AZ<|AP 2<|.p (BJ BH j)<|.a 1<|AO h λq x11 h=>.mg 27 3 (Af q) (.bi x11)<|.aU<|Bl h (λh=>D9 (λs=>∃(L:(AA Aa)) (M:AV),CO s ⟨BA 65 [(5,DY z),(6,BK j),(7,.aQ 0),(8,AX U),(9,Af M),(10,AX I)],[(FV L)],0⟩/\a5z u I L M=some r) (by rintro s ⟨L,M,hs,h⟩;exact DJ hs<|DI<|Z _ _ _ _ (Ae [AQ 0]) h)<|λq=>Ai<|D9 (λs=>∃(O:AV),CO s ⟨BA 65 [(5,DY z),(6,BK j),(7,.aQ 0),(8,AX U),(9,Af x9),(10,AX I),(56,Af O)],[(FV Y)],0⟩/\a7d j I Y u x9 O=some r) (by rintro s ⟨O,hs,h⟩;exact DJ hs<|BG h (λh=>Bo h λz j u J h=>AP 3<|.p (BF BH j)<|.a 1<|.p (Dx J7 Nz [BH z])<|.Y (DZ (k:=0) BH J J7 A8 (λ_=>rfl) Bd)<|DI<|q _ ⟨u,true,Ae [AQ 1],h⟩) λh=>q _ ⟨Y,x9,Ae [AQ 0],h⟩)<|λz=>Bo h λj q u J h=>EI h (λj h=>Bo h λu Z U Y h=>DU A8 A8 A8 (.a 2<|.p (BF BH q)<|.a 4<|.p (BF BR J)<|.a 3<|.c (Au some j)<|.a 2<|.p (BF BH Z)<|.a 4<|.p (BF BR Y)<|.a 4<|.nil _)<|z _ ⟨(u.Key.toList==U.Key.toList),Ae [AQ 0],h⟩) λj h=>DU A8 A8 A8 (.a 2<|.p (BF BH q)<|.a 4<|.p (BF BR J)<|.a 3<|.c (Au some j)<|.a 12<|.nil _)<|z _ ⟨false,Ae [AQ 0],h⟩) λh=>Cj<|kn) λh=>IW
def a4l :Cm:={ Jw with kN:=50,oK:=50,iq:=50 }
def aAu (j:Cm):AB Cm:=some j
def a3x (j:BL):AB Cm:=(cond (!(j.toList==Ci.toList)) (aAu ({ a4l with Users:=[(⟨j,100⟩:H6)] })) (aAu a4l))
def aeA :=Dc func389 rfl a3x D5 IB λj r h=>AY<|AY<|D9 (λs=>∃(q:Cm),CO s ⟨BA 12 [(2,.ptr 0 0),(3,.ptr 1 0)],[.box (BI (F8 Jw)),.box (BI (F8 q))],0⟩/\aAu q=some r) aWT<|λK2=>AY<|BG h (λh=>CS<|.a 2<|.p (Dx wP uY [F5 (⟨j,100⟩:H6)])<|.aN<|K2 _ ⟨({ a4l with Users:=[(⟨j,100⟩:H6)] }),Ae [AQ 0,AQ 1],h⟩) λh=>K2 _ ⟨a4l,Ae [AQ 0,AQ 1],h⟩
def a3U (j:(BL->AV->Int->AB (Cm×BL)))(q:Int)(u:BL)(z:AV):AB (Cm×BL):=j u z (Az (q+1))
def aJQ (j:Ag)(u:BL)(z:(Int->Cm->AB (Cm×BL))):Int->Cm->AB (Cm×BL):=λq I=>(bif q<(j.length:Int) then(Aj j q).bind λJ=>(cond (J.Kind==3) ((Aj j q).bind λL=>some (L.Content.Levels,u)) (z (Az (q+1)) I))else(a3x u).bind λM=>some (M,u))
def aBq (j:Ag)(q:BL):Int->Cm->AB (Cm×BL):=aP (aJQ j q) Am
def Qo (j:Ag)(I:(BL->AV->Int->AB (Cm×BL))):BL->AV->Int->AB (Cm×BL):=λJ v2 q=>(cond (q<(j.length:Int)) (some (!v2)) (some false)).bind λL=>(cond L ((Aj j q).bind λu=>(cond (u.Kind==1) ((Aj j q).bind λz=>a3U I q z.bQ true) (a3U I q J v2))) (aBq j J 0 Jw))
def aP1 (j:Ag):BL->AV->Int->AB (Cm×BL):=iK (Qo j) Am
def pG (j:Ag):AB (Cm×BL):=aP1 j Ci false 0
def aLT :=Dc func315 rfl pG BK (λr=>.eG [IB r.1,D5 r.2]) λj r h=>AY<|AY<|AY<|AZ<|AY<|Ai<|Pv (λq u z=>⟨BA 51 [(0,BK j),(2,.ptr 0 0),(4,D5 q),(5,Af u),(6,AX z)],[.box (BI (F8 Jw))],0⟩) _ _ _ _ _ (Ae [AQ 0]) h<|λq u z I U J h=>AZ<|AP 2<|.p (BJ BH j)<|.a 1<|AO h λq Y h=>.mg 12 3 (Af q) (.bi Y)<|.aU<|Bl h (λh=>D9 (λs=>∃(L:BL) (M:AV),CO s ⟨BA 51 [(0,BK j),(2,.ptr 0 0),(4,D5 L),(5,Af M),(6,AX J)],[.box (BI (F8 Jw))],0⟩/\a3U u J L M=some r) (by rintro s ⟨L,M,hs,h⟩;exact DJ hs<|DI<|z _ _ _ _ (Ae [AQ 0]) h)<|λq=>Ai<|AO h λu z h=>AP 2<|.Z (BF BH z)<|BG h (λh=>AO h λu z h=>AP 2<|.Z (BF BH z)<|DI<|q _ ⟨u.bQ,true,Ae [AQ 0],h⟩) λh=>q _ ⟨I,U,Ae [AQ 0],h⟩) λh=>Cj<|AZ<|AY<|Ai<|DW (λq u=>⟨BA 51 [(0,BK j),(2,.ptr 0 0),(4,D5 I),(7,AX q)],[.box (BI (F8 u))],0⟩) _ _ _ _ (Ae [AQ 0]) h<|λq u z U J h=>AZ<|AP 2<|.Z (BJ BH j)<|Bl h (λh=>AZ<|Ai<|AO h λq u h=>AP 2<|.Z (BF BH u)<|BG h (λh=>AO h λq u h=>AP 2<|.Z (BF BH u)<|Ep<|by rw[←CP h];exact⟨[IB q.Content.Levels,D5 I],[],⟨⟨0,BI (F8 q.Content.Levels),true,9,A8,A8,A8,Yj,Dl A8,(by intro O;cases O),A8⟩,G7 A8,trivial⟩,A8,A8,A8⟩) λh=>XC) λh=>Cj<|AO h λq u h=>AP 1<|.X (aeA u)<|Ep<|by rw[←CP h];exact⟨[IB q,D5 I],[],⟨⟨0,BI (F8 q),true,9,A8,A8,A8,Yj,Dl A8,(by intro O;cases O),A8⟩,G7 A8,trivial⟩,A8,A8,A8⟩
def aFN (j:Cm)(q:BL)(k2:(Int->AB Int)):Int->AB Int:=λu=>(cond (u<(j.Users.length:Int)) ((Aj j.Users u).bind λz=>(cond (z.User.toList==q.toList) ((Aj j.Users u).bind λI=>some I.N) (k2 (Az (u+1))))) (some j.User))
def aSi (q:Cm)(j:BL):Int->AB Int:=bf (aFN q j) Am
def Tc (q:Cm)(j:BL):AB Int:=aSi q j 0
def Zu :=DR func316 rfl Tc IB D5 AX λq j r h=>AY<|AZ<|AY<|Ai<|Dk (λu=>⟨BA 29 [(1,D5 j),(2,.ptr 0 0),(5,AX u)],[.box (BI (F8 q))],0⟩) _ _ _ (Ae [AQ 0]) h<|λu z I J h=>AZ<|AP 3<|.Z (BJ F5 q.Users)<|Bl h (λh=>AZ<|Ai<|AO h λu z h=>AP 3<|.Z (BF F5 z)<|BG h (λh=>AO h λu z h=>AP 3<|.Z (BF F5 z)<|CW) λh=>bI) λh=>EX
def a0m (q:Ag)(j:Aa):AB Int:=(yE q j).bind λu=>(pG u).bind λz=>(Tc z.1 j.bQ).bind λI=>some I
def aTS :=DR func448 rfl a0m BK DV AX λq u r h=>AY<|Bo h λz j J I h=>AP 2<|.ca (aPQ j).view<|.X (aLT I)<|AO h λz j h=>AP 3<|.X (Zu j)<|CW
def a2f (u:Ag)(j:Aa)(q:Aa):AB AV:=(a0m u j).bind λz=>(a0m u q).bind λI=>(cond (z != I) (some (decide (z>I))) (cond (j.Time != q.Time) (some (decide (j.Time<q.Time))) (some (decide (j.Id<q.Id)))))
def ae3 :=MR func422 rfl a2f BK DV DV Af λj q u r h=>AY<|Bo h λJ z L I h=>El A8 A8 A8 (.a 2<|.ca (aTS z)<|.a 2<|.ca (aTS I)<|.a 2<|.nil _)<|AZ<|AY<|BG h Bv λh=>AZ<|AY<|Ib
def a4z (j:(AV->Int->AU->Aa->AB AU))(I:Int)(q:AV)(u:AU)(z:Aa):AB AU:=j q (Az (I+1)) u z
def aDe (v2:AU)(j:Ag)(k4:(AU->AU->AB AU))(q:(AV->Int->AU->Aa->AB AU)):AV->Int->AU->Aa->AB AU:=λL u I J=>(cond (u<(v2.length:Int)) ((Aj v2 u).bind λM=>(Jc j M).bind λz=>(Aj v2 u).bind λO=>(a4Q j v2 O).bind λU=>(cond U ((cond (!L) (some true) ((a2f j z.1 J).bind λY=>some Y)).bind λZ=>some Z) (some false)).bind λx20=>(cond x20 (a4z q u true I z.1) (a4z q u L I J))) (cond (!L) (some I) ((DC 8 I [J.Id]).bind λx27=>(dU v2 [J.Id]).bind λx28=>k4 x28 x27)))
def aMX (v2:AU)(j:Ag)(q:(AU->AU->AB AU)):AV->Int->AU->Aa->AB AU:=WV (aDe v2 j q) Am
def Yp (j:Ag)(u:(AU->AU->AB AU)):AU->AU->AB AU:=λv2 q=>(cond ((v2.length:Int)>0) (aMX v2 j u false 0 q FU) (some q))
def aPw (j:Ag):AU->AU->AB AU:=aP (Yp j) Am
def a6x (q:Ag)(j:AU):AB AU:=(yF q j).bind λu=>aPw q u []
def afg :=G8 func362 rfl a6x BK Bf Cb λu U r h=>BO<|.f (CY 3 1)<|.aU<|AO h λq j h=>AP 2<|.X (aOA j).view<|BO<|.Y (GY Df zero3 [])<|AZ<|Ai<|DW (λq j=>⟨BA 66 [(0,BK u),(5,Bf q),(6,.aQ 0)],[(Cb j)],0⟩) _ _ _ _ (Ae [AQ 1]) h<|λq j z Y M h=>AZ<|AP 1<|.Z (BJ Ad Y)<|Bl h (λh=>Ai<|AY<|AY<|AZ<|AY<|Ai<|Bh.WV (λq j z M=>⟨BA 66 [(0,BK u),(5,Bf Y),(6,.aQ 0),(7,.ptr 1 0),(8,Af q),(9,AX j)],[(Cb z),.box (BI (BH M))],0⟩) _ _ _ _ _ _ (Ae [AQ 0,AQ 1]) h<|λq j M x6 O x8 Z h=>AZ<|AP 2<|.Z (BJ Ad Y)<|Bl h (λh=>D9 (λs=>∃(I:AV) (J:(AA Int)) (L:Aa),CO s ⟨BA 66 [(0,BK u),(5,Bf Y),(6,.aQ 0),(7,.ptr 1 0),(8,Af I),(9,AX O)],[(Cb J),.box (BI (BH L))],0⟩/\a4z j O I J L=some r) (by rintro s ⟨I,J,L,hs,h⟩;exact DJ hs<|DI<|M _ _ _ _ _ (Ae [AQ 0,AQ 1]) h)<|λq=>Ai<|Bo h λj z M O h=>AP 3<|.p (BF Ad z)<|.a 1<|.X (KW O)<|Bo h λj z O x10 h=>AP 4<|.p (BF Ad z)<|.a 1<|.ca (abX x10)<|.a 1<|AO h λj z h=>.mg 42 8 (Af j) (Cc z (λe i=>by subst e;have h:=i;exact .a 2<|AO h λq j h=>.mg 44 5 (Af q) (.bi j (k2:=λh=>AO h λq j h=>.a 3<|.X (ae3 j)<|Ce))<|.aW<|Ce))<|.aU<|BG h (λh=>DI<|q _ ⟨true,x8,M.1,Ae [AQ 0,AQ 1],h⟩) λh=>q _ ⟨x6,x8,Z,Ae [AQ 0,AQ 1],h⟩) λh=>Cj<|AZ<|AY<|BG h qB λh=>AO h λq j h=>AP 3<|.p (Dx Df zero3 [Ad Z.Id])<|.Y (DZ (k:=0) Ad j Df A8 (λ_=>rfl) Bd)<|AO h λq j h=>CS<|.a 3<|.p (Dx Df zero3 [Ad Z.Id])<|.ca (a3y j).view<|.aN<|z _ _ _ (Ae [AQ 2]) h) λh=>IW
def aJZ (j:Ag)(u:Int)(q:BL)(k3:(Int->Aa->AB (Aa×AV))):Int->Aa->AB (Aa×AV):=λz v2=>(cond (z<(j.length:Int)) ((Aj j z).bind λJ=>(cond (J.Kind==u) ((Aj j z).bind λL=>some (L.Key.toList==q.toList)) (some false)).bind λM=>(cond M ((Aj j z).bind λI=>some (I,true)) (k3 (Az (z+1)) v2))) (some (FU,false)))
def aMR (q:Ag)(u:Int)(j:BL):Int->Aa->AB (Aa×AV):=aP (aJZ q u j) Am
def a2r (q:Ag)(u:Int)(j:BL):AB (Aa×AV):=aMR q u j 0 FU
def adg :=MR func449 rfl a2r BK AX D5 (λr=>.eG [DV r.1,Af r.2]) λz I q r h=>AY<|AZ<|AY<|Ai<|DW (λu j=>⟨BA 36 [(0,BK z),(1,AX I),(2,D5 q),(6,.ptr 0 0),(8,AX u)],[.box (BI (BH j))],0⟩) _ _ _ _ (Ae [AQ 0]) h<|λu j L M O h=>AZ<|AP 2<|.Z (BJ BH z)<|Bl h (λh=>AZ<|Ai<|AO h λu j h=>AP 2<|.p (BF BH j)<|.a 4<|AO h λu j h=>.mg 22 8 (Af u) (.bi j (λh=>AO h λu j h=>.a 2<|.Z (BF BH j)<|Ce))<|.aU<|BG h (λh=>AO h λu j h=>AP 2<|.Z (BF BH j)<|Ep<|by rw[←CP h];exact⟨[DV u,Af true],[],⟨⟨0,BI (BH u),true,29,A8,A8,A8,Gx,Dl A8,xQ,A8⟩,G7 A8,trivial⟩,A8,A8,A8⟩) λh=>DI<|L _ _ _ (Ae [AQ 0]) h) λh=>Cj<|AY<|Ep<|by rw[←CP h];exact⟨[DV FU,Af false],[],⟨⟨0,BI (BH FU),true,29,A8,A8,A8,Gx,Dl A8,xQ,A8⟩,G7 A8,trivial⟩,A8,A8,A8⟩
def a3G (j:(Ag->Int->AB Ag))(q:Int)(u:Ag):AB Ag:=j u (Az (q+1))
def aBE (I:(Ag->Int->AB Ag))(J:Int)(q:AV)(j:Ag)(u:Aa):AB Ag:=(cond q ((DC 376 j [u]).bind λz=>a3G I J z) (a3G I J j))
def aJv (q:Ba)(u:Ba)(x2:Ag)(z:Ag)(Z:(Ag->Int->AB Ag)):Ag->Int->AB Ag:=λM j=>(cond (j<(q.length:Int)) ((Aj q j).bind λx9=>(Aj q j).bind λO=>(pI u x9.Kind O.Key).bind λI=>(Aj q j).bind λU=>(Aj q j).bind λY=>(a2r x2 U.Kind Y.Key).bind λJ=>(cond I.2 ((Jc z I.1).bind λL=>aBE Z j L.2 M L.1) (aBE Z j J.2 M J.1))) (some M))
def aW6 (u:Ba)(j:Ba)(z:Ag)(q:Ag):Ag->Int->AB Ag:=aP (aJv u j z q) Am
def aBf (j:Ag)(u:Ba)(q:Aa):AB Ag:=(jg q).bind λz=>(og j q.bJ).bind λI=>aW6 z u I j [] 0
def akE {cZ rW jA r}(h:aBf cZ rW jA=some r):Dw 423 [BK cZ,DY rW,DV jA] [] (.aQ 0) [(FV r)]:=ER func423 rfl<|AP 1<|.f (CY 38 29)<|.aU<|AO h λu q h=>AP 1<|.X (aGm q).view<|AO h λq j h=>AP 3<|.X (aG5 j).view<|BO<|.f (CY 38 29)<|.aU<|AZ<|AY<|Ai<|DW (λj O=>⟨BA 70 [(0,BK cZ),(1,DY rW),(7,DY u),(8,BK q),(9,.aQ 0),(10,AX O)],[(FV j)],0⟩) _ _ _ _ (Ae [AQ 2]) h<|λj O Y x6 U h=>AZ<|AP 2<|.Z (BJ BR u)<|Bl h (λh=>D9 (λs=>∃(Z:(AA Aa)),CO s ⟨BA 70 [(0,BK cZ),(1,DY rW),(7,DY u),(8,BK q),(9,.aQ 0),(10,AX U)],[(FV Z)],0⟩/\a3G O U Z=some r) (by rintro s ⟨Z,hs,h⟩;exact DJ hs<|aKC)<|λj=>Ai<|Gt h λY x8 x9 L x11 z h=>El A8 A8 A8 (.a 3<|.p (BF BR x8)<|.a 4<|.p (BF BR L)<|.a 2<|.ca (aHX z)<|.a 5<|.nil _)<|Gt h λY x8 x9 L z x13 h=>dM [VH 3 (Go.Op.indexAddr 40 (Go.Operand.tmp 44) (Go.Operand.tmp 45)) (λu q j=>ZF (k:=.i64) BR x8 Rw QV A8 j),VH 8 (Go.Op.indexAddr 40 (Go.Operand.tmp 49) (Go.Operand.tmp 50)) (λu q j=>ZF (k:=.i64) BR L Rw QV A8 j),tJ 11 (adg x13) abD] 208<|D9 (λs=>∃(M:AV) (I:(AA Aa)) (J:Aa),CO s ⟨BA 70 [(0,BK cZ),(1,DY rW),(7,DY u),(8,BK q),(9,.aQ 0),(10,AX U),(13,.ptr 1 0),(14,Af M)],[(FV I),.box (BI (BH J))],0⟩/\aBE O U M I J=some r) (by rintro s ⟨M,I,J,hs,h⟩;exact DJ hs<|AY<|BG h (λh=>AO h λu q h=>CS<|.a 2<|.p (Dx J7 Nz [BH J])<|.f (DZ (k:=0) BH q J7 A8 (λ_=>rfl) Bd)<|.aN<|j _ ⟨u,Ae [AQ 2],h⟩) λh=>j _ ⟨I,Ae [AQ 0],h⟩)<|λu=>AY<|BG h (λh=>AO h λq j h=>CS<|.a 2<|.ca (KW j)<|.aN<|u _ ⟨q.2,x6,q.1,Ae [AQ 0,AQ 1],h⟩) λh=>u _ ⟨z.2,x6,z.1,Ae [AQ 0,AQ 1],h⟩) λh=>IW
def aHx (j:Ag)(k3:(Int->Aa->AB (Aa×AV))):Int->Aa->AB (Aa×AV):=λq v2=>(cond (q<(j.length:Int)) ((Aj j q).bind λu=>(cond (u.Kind==1) ((Aj j q).bind λz=>some (z,true)) (k3 (Az (q+1)) v2))) (some (FU,false)))
def aPc (j:Ag):Int->Aa->AB (Aa×AV):=aP (aHx j) Am
def zY (j:Ag):AB (Aa×AV):=aPc j 0 FU
def aVJ :=Dc func251 rfl zY BK (λr=>.eG [DV r.1,Af r.2]) λj r h=>AY<|AZ<|AY<|Ai<|DW (λq u=>⟨BA 22 [(0,BK j),(2,.ptr 0 0),(4,AX q)],[.box (BI (BH u))],0⟩) _ _ _ _ (Ae [AQ 0]) h<|λq u I J L h=>AZ<|AP 2<|.Z (BJ BH j)<|Bl h (λh=>AZ<|Ai<|AO h λq u h=>AP 2<|.Z (BF BH u)<|BG h (λh=>AO h λq u h=>AP 2<|.Z (BF BH u)<|Ep<|a19) λh=>Sl) λh=>Cj<|AY<|Ep<|aAy
def aCs (j:Ag)(q:BL)(k2:(Int->AB AV)):Int->AB AV:=λu=>(cond (u<(j.length:Int)) ((Aj j u).bind λz=>(cond (z.Kind==2) ((Aj j u).bind λI=>some (I.Key.toList==q.toList)) (some false)).bind λJ=>(cond J (some true) (k2 (Az (u+1))))) (some false))
def aN5 (q:Ag)(j:BL):Int->AB AV:=bf (aCs q j) Am
def a2m (q:Ag)(j:BL):AB AV:=aN5 q j 0
def ai9 :=DR func385 rfl a2m BK D5 Af λq j r h=>AY<|AZ<|AY<|Ai<|Dk (λu=>⟨BA 27 [(0,BK q),(1,D5 j),(5,AX u)],[],0⟩) _ _ _ (Ae []) h<|λu z I J h=>AZ<|AP 2<|.Z (BJ BH q)<|Bl h (λh=>AZ<|Ai<|AO h λu z h=>AP 2<|.p (BF BH z)<|.a 3<|AO h λu z h=>.mg 18 8 (Af u) (.bi z (λh=>AO h λu z h=>.a 2<|.Z (BF BH z)<|Ce))<|a6P) λh=>EX
def Xc (v2:AV):AB AV:=some v2
def aAp (j:Aa)(q:Ag):AB AV:=(zY q).bind λu=>(cond u.2 (cond ((j.bG.length:Int)==1) ((Aj j.bG 0).bind λI=>(cond (I==u.1.Id) (cond (j.bQ.toList==u.1.bQ.toList) (cond (j.Key.toList==u.1.bQ.toList) (cond (j.Content.N==3) ((a2m q j.Key).bind λz=>Xc (!z)) (Xc false)) (Xc false)) (Xc false)) (Xc false))) (Xc false)) (Xc false))
def aiG :=DR func311 rfl aAp DV BK Af λj Y r h=>AY<|AO h λu q h=>AP 1<|.X (aVJ q)<|D9 (λs=>∃(v2:AV),CO s ⟨BA 55 [(4,Af v2)],[],0⟩/\Xc v2=some r) (by rintro s ⟨v2,hs,h⟩;exact DJ hs<|CW)<|λu=>EI h (λq h=>EI h (λz h=>AO h λI J h=>EI h (λI h=>EI h (λL h=>EI h (λM h=>EI h (λO h=>AO h λZ U h=>DU A8 A8 A8 (.a 1<|.c (Au some q)<|.a 2<|.p (BJ Ad j.bG)<|.a 2<|.c (Au some z)<|.a 2<|.p (BF Ad J)<|.a 5<|.c (Au some I)<|.a 6<|.c (Au some L)<|.a 6<|.c (Au some M)<|.a 5<|.c (Au some O)<|.a 3<|.ca (ai9 U)<|.a 3<|.nil _)<|u _ ⟨(!Z),Ae [],h⟩) λO h=>DU A8 A8 A8 (.a 1<|.c (Au some q)<|.a 2<|.p (BJ Ad j.bG)<|.a 2<|.c (Au some z)<|.a 2<|.p (BF Ad J)<|.a 5<|.c (Au some I)<|.a 6<|.c (Au some L)<|.a 6<|.c (Au some M)<|.a 5<|.c (Au some O)<|.a 7<|.nil _)<|u _ ⟨false,Ae [],h⟩) λM h=>DU A8 A8 A8 (.a 1<|.c (Au some q)<|.a 2<|.p (BJ Ad j.bG)<|.a 2<|.c (Au some z)<|.a 2<|.p (BF Ad J)<|.a 5<|.c (Au some I)<|.a 6<|.c (Au some L)<|.a 6<|.c (Au some M)<|.a 13<|.nil _)<|u _ ⟨false,Ae [],h⟩) λL h=>DU A8 A8 A8 (.a 1<|.c (Au some q)<|.a 2<|.p (BJ Ad j.bG)<|.a 2<|.c (Au some z)<|.a 2<|.p (BF Ad J)<|.a 5<|.c (Au some I)<|.a 6<|.c (Au some L)<|.a 20<|.nil _)<|u _ ⟨false,Ae [],h⟩) λI h=>DU A8 A8 A8 (.a 1<|.c (Au some q)<|.a 2<|.p (BJ Ad j.bG)<|.a 2<|.c (Au some z)<|.a 2<|.p (BF Ad J)<|.a 5<|.c (Au some I)<|.a 27<|.nil _)<|u _ ⟨false,Ae [],h⟩) λz h=>DU A8 A8 A8 (.a 1<|.c (Au some q)<|.a 2<|.p (BJ Ad j.bG)<|.a 2<|.c (Au some z)<|.a 36<|.nil _)<|u _ ⟨false,Ae [],h⟩) λq h=>DU A8 A8 A8 (.a 1<|.c (Au some q)<|.a 42<|.nil _)<|u _ ⟨false,Ae [],h⟩
def aGx (j:Ag)(q:BL)(k2:(Int->AB Int)):Int->AB Int:=λu=>(cond (u<(j.length:Int)) ((Aj j u).bind λz=>(cond (z.Kind==2) ((Aj j u).bind λI=>some (I.Key.toList==q.toList)) (some false)).bind λJ=>(cond J ((Aj j u).bind λL=>some L.Content.N) (k2 (Az (u+1))))) (some 0))
def aPl (q:Ag)(j:BL):Int->AB Int:=bf (aGx q j) Am
def ni (q:Ag)(j:BL):AB Int:=aPl q j 0
def aCM :=DR func253 rfl ni BK D5 AX λq j r h=>AY<|AZ<|AY<|Ai<|Dk (λz=>⟨BA 33 [(0,BK q),(1,D5 j),(5,AX z)],[],0⟩) _ _ _ (Ae []) h<|λz u I J h=>AZ<|AP 2<|.Z (BJ BH q)<|Bl h (λh=>AZ<|Ai<|AO h λz u h=>AP 2<|.p (BF BH u)<|.a 3<|AO h λz u h=>.mg 18 8 (Af z) (.bi u (λh=>AO h λz u h=>.a 2<|.Z (BF BH u)<|Ce))<|.aU<|BG h (λh=>AO h λz u h=>AP 2<|.Z (BF BH u)<|CW) λh=>RY) λh=>EX
def WQ (j:Int)(u:Int)(q:AV):AB AV:=(cond (j<0) (some true) (some (decide (j>4)))).bind λZ=>(cond Z (some false) (cond (u==3) ((cond q (some (j != 4)) (some false)).bind λx5=>some x5) (cond (u==0) ((cond (j==1) (some true) (some (j==2))).bind λx8=>(cond x8 (some true) (some (j==3))).bind λz=>(cond z (some true) ((cond (j==4) (some (!q)) (some false)).bind λI=>some I)).bind λJ=>some J) (cond (u==2) ((cond q ((cond (j==0) (some true) (some (j==2))).bind λL=>some L) (some false)).bind λM=>some M) (cond (u==1) ((cond (!q) ((cond (j==0) (some true) (some (j==2))).bind λO=>(cond O (some true) (some (j==1))).bind λU=>some U) (some false)).bind λY=>some Y) (cond (u==4) (some (!q)) (some false)))))))
def agX {azO aFT ami r}(h:WQ azO aFT ami=some r):Dw 312 [AX azO,AX aFT,Af ami] [] (Af r) []:=by
 refine ER func312 rfl ?_;unfold WQ at h;refine AY<|AZ<|AP 2<|?_;obtain⟨x1,hx1,h⟩:=Dn h;refine .mg 9 3 (Af x1) ?_ ?_
 ·rcases ZR hx1 with⟨I,h⟩|⟨I,h⟩
  ·refine .c (Au some I)<|.aM 3 ?_;obtain rfl:=CP h;kernel_rfl
  refine .c (Au some I)<|.aM 3 ?_;obtain rfl:=CP h;kernel_rfl
 refine .aU<|DX h (λh=>?_) λh=>?_
 ·refine BO<|.aM 1 ?_;rw[←CP h];exact .ret (Ei [])
 refine Ew<|AZ<|AY<|Ai<|AY<|DX h (λh=>?_) λh=>?_
 ·refine AP 2<|?_;obtain⟨x5,hx5,h⟩:=Dn h;refine .mg 18 2 (Af x5) ?_ ?_
  ·replace h:=hx5;cases ami with
   |true=>
    replace h:=Oy rfl h;refine .aM 3 ?_;obtain rfl:=CP h;kernel_rfl
   |false=>
    replace h:=Oe rfl h;refine .aM 3 ?_;obtain rfl:=CP h;kernel_rfl
  refine .aM 1 ?_;rw[←CP h];exact .ret (Ei [])
 refine AY<|DX h (λh=>?_) λh=>?_
 ·refine AP 2<|?_;obtain⟨x8,hx8,h⟩:=Dn h;refine .mg 25 3 (Af x8) ?_ ?_
  ·rcases ZR hx8 with⟨J,h⟩|⟨J,h⟩
   ·refine .c (Au some J)<|.aM 3 ?_;obtain rfl:=CP h;kernel_rfl
   refine .c (Au some J)<|.aM 3 ?_;obtain rfl:=CP h;kernel_rfl
  refine .a 1<|?_;obtain⟨L,M,h⟩:=Dn h;refine .mg 30 2 (Af L) ?_ ?_
  ·replace h:=M;cases x8 with
   |true=>
    replace h:=Oy rfl h;refine .aM 3 ?_;obtain rfl:=CP h;kernel_rfl
   |false=>
    replace h:=Oe rfl h;refine .aM 3 ?_;obtain rfl:=CP h;kernel_rfl
  refine .a 1<|?_;obtain⟨x12,O,h⟩:=Dn h;refine .mg 34 6 (Af x12) ?_ ?_
  ·replace h:=O;cases L with
   |true=>
    replace h:=Oy rfl h;refine .aM 7 ?_;obtain rfl:=CP h;kernel_rfl
   |false=>
    replace h:=Oe rfl h;refine .a 2<|?_;obtain⟨x14,U,h⟩:=Dn h;refine .mg 36 3 (Af x14) ?_ ?_
    ·rcases ZR U with⟨j,h⟩|⟨j,h⟩
     ·refine .c (Au some j)<|.aM 3 ?_;obtain rfl:=CP h;kernel_rfl
     refine .c (Au some j)<|.aM 3 ?_;obtain rfl:=CP h;kernel_rfl
    refine .aM 1 ?_;obtain rfl:=CP h;kernel_rfl
  refine .aM 1 ?_;rw[←CP h];exact .ret (Ei [])
 refine AY<|DX h (λh=>?_) λh=>?_
 ·refine AP 2<|?_;obtain⟨x17,Y,h⟩:=Dn h;refine .mg 45 6 (Af x17) ?_ ?_
  ·replace h:=Y;cases ami with
   |true=>
    replace h:=Oy rfl h;refine .a 2<|?_;obtain⟨x19,Z,h⟩:=Dn h;refine .mg 47 3 (Af x19) ?_ ?_
    ·rcases ZR Z with⟨q,h⟩|⟨q,h⟩
     ·refine .c (Au some q)<|.aM 3 ?_;obtain rfl:=CP h;kernel_rfl
     refine .c (Au some q)<|.aM 3 ?_;obtain rfl:=CP h;kernel_rfl
    refine .aM 1 ?_;obtain rfl:=CP h;kernel_rfl
   |false=>
    replace h:=Oe rfl h;refine .aM 7 ?_;obtain rfl:=CP h;kernel_rfl
  refine .aM 1 ?_;rw[←CP h];exact .ret (Ei [])
 refine AY<|DX h (λh=>?_) λh=>?_
 ·refine AP 2<|?_;obtain⟨x22,aET,h⟩:=Dn h;refine .mg 56 11 (Af x22) ?_ ?_
  ·rcases ZR aET with⟨u,h⟩|⟨u,h⟩
   ·refine .c (Au some u)<|.a 2<|?_;obtain⟨x24,hx24,h⟩:=Dn h;refine .mg 59 3 (Af x24) ?_ ?_
    ·rcases ZR hx24 with⟨z,h⟩|⟨z,h⟩
     ·refine .c (Au some z)<|.aM 3 ?_;obtain rfl:=CP h;kernel_rfl
     refine .c (Au some z)<|.aM 3 ?_;obtain rfl:=CP h;kernel_rfl
    refine .a 1<|?_;obtain⟨TB,av9,h⟩:=Dn h;refine .mg 64 2 (Af TB) ?_ ?_
    ·replace h:=av9;cases x24 with
     |true=>
      replace h:=Oy rfl h;refine .aM 3 ?_;obtain rfl:=CP h;kernel_rfl
     |false=>
      replace h:=Oe rfl h;refine .aM 3 ?_;obtain rfl:=CP h;kernel_rfl
    refine .aM 1 ?_;obtain rfl:=CP h;kernel_rfl
   refine .c (Au some u)<|.aM 11 ?_;obtain rfl:=CP h;kernel_rfl
  refine .aM 1 ?_;rw[←CP h];exact .ret (Ei [])
 refine AY<|DX h (λh=>?_) λh=>?_
 ·refine BO<|.aM 3 ?_;rw[←CP h];exact .ret (Ei [])
 refine Ew<|BO<|.aM 1 ?_;rw[←CP h];exact .ret (Ei [])
def aJx (j:Ag)(k2:(Int->AB (Int×GH))):Int->AB (Int×GH):=λq=>(cond (q<(j.length:Int)) ((Aj j q).bind λu=>(cond (u.Kind==4) ((Aj j q).bind λz=>(Aj j q).bind λI=>(DC 16 [] I.Content.Allow).bind λJ=>some (z.Content.N,J)) (k2 (Az (q+1))))) (some (0,[])))
def aWQ (j:Ag):Int->AB (Int×GH):=bf (aJx j) Am
def aAq (j:Ag):AB (Int×GH):=aWQ j 0
def aYv :=Dc func386 rfl aAq BK (λr=>.eG [AX r.1,Hy r.2]) λq r h=>AY<|AZ<|AY<|Ai<|Dk (λu=>⟨BA 31 [(0,BK q),(4,AX u)],[],0⟩) _ _ _ (Ae []) h<|λu j z I h=>AZ<|AP 2<|.Z (BJ BH q)<|Bl h (λh=>AZ<|Ai<|AO h λu j h=>AP 2<|.Z (BF BH j)<|BG h (λh=>Gt h λu j z I J L h=>dM [VH 2 (Go.Op.indexAddr 22 (Go.Operand.tmp 17) (Go.Operand.tmp 18)) (λu es z=>ZF (k:=.i64) BH j MV Gx A8 z),XJ 6 (Go.Op.buildSlice 28 0 #[]) [] [(VP [])] (λu j=>aEG NZ zero9 A8 A8 (Dl A8) [] [] A8 A8 A8 A8 j),VH 9 (Go.Op.indexAddr 22 (Go.Operand.tmp 24) (Go.Operand.tmp 25)) (λu es j=>ZF (k:=.i64) BH I MV Gx A8 j),XJ 13 (Go.Op.call { callee:=(Go.Callee.builtin Go.Builtin.append),args:= #[(Go.Operand.tmp 23),(Go.Operand.tmp 29)],argTypes:= #[28,28] }) [(VP [])] [.dead,.dead] (λu j=>CB.thaw (k:=1) (e:=9) (s:=1) (xs:=List.map DT J) (es:=[(VP [])]) (es':=[.dead,(VP J)]) (DZ (k:=0) DT L NZ A8 (λ_=>rfl) Bd j) A8)] 137<|CW) λh=>VZ) λh=>EX
def a5L (j:Int)(q:Int):AB Int:=(cond (q==3) (some true) (some (j==1))).bind λu=>(cond u (some 0) ((cond (q==1) ((cond (j==0) (some true) (some (j==2))).bind λz=>(cond z (some true) (some (j==3))).bind λI=>some I) (some false)).bind λJ=>(cond J (some 0) (some 21))))
def abU :=DR func387 rfl a5L AX AX AX λu z r h=>AY<|AZ<|AP 2<|AO h λj q h=>.mg 7 3 (Af j) (.bi q)<|.aU<|BG h Bv λh=>AZ<|AP 2<|AO h λj q h=>.mg 13 11 (Af j) (.bi q (λh=>.a 2<|AO h λj q h=>.mg 16 3 (Af j) (.bi q)<|.a 1<|AO h λj q h=>.mg 21 2 (Af j) (Cc q)<|.aW<|Ce))<|.aU<|Ib
def a5Z (q:Int)(j:Int):AB Int:=(cond (q==2) ((cond (j==0) (some true) (some (j==2))).bind λu=>some u) (some false)).bind λz=>(cond z (some 0) (some 21))
def adf :=DR func388 rfl a5Z AX AX AX λj q r h=>AY<|AZ<|AP 2<|AO h λu z h=>.mg 7 7 (Af u) (.bi z (λh=>.a 2<|AO h λu z h=>.mg 10 3 (Af u) (.bi z)<|.aW<|Ce))<|.aU<|Ib
def aAW (q:Aa)(u:Ag)(j:Int):AB Int:=(aAq u).bind λz=>(cond (q.Content.N==3) ((a5L z.1 j).bind λI=>some I) (cond (q.Content.N==2) ((a5Z z.1 j).bind λJ=>some J) (some 0)))
def agQ :=MR func313 rfl aAW DV BK AX AX λz I j r h=>AY<|AO h λJ q h=>AP 1<|.X (aYv q)<|AZ<|AY<|BG h (λh=>AO h λq u h=>AP 2<|.X (abU u)<|CW) λh=>AZ<|AY<|BG h (λh=>AO h λq u h=>AP 2<|.X (adf u)<|CW) λh=>AY<|CW
def aBY (j:Aa)(u:Ag)(q:Int):AB Int:=(ni u j.bQ).bind λZ=>(cond (Z != 3) (some 18) ((pG u).bind λz=>(Tc z.1 j.bQ).bind λI=>(Tc z.1 j.Key).bind λY=>(cond (j.Content.N==1) (some (decide (I<z.1.gV))) (some false)).bind λx6=>(cond x6 (some 20) ((cond (j.Content.N==0) ((cond (q==4) (some (decide (I<z.1.oK))) (some false)).bind λJ=>(cond J (some true) (some (decide (I<z.1.kN)))).bind λL=>(cond L (some true) (some (decide (Y>=I)))).bind λM=>some M) (some false)).bind λx9=>(cond x9 (some 20) ((cond (j.Content.N==4) ((cond (I<z.1.oK) (some true) (some (decide (Y>=I)))).bind λO=>some O) (some false)).bind λU=>(cond U (some 20) (some 0))))))))
def afl :=MR func314 rfl aBY DV BK AX AX λz I u r h=>AY<|AZ<|AO h λq j h=>AP 3<|.X (aCM j)<|BG h Bv λh=>AO h λq j h=>AP 1<|.X (aLT j)<|Bo h λj J M L h=>El A8 A8 A8 (.a 3<|.ca (Zu J)<|.a 3<|.ca (Zu L)<|.a 2<|.nil _)<|AY<|AZ<|AP 2<|AO h λq j h=>.mg 35 5 (Af q) (.bi j)<|.aU<|BG h Bv λh=>AZ<|AP 2<|AO h λq j h=>.mg 43 20 (Af q) (.bi j (λh=>.a 2<|AO h λq j h=>.mg 46 5 (Af q) (.bi j)<|.a 1<|AO h λq j h=>.mg 53 4 (Af q) (Cc j)<|.a 1<|AO h λq j h=>.mg 59 3 (Af q) (Cc j)<|.aW<|Ce))<|.aU<|BG h Bv λh=>AZ<|AP 2<|AO h λq j h=>.mg 66 10 (Af q) (.bi j (λh=>.a 4<|AO h λq j h=>.mg 71 4 (Af q) (.bi j)<|.aW<|Ce))<|.aU<|Ib
def aAV (j:Aa)(q:Ag):AB Int:=(aAp j q).bind λJ=>(cond J (some 0) ((ni q j.Key).bind λu=>(cond (j.Key.toList==j.bQ.toList) (some (u==4)) (some false)).bind λL=>(cond L (some 19) ((WQ u j.Content.N (j.Key.toList==j.bQ.toList)).bind λM=>(cond (!M) (some 18) (cond (j.Key.toList==j.bQ.toList) ((aAW j q u).bind λz=>some z) ((aBY j q u).bind λI=>some I)))))))
def ajW :=DR func252 rfl aAV DV BK AX λu z r h=>AY<|AZ<|AO h λI j h=>AP 2<|.ca (aiG j)<|.aU<|BG h Bv λh=>AO h λI j h=>AP 3<|.X (aCM j)<|AY<|AZ<|AP 1<|AO h λj q h=>.mg 20 3 (Af j) (.bi q)<|.aU<|BG h Bv λh=>AZ<|AO h λj q h=>AP 5<|.X (agX q)<|BG h Bv λh=>AZ<|AY<|BG h (λh=>AO h λj q h=>AP 3<|.X (agQ q)<|CW) λh=>AO h λj q h=>AP 3<|.X (afl q)<|CW
def aDi (j:Cm)(q:Int)(k2:(Int->AB Int)):Int->AB Int:=λu=>(bif u<(j.Kinds.length:Int) then(Aj j.Kinds u).bind λz=>(cond (z.Kind==q) ((Aj j.Kinds u).bind λI=>some I.N) (k2 (Az (u+1))))else(UR q).bind λJ=>(cond J (some j.State) (some j.Message)))
def aRA (j:Cm)(q:Int):Int->AB Int:=bf (aDi j q) Am
def qN (j:Cm)(q:Int):AB Int:=aRA j q 0
def aCw :=DR func317 rfl qN IB AX AX λj u r h=>AY<|AZ<|AY<|Ai<|Dk (λz=>⟨BA 33 [(1,AX u),(2,.ptr 0 0),(5,AX z)],[.box (BI (F8 j))],0⟩) _ _ _ (Ae [AQ 0]) h<|λz q I J h=>AZ<|AP 3<|.Z (BJ Ey j.Kinds)<|Bl h (λh=>AZ<|Ai<|AO h λz q h=>AP 3<|.Z (BF Ey q)<|BG h (λh=>AO h λz q h=>AP 3<|.Z (BF Ey q)<|CW) λh=>bI) λh=>Cj<|AZ<|AO h λz q h=>AP 1<|.ca (ZO q)<|.aU<|Ib
def a5y (j:Cm):AB AU:=some [j.User,j.Message,j.State,j.gV,j.kN,j.oK,j.iq]
def aO4 :=Jv func390 rfl a5y IB Cb λj r h=>AP 1<|.f (CY 3 1)<|.aU<|AP 14<|.Y (GY Df zero3 [Ad j.User,Ad j.Message,Ad j.State,Ad j.gV,Ad j.kN,Ad j.oK,Ad j.iq])<|KH
def ku (j:Int)(u:Int)(q:Int):AB AV:=(cond (j==u) (some true) ((cond (j<=q) (some (decide (u<=q))) (some false)).bind λz=>some z)).bind λI=>some I
def aK8 :=MR func391 rfl ku AX AX AX Af λj u q r h=>AY<|AP 3<|AO h λz I h=>.mg 10 9 (Af z) (.bi I (k2:=λh=>.a 3<|AO h λz I h=>.mg 14 4 (Af z) (.bi I)<|.aW<|Ce))<|.aW<|CW
def oD (q:Cm)(z:Cm)(u:BL)(j:BL):AB AV:=(Tc q j).bind λJ=>(Tc q u).bind λI=>(Tc z u).bind λL=>(ku I L J).bind λM=>(cond M ((cond (I==L) (some true) (some (u.toList==j.toList))).bind λO=>(cond O (some true) (some (decide (I<J)))).bind λU=>some U) (some false)).bind λY=>some Y
def aQz {jP aCV aID azP r}(h:oD jP aCV aID azP=some r):Dw 392 [IB jP,IB aCV,D5 aID,D5 azP] [] (Af r) []:=ER func392 rfl<|AY<|Gt h λq j I u J z h=>El A8 A8 A8 (.a 2<|.ca (Zu j)<|.a 2<|.ca (Zu u)<|.a 2<|.ca (Zu z)<|.a 3<|.nil _)<|AO h λj u h=>AP 3<|.ca (aK8 u)<|.a 1<|AO h λq j h=>.mg 26 13 (Af q) (Cc j (λe i=>by subst e;have h:=i;exact .a 3<|AO h λq j h=>.mg 29 4 (Af q) (.bi j)<|.a 1<|AO h λq j h=>.mg 35 3 (Af q) (Cc j)<|.aW<|Ce))<|.aW<|CW
def a4T (j:Cm)(q:Cm)(O:Int)(z:(Int->AB Int))(I:Int)(u:Int):AB Int:=(qN j u).bind λJ=>(qN q u).bind λL=>(ku J L O).bind λM=>(cond (!M) (some 20) (z (Az (I+1))))
def aF2 (j:Cm)(u:Cm)(q:BL)(I:(Int->AB Int)):Int->AB Int:=λz=>(cond (z<(j.Users.length:Int)) ((Aj j.Users z).bind λJ=>(oD u j J.User q).bind λL=>(cond (!L) (some 20) (I (Az (z+1))))) (some 0))
def aHZ (q:Cm)(u:Cm)(j:BL):Int->AB Int:=bf (aF2 q u j) Am
def aF4 (j:Cm)(u:Cm)(q:BL)(I:(Int->AB Int)):Int->AB Int:=λz=>(cond (z<(j.Users.length:Int)) ((Aj j.Users z).bind λJ=>(oD j u J.User q).bind λL=>(cond (!L) (some 20) (I (Az (z+1))))) (aHZ u j q 0))
def aFq (q:Cm)(u:Cm)(j:BL):Int->AB Int:=bf (aF4 q u j) Am
def aDu (j:Cm)(q:Cm)(M:Int)(z:BL)(I:(Int->AB Int)):Int->AB Int:=λu=>(cond (u<(Az ((j.Kinds.length:Int)+(q.Kinds.length:Int)))) (cond (u<(j.Kinds.length:Int)) ((Aj j.Kinds u).bind λJ=>a4T j q M I u J.Kind) ((Aj q.Kinds (Az (u-(j.Kinds.length:Int)))).bind λL=>a4T j q M I u L.Kind)) (aFq j q z 0))
def aC2 (q:Cm)(u:Cm)(z:Int)(j:BL):Int->AB Int:=bf (aDu q u z j) Am
def aKx (I:AU)(L:AU)(J:Int)(q:Cm)(u:Cm)(j:BL)(M:(Int->AB Int)):Int->AB Int:=λz=>(cond (z<(I.length:Int)) ((Aj I z).bind λO=>(Aj L z).bind λU=>(ku O U J).bind λY=>(cond (!Y) (some 20) (M (Az (z+1))))) (aC2 q u J j 0))
def aWA (z:AU)(I:AU)(J:Int)(q:Cm)(u:Cm)(j:BL):Int->AB Int:=bf (aKx z I J q u j) Am
def aAC (j:Cm)(u:Cm)(q:BL):AB Int:=(Tc j q).bind λz=>(a5y j).bind λI=>(a5y u).bind λJ=>aWA I J z j u q 0
def aYC :=MR func318 rfl aAC IB IB D5 AX λj q u r h=>AY<|AO h λJ z h=>AP 2<|.X (Zu z)<|Bo h λz I M L h=>El A8 A8 A8 (.a 1<|.ca (aO4 I).view<|.a 1<|.ca (aO4 L).view<|.a 2<|.nil _)<|AZ<|AY<|Ai<|Dk (λI=>⟨BA 116 [(2,D5 u),(3,.ptr 0 0),(4,.ptr 1 0),(7,AX J),(8,Bf z),(9,Bf M),(10,AX I)],[.box (BI (F8 j)),.box (BI (F8 q))],0⟩) _ _ _ (Ae [AQ 0,AQ 1]) h<|λI M L U h=>AZ<|AP 2<|.Z (BJ Ad z)<|Bl h (λh=>AZ<|Ai<|Gt h λz I M U Z Y h=>El A8 A8 A8 (.a 2<|.p (BF Ad I)<|.a 3<|.p (BF Ad U)<|.a 2<|.ca (aK8 Y)<|.a 1<|.nil _)<|BG h Bv λh=>DI<|L _ _ (Ae [AQ 0,AQ 1]) h) λh=>Cj<|AZ<|AY<|Ai<|Dk (λz=>⟨BA 116 [(2,D5 u),(3,.ptr 0 0),(4,.ptr 1 0),(7,AX J),(11,AX z)],[.box (BI (F8 j)),.box (BI (F8 q))],0⟩) _ _ _ (Ae [AQ 0,AQ 1]) h<|λz I M L h=>AZ<|AP 3<|.p (BJ Ey j.Kinds)<|.a 2<|.Z (BJ Ey q.Kinds)<|Bl h (λh=>AZ<|Ai<|AY<|D9 (λs=>∃(O:Int),CO s ⟨BA 116 [(2,D5 u),(3,.ptr 0 0),(4,.ptr 1 0),(7,AX J),(11,AX L),(12,AX O)],[.box (BI (F8 j)),.box (BI (F8 q))],0⟩/\a4T j q J I L O=some r) (by rintro s ⟨O,hs,h⟩;exact DJ hs<|Gt h λz I L U Z Y h=>El A8 A8 A8 (.a 2<|.ca (aCw I)<|.a 2<|.ca (aCw U)<|.a 1<|.ca (aK8 Y)<|.a 1<|.nil _)<|BG h Bv λh=>DI<|M _ _ (Ae [AQ 0,AQ 1]) h)<|λJ=>AP 3<|.Z (BJ Ey j.Kinds)<|DX h (λh=>AO h λz I h=>CS<|.a 3<|.p (BF Ey I)<|.aN<|J _ ⟨z.Kind,Ae [AQ 0,AQ 1],h⟩) λh=>AO h λz I h=>CS<|.a 5<|.p (BJ Ey j.Kinds)<|.a 1<|.p (BF Ey I)<|.aN<|J _ ⟨z.Kind,Ae [AQ 0,AQ 1],h⟩) λh=>Cj<|AZ<|AY<|Ai<|Dk (λJ=>⟨BA 116 [(2,D5 u),(3,.ptr 0 0),(4,.ptr 1 0),(13,AX J)],[.box (BI (F8 j)),.box (BI (F8 q))],0⟩) _ _ _ (Ae [AQ 0,AQ 1]) h<|λJ z I M h=>AZ<|AP 3<|.Z (BJ F5 j.Users)<|Bl h (λh=>AZ<|Ai<|Bo h λJ z M L h=>El A8 A8 A8 (.a 5<|.p (BF F5 z)<|.a 3<|.ca (aQz L)<|.a 1<|.nil _)<|BG h Bv λh=>aDk) λh=>Cj<|AZ<|AY<|Ai<|Dk (λJ=>⟨BA 116 [(2,D5 u),(3,.ptr 0 0),(4,.ptr 1 0),(14,AX J)],[.box (BI (F8 j)),.box (BI (F8 q))],0⟩) _ _ _ (Ae [AQ 0,AQ 1]) h<|λJ z I M h=>AZ<|AP 3<|.Z (BJ F5 q.Users)<|Bl h (λh=>AZ<|Ai<|Bo h λJ z M L h=>El A8 A8 A8 (.a 5<|.p (BF F5 z)<|.a 3<|.ca (aQz L)<|.a 1<|.nil _)<|BG h Bv λh=>aDk) λh=>EX
def a5p (j:Aa)(q:Ag):AB Int:=(pG q).bind λu=>(Tc u.1 j.bQ).bind λz=>(qN u.1 j.Kind).bind λI=>(cond (z<I) (some 20) (cond (j.Kind==3) ((aAC u.1 j.Content.Levels j.bQ).bind λJ=>some J) (some 0)))
def abw :=DR func254 rfl a5p DV BK AX λu z r h=>AY<|AO h λJ j h=>AP 1<|.X (aLT j)<|AZ<|Bo h λj q L I h=>El A8 A8 A8 (.a 3<|.ca (Zu q)<|.a 3<|.ca (aCw I)<|.a 1<|.nil _)<|BG h Bv λh=>AZ<|AY<|BG h (λh=>AO h λj q h=>AP 6<|.X (aYC q)<|CW) λh=>AY<|CW
def aAh (j:AV):AB Int:=(cond j (some 0) (some 17))
def lC (j:Aa)(q:Ag):AB Int:=(zY q).bind λJ=>(cond (j.Kind==1) (cond (!J.2) ((qL j.bQ).bind λL=>(qL j.Room).bind λM=>aAh (L.toList==M.toList)) (aAh false)) (cond (!J.2) (some 17) (cond (j.Kind==2) ((aAV j q).bind λu=>some u) ((ni q j.bQ).bind λz=>(cond (z != 3) (some 18) ((a5p j q).bind λI=>some I))))))
def aDs :=DR func162 rfl lC DV BK AX λz I r h=>AY<|AO h λq j h=>AP 1<|.X (aVJ j)<|AZ<|AY<|BG h (λh=>AZ<|D9 (λs=>∃(u:AV),CO s ⟨BA 42 [(25,Af u)],[],0⟩/\aAh u=some r) (by rintro s ⟨u,hs,h⟩;exact DJ hs<|Ib)<|λq=>EI h (λj h=>Bo h λJ L M O h=>DU A8 A8 A8 (.a 2<|.c (Au some j)<|.a 2<|.ca (a1W L)<|.a 2<|.ca (a1W O)<|.a 2<|.nil _)<|q _ ⟨(J.toList==M.toList),Ae [],h⟩) λj h=>DU A8 A8 A8 (.a 2<|.c (Au some j)<|.a 8<|.nil _)<|q _ ⟨false,Ae [],h⟩) λh=>AZ<|AY<|BG h Bv λh=>AZ<|AY<|BG h (λh=>AO h λq j h=>AP 2<|.X (ajW j)<|CW) λh=>AZ<|AO h λq j h=>AP 3<|.X (aCM j)<|BG h Bv λh=>AO h λq j h=>AP 2<|.X (abw j)<|CW
def a13 (u:Int)(q:BL)(z:Int)(j:BL):AB AV:=(cond (u<z) (some true) ((cond (u==z) (some (Op.bytesLess (q.toList) (j.toList))) (some false)).bind λI=>some I)).bind λJ=>some J
def aZt {aES aCW aIE aww r}(h:a13 aES aCW aIE aww=some r):Dw 310 [AX aES,D5 aCW,AX aIE,D5 aww] [] (Af r) []:=ER func310 rfl<|AY<|AP 3<|AO h λj q h=>.mg 12 9 (Af j) (.bi q (k2:=λh=>.a 3<|AO h λj q h=>.mg 16 4 (Af j) (.bi q)<|.aW<|Ce))<|.aW<|CW
def a6I (j:Ba)(u:Ba)(z:Int):AB Ba:=(Hq j z ((j).length)).bind λI=>(DC 32 u I).bind λq=>some q
def Yu (k2:(Int->AB Ba))(z:Int)(j:Ba)(u:Int)(q:BL)(I:Int)(Y:AV):AB Ba:=(cond Y (k2 (Az (z+1))) ((Hq j 0 z).bind λZ=>(DC 32 [] Z).bind λx6=>(DC 32 x6 [(⟨u,q,I⟩:BM)]).bind λU=>(cond (z<(j.length:Int)) ((Aj j z).bind λJ=>some (J.Kind==u)) (some false)).bind λL=>(cond L ((Aj j z).bind λM=>some (M.Key.toList==q.toList)) (some false)).bind λO=>(cond O (a6I j U (Az (z+1))) (a6I j U z))))
def aDQ (q:Ba)(u:Int)(j:BL)(z:Int)(k2:(Int->AB Ba)):Int->AB Ba:=λI=>(cond (I<(q.length:Int)) ((Aj q I).bind λJ=>(Aj q I).bind λL=>(a13 J.Kind L.Key u j).bind λM=>Yu k2 I q u j z M) (Yu k2 I q u j z false))
def aNX (u:Ba)(z:Int)(j:BL)(q:Int):Int->AB Ba:=bf (aDQ u z j q) Am
def dQ (u:Ba)(z:Int)(j:BL)(q:Int):AB Ba:=aNX u z j q 0
def aIJ {ng QW BZ Xj r}(h:dQ ng QW BZ Xj=some r):Dw 250 [DY ng,AX QW,D5 BZ,AX Xj] [] (.aQ 0) [(KF r)]:=ER func250 rfl<|BO<|.f (CY 82 3)<|.aU<|AY<|AZ<|Ai<|Dk (λq=>⟨BA 73 [(0,DY ng),(1,AX QW),(2,D5 BZ),(3,AX Xj),(9,AX q)],[],0⟩) _ _ _ (Ae []) h<|λq j u z h=>AZ<|D9 (λs=>∃(I:AV),CO s ⟨BA 73 [(0,DY ng),(1,AX QW),(2,D5 BZ),(3,AX Xj),(9,AX z),(29,Af I)],[],0⟩/\Yu j z ng QW BZ Xj I=some r) (by rintro s ⟨I,hs,h⟩;exact DJ hs<|Bl h (λh=>Ai<|DI<|u _ _ (Ae []) h) λh=>Cj<|Bo h λq j u M h=>BO<|.f (GY LZ QM [])<|.a 2<|.p (Qq BR j (λ_=>rfl) xQ oV QV (λ_=>rfl) rfl)<|.Y (DZ (k:=0) BR M LZ A8 (λ_=>rfl) Bd)<|AO h λq j h=>AP 5<|.p (Dx LZ QM [BR (⟨QW,BZ,Xj⟩:BM)])<|.Y (DZ (k:=1) BR j LZ A8 (λ_=>rfl) Bd)<|D9 (λs=>∃(L:Int),CO s ⟨BA 73 [(0,DY ng),(9,AX L),(10,.aQ 0)],[(KF q)],0⟩/\a6I ng q L=some r) (by rintro s ⟨L,hs,h⟩;exact DJ hs<|Bo h λq j u z h=>AP 3<|.p (Qq BR j xQ (λ_=>rfl) oV QV (λ_=>rfl) rfl)<|.Y (DZ (k:=0) BR z LZ A8 (λ_=>rfl) Bd)<|JL)<|λq=>AP 2<|.p (BJ BR ng)<|.a 1<|AO h λj u h=>.mg 48 8 (Af j) (.bi u (λh=>AO h λq j h=>.a 2<|.Z (BF BR j)<|Ce))<|.a 1<|AO h λj u h=>.mg 58 7 (Af j) (Cc u (λe i=>by subst e;have h:=i;exact AO h λq j h=>.a 2<|.Z (BF BR j)<|Ce))<|.aU<|BG h (λh=>DI<|q _ ⟨(Az (z+1)),Ae [AQ 2],h⟩) λh=>q _ ⟨z,Ae [AQ 2],h⟩)<|λq=>EI h (λj h=>Gt h λu z M O U Y h=>DU A8 A8 A8 (.a 2<|.p (BJ BR ng)<|.a 1<|.c (Au some j)<|.a 2<|.p (BF BR z)<|.a 4<|.p (BF BR O)<|.a 4<|.ca (aZt Y)<|.a 1<|.nil _)<|q _ ⟨U,Ae [],h⟩) λj h=>DU A8 A8 A8 (.a 2<|.p (BJ BR ng)<|.a 1<|.c (Au some j)<|.a 14<|.nil _)<|q _ ⟨false,Ae [],h⟩
def aBZ (j:(Ba->Int->AB Ba))(q:Int)(u:Ba):AB Ba:=j u (Az (q+1))
def a04 (v2:Ba)(j:(Aa×AV))(z:(Ba->Int->AB Ba))(I:Int)(q:AV):AB Ba:=(cond q ((dQ v2 j.1.Kind j.1.Key j.1.Id).bind λu=>aBZ z I u) (aBZ z I v2))
def aGz (j:AU)(q:Ag)(I:(Ba->Int->AB Ba)):Ba->Int->AB Ba:=λv2 z=>(cond (z<(j.length:Int)) ((Aj j z).bind λO=>(Jc q O).bind λu=>(cond u.2 ((UR u.1.Kind).bind λJ=>(cond J ((aBf q v2 u.1).bind λL=>(lC u.1 L).bind λM=>a04 v2 u I z (M==0)) (a04 v2 u I z false))) (a04 v2 u I z false))) (some v2))
def aQ3 (j:AU)(q:Ag):Ba->Int->AB Ba:=aP (aGz j q) Am
def iO (q:Ag)(u:Ba)(j:AU):AB Ba:=(DC 32 [] u).bind λz=>aQ3 j q z 0
def aVY :=MR func363 rfl iO BK DY Bf DY λu rW j r h=>AY<|AO h λz q h=>BO<|.f (GY LZ QM [])<|.a 1<|.f (DZ (k:=0) BR q LZ A8 (λ_=>rfl) Bd)<|.conv _ (IQ (e:=82) (s:=3) 1 (xs:=List.map BR z) A8)<|.aW<|AZ<|AY<|Ai<|DW (λz q=>⟨BA 53 [(0,BK u),(2,Bf j),(7,DY z),(8,AX q)],[],0⟩) _ _ _ _ (Ae []) h<|λz q I M L h=>AZ<|AP 2<|.Z (BJ Ad j)<|Bl h (λh=>D9 (λs=>∃(O:(AA BM)),CO s ⟨BA 53 [(0,BK u),(2,Bf j),(7,DY O),(8,AX L)],[],0⟩/\aBZ q L O=some r) (by rintro s ⟨O,hs,h⟩;exact DJ hs<|yO)<|λz=>Ai<|Bo h λI U x7 Y h=>AP 3<|.p (BF Ad U)<|.a 1<|.X (KW Y)<|D9 (λs=>∃(J:AV),CO s ⟨BA 53 [(0,BK u),(2,Bf j),(7,DY M),(8,AX L),(9,.ptr 0 0),(43,Af J)],[.box (BI (BH x7.1))],0⟩/\a04 M x7 q L J=some r) (by rintro s ⟨J,hs,h⟩;exact DJ hs<|BG h (λh=>AO h λq I h=>CS<|.a 7<|.ca (aIJ I).view<|.aN<|z _ ⟨q,Ae [],h⟩) λh=>z _ ⟨M,Ae [],h⟩)<|λz=>EI h (λq h=>AO h λZ I h=>by cases Z with |true=>exact(have h:=Oy rfl h;Bo h λL U Y x9 h=>DU A8 A8 A8 (.a 1<|.c (Au some q)<|.a 2<|.ca (ZO I)<|.a 6<|.ca (akE U).view<|.ca (aDs x9)<|.a 2<|.nil _)<|z _ ⟨(Y==0),Ae [AQ 0],h⟩)|false=>exact(have h:=Oe rfl h;DU A8 A8 A8 (.a 1<|.c (Au some q)<|.a 2<|.ca (ZO I)<|.a 10<|.nil _)<|z _ ⟨false,Ae [AQ 0],h⟩)) λq h=>DU A8 A8 A8 (.a 1<|.c (Au some q)<|.a 13<|.nil _)<|z _ ⟨false,Ae [AQ 0],h⟩) λh=>EX
def aIj (j:Aa)(q:Ag)(k2:(Int->AB (Int×AV))):Int->AB (Int×AV):=λu=>(cond (u<(j.bJ.length:Int)) ((Aj j.bJ u).bind λI=>(Jc q I).bind λz=>(cond z.2 (some (z.1.Kind==3)) (some false)).bind λJ=>(cond J ((Aj j.bJ u).bind λL=>some (L,true)) (k2 (Az (u+1))))) (some (0,false)))
def aSh (j:Aa)(q:Ag):Int->AB (Int×AV):=bf (aIj j q) Am
def aAO (j:Ag)(q:Aa):AB (Int×AV):=aSh q j 0
def amf :=DR func424 rfl aAO BK DV (λr=>.eG [AX r.1,Af r.2]) λz j r h=>AY<|AZ<|AY<|Ai<|Dk (λq=>⟨BA 37 [(0,BK z),(3,.ptr 0 0),(6,AX q)],[.box (BI (BH j))],0⟩) _ _ _ (Ae [AQ 0]) h<|λq u I J h=>AZ<|AP 3<|.Z (BJ Ad j.bJ)<|Bl h (λh=>AZ<|Ai<|Bo h λq u J L h=>AP 4<|.p (BF Ad u)<|.a 1<|.X (KW L)<|AP 1<|AO h λq u h=>.mg 27 4 (Af q) (.bi u)<|.aU<|BG h (λh=>AO h λq u h=>AP 3<|.Z (BF Ad u)<|CW) λh=>bI) λh=>EX
def Zj (j:Ag)(L:(AU->Int->Int->AB AU)):AU->Int->Int->AB AU:=λz v2 I=>(cond (I<(j.length:Int)) ((Jc j v2).bind λJ=>(cond (!J.2) (some true) ((TV z v2).bind λM=>some M)).bind λO=>(cond O (some z) ((DC 8 z [v2]).bind λq=>(aAO j J.1).bind λu=>(cond (!u.2) (some q) (L q u.1 (Az (I+1))))))) (some z))
def aUV (j:Ag):AU->Int->Int->AB AU:=iK (Zj j) Am
def qY (q:Ag)(j:Int):AB AU:=aUV q [] j 0
def aQ5 :=G8 func365 rfl qY BK AX Cb λq u r h=>BO<|.f (CY 3 1)<|.aU<|BO<|.Y (GY Df zero3 [])<|AY<|AZ<|AY<|Ai<|Pv (λz j J=>⟨BA 49 [(0,BK q),(5,.aQ 0),(6,AX j),(7,AX J)],[(Cb z)],0⟩) _ _ _ _ _ (Ae [AQ 1]) h<|λz j J I L M h=>AZ<|AP 2<|.Z (BJ BH q)<|Bl h (λh=>AZ<|Ai<|AO h λz j h=>AP 2<|.X (KW j)<|AZ<|AP 2<|AO h λj M h=>.mg 28 4 (Af j) (.bi M (k2:=λh=>AO h λz j h=>.a 2<|.Z (x:=(Af z)) (bW (dY:=[.aQ 0,AX L]) (fE:=[.d (.sl (List.map Ad I)),AX L]) (XB j) aG6 rfl ⟨⟨3,1,_,A8,rfl⟩,rfl,trivial⟩ rfl)<|Ce))<|.aU<|BG h qB λh=>AO h λj I h=>AP 2<|.p (Dx Df zero3 [Ad L])<|.Y (DZ (k:=0) Ad I Df A8 (λ_=>rfl) Bd)<|AO h λj I h=>AP 2<|.X (amf I)<|AZ<|AY<|BG h (λh=>AY<|KH) λh=>DI<|DI<|J _ _ _ _ (Ae [AQ 2]) h) λh=>IW
def aCo (j:AU)(q:Int)(k2:(Int->AB Int)):Int->AB Int:=λu=>(cond (u<(j.length:Int)) ((Aj j u).bind λz=>(cond (z==q) (some u) (k2 (Az (u+1))))) (some (j.length:Int)))
def aUk (j:AU)(q:Int):Int->AB Int:=bf (aCo j q) Am
def aB4 (j:AU)(q:Int):AB Int:=aUk j q 0
def aa9 :=DR func455 rfl aB4 Bf AX AX λj q r h=>AY<|AZ<|AY<|Ai<|Dk (λu=>⟨BA 21 [(0,Bf j),(1,AX q),(5,AX u)],[],0⟩) _ _ _ (Ae []) h<|λu z I J h=>AZ<|AP 2<|.Z (BJ Ad j)<|Bl h (λh=>AZ<|Ai<|AO h λu z h=>AP 2<|.p (BF Ad z)<|vO) λh=>Cj<|AP 1<|.Z (BJ Ad j)<|CW
def aFp (q:AU)(j:AU)(k3:(Int->AB Int)):Int->AB Int:=λv2=>(cond (v2<(q.length:Int)) ((Aj q v2).bind λu=>(TV j u).bind λz=>(cond z ((Aj q v2).bind λI=>(aB4 j I).bind λJ=>some J) (k3 (Az (v2+1))))) (some (j.length:Int)))
def aVT (q:AU)(j:AU):Int->AB Int:=bf (aFp q j) Am
def a0j (u:Ag)(j:AU)(q:Int):AB Int:=(qY u q).bind λz=>aVT z j 0
def aUz :=MR func450 rfl a0j BK Bf AX AX λJ j z r h=>AY<|AO h λu q h=>AP 2<|.X (aQ5 q).view<|AZ<|AY<|Ai<|Dk (λq=>⟨BA 32 [(1,Bf j),(7,Bf u),(8,AX q)],[],0⟩) _ _ _ (Ae []) h<|λq L I M h=>AZ<|AP 2<|.Z (BJ Ad u)<|Bl h (λh=>AZ<|Ai<|Bo h λu q L M h=>AP 3<|.p (BF Ad q)<|.a 1<|.ca (XB M)<|.aU<|BG h (λh=>Bo h λu q L I h=>AP 3<|.p (BF Ad q)<|.a 1<|.X (aa9 I)<|CW) λh=>RY) λh=>Cj<|AP 1<|.Z (BJ Ad j)<|CW
def a5m (q:Ag)(j:AU)(u:Int)(z:Int):AB AV:=(a0j q j u).bind λI=>(a0j q j z).bind λJ=>(cond (I != J) (some (decide (I>J))) ((Jc q u).bind λL=>(Jc q z).bind λM=>(cond (L.1.Time != M.1.Time) (some (decide (L.1.Time<M.1.Time))) (some (decide (u<z))))))
def aez {cZ zx aIF aIG r}(h:a5m cZ zx aIF aIG=some r):Dw 425 [BK cZ,Bf zx,AX aIF,AX aIG] [] (Af r) []:=ER func425 rfl<|AY<|Bo h λq j z u h=>AP 3<|.ca (aUz j)<|.a 3<|.X (aUz u)<|AZ<|AY<|BG h Bv λh=>AO h λq j h=>AP 2<|.X (KW j)<|AO h λq j h=>AP 2<|.X (KW j)<|AZ<|AY<|Ib
def a0o (k3:(AU->Int->AB AU))(v2:Int)(j:AU):AB AU:=k3 j (Az (v2+1))
def wG (u:(Int->AB AU))(q:Int)(z:AU)(j:AU)(v2:Int)(k3:(AU->Int->AB AU))(I:AV):AB AU:=(cond I (u (Az (q+1))) ((Hq z q ((z).length)).bind λJ=>(DC 8 [] J).bind λL=>(Hq z 0 q).bind λM=>(Aj j v2).bind λO=>(DC 8 M [O]).bind λU=>(DC 8 U L).bind λY=>a0o k3 v2 Y))
def aJU (J:AU)(j:AU)(v2:Int)(z:Ag)(q:AU)(k3:(AU->Int->AB AU))(I:(Int->AB AU)):Int->AB AU:=λu=>(cond (u<(J.length:Int)) ((Aj J u).bind λL=>(Aj j v2).bind λM=>(a5m z q L M).bind λO=>wG I u J j v2 k3 O) (wG I u J j v2 k3 false))
def aSn (z:AU)(q:AU)(v2:Int)(u:Ag)(j:AU)(k3:(AU->Int->AB AU)):Int->AB AU:=bf (aJU z q v2 u j k3) Am
def aFW (j:AU)(u:Ag)(q:AU)(k3:(AU->Int->AB AU)):AU->Int->AB AU:=λz v2=>(cond (v2<(j.length:Int)) ((Aj j v2).bind λL=>(Jc u L).bind λM=>(cond (!M.2) (some true) ((Aj j v2).bind λI=>(TV z I).bind λJ=>some J)).bind λO=>(cond O (a0o k3 v2 z) (aSn z j v2 u q k3 0))) (some z))
def aUn (q:AU)(u:Ag)(j:AU):AU->Int->AB AU:=aP (aFW q u j) Am
def aBU (u:Ag)(j:AU)(q:AU):AB AU:=aUn q u j [] 0
def al2 {cZ zx kZ r}(h:aBU cZ zx kZ=some r):Dw 366 [BK cZ,Bf zx,Bf kZ] [] (.aQ 0) [(Cb r)]:=ER func366 rfl<|BO<|.f (CY 3 1)<|.aU<|BO<|.Y (GY Df zero3 [])<|AZ<|AY<|Ai<|DW (λq j=>⟨BA 76 [(0,BK cZ),(1,Bf zx),(2,Bf kZ),(7,.aQ 0),(8,AX j)],[(Cb q)],0⟩) _ _ _ _ (Ae [AQ 1]) h<|λq j u I z h=>AZ<|AP 2<|.Z (BJ Ad kZ)<|Bl h (λh=>D9 (λs=>∃(U:(AA Int)),CO s ⟨BA 76 [(0,BK cZ),(1,Bf zx),(2,Bf kZ),(7,.aQ 0),(8,AX z)],[(Cb U)],0⟩/\a0o j z U=some r) (by rintro s ⟨U,hs,h⟩;exact DJ hs<|xX)<|λq=>Ai<|Bo h λu J O L h=>AP 3<|.p (BF Ad J)<|.a 1<|.X (KW L)<|AZ<|AP 2<|AO h λu J h=>.mg 31 7 (Af u) (.bi J (k2:=λh=>Bo h λq j u z h=>.a 3<|.p (BF Ad j)<|.a 1<|.Z (x:=(Af u)) (bW (dY:=[.aQ 0,AX q]) (fE:=[.d (.sl (List.map Ad I)),AX q]) (XB z) aG6 rfl ⟨⟨3,1,_,A8,rfl⟩,rfl,trivial⟩ rfl)<|Ce))<|.aU<|BG h (λh=>Cj<|q _ ⟨I,Ae [AQ 0],h⟩) λh=>AY<|AZ<|Ai<|Dk (λq=>⟨BA 76 [(0,BK cZ),(1,Bf zx),(2,Bf kZ),(7,.aQ 0),(8,AX z),(11,AX q)],[(Cb I)],0⟩) _ _ _ (Ae [AQ 0]) h<|λu J O L h=>AZ<|D9 (λs=>∃(M:AV),CO s ⟨BA 76 [(0,BK cZ),(1,Bf zx),(2,Bf kZ),(7,.aQ 0),(8,AX z),(11,AX L),(55,Af M)],[(Cb I)],0⟩/\wG J L I kZ z j M=some r) (by rintro s ⟨M,hs,h⟩;exact DJ hs<|Bl h (λh=>Ai<|DI<|O _ _ (Ae [AQ 0]) h) λh=>Cj<|Bo h λj u z J h=>BO<|.f (GY Df zero3 [])<|.a 2<|.conv _ (IQ (e:=3) (s:=1) 0 (xs:=List.map Ad I) A8)<|.p (Qq Ad u (by intro Y;cases Y) (λ_=>rfl) Ij Em (λ_=>rfl) rfl)<|.f (DZ (k:=1) Ad J Df A8 (λ_=>rfl) Bd)<|.conv _ (IQ (e:=3) (s:=1) 2 (xs:=List.map Ad z) A8)<|.aW<|Gt h λj u I z J O h=>AO h λj L h=>Bh.aHO [VH 3 (Go.Op.slice 27 (Go.Operand.tmp 63) none (some (Go.Operand.tmp 64)) (some (Go.Operand.tmp 65))) (λq j I=>aHu Ad u Ij Em (λ_=>rfl) I),VH 6 (Go.Op.indexAddr 27 (Go.Operand.tmp 67) (Go.Operand.tmp 68)) (λq j u=>ZF (k:=.i64) Ad z Ij Em A8 u),VH 8 (Go.Op.buildSlice 27 1 #[(0,(Go.Operand.tmp 70))]) (λq j u=>aIA Df zero3 A8 A8 (Dl A8) [AX I] [Ad I] A8 A8 A8 A8 u),XJ 9 (Go.Op.call { callee:=(Go.Callee.builtin Go.Builtin.append),args:= #[(Go.Operand.tmp 66),(Go.Operand.tmp 71)],argTypes:= #[27,27] }) [.dead,.dead,.dead] [.dead,.dead,.dead,(Cb J)] (λq j=>akg Ad O (by intro Y;cases Y) Df (λ_=>rfl) Bd j),XJ 11 (Go.Op.call { callee:=(Go.Callee.builtin Go.Builtin.append),args:= #[(Go.Operand.tmp 72),(Go.Operand.tmp 73)],argTypes:= #[27,27] }) [.dead,.dead,.dead,(Cb J)] [.dead,.dead,.dead,.dead,(Cb j)] (λq j=>DZ (k:=3) Ad L Df A8 (λ_=>rfl) Bd j)] 129<|q _ ⟨j,Ae [AQ 4],h⟩)<|λq=>EI h (λj h=>Gt h λu z J O x9 Z h=>DU A8 A8 A8 (.a 2<|.p (Jq (k:=0) (e':=3) (s:=1) Ad I A8 Ij)<|.a 1<|.c (Au some j)<|.a 4<|.p (Hw (e':=3) (kd:=.i64) Ad z (k:=0) A8 Ij Em)<|.p (x:=(AX u)) (JZ (e:=3) (size:=1) (k:=0) (i:=(L).toNat) (off:=0) Ad A8 A8 (GZ z).2 Em (Dl A8) (λ_=>rfl))<|.a 2<|.p (BF Ad O)<|.a 1<|.ca (aez Z)<|.a 1<|.nil _)<|q _ ⟨x9,Ae [AQ 0],h⟩) λj h=>DU A8 A8 A8 (.a 2<|.p (Jq (k:=0) (e':=3) (s:=1) Ad I A8 Ij)<|.a 1<|.c (Au some j)<|.a 12<|.nil _)<|q _ ⟨false,Ae [AQ 0],h⟩) λh=>IW
def aIS (u:(Int->OX->AB OX)):Int->OX->AB OX:=λq j=>(cond (q<(j.Same.length:Int)) ((Aj j.Same q).bind λz=>(Aj j.Same q).bind λI=>(Aj j.Same q).bind λJ=>(dQ j.Last z.Kind I.Key J.Id).bind λL=>u (Az (q+1)) ({ j with Last:=L })) (some j))
def aRb  :Int->OX->AB OX:=aP (aIS) Am
def zD (J:AU)(L:AU)(j:Ag)(q:(Ba×AU))(u:AU)(z:Ba)(M:AU):AB OX:=(dU J L).bind λO=>(aBU j M O).bind λI=>(iO j (({ { { { Xq with Same:=q.1 }with Power:=u }with First:=z }with Others:=I }).First) (({ { { { Xq with Same:=q.1 }with Power:=u }with First:=z }with Others:=I }).Others)).bind λU=>aRb 0 ({ Same:=q.1,Power:=u,First:=z,Others:=I,Last:=U }:OX)
def a4q (j:Ag)(q:Fb):AB OX:=(xI q).bind λu=>(a1f j q).bind λJ=>(a0y j J).bind λL=>(a6x j L).bind λz=>(iO j (({ { Xq with Same:=u.1 }with Power:=z }).Same) (({ { Xq with Same:=u.1 }with Power:=z }).Power)).bind λM=>(pI (({ { { Xq with Same:=u.1 }with Power:=z }with First:=M }).First) 3 Ci).bind λI=>(cond I.2 ((qY j I.1).bind λO=>zD J L j u z M O) (zD J L j u z M []))
def acp :=DR func302 rfl a4q BK Ie (λr=>.d (aj r)) λI j r h=>AY<|AY<|AO h λu q h=>AP 1<|.f (x:=.eG [.aQ 2,.aQ 3]) (EL [] [Ie j] (aOU q))<|.a 2<|.conv _ (IQ (e:=82) (s:=3) 2 (xs:=List.map BR u.1) A8)<|.a 1<|.conv _ (IQ (e:=3) (s:=1) 3 (xs:=List.map Ad u.2) A8)<|.aW<|AO h λq J h=>AP 2<|.X (aZm J).view<|AO h λJ L h=>AP 2<|.X (aar L).view<|AO h λL z h=>AP 2<|.X (afg z).view<|AO h λz M h=>AP 5<|.X (aVY M)<|AY<|D9 (λs=>∃(U:(AA Int)),CO s ⟨BA 89 [(0,BK I),(4,.ptr 0 0),(5,.ptr 1 0),(6,Bf q),(7,Bf J),(8,Bf U)],[.box (BI (aj Xq)),.box (BI (aj ({ { { Xq with Same:=u.1 }with Power:=L }with First:=z })))],0⟩/\zD q J I u L z U=some r) (by rintro s ⟨U,hs,h⟩;exact DJ hs<|Bo h λu L z M h=>AP 4<|.ca (a3y L).view<|.X (al2 M).view<|AO h λu q h=>AP 5<|.X (aVY q)<|AZ<|AY<|Ai<|DW (λu q=>⟨BA 89 [(4,.ptr 0 0),(5,.ptr 1 0),(11,AX u)],[.box (BI (aj Xq)),.box (BI (aj q))],0⟩) _ _ _ _ (Ae [AQ 0,AQ 1]) h<|λu q J L z h=>AZ<|AP 3<|.Z (BJ BR z.Same)<|Bl h (λh=>AZ<|Ai<|Gt h λu q L M x7 Z h=>AO h λx9 Y h=>DU A8 A8 A8 (.a 5<|.p (BF BR q)<|.a 5<|.p (BF BR M)<|.a 5<|.p (BF BR Z)<|.a 2<|.ca (aIJ Y).view<|.a 2<|.nil _)<|yC) λh=>Cj<|AY<|Ep<|by rw[←CP h];exact⟨[.d (aj z)],[],⟨⟨0,BI (aj z),true,5,A8,A8,A8,aVp,Dl A8,Vm,A8⟩,trivial⟩,A8,A8,A8⟩)<|λO=>AO h λu q h=>AP 2<|.X (aHX q)<|AY<|BG h (λh=>AO h λq J h=>CS<|.a 2<|.ca (aQ5 J).view<|.aN<|O _ ⟨q,Ae [AQ 0,AQ 1],h⟩) λh=>O _ ⟨[],Ae [AQ 0,AQ 1],h⟩
def xF (q:Ag)(j:Fb):AB Ba:=(cond ((j.length:Int)==0) (some []) (cond ((j.length:Int)==1) ((Aj j 0).bind λu=>some u) ((a4q q j).bind λz=>some z.Last)))
def aVQ :=DR func244 rfl xF BK Ie DY λu j r h=>AY<|AZ<|AP 1<|.Z (BJ (BQ BR) j)<|BG h Bv λh=>AZ<|AP 1<|.Z (BJ (BQ BR) j)<|BG h (λh=>AO h λz q h=>AP 1<|.Z (BF (BQ BR) q)<|CW) λh=>AO h λz q h=>AP 2<|.X (acp q)<|CW
def yP (j:Ba)(u:Int)(q:BL)(k2:(Int->AB AV)):Int->AB AV:=λz=>(cond (z<(j.length:Int)) ((Aj j z).bind λI=>(cond (I.Kind==u) ((Aj j z).bind λJ=>some (J.Key.toList==q.toList)) (some false)).bind λL=>(cond L (some true) (k2 (Az (z+1))))) (some false))
def aEA (q:Ba)(u:Int)(j:BL):Int->AB AV:=bf (yP q u j) Am
def Yk (q:Ba)(u:Int)(j:BL):AB AV:=aEA q u j 0
def a0s :=MR func384 rfl Yk DY AX D5 Af λq I j r h=>AY<|AZ<|AY<|Ai<|Dk (λu=>⟨BA 30 [(0,DY q),(1,AX I),(2,D5 j),(7,AX u)],[],0⟩) _ _ _ (Ae []) h<|λu z J L h=>AZ<|AP 2<|.Z (BJ BR q)<|Bl h (λh=>AZ<|Ai<|AO h λu z h=>AP 2<|.p (BF BR z)<|.a 4<|AO h λu z h=>.mg 21 8 (Af u) (.bi z (λh=>AO h λu z h=>.a 2<|.Z (BF BR z)<|Ce))<|a5D) λh=>EX
def uT (M:Ag)(j:Int)(q:Ba)(u:(Ba->Int->AB Int))(z:AV):AB Int:=(cond z (some 16) ((Aj M j).bind λI=>(Aj M j).bind λJ=>(DC 32 q [(⟨I.Kind,J.Key,0⟩:BM)]).bind λL=>u L (Az (j+1))))
def aJ1 (u:Ag)(J:Ba)(z:Aa)(I:(Ba->Int->AB Int)):Ba->Int->AB Int:=λq j=>(bif j<(u.length:Int) then(Aj u j).bind λL=>(Aj u j).bind λM=>(Yk J L.Kind M.Key).bind λO=>(cond (!O) (uT u j q I true) ((Aj u j).bind λU=>(Aj u j).bind λY=>(Yk q U.Kind Y.Key).bind λZ=>uT u j q I Z))else(cond (z.Kind != 1) ((Yk q 1 Ci).bind λx33=>some (!x33)) (some false)).bind λx31=>(cond x31 (some 16) (some 0)))
def aKN (u:Ag)(q:Ba)(j:Aa):Ba->Int->AB Int:=aP (aJ1 u q j) Am
def aG1 (q:Ag)(j:Aa)(J:(Int->AB Int)):Int->AB Int:=λu=>(bif u<(q.length:Int) then(Aj q u).bind λz=>(cond (!(z.Room.toList==j.Room.toList)) (some 13) (J (Az (u+1))))else(jg j).bind λI=>aKN q I j [] 0)
def aKH (q:Ag)(j:Aa):Int->AB Int:=bf (aG1 q j) Am
def aKt (j:Aa)(q:Ag)(k2:(Int->AB Int)):Int->AB Int:=λu=>(bif u<(j.bJ.length:Int) then(Aj j.bJ u).bind λz=>(Jc q z).bind λI=>(cond (!I.2) (some 14) (k2 (Az (u+1))))else(og q j.bJ).bind λJ=>aKH J j 0)
def aM6 (j:Aa)(q:Ag):Int->AB Int:=bf (aKt j q) Am
def a3m (j:Ag)(q:Aa):AB Int:=aM6 q j 0
def aeD :=DR func308 rfl a3m BK DV AX λO u r h=>AY<|AZ<|AY<|Ai<|Dk (λj=>⟨BA 107 [(0,BK O),(3,.ptr 0 0),(5,AX j)],[.box (BI (BH u))],0⟩) _ _ _ (Ae [AQ 0]) h<|λj q I z h=>AZ<|AP 3<|.Z (BJ Ad u.bJ)<|Bl h (λh=>AZ<|Ai<|Bo h λj q z U h=>AP 4<|.p (BF Ad q)<|.a 1<|.X (KW U)<|qV) λh=>Cj<|AO h λj q h=>AP 3<|.X (aG5 q).view<|AZ<|AY<|Ai<|Dk (λq=>⟨BA 107 [(3,.ptr 0 0),(8,BK j),(9,AX q)],[.box (BI (BH u))],0⟩) _ _ _ (Ae [AQ 0]) h<|λq I z U h=>AZ<|AP 2<|.Z (BJ BH j)<|Bl h (λh=>AZ<|Ai<|AO h λj q h=>El A8 A8 A8 (.a 2<|.p (BF BH q)<|.a 5<|.nil _)<|BG h Bv λh=>DI<|z _ _ (Ae [AQ 0]) h) λh=>Cj<|AO h λq I h=>AP 1<|.X (aGm I).view<|BO<|.f (CY 82 3)<|.aU<|AZ<|AY<|Ai<|DW (λI z=>⟨BA 107 [(3,.ptr 0 0),(8,BK j),(10,DY q),(11,.aQ 1),(12,AX z)],[.box (BI (BH u)),(KF I)],0⟩) _ _ _ _ (Ae [AQ 0,AQ 1]) h<|λI z U J L h=>AZ<|AP 2<|.Z (BJ BH j)<|Bl h (λh=>AZ<|Ai<|AZ<|D9 (λs=>∃(M:AV),CO s ⟨BA 107 [(3,.ptr 0 0),(8,BK j),(10,DY q),(11,.aQ 1),(12,AX L),(84,Af M)],[.box (BI (BH u)),(KF J)],0⟩/\uT j L J z M=some r) (by rintro s ⟨M,hs,h⟩;exact DJ hs<|BG h Bv λh=>Gt h λj q I z J L h=>DU A8 A8 A8 (.a 3<|.p (BF BH q)<|.a 4<|.p (BF BH z)<|.a 3<|.p (Dx bZ QM [BR (⟨j.Kind,I.Key,0⟩:BM)])<|.f (DZ (k:=1) BR L bZ A8 (λ_=>rfl) Bd)<|.a 1<|.nil _)<|DI<|U _ _ _ (Ae [AQ 0,AQ 2]) h)<|λj=>Gt h λI z U L x8 x9 h=>EI h (λJ h=>DU A8 A8 A8 (.a 3<|.p (BF BH z)<|.a 4<|.p (BF BH L)<|.a 2<|.ca (a0s x9)<|.a 1<|.c (Au some J)<|.a 13<|.nil _)<|j _ ⟨true,Ae [AQ 0,AQ 1],h⟩) λx10 h=>Gt h λY x12 Z x14 x15 x16 h=>DU A8 A8 A8 (.a 3<|.p (BF BH z)<|.a 4<|.p (BF BH L)<|.a 2<|.ca (a0s x9)<|.a 1<|.c (Au some x10)<|.a 3<|.p (BF BH x12)<|.a 4<|.p (BF BH x14)<|.a 2<|.p (x:=(Af x15)) (bW (dY:=[.aQ 1,AX Y.Kind,D5 Z.Key]) (fE:=[.d (.sl (List.map BR J)),AX Y.Kind,D5 Z.Key]) (a0s x16) aV5 rfl ⟨⟨82,3,_,A8,rfl⟩,rfl,rfl,trivial⟩ rfl)<|.a 1<|.nil _)<|j _ ⟨x15,Ae [AQ 0,AQ 1],h⟩) λh=>Cj<|AZ<|AP 3<|AO h λj q h=>.mg 102 4 (Af j) (.bi q (λh=>AO h λj q h=>.a 1<|.Z (x:=(Af j)) (bW (dY:=[.aQ 1,AX 1,D5 Ci]) (fE:=[.d (.sl (List.map BR J)),AX 1,D5 Ci]) (a0s q) aV5 rfl ⟨⟨82,3,_,A8,rfl⟩,rfl,rfl,trivial⟩ rfl)<|Ce))<|.aU<|Ib
def a6u (k3:(Ag->Int->AB Ag))(v2:Int)(j:Ag):AB Ag:=k3 j (Az (v2+1))
def aKJ (j:Ba)(q:Ag)(k3:(Ag->Int->AB Ag)):Ag->Int->AB Ag:=λu v2=>(cond (v2<(j.length:Int)) ((Aj j v2).bind λJ=>(Jc q J.Id).bind λI=>(cond I.2 ((DC 376 u [I.1]).bind λz=>a6u k3 v2 z) (a6u k3 v2 u))) (some u))
def aSg (j:Ba)(q:Ag):Ag->Int->AB Ag:=aP (aKJ j q) Am
def aAr (j:Ag)(q:Ba):AB Ag:=aSg q j [] 0
def alh :=G8 func163 rfl aAr BK DY FV λq j r h=>BO<|.f (CY 38 29)<|.aU<|BO<|.Y (GY J7 Nz [])<|AZ<|AY<|Ai<|DW (λz u=>⟨BA 32 [(0,BK q),(1,DY j),(5,.aQ 0),(6,AX u)],[(FV z)],0⟩) _ _ _ _ (Ae [AQ 1]) h<|λz u I M J h=>AZ<|AP 2<|.Z (BJ BR j)<|Bl h (λh=>D9 (λs=>∃(L:(AA Aa)),CO s ⟨BA 32 [(0,BK q),(1,DY j),(5,.aQ 0),(6,AX J)],[(FV L)],0⟩/\a6u u J L=some r) aCy<|λz=>Ai<|Bo h λu I J O h=>AP 3<|.p (BF BR I)<|.a 2<|.X (KW O)<|AY<|BG h (λh=>AO h λu I h=>CS<|.a 2<|.p (Dx J7 Nz [BH J.1])<|.f (DZ (k:=0) BH I J7 A8 (λ_=>rfl) Bd)<|aLD) λh=>z _ ⟨M,Ae [AQ 0],h⟩) λh=>IW
def aXm (j:FY)(q:Int)(k3:(Int->IU->AB (IU×AV))):Int->IU->AB (IU×AV):=λu v2=>(cond (u<(j.length:Int)) ((Aj j u).bind λz=>(cond (z.Id==q) ((Aj j u).bind λI=>some (I,true)) (k3 (Az (u+1)) v2))) (some (Vd,false)))
def acL (q:FY)(j:Int):Int->IU->AB (IU×AV):=aP (aXm q j) Am
def aB6 (q:FY)(j:Int):AB (IU×AV):=acL q j 0 Vd
def aX7 {awD mO r}(h:aB6 awD mO=some r):Dw 155 [.aQ 0,AX mO] [(QE awD)] (.eG [Xv r.1,Af r.2]) [(QE awD)]:=ER func155 rfl<|AY<|AZ<|AY<|Ai<|DW (λj q=>⟨BA 25 [(0,.aQ 0),(1,AX mO),(4,.ptr 1 0),(6,AX j)],[(QE awD),.box (BI (LQ q))],1⟩) _ _ _ _ (Ae [AQ 0,AQ 1]) h<|λj q I z J h=>AZ<|AP 2<|.Z (Jq (k:=0) (e':=174) (s:=4) LQ awD A8 a2K)<|Bl h (λh=>AZ<|Ai<|AO h λj q h=>AP 2<|.p (Hw (e':=174) (kd:=.i64) LQ q (k:=0) A8 a2K Yw)<|.a 1<|.Z (x:=(AX j.Id)) (JZ (e:=174) (size:=4) (k:=0) (i:=(z).toNat) (off:=0) LQ A8 A8 (GZ q).2 Em (Dl A8) (λ_=>rfl))<|BG h (λh=>AO h λj q h=>AP 2<|.p (Hw (e':=174) (kd:=.i64) LQ q (k:=0) A8 a2K Yw)<|.Z (x:=(Xv j)) (JZ (e:=174) (size:=4) (k:=0) (i:=(z).toNat) (off:=0) LQ A8 A8 (GZ q).2 Yw (Dl A8) aHB rfl)<|Ep<|by rw[←CP h];exact⟨[Xv j,Af true],[AQ 0],⟨⟨1,BI (LQ j),true,4,A8,A8,A8,Yw,Dl A8,aHB,A8⟩,G7 A8,trivial⟩,A8,A8,A8⟩) λh=>aJ0) λh=>Cj<|AY<|Ep<|by rw[←CP h];exact⟨[Xv Vd,Af false],[AQ 0],⟨⟨1,BI (LQ Vd),true,4,A8,A8,A8,Yw,Dl A8,aHB,A8⟩,G7 A8,trivial⟩,A8,A8,A8⟩
def a1O (j:(Int->Int->AB Int))(q:Int)(u:Int):AB Int:=j u (Az (q+1))
def aLH (q:Aa)(u:FY)(z:Ag)(j:Ba)(Y:(Int->Int->AB Int)):Int->Int->AB Int:=λI J=>(cond (J<(q.bJ.length:Int)) ((Aj q.bJ J).bind λZ=>(aB6 u Z).bind λL=>(cond (I==0) (some (L.1.Err != 0)) (some false)).bind λM=>(cond M (a1O Y J 16) (a1O Y J I))) (cond (I != 0) (some I) ((aAr z j).bind λO=>(lC q O).bind λU=>some U)))
def aRW (q:Aa)(u:FY)(z:Ag)(j:Ba):Int->Int->AB Int:=aP (aLH q u z j) Am
def xK (q:Aa)(u:FY)(z:Ag)(j:Ba)(v2:Int):AB Int:=aRW q u z j v2 0
def a0g (u:Ag)(z:FY)(q:Aa)(j:Ba):AB Int:=(a3m u q).bind λL=>(cond (L==0) ((yE u q).bind λI=>(lC q I).bind λJ=>xK q z u j J) (xK q z u j L))
def ajA {cZ aot jA RF r}(h:a0g cZ aot jA RF=some r):Dw 248 [BK cZ,.aQ 0,DV jA,DY RF] [(QE aot)] (AX r) [(QE aot)]:=ER func248 rfl<|AY<|AO h λq j h=>AP 2<|.X (aeD j)<|D9 (λs=>∃(v2:Int),CO s ⟨BA 55 [(0,BK cZ),(1,.aQ 0),(3,DY RF),(6,.ptr 1 0),(9,AX v2)],[(QE aot),.box (BI (BH jA))],1⟩/\xK jA aot cZ RF v2=some r) (by rintro s ⟨v2,hs,h⟩;exact DJ hs<|AZ<|AY<|Ai<|DW (λq j=>⟨BA 55 [(0,BK cZ),(1,.aQ 0),(3,DY RF),(6,.ptr 1 0),(9,AX q),(10,AX j)],[(QE aot),.box (BI (BH jA))],1⟩) _ _ _ _ (Ae [AQ 0,AQ 1]) h<|λq j u I z h=>AZ<|AP 3<|.Z (BJ Ad jA.bJ)<|Bl h (λh=>D9 (λs=>∃(J:Int),CO s ⟨BA 55 [(0,BK cZ),(1,.aQ 0),(3,DY RF),(6,.ptr 1 0),(9,AX J),(10,AX z)],[(QE aot),.box (BI (BH jA))],1⟩/\a1O j z J=some r) (by rintro s ⟨J,hs,h⟩;exact DJ hs<|DI<|u _ _ _ (Ae [AQ 0,AQ 1]) h)<|λq=>Ai<|Bo h λj u z L h=>AP 4<|.p (BF Ad u)<|.a 1<|.Y (x:=.eG [Xv z.1,Af z.2]) (EL [.ent 0] [.aQ 0,AX j] (aX7 L))<|AP 2<|AO h λj u h=>.mg 42 4 (Af j) (.bi u)<|.aU<|BG h (λh=>DI<|q _ ⟨16,Ae [AQ 0,AQ 1],h⟩) λh=>q _ ⟨I,Ae [AQ 0,AQ 1],h⟩) λh=>Cj<|AZ<|AY<|BG h qB λh=>Bo h λq j u I h=>El A8 A8 A8 (.a 3<|.ca (alh j).view<|.ca (aDs I)<|.a 1<|.nil _)<|Ua)<|λj=>AY<|BG h (λh=>Bo h λq u I z h=>DU A8 A8 A8 (.a 3<|.ca (aPQ u).view<|.ca (aDs z)<|.a 1<|.nil _)<|j _ ⟨I,Ae [AQ 0,AQ 1],h⟩) λh=>j _ ⟨q,Ae [AQ 0,AQ 1],h⟩
def xC (z:(FY->Int->AB FY))(I:Int)(j:FY)(q:IU):AB FY:=(DC 64 j [q]).bind λu=>z u (Az (I+1))
def tH (z:Ag)(I:(Aa×AV))(O:(FY->Int->AB FY))(U:Int)(u:FY)(j:IU):AB FY:=(a0g z u I.1 j.Before).bind λq=>(cond ((({ { j with Err:=q }with After:=({ j with Err:=q }).Before }).Err)==0) ((UR I.1.Kind).bind λJ=>some J) (some false)).bind λL=>(cond L ((dQ (({ { j with Err:=q }with After:=({ j with Err:=q }).Before }).Before) I.1.Kind I.1.Key I.1.Id).bind λM=>xC O U u ({ { { j with Err:=q }with After:=({ j with Err:=q }).Before }with After:=M })) (xC O U u ({ { j with Err:=q }with After:=({ j with Err:=q }).Before })))
def aKD (u:(Aa×AV))(j:Ag)(Y:(FY->Int->AB FY))(Z:Int)(z:(Fb->Int->FY->AB FY)):Fb->Int->FY->AB FY:=λI J q=>(cond (J<(u.1.bG.length:Int)) ((Aj u.1.bG J).bind λL=>(aB6 q L).bind λM=>(DC 24 I [M.1.After]).bind λO=>z O (Az (J+1)) q) (cond ((I.length:Int)>0) ((xF j I).bind λU=>tH j u Y Z q ({ (⟨u.1.Id,[],[],0⟩:IU)with Before:=U })) (tH j u Y Z q (⟨u.1.Id,[],[],0⟩:IU))))
def aWG (q:(Aa×AV))(j:Ag)(u:(FY->Int->AB FY))(z:Int):Fb->Int->FY->AB FY:=iK (aKD q j u z) Am
def aH3 (u:AU)(j:Ag)(z:(FY->Int->AB FY)):FY->Int->AB FY:=λv2 q=>(cond (q<(u.length:Int)) ((Aj u q).bind λI=>(Jc j I).bind λJ=>aWG J j z q [] 0 v2) (some v2))
def aOb (q:AU)(j:Ag):FY->Int->AB FY:=aP (aH3 q j) Am
def a0K (j:Ag):AB FY:=(aC1 j).bind λq=>aOb q j [] 0
def aNB :=Jv func161 rfl a0K BK QE λq r h=>BO<|.f (CY 174 4)<|.aU<|BO<|.f (CY 174 4)<|.aU<|AO h λz j h=>AP 1<|.X (ae6 j).view<|AZ<|AY<|Ai<|DW (λj I=>⟨BA 95 [(0,BK q),(3,.aQ 0),(4,Bf z),(5,AX I)],[(QE j)],0⟩) _ _ _ _ (Ae [AQ 1]) h<|λj I L Y Z h=>AZ<|AP 2<|.Z (BJ Ad z)<|Bl h (λh=>AZ<|Ai<|Bo h λj Y O x8 h=>AP 3<|.p (BF Ad Y)<|.a 1<|.X (KW x8)<|BO<|.f (CY 41 1)<|.aU<|AZ<|AY<|Ai<|Pv (λj I L=>⟨BA 95 [(0,BK q),(3,.aQ 0),(4,Bf z),(5,AX Z),(6,.ptr 1 0),(8,.aQ 2),(9,AX I)],[(QE L),.box (BI (BH O.1)),.arr 41 1 (List.map (BQ BR) j)],0⟩) _ _ _ _ _ (Ae [AQ 0,AQ 1,AQ 2]) h<|λj Y x8 x9 x10 x11 h=>AZ<|AP 3<|.Z (BJ Ad O.1.bG)<|Bl h (λh=>AZ<|Ai<|Bo h λz j I L h=>AP 4<|.p (BF Ad j)<|.a 1<|.Y (x:=.eG [Xv I.1,Af I.2]) (EL [.ent 0] [.aQ 0,AX z] (aX7 L))<|AO h λz j h=>CS<|.a 3<|.p (Dx Zi Tq [(BQ BR) I.1.After])<|.f (DZ (k:=2) (BQ BR) j Zi A8 (λ_=>rfl) Bd)<|.aN<|DI<|x8 _ _ _ _ (Ae [AQ 0,AQ 1,AQ 4]) h) λh=>Cj<|AY<|D9 (λs=>∃(J:(AA IU)) (u:IU),CO s ⟨BA 95 [(0,BK q),(3,.aQ 0),(4,Bf z),(5,AX Z),(6,.ptr 1 0),(12,.ptr 2 0)],[(QE J),.box (BI (BH O.1)),.box (BI (LQ u))],0⟩/\tH q O I Z J u=some r) (by rintro s ⟨J,u,hs,h⟩;exact DJ hs<|AO h λj Y h=>AP 5<|.Y (x:=(AX j)) (EL [.ent 0] [BK q,.aQ 0,DV O.1,DY u.Before] (ajA Y))<|AY<|D9 (λs=>∃(U:(AA IU)) (M:IU),CO s ⟨BA 95 [(0,BK q),(3,.aQ 0),(4,Bf z),(5,AX Z),(12,.ptr 1 0)],[(QE U),.box (BI (LQ M))],0⟩/\xC I Z U M=some r) (by rintro s ⟨U,M,hs,h⟩;exact DJ hs<|AO h λz j h=>CS<|.a 2<|.p (Dx aNY aJq [LQ M])<|.f (DZ (k:=0) LQ j aNY A8 (λ_=>rfl) Bd)<|.aN<|DI<|L _ _ _ (Ae [AQ 2]) h)<|λz=>AP 3<|AO h λI L h=>.mg 75 4 (Af I) (.bi L (λh=>AO h λz j h=>.a 2<|.X (ZO j)<|Ce))<|.aU<|BG h (λh=>AO h λI L h=>CS<|.a 8<|.ca (aIJ L).view<|.aN<|z _ ⟨J,({ { { u with Err:=j }with After:=({ u with Err:=j }).Before }with After:=I }),Ae [AQ 0,AQ 2],h⟩) λh=>z _ ⟨J,({ { u with Err:=j }with After:=({ u with Err:=j }).Before }),Ae [AQ 0,AQ 2],h⟩)<|λz=>AP 1<|.Z (Jq (k:=2) (e':=41) (s:=1) (BQ BR) x9 A8 aDY)<|BG h (λh=>AO h λj I h=>CS<|.a 2<|.conv _ (IQ (e:=41) (s:=1) 2 (xs:=List.map (BQ BR) x9) A8)<|.ca (aVQ I)<|.aN<|z _ ⟨x11,({ (⟨O.1.Id,[],[],0⟩:IU)with Before:=j }),Ae [AQ 0,AQ 1,AQ 3],h⟩) λh=>z _ ⟨x11,(⟨O.1.Id,[],[],0⟩:IU),Ae [AQ 0,AQ 1,AQ 3],h⟩) λh=>IW
def YH (j:(Int->Int->AB Int))(q:Int)(u:Int):AB Int:=j u (Az (q+1))
def aFf (j:Ag)(M:FY)(J:(Int->Int->AB Int)):Int->Int->AB Int:=λv2 q=>(cond (q<(j.length:Int)) ((Aj j q).bind λO=>(Y5 M O.Id).bind λL=>(Aj j q).bind λu=>(cond (u.Kind==1) (some L.2) (some false)).bind λz=>(cond z (some (L.1.Err==0)) (some false)).bind λI=>(cond I (YH J q (Az (v2+1))) (YH J q v2))) (some v2))
def aSW (j:Ag)(q:FY):Int->Int->AB Int:=aP (aFf j q) Am
def a3E (j:Ag):AB Int:=(a0K j).bind λq=>aSW j q 0 0
def aYd :=Dc func153 rfl a3E BK AX λj r h=>AY<|AO h λu z h=>AP 1<|.X (aNB z).view<|AY<|AZ<|AY<|Ai<|DW (λz q=>⟨BA 43 [(0,BK j),(3,TI u),(4,AX z),(5,AX q)],[],0⟩) _ _ _ _ (Ae []) h<|λz q I M J h=>AZ<|AP 2<|.Z (BJ BH j)<|Bl h (λh=>D9 (λs=>∃(L:Int),CO s ⟨BA 43 [(0,BK j),(3,TI u),(4,AX L),(5,AX J)],[],0⟩/\YH q J L=some r) (by rintro s ⟨L,hs,h⟩;exact DJ hs<|yO)<|λz=>Ai<|Bo h λq I J O h=>AP 3<|.p (BF BH I)<|.a 2<|.X (a1R O)<|AO h λu q h=>AP 2<|.p (BF BH q)<|.a 3<|AO h λu q h=>.mg 32 2 (Af u) (.bi q)<|.a 1<|AO h λu q h=>.mg 36 3 (Af u) (Cc q)<|.aU<|BG h (λh=>DI<|z _ ⟨(Az (M+1)),Ae [],h⟩) λh=>z _ ⟨M,Ae [],h⟩) λh=>EX
def aLg (j:Ag):AB AV:=(SQ j).bind λq=>(cond (q==0) ((oM j).bind λu=>some (u==0)) (some false)).bind λz=>some z
def akA :=Dc func241 rfl aLg BK Af λu r h=>AY<|AO h λq j h=>AP 1<|.ca (aOG j)<|.a 1<|AO h λq j h=>.mg 6 4 (Af q) (.bi j (λh=>AO h λq j h=>.a 1<|.X (aRR j)<|Ce))<|.aW<|CW
def pV (j:Ag):AB FY:=(aLg j).bind λq=>(cond (!q) (some []) ((a0K j).bind λu=>some u))
def aLI :=Jv func154 rfl pV BK QE λj r h=>BO<|.f (CY 174 4)<|.aU<|AZ<|AO h λu q h=>AP 1<|.X (akA q)<|BG h (λh=>BO<|.f (CY 174 4)<|.aU<|JL) λh=>AO h λu q h=>AP 1<|.Y (x:=.aQ 1) (J9 [BK j] (aNB q))<|JL
def aEC (j:AU)(u:CJ)(q:Int)(k2:(Int->AB AV)):Int->AB AV:=λz=>(cond (z<(j.length:Int)) ((Aj j z).bind λJ=>(dG u J).bind λI=>(cond (!I.2) (some true) (some (decide (I.1.Pos>=q)))).bind λL=>(cond L (some false) (k2 (Az (z+1))))) (some true))
def aUW (j:AU)(u:CJ)(q:Int):Int->AB AV:=bf (aEC j u q) Am
def yh (u:CJ)(j:AU)(q:Int):AB AV:=aUW j u q 0
def am5 :=MR func156 rfl yh FP Bf AX Af λz j q r h=>AY<|AZ<|AY<|Ai<|Dk (λu=>⟨BA 33 [(1,Bf j),(2,AX q),(3,.ptr 0 0),(7,AX u)],[.box (BI (CZ z))],0⟩) _ _ _ (Ae [AQ 0]) h<|λu I L J h=>AZ<|AP 2<|.Z (BJ Ad j)<|Bl h (λh=>AZ<|Ai<|Bo h λu I J M h=>dM [VH 3 (Go.Op.indexAddr 27 (Go.Operand.tmp 18) (Go.Operand.tmp 19)) (λu L J=>ZF (k:=.i64) Ad I Ij Em A8 J),tJ 5 (a2s M) ac5] 36<|AP 2<|AO h λu I h=>.mg 27 5 (Af u) (.bi I)<|.aU<|BG h Bv λh=>DI<|L _ _ (Ae [AQ 0]) h) λh=>EX
def aFX (j:CJ)(x7:FY)(k9:(Int->AB AV)):Int->AB AV:=λu=>(cond (u<(j.Rows.length:Int)) ((Aj j.Rows u).bind λq=>(dG j q.Id).bind λI=>(Jc j.Events q.Id).bind λz=>(Y5 x7 q.Id).bind λJ=>(cond (!z.2) (some true) (some (q.Pos != u))).bind λL=>(cond L (some true) (some (I.1.Pos != u))).bind λM=>(cond M (some true) ((yh j z.1.bG u).bind λO=>some (!O))).bind λU=>(cond U (some true) ((yh j z.1.bJ u).bind λY=>some (!Y))).bind λZ=>(cond Z (some false) ((cond (!((J.1.Err != 0)==(q.Status==2))) (some true) ((cond (q.Status != 2) (some (q.Status != 3)) (some false)).bind λx28=>(cond x28 (some (q.Status != 4)) (some false)).bind λx30=>some x30)).bind λTB=>(cond TB (some false) (k9 (Az (u+1))))))) (some true))
def aVu (j:CJ)(q:FY):Int->AB AV:=bf (aFX j q) Am
def a2P (j:CJ):AB AV:=(cond ((j.Rows.length:Int) != (j.Events.length:Int)) (some true) (some (j.Next != (j.Rows.length:Int)))).bind λq=>(cond q (some true) ((a3E j.Events).bind λu=>some (decide (u>1)))).bind λz=>(cond z (some false) ((pV j.Events).bind λI=>aVu j I 0))
def agt :=Dc func79 rfl a2P FP Af λu r h=>AY<|AZ<|AP 2<|.p (BJ Ea u.Rows)<|.a 2<|.p (BJ BH u.Events)<|.a 1<|AO h λq j h=>.mg 19 7 (Af q) (.bi j (k2:=λh=>.a 4<|.Z (BJ Ea u.Rows)<|Ce))<|.a 1<|AO h λq j h=>.mg 28 4 (Af q) (Cc j (k2:=λe i=>by subst e;have h:=i;exact AO h λq j h=>.a 2<|.X (aYd j)<|Ce))<|.aU<|BG h Bv λh=>AO h λq j h=>AP 2<|.X (aLI j).view<|AZ<|AY<|Ai<|Dk (λj=>⟨BA 122 [(1,.ptr 0 0),(3,TI q),(4,AX j)],[.box (BI (CZ u))],0⟩) _ _ _ (Ae [AQ 0]) h<|λj z J M h=>AZ<|AP 3<|.Z (BJ Ea u.Rows)<|Bl h (λh=>AZ<|Ai<|AO h λj z h=>AP 3<|.Z (BF Ea z)<|AO h λz I h=>AP 3<|.X (a2s I)<|AO h λz I h=>AP 4<|.X (KW I)<|AO h λI L h=>AP 3<|.X (a1R L)<|AZ<|AP 2<|AO h λq j h=>.mg 72 5 (Af q) (.bi j)<|.a 1<|AO h λq j h=>.mg 79 4 (Af q) (Cc j)<|.a 1<|AO h λq j h=>.mg 85 6 (Af q) (Cc j (k2:=λe i=>aTY))<|.a 1<|AO h λq j h=>.mg 93 6 (Af q) (Cc j (k2:=λe i=>aTY))<|.aU<|BG h Bv λh=>AP 7<|AO h λq j h=>.mg 107 14 (Af q) (.bi j (k2:=λh=>.a 3<|AO h λq j h=>.mg 111 4 (Af q) (.bi j)<|.a 1<|AO h λq j h=>.mg 117 3 (Af q) (Cc j)<|.aW<|Ce))<|aLG) λh=>EX
def a5t (j:Ag)(q:Aa):AB AV:=(VK j q.bG).bind λu=>(cond ((u.length:Int)==0) ((VK j q.bJ).bind λz=>some ((z.length:Int)==0)) (some false)).bind λI=>some I
def afq :=DR func86 rfl a5t BK DV Af λu z r h=>AY<|AO h λj q h=>AP 3<|.ca (gW q).view<|.p (BJ Ad j)<|.a 1<|AO h λj q h=>.mg 11 7 (Af j) (.bi q (λh=>AO h λj q h=>.a 3<|.ca (gW q).view<|.Z (BJ Ad j)<|Ce))<|.aW<|CW
end
section
set_option maxRecDepth 20000
set_option maxHeartbeats 4000000
def aIi (j:CJ)(q:(Int->AB Int)):Int->AB Int:=λu=>(cond (u<(j.Waiting.length:Int)) ((Aj j.Waiting u).bind λz=>(a5t j.Events z).bind λI=>(cond I (some 26) (q (Az (u+1))))) (cond ((j.Waiting.length:Int)>200) (some 29) (some 0)))
def aDN (j:CJ):Int->AB Int:=bf (aIi j) Am
def aJL (j:CJ)(u:(Int->AB Int)):Int->AB Int:=λq=>(cond (q<(j.Waiting.length:Int)) ((Aj j.Waiting q).bind λz=>(Jc j.Events z.Id).bind λI=>(cond I.2 (some 4) (u (Az (q+1))))) (aDN j 0))
def a1y (j:CJ):Int->AB Int:=bf (aJL j) Am
def aKG (j:CJ):AB Int:=(gK j j.Waiting).bind λq=>(cond (q != 0) (some q) (a1y j 0))
def akl :=Dc func80 rfl aKG FP AX λj r h=>AY<|AO h λq u h=>AP 3<|.X (aRm u)<|AZ<|AY<|BG h Bv λh=>AZ<|AY<|Ai<|Dk (λq=>⟨BA 54 [(1,.ptr 0 0),(4,AX q)],[.box (BI (CZ j))],0⟩) _ _ _ (Ae [AQ 0]) h<|λq u I z h=>AZ<|AP 3<|.Z (BJ BH j.Waiting)<|Bl h (λh=>AZ<|Ai<|Bo h λq u z J h=>dM [VH 5 (Go.Op.indexAddr 22 (Go.Operand.tmp 26) (Go.Operand.tmp 27)) (λq I z=>ZF (k:=.i64) BH u MV Gx A8 z),tJ 8 (KW J) aYj] 66<|qV) λh=>Cj<|AZ<|AY<|Ai<|Dk (λq=>⟨BA 54 [(1,.ptr 0 0),(7,AX q)],[.box (BI (CZ j))],0⟩) _ _ _ (Ae [AQ 0]) h<|λq u I z h=>AZ<|AP 3<|.Z (BJ BH j.Waiting)<|Bl h (λh=>AZ<|Ai<|Bo h λq u z J h=>El A8 A8 A8 (.a 5<|.p (BF BH u)<|.a 1<|.ca (afq J)<|.nil _)<|BG h Bv λh=>bI) λh=>Cj<|AZ<|AP 2<|.Z (BJ BH j.Waiting)<|Ib
def a5W (k3:(AU->Int->AB AU))(v2:Int)(j:AU):AB AU:=k3 j (Az (v2+1))
def aDJ (j:Ag)(q:FY)(k3:(AU->Int->AB AU)):AU->Int->AB AU:=λu v2=>(cond (v2<(j.length:Int)) ((Aj j v2).bind λL=>(Y5 q L.Id).bind λJ=>(cond J.2 (some (J.1.Err==0)) (some false)).bind λM=>(cond M ((Aj j v2).bind λz=>(DC 8 u [z.Id]).bind λI=>a5W k3 v2 I) (a5W k3 v2 u))) (some u))
def aTh (j:Ag)(q:FY):AU->Int->AB AU:=aP (aDJ j q) Am
def a6Q (j:Ag)(q:FY):AB AU:=aTh j q [] 0
def aaK :=G8 func243 rfl a6Q BK TI Cb λj q r h=>BO<|.f (CY 3 1)<|.aU<|BO<|.f (CY 3 1)<|.aU<|AZ<|AY<|Ai<|DW (λI u=>⟨BA 40 [(0,BK j),(1,TI q),(5,.aQ 0),(6,AX u)],[(Cb I)],0⟩) _ _ _ _ (Ae [AQ 1]) h<|λI u z L J h=>AZ<|AP 2<|.Z (BJ BH j)<|Bl h (λh=>D9 (λs=>∃(M:(AA Int)),CO s ⟨BA 40 [(0,BK j),(1,TI q),(5,.aQ 0),(6,AX J)],[(Cb M)],0⟩/\a5W u J M=some r) (by rintro s ⟨M,hs,h⟩;exact DJ hs<|XC)<|λI=>Ai<|Bo h λu z J O h=>AP 3<|.p (BF BH z)<|.a 2<|.X (a1R O)<|AP 1<|AO h λu z h=>.mg 26 4 (Af u) (.bi z)<|.aU<|BG h (λh=>Bo h λu z L J h=>CS<|.a 3<|.p (BF BH z)<|.a 2<|.p (Dx Df zero3 [Ad u.Id])<|.f (DZ (k:=0) Ad J Df A8 (λ_=>rfl) Bd)<|.aN<|I _ ⟨L,Ae [AQ 2],h⟩) λh=>I _ ⟨L,Ae [AQ 0],h⟩) λh=>IW
def a5c (j:(AU->Int->AB AU))(q:Int)(u:AU):AB AU:=j u (Az (q+1))
def a4d (j:(AV->Int->AU->AB AU))(z:Int)(q:AV)(u:AU):AB AU:=j q (Az (z+1)) u
def dH (j:(AV->Int->AU->AB AU))(z:Int)(q:AU)(I:AV)(u:AV):AB AU:=(cond u (a4d j z false q) (a4d j z I q))
def aKg (L:AU)(z:Ag)(I:Int)(k4:(AU->Int->AB AU))(q:(AV->Int->AU->AB AU)):AV->Int->AU->AB AU:=λM u j=>(cond (u<(L.length:Int)) ((Aj L u).bind λO=>(Jc z O).bind λJ=>(cond J.2 (cond (u != I) ((Aj L I).bind λU=>(TV J.1.bG U).bind λY=>dH q u j M Y) (dH q u j M false)) (dH q u j M false))) (cond M ((Aj L I).bind λZ=>(DC 8 j [Z]).bind λx27=>a5c k4 I x27) (a5c k4 I j)))
def aNu (q:AU)(j:Ag)(u:Int)(z:(AU->Int->AB AU)):AV->Int->AU->AB AU:=iK (aKg q j u z) Am
def aEL (q:AU)(j:Ag)(z:(AU->Int->AB AU)):AU->Int->AB AU:=λv2 u=>(cond (u<(q.length:Int)) (aNu q j u z true 0 v2) (some v2))
def aWP (q:AU)(j:Ag):AU->Int->AB AU:=aP (aEL q j) Am
def aBF (q:Ag)(j:AU):AB AU:=(jr j).bind λu=>aWP u q [] 0
def akh :=G8 func242 rfl aBF BK Bf Cb λj I5 r h=>BO<|.f (CY 3 1)<|.aU<|AO h λu q h=>AP 1<|.X (aCa q).view<|BO<|.Y (GY Df zero3 [])<|AZ<|AY<|Ai<|DW (λq z=>⟨BA 60 [(0,BK j),(5,Bf u),(6,.aQ 0),(7,AX z)],[(Cb q)],0⟩) _ _ _ _ (Ae [AQ 1]) h<|λq z I J L h=>AZ<|AP 2<|.Z (BJ Ad u)<|Bl h (λh=>D9 (λs=>∃(v6:(AA Int)),CO s ⟨BA 60 [(0,BK j),(5,Bf u),(6,.aQ 0),(7,AX L)],[(Cb v6)],0⟩/\a5c z L v6=some r) (by rintro s ⟨v6,hs,h⟩;exact DJ hs<|Sl)<|λq=>Ai<|AY<|AZ<|AY<|Ai<|Pv (λq z I=>⟨BA 60 [(0,BK j),(5,Bf u),(6,.aQ 0),(7,AX L),(8,Af q),(9,AX z)],[(Cb I)],0⟩) _ _ _ _ _ (Ae [AQ 0]) h<|λz I J Y x8 Z h=>AZ<|AP 2<|.Z (BJ Ad u)<|Bl h (λh=>D9 (λs=>∃(M:AV) (O:(AA Int)),CO s ⟨BA 60 [(0,BK j),(5,Bf u),(6,.aQ 0),(7,AX L),(8,Af M),(9,AX x8)],[(Cb O)],0⟩/\a4d I x8 M O=some r) (by rintro s ⟨M,O,hs,h⟩;exact DJ hs<|DI<|J _ _ _ _ (Ae [AQ 0]) h)<|λq=>Ai<|Bo h λz J x10 x11 h=>AP 3<|.p (BF Ad J)<|.a 1<|.X (KW x11)<|D9 (λs=>∃(U:AV),CO s ⟨BA 60 [(0,BK j),(5,Bf u),(6,.aQ 0),(7,AX L),(8,Af Y),(9,AX x8),(50,Af U)],[(Cb Z)],0⟩/\dH I x8 Z Y U=some r) (by rintro s ⟨U,hs,h⟩;exact DJ hs<|BG h (λh=>DI<|q _ ⟨false,Z,Ae [AQ 0],h⟩) λh=>q _ ⟨Y,Z,Ae [AQ 0],h⟩)<|λu=>EI h (λq h=>EI h (λz h=>Bo h λI J L Y h=>DU A8 A8 A8 (.a 1<|.c (Au some q)<|.a 4<|.c (Au some z)<|.a 4<|.p (BF Ad J)<|.a 1<|.ca (XB Y)<|.a 1<|.nil _)<|u _ ⟨L,Ae [AQ 0],h⟩) λz h=>DU A8 A8 A8 (.a 1<|.c (Au some q)<|.a 4<|.c (Au some z)<|.a 8<|.nil _)<|u _ ⟨false,Ae [AQ 0],h⟩) λq h=>DU A8 A8 A8 (.a 1<|.c (Au some q)<|.a 13<|.nil _)<|u _ ⟨false,Ae [AQ 0],h⟩) λh=>Cj<|AY<|BG h (λh=>Bo h λu z I J h=>CS<|.a 3<|.p (BF Ad z)<|.a 1<|.p (Dx Df zero3 [Ad u])<|.f (DZ (k:=0) Ad J Df A8 (λ_=>rfl) Bd)<|.aN<|q _ ⟨I,Ae [AQ 1],h⟩) λh=>q _ ⟨Z,Ae [AQ 0],h⟩) λh=>IW
def zQ (j:Ag)(q:FY):AB AU:=(a6Q j q).bind λu=>(aBF j u).bind λz=>some z
def aLx :=G8 func157 rfl zQ BK TI Cb λj q r h=>BO<|.f (CY 3 1)<|.aU<|Bo h λu z J I h=>AP 3<|.ca (aaK z).view<|.Y (x:=.aQ 1) (J9 [BK j,Bf u] (akh I))<|JL
def sG (j:Ag):AB AU:=(pV j).bind λq=>(zQ j q).bind λu=>some u
def aUa :=Jv func81 rfl sG BK Cb λj r h=>BO<|.f (CY 3 1)<|.aU<|Bo h λq u I z h=>AP 2<|.ca (aLI u).view<|.Y (x:=.aQ 1) (J9 [BK j,TI q] (aLx z))<|JL
def qP (j:AU)(q:AU)(k3:(Int->AB AV)):Int->AB AV:=λv2=>(cond (v2<(j.length:Int)) ((Aj j v2).bind λu=>(Aj q v2).bind λz=>(cond (u != z) (some false) (k3 (Az (v2+1))))) (some true))
def aJT (j:AU)(q:AU):Int->AB AV:=bf (qP j q) Am
def Rx (j:AU)(q:AU):AB AV:=(cond ((j.length:Int) != (q.length:Int)) (some false) (aJT j q 0))
def pR :=DR func37 rfl Rx Bf Bf Af λj q r h=>AY<|AZ<|AP 1<|.p (BJ Ad j)<|.a 1<|.Z (BJ Ad q)<|BG h Bv λh=>AZ<|AY<|Ai<|Dk (λu=>⟨BA 26 [(0,Bf j),(1,Bf q),(5,AX u)],[],0⟩) _ _ _ (Ae []) h<|λu z I J h=>AZ<|AP 2<|.Z (BJ Ad j)<|Bl h (λh=>AZ<|Ai<|Bo h λu z J L h=>El A8 A8 A8 (.a 2<|.p (BF Ad z)<|.a 3<|.p (BF Ad L)<|.a 2<|.nil _)<|BG h Bv λh=>RY) λh=>EX
def aJM (I:AU)(j:FY)(q:Ag)(J:(Fb->Int->AB Ba)):Fb->Int->AB Ba:=λv2 u=>(cond (u<(I.length:Int)) ((Aj I u).bind λL=>(Y5 j L).bind λM=>(DC 24 v2 [M.1.After]).bind λO=>J O (Az (u+1))) (cond ((v2.length:Int)==0) (some []) ((xF q v2).bind λz=>some z)))
def aTB (u:AU)(j:FY)(q:Ag):Fb->Int->AB Ba:=aP (aJM u j q) Am
def a4Z (j:Ag)(q:FY):AB Ba:=(zQ j q).bind λu=>aTB u q j [] 0
def adZ :=DR func158 rfl a4Z BK TI DY λq u r h=>AY<|AO h λz j h=>AP 2<|.X (aLx j).view<|BO<|.f (CY 41 1)<|.aU<|AZ<|AY<|Ai<|DW (λj I=>⟨BA 39 [(0,BK q),(1,TI u),(5,Bf z),(6,.aQ 0),(7,AX I)],[.arr 41 1 (List.map (BQ BR) j)],0⟩) _ _ _ _ (Ae [AQ 0]) h<|λj I L J M h=>AZ<|AP 2<|.Z (BJ Ad z)<|Bl h (λh=>AZ<|Ai<|Bo h λz j I J h=>AP 3<|.p (BF Ad j)<|.a 1<|.X (a1R J)<|AO h λz j h=>CS<|.a 3<|.p (Dx Zi Tq [(BQ BR) I.1.After])<|.f (DZ (k:=0) (BQ BR) j Zi A8 (λ_=>rfl) Bd)<|.aN<|DI<|L _ _ _ (Ae [AQ 2]) h) λh=>Cj<|AZ<|AP 1<|.Z (Jq (k:=0) (e':=41) (s:=1) (BQ BR) J A8 aDY)<|BG h Bv λh=>AO h λz j h=>AP 2<|.conv _ (IQ (e:=41) (s:=1) 0 (xs:=List.map (BQ BR) J) A8)<|.X (aVQ j)<|CW
def a6G (j:Ag):AB Ba:=(pV j).bind λq=>(a4Z j q).bind λu=>some u
def ahW :=Dc func82 rfl a6G BK DY λj r h=>AY<|Bo h λz q I u h=>AP 2<|.ca (aLI q).view<|.X (adZ u)<|CW
def dV (k3:(Int->AB AV))(v2:Int)(j:AV):AB AV:=(cond j (some false) (k3 (Az (v2+1))))
def YQ (j:Ba)(q:Ba)(k3:(Int->AB AV)):Int->AB AV:=λv2=>(cond (v2<(j.length:Int)) ((Aj j v2).bind λL=>(Aj q v2).bind λM=>(cond (L.Kind != M.Kind) (dV k3 v2 true) ((Aj j v2).bind λu=>(Aj q v2).bind λz=>(cond (!(u.Key.toList==z.Key.toList)) (dV k3 v2 true) ((Aj j v2).bind λI=>(Aj q v2).bind λJ=>dV k3 v2 (I.Id != J.Id)))))) (some true))
def a6D (j:Ba)(q:Ba):Int->AB AV:=bf (YQ j q) Am
def UF (j:Ba)(q:Ba):AB AV:=(cond ((j.length:Int) != (q.length:Int)) (some false) (a6D j q 0))
def aTR :=DR func71 rfl UF DY DY Af λj q r h=>AY<|AZ<|AP 1<|.p (BJ BR j)<|.a 1<|.Z (BJ BR q)<|BG h Bv λh=>AZ<|AY<|Ai<|Dk (λI=>⟨BA 54 [(0,DY j),(1,DY q),(5,AX I)],[],0⟩) _ _ _ (Ae []) h<|λI z J u h=>AZ<|AP 2<|.Z (BJ BR j)<|Bl h (λh=>AZ<|Ai<|D9 (λs=>∃(L:AV),CO s ⟨BA 54 [(0,DY j),(1,DY q),(5,AX u),(53,Af L)],[],0⟩/\dV z u L=some r) (by rintro s ⟨L,hs,h⟩;exact DJ hs<|BG h Bv λh=>UH)<|λI=>Bo h λz J u M h=>EI h (λz h=>DU A8 A8 A8 (.a 2<|.p (BF BR J)<|.a 4<|.p (BF BR M)<|.a 3<|.c (Au some z)<|.a 25<|.nil _)<|I _ ⟨true,Ae [],h⟩) λz h=>Bo h λu Y Z x8 h=>EI h (λu h=>DU A8 A8 A8 (.a 2<|.p (BF BR J)<|.a 4<|.p (BF BR M)<|.a 3<|.c (Au some z)<|.a 2<|.p (BF BR Y)<|.a 4<|.p (BF BR x8)<|.a 4<|.c (Au some u)<|.a 12<|.nil _)<|I _ ⟨true,Ae [],h⟩) λu h=>Bo h λZ x9 O U h=>DU A8 A8 A8 (.a 2<|.p (BF BR J)<|.a 4<|.p (BF BR M)<|.a 3<|.c (Au some z)<|.a 2<|.p (BF BR Y)<|.a 4<|.p (BF BR x8)<|.a 4<|.c (Au some u)<|.a 2<|.p (BF BR x9)<|.a 4<|.p (BF BR U)<|.a 4<|.nil _)<|I _ ⟨(Z.Id != O.Id),Ae [],h⟩) λh=>EX
def aD2 (j:AV):AB Int:=(cond j (some 6) (some 0))
def jv (j:CJ)(J:Int):AB Int:=(cond (J != 0) (some J) ((a2P j).bind λM=>(cond (!M) (some 6) ((aKG j).bind λL=>(cond (L != 0) (some L) ((sG j.Events).bind λq=>(Rx j.mJ q).bind λu=>(cond (!u) (aD2 true) ((a6G j.Events).bind λz=>(UF j.State z).bind λI=>aD2 (!I)))))))))
def a0b (j:CJ):AB Int:=(Zq j.Id).bind λz=>(cond (z != 0) (some 3) ((gK j j.Events).bind λu=>(cond (u==0) ((oM j.Events).bind λq=>jv j q) (jv j u))))
def a6O :=Dc func24 rfl a0b FP AX λu r h=>AY<|AZ<|AO h λq j h=>AP 2<|.X (a1U j)<|BG h Bv λh=>AO h λq j h=>AP 3<|.X (aRm j)<|D9 (λs=>∃(J:Int),CO s ⟨BA 44 [(1,.ptr 0 0),(3,AX J)],[.box (BI (CZ u))],0⟩/\jv u J=some r) (by rintro s ⟨J,hs,h⟩;exact DJ hs<|AZ<|AY<|BG h Bv λh=>AZ<|AO h λq j h=>AP 1<|.X (agt j)<|BG h Bv λh=>AO h λq j h=>AP 1<|.X (akl j)<|AZ<|AY<|BG h Bv λh=>AZ<|D9 (λs=>∃(z:AV),CO s ⟨BA 44 [(43,Af z)],[],0⟩/\aD2 z=some r) aP4<|λq=>Bo h λj I Z O h=>EI h (λL h=>DU A8 A8 A8 (.a 4<|.ca (aUa I).view<|.ca (pR O)<|.a 1<|.c (Au some L)<|.a 8<|.nil _)<|q _ ⟨true,Ae [],h⟩) λL h=>Bo h λx7 U Y M h=>DU A8 A8 A8 (.a 4<|.ca (aUa I).view<|.ca (pR O)<|.a 1<|.c (Au some L)<|.a 4<|.ca (ahW U)<|.ca (aTR M)<|.a 2<|.nil _)<|q _ ⟨(!Y),Ae [],h⟩)<|λj=>AY<|BG h (λh=>AO h λq I h=>CS<|.a 2<|.ca (aRR I)<|.aN<|j _ ⟨q,Ae [AQ 0],h⟩) λh=>j _ ⟨q,Ae [AQ 0],h⟩
def aJk (q:Aa)(j:BL):AB Aa:=(zN q).bind λu=>(ug ({ q with Hash:=u })).bind λz=>some ({ { { q with Hash:=u }with Id:=z }with nM:=(⟨j,({ { q with Hash:=u }with Id:=z }).Id⟩:OW) })
def aR6 :=DR func55 rfl aJk DV D5 DV λq j r h=>AY<|AO h λz u h=>AP 1<|.X (aQu u)<|AO h λu I h=>AP 1<|.X (aWE I)<|AY<|AY<|Ep<|by rw[←CP h];exact⟨[DV ({ { { q with Hash:=z }with Id:=u }with nM:=(⟨j,({ { q with Hash:=z }with Id:=u }).Id⟩:OW) })],[],⟨⟨1,BI (BH ({ { { q with Hash:=z }with Id:=u }with nM:=(⟨j,({ { q with Hash:=z }with Id:=u }).Id⟩:OW) })),true,29,A8,A8,A8,Gx,Dl A8,xQ,A8⟩,trivial⟩,A8,A8,A8⟩
def a1T (I:Aa)(k3:(Int->(AA (Int×AV))->AB AU))(J:Int)(u:(Int->(AA (Int×AV))->AB AU)):Int->(AA (Int×AV))->AB AU:=λj q=>(cond (j<(I.bJ.length:Int)) ((Aj I.bJ j).bind λz=>u (Az (j+1)) (Dy q z true)) (k3 (Az (J+1)) q))
def aLh (j:Aa)(k3:(Int->(AA (Int×AV))->AB AU))(q:Int):Int->(AA (Int×AV))->AB AU:=aP (a1T j k3 q) Am
def a6L (j:Aa)(k3:(Int->(AA (Int×AV))->AB AU))(I:Int)(J:(Int->(AA (Int×AV))->AB AU)):Int->(AA (Int×AV))->AB AU:=λq z=>(cond (q<(j.bG.length:Int)) ((Aj j.bG q).bind λu=>J (Az (q+1)) (Dy z u true)) (aLh j k3 I 0 z))
def aVc (j:Aa)(k3:(Int->(AA (Int×AV))->AB AU))(q:Int):Int->(AA (Int×AV))->AB AU:=aP (a6L j k3 q) Am
def a4U (j:Ag)(k3:(Int->(AA (Int×AV))->AB AU)):Int->(AA (Int×AV))->AB AU:=λq v2=>(cond (q<(j.length:Int)) ((Aj j q).bind λz=>aVc z k3 q 0 v2) ((WS v2).bind λu=>some u))
def aOW (j:Ag):Int->(AA (Int×AV))->AB AU:=aP (a4U j) Am
def a0e (j:Ag):AB AU:=aOW j 0 []
def aWq :=Jv func108 rfl a0e BK Cb λj r h=>BO<|.f (CY 3 1)<|.aU<|BO<|.Y (x:=.mp 1) pW<|AZ<|AP 1<|.Z (BJ BH j)<|Ai<|DW (λq u=>⟨BA 40 [(3,.mp 0),(11,BK j),(12,AX (j.length:Int)),(13,AX q)],[.map (List.map (CQ D6 Dt) u)],0⟩) _ _ _ _ (Ae [AQ 1]) h<|λq u z I L h=>AY<|AZ<|Bl h (λh=>AZ<|Ai<|AO h λq u h=>BO<|.Z (BF BH u)<|AZ<|AP 2<|.Z (BJ Ad q.bG)<|Ai<|DW (λu z=>⟨BA 40 [(3,.mp 0),(5,.ptr 1 0),(11,BK j),(12,AX (j.length:Int)),(13,AX I),(18,Bf q.bG),(19,AX (q.bG.length:Int)),(20,AX u)],[.map (List.map (CQ D6 Dt) z),.box (BI (BH q))],0⟩) _ _ _ _ (Ae [AQ 0,AQ 1]) h<|λu L J O M h=>AY<|AZ<|Bl h (λh=>AZ<|Ai<|AO h λq u h=>BO<|.Z (BF Ad u)<|CS<|.a 2<|.f (WT (k:=0) (key:=q) (val:=true) (m:=M) Dt Pq Gq A8)<|.nil<|yC) λh=>Cj<|AP 2<|.Z (BJ Ad q.bJ)<|Ai<|DW (λu z=>⟨BA 40 [(3,.mp 0),(11,BK j),(12,AX (j.length:Int)),(13,AX I),(28,Bf q.bJ),(29,AX (q.bJ.length:Int)),(30,AX u)],[.map (List.map (CQ D6 Dt) z)],0⟩) _ _ _ _ (Ae [AQ 0]) h<|λq u I L J h=>AY<|AZ<|Bl h (λh=>AZ<|Ai<|AO h λq u h=>BO<|.Z (BF Ad u)<|CS<|.a 2<|.f (WT (k:=0) (key:=q) (val:=true) (m:=J) Dt Pq Gq A8)<|.nil<|Sl) λh=>Cj<|XC) λh=>Cj<|AO h λq u h=>AP 1<|.Y (x:=.aQ 1) (EL [.ent 0] [.mp 0] (aUQ u))<|JL
def dD (j:CJ):AB AU:=(a0e j.Events).bind λq=>(a0e j.Waiting).bind λu=>(aA2 q u).bind λz=>(aT j.Events z).bind λI=>(aT j.Waiting I).bind λJ=>some J
def a0W :=Dc func38 rfl dD FP Bf λu r h=>AY<|Gt h λz j I q L J h=>El A8 A8 A8 (.a 2<|.ca (aWq j).view<|.a 2<|.ca (aWq q).view<|.ca (ai8 J).view<|.a 1<|.nil _)<|Bo h λz j I q h=>El A8 A8 A8 (.a 5<|.ca (a0w j).view<|.ca (a0w q).view<|.a 1<|.nil _)<|CW
def aIc (j:Ag)(q:CJ)(z:(Int->AB Int)):Int->AB Int:=λu=>(cond (u<(j.length:Int)) ((Aj j u).bind λI=>(cond (!(I.Room.toList==q.Id.toList)) (some 13) (z (Az (u+1))))) (some 0))
def a3b (j:Ag)(q:CJ):Int->AB Int:=bf (aIc j q) Am
def uf (q:CJ)(j:Ag):AB Int:=(PY j).bind λu=>(cond (u != 0) (some u) (a3b j q 0))
def aU8 :=DR func90 rfl uf FP BK AX λq j r h=>AY<|AZ<|AO h λu z h=>AP 1<|.X (aMk z)<|AY<|BG h Bv λh=>AZ<|AP 1<|.Z (BJ BH j)<|Ai<|Dk (λu=>⟨BA 25 [(2,.ptr 0 0),(13,BK j),(14,AX (j.length:Int)),(15,AX u)],[.box (BI (CZ q))],0⟩) _ _ _ (Ae [AQ 0]) h<|λu z I J h=>AY<|AZ<|Bl h (λh=>AZ<|Ai<|AO h λu z h=>BO<|.Z (BF BH z)<|qV) λh=>EX
def a2C (j:Int):AB AU:=cD 8 j
def ais {p1 r}(h:a2C p1=some r):Dw 256 [.d (.lit (.slice none 0 0)),AX p1] [] (.aQ 0) [(Cb r)]:=
 adW Ad p1 r h
def a5g (j:PE)(q:(AU->Int->AB AU)):AU->Int->AB AU:=λJ u=>(cond (u<(j.length:Int)) ((Aj j u).bind λz=>(DC 8 J z).bind λI=>q I (Az (u+1))) (some J))
def aUJ (j:PE):AU->Int->AB AU:=aP (a5g j) Am
def a3W (j:PE)(k3:(Int->Int->AB AU)):Int->Int->AB AU:=λq v2=>(bif v2<(j.length:Int) then(Aj j v2).bind λu=>(cond ((Az (q+(u.length:Int)))<0) none (k3 (Az (q+(u.length:Int))) (Az (v2+1))))else(a2C q).bind λz=>aUJ j z 0)
def aUp (j:PE):Int->Int->AB AU:=aP (a3W j) Am
def s0 (j:PE):AB AU:=aUp j 0 0
def aby {mP r}(h:s0 mP=some r):Dw 174 [.d ((BQ (BQ Ad)) mP)] [] (.aQ 0) [(Cb r)]:=by
 refine ER func174 rfl ?_;unfold s0 at h;refine BO<|.f (CY 3 1)<|.aU<|AY<|AZ<|AP 1<|.Z (BJ (BQ Ad) mP)<|Ai ?_;refine DW (λz v2=>⟨BA 36 [(0,.d ((BQ (BQ Ad)) mP)),(3,AX z),(9,.d ((BQ (BQ Ad)) mP)),(10,AX (mP.length:Int)),(11,AX v2)],[],0⟩) _ _ _ _ (Ae []) h ?_;clear h;intro U k3 I z v2 h;unfold a3W at h;refine AY<|AZ<|DX h (λh=>?_) λh=>?_
 ·refine Ew<|AZ<|Ai ?_;obtain⟨Y,J,h⟩:=Dn h;refine BO<|.Z (BF (BQ Ad) J)<|AP 2<|.Z (BJ Ad Y)<|AY<|DX h (λh=>?_) λh=>?_
  ·cases h
  refine Ew<|CS<|.a 2<|.nil ?_;exact I _ _ _ (Ae []) h
 refine Cj ?_;obtain⟨x7,L,h⟩:=Dn h;refine AP 1<|.Y (x:=.aQ 0) (J9 [.d (.lit (.slice none 0 0)),AX z] (ais L))<|AZ<|AP 1<|.Z (BJ (BQ Ad) mP)<|Ai ?_;refine DW (λM O=>⟨BA 36 [(6,.aQ 0),(25,.d ((BQ (BQ Ad)) mP)),(26,AX (mP.length:Int)),(27,AX O)],[(Cb M)],0⟩) _ _ _ _ (Ae [AQ 0]) h ?_;clear h;intro Z k10 j M O h;unfold a5g at h;refine AY<|AZ<|DX h (λh=>?_) λh=>?_
 ·refine Ew<|AZ<|Ai ?_;obtain⟨x12,q,h⟩:=Dn h;refine BO<|.p (BF (BQ Ad) q)<|.aM 2 ?_;obtain⟨x13,u,h⟩:=Dn h;refine CS<|.a 2<|.f (DZ (k:=0) Ad u Df A8 (λ_=>rfl) Bd)<|.aN<|CS<|.a 2<|.nil ?_;exact j _ _ _ (Ae [AQ 1]) h
 refine Cj<|BO<|.aM 2 ?_;rw[←CP h];exact .ret (Ei [AQ 0])
def a3k (j:Aa)(q:FB):AB AV:=some (j.Id==q.Id)
def aZ6 :=DR func173 rfl a3k DV (λj=>.d (.ref (Ea j).cells 0)) Af λq j r h=>Ze
def aLV (z:AU)(q:(AA (Int×Int)))(j:FB)(I:Int)(x7:AU)(M:Int)(O:(Int->CJ->(AA (Int×Int))->AB AV))(v9:CJ)(U:(Int->AB AV)):Int->AB AV:=λu=>(bif u<(z.length:Int) then(Aj z u).bind λJ=>(cond (!((DF (Dy q j.Id I) J).isSome)) (some true) (some (decide (((DF (Dy q j.Id I) J).getD 0)>=I)))).bind λY=>(cond Y (some false) (U (Az (u+1))))else(Aj x7 M).bind λL=>(cond (!((L==2)==(j.Status==2))) (some true) ((cond (!(L==2)) (some (j.Status != 3)) (some false)).bind λZ=>(cond Z (some (j.Status != 4)) (some false)).bind λx37=>some x37)).bind λx33=>(cond x33 (some false) (O (Az (I+1)) v9 (Dy q j.Id I))))
def aUR (j:AU)(q:(AA (Int×Int)))(u:FB)(J:Int)(L:AU)(z:Int)(I:(Int->CJ->(AA (Int×Int))->AB AV))(M:CJ):Int->AB AV:=bf (aLV j q u J L z I M) Am
def dX (u:CJ)(x7:AU)(L:(Int->CJ->(AA (Int×Int))->AB AV)):Int->CJ->(AA (Int×Int))->AB AV:=λI J z=>(cond (I<(u.Rows.length:Int)) ((Aj u.Rows I).bind λq=>(Uy J.Events (λa0=>a3k a0 q)).bind λj=>(cond (j<0) (some true) (some ((DF z q.Id).isSome))).bind λM=>(cond M (some true) (some (q.Pos != I))).bind λO=>(cond O (some true) (some (decide (j>=(x7.length:Int))))).bind λU=>(cond U (some false) ((Aj J.Events j).bind λY=>(Aj J.Events j).bind λZ=>(s0 [Y.bG,Z.bJ]).bind λx24=>aUR x24 z q I x7 j L J 0))) (some true))
def aeT (j:CJ)(q:AU):Int->CJ->(AA (Int×Int))->AB AV:=iK (dX j q) Am
def a3n (j:CJ):AB AV:=(cond ((j.Rows.length:Int) != (j.Events.length:Int)) (some true) (some (j.Next != (j.Rows.length:Int)))).bind λq=>(cond q (some true) ((nD j.Events).bind λu=>some (decide (u>1)))).bind λz=>(cond z (some false) ((oJ j.Events).bind λI=>aeT j I 0 j []))
def alX :=Dc func92 rfl a3n FP Af λq r h=>AY<|AZ<|AP 2<|.p (BJ Ea q.Rows)<|.a 2<|.p (BJ BH q.Events)<|.a 1<|AO h λu j h=>.mg 22 7 (Af u) (.bi j (k2:=λh=>.a 4<|.Z (BJ Ea q.Rows)<|Ce))<|.a 1<|AO h λu j h=>.mg 31 4 (Af u) (Cc j (k2:=λe i=>by subst e;have h:=i;exact AO h λu j h=>.a 2<|.X (aEn j)<|Ce))<|.aU<|BG h Bv λh=>AO h λu j h=>AP 2<|.X (aXO j).view<|BO<|.Y (x:=.mp 1) pW<|AZ<|AP 2<|.Z (BJ Ea q.Rows)<|Ai<|Pv (λj z L=>⟨BA 138 [(1,.ptr 0 0),(3,Bf u),(4,.mp 1),(41,QA q.Rows),(42,AX (q.Rows.length:Int)),(43,AX j)],[.box (BI (CZ z)),.map (List.map (CQ D6 Ad) L)],0⟩) _ _ _ _ _ (Ae [AQ 0,AQ 1]) h<|λj z L M Y J h=>AY<|AZ<|Bl h (λh=>AZ<|Ai<|AO h λj z h=>AP 1<|.Z (BF Ea z)<|AO h λz I h=>AP 2<|.conv _ (Qv (cs:=BI (Ea j)) 2 A8 A8)<|.p (x:=.d (.fn (.func 173) [] [(.ref (Ea j).cells 0)])) (Oq [(.ref (Ea j).cells 0)] rfl)<|.X (Agr Y.Events (λu=>a3k u j) (.fn (.func 173) [] [(.ref (Ea j).cells 0)]) ⟨173,[(.ref (Ea j).cells 0)],rfl,aiY,λu z L=>aZ6 L⟩ z I)<|AZ<|AP 3<|.Z (x:=.eG [AX ((DF J j.Id).getD 0),Af ((DF J j.Id).isSome)]) (mM (k:=1) (key:=j.Id) (m:=J) Ad 0 OV Gq zero3 A8 A8 A8)<|AP 2<|AO h λI O h=>.mg 61 2 (Af I) (.bi O)<|.a 1<|AO h λI O h=>.mg 65 4 (Af I) (Cc O)<|.a 1<|AO h λI O h=>.mg 71 4 (Af I) (Cc O (k2:=λe i=>by subst e;have h:=i;exact .a 2<|.Z (BJ Ad u)<|Ce))<|.aU<|BG h Bv λh=>AP 4<|.f (WT (k:=1) (key:=j.Id) (val:=M) (m:=J) Ad OV Gq A8)<|.aU<|AZ<|Gt h λI O Z x11 U x13 h=>El A8 A8 A8 (.a 3<|.p (BF BH O)<|.a 5<|.p (BF BH x11)<|.a 2<|.p (Dx a4t nG [(BQ Ad) I.bG,(BQ Ad) Z.bJ])<|.ca (aby x13).view<|.p (BJ Ad U)<|.a 1<|.nil _)<|Ai<|Dk (λL=>⟨BA 138 [(1,.ptr 0 0),(3,Bf u),(4,.mp 1),(5,AX M),(6,.d (.ref (Ea j).cells 0)),(7,AX z),(41,QA q.Rows),(42,AX (q.Rows.length:Int)),(43,AX M),(93,Bf U),(94,AX (U.length:Int)),(95,AX L)],[.box (BI (CZ Y)),.map (List.map (CQ D6 Ad) (Dy J j.Id M))],0⟩) _ _ _ (Ae [AQ 0,AQ 1]) h<|λu z Y I h=>AY<|AZ<|Bl h (λh=>AZ<|Ai<|AO h λu z h=>BO<|.Z (BF Ad z)<|AP 2<|.Z (x:=.eG [AX ((DF (Dy J j.Id M) u).getD 0),Af ((DF (Dy J j.Id M) u).isSome)]) (mM (k:=1) (key:=u) (m:=(Dy J j.Id M)) Ad 0 OV Gq zero3 A8 A8 A8)<|AP 2<|AO h λu j h=>.mg 107 4 (Af u) (.bi j)<|.aU<|BG h Bv λh=>DI<|Y _ _ (Ae [AQ 0,AQ 1]) h) λh=>Cj<|AO h λu j h=>AP 2<|.Z (BF Ad j)<|AP 5<|AO h λu j h=>.mg 123 13 (Af u) (.bi j (k2:=λh=>.a 2<|AO h λu j h=>.mg 126 4 (Af u) (.bi j)<|.a 1<|AO h λu j h=>.mg 132 3 (Af u) (Cc j)<|.aW<|Ce))<|.aU<|BG h Bv λh=>DI<|L _ _ _ _ (Ae [AQ 0,AQ 1]) h) λh=>EX
def a4w (j:Aa)(q:CJ):AB AV:=(L6 q.Events j.Id).bind λu=>some u.2
def afB :=DR func93 rfl a4w DV (λj=>.d (.ref (CZ j).cells 0)) Af λq j r h=>AY<|AO h λz u h=>AP 4<|.X (ND u)<|AY<|CW
def a0B (j:Ag)(q:(Aa->AB AV)):AB AV:=(Uy j q).bind λu=>some (decide (u>=0))
def aXH (q:(AA Aa))(u:(Aa->AB AV))(j:D)(z:S9 Ak BH Dt j u)(r:AV)(h:a0B q u=some r):Dw 95 [BK q,.d j] [] (Af r) []:=ER func95 rfl<|AY<|AO h λI J h=>AP 2<|.X (Agr q u j z I J)<|CW
def oW (q:CJ)(j:CJ):AB AV:=(a0B q.Waiting (λa0=>a4w a0 j)).bind λu=>some u
def ad4 :=DR func94 rfl oW (λu=>.d (.ref (CZ u).cells 0)) (λj=>.d (.ref [(.fn (.func 93) [] [(.ref (CZ j).cells 0)])] 0)) Af λu j r h=>AY<|AO h λq z h=>AP 3<|.X (aXH u.Waiting (λq=>a4w q j) (.fn (.func 93) [] [(.ref (CZ j).cells 0)]) ⟨93,[(.ref (CZ j).cells 0)],rfl,aaB,λq z I=>afB I⟩ q z)<|CW
def aAZ (j:Aa)(q:CJ):AB AV:=(pK q.Events j).bind λu=>some u
def alU :=DR func97 rfl aAZ DV (λj=>.d (.ref (CZ j).cells 0)) Af λq j r h=>AY<|AO h λz u h=>AP 3<|.X (aEz u)<|CW
def vN (j:CJ):AB AV:=(a0B j.Waiting (λa0=>aAZ a0 j)).bind λq=>some q
def ad5 :=Dc func96 rfl vN (λj=>.d (.ref (CZ j).cells 0)) Af λj r h=>AY<|AO h λq u h=>AP 2<|.p (x:=.d (.fn (.func 97) [] [(.ref (CZ j).cells 0)])) (Oq [(.ref (CZ j).cells 0)] rfl)<|.X (aXH j.Waiting (λq=>aAZ q j) (.fn (.func 97) [] [(.ref (CZ j).cells 0)]) ⟨97,[(.ref (CZ j).cells 0)],rfl,adr,λq u z=>alU z⟩ q u)<|CW
def rC (j:CJ):AB AV:=some (decide ((j.Waiting.length:Int)>200))
def aXz :=Dc func98 rfl rC (λj=>.d (.ref (CZ j).cells 0)) Af λj r h=>AY<|AP 2<|.Z (BJ BH j.Waiting)<|CW
def aHL (j:AU)(q:AU)(k3:(Int->AB AV)):Int->AB AV:=λv2=>(cond (v2<(j.length:Int)) ((Aj j v2).bind λu=>(Aj q v2).bind λz=>(cond (u != z) (some false) (k3 (Az (v2+1))))) (some true))
def aQx (j:AU)(q:AU):Int->AB AV:=bf (aHL j q) Am
def SY (j:AU)(q:AU):AB AV:=(cond ((j.length:Int) != (q.length:Int)) (some false) (aQx j q 0))
def aDA :=DR func100 rfl SY Bf Bf Af λj q r h=>AY<|AZ<|AP 1<|.p (BJ Ad j)<|.a 1<|.Z (BJ Ad q)<|BG h Bv λh=>AZ<|AP 1<|.Z (BJ Ad j)<|Ai<|Dk (λu=>⟨BA 26 [(0,Bf j),(1,Bf q),(12,AX (j.length:Int)),(13,AX u)],[],0⟩) _ _ _ (Ae []) h<|λu z I J h=>AY<|AZ<|Bl h (λh=>AZ<|Ai<|AY<|Bo h λu z J L h=>El A8 A8 A8 (.a 2<|.p (BF Ad z)<|.a 3<|.p (BF Ad L)<|.a 2<|.nil _)<|BG h Bv λh=>RY) λh=>EX
def wY (j:Ba)(q:Ba)(k3:(Int->AB AV)):Int->AB AV:=λv2=>(cond (v2<(j.length:Int)) ((Aj j v2).bind λu=>(Aj q v2).bind λz=>(cond (!Res u z) (some false) (k3 (Az (v2+1))))) (some true))
def aDb (j:Ba)(q:Ba):Int->AB AV:=bf (wY j q) Am
def WE (j:Ba)(q:Ba):AB AV:=(cond ((j.length:Int) != (q.length:Int)) (some false) (aDb j q 0))
def aRt :=DR func102 rfl WE DY DY Af λj q r h=>AY<|AZ<|AP 1<|.p (BJ BR j)<|.a 1<|.Z (BJ BR q)<|BG h Bv λh=>AZ<|AP 1<|.Z (BJ BR j)<|Ai<|Dk (λu=>⟨BA 26 [(1,DY q),(12,DY j),(13,AX (j.length:Int)),(14,AX u)],[],0⟩) _ _ _ (Ae []) h<|λu z J I h=>AY<|AZ<|Bl h (λh=>AZ<|Ai<|AO h λu z h=>AP 1<|.Z (BF BR z)<|AO h λz I h=>El A8 A8 A8 (.a 3<|.p (BF BR I)<|.a 1<|.p (x:=(Af (!Res u z))) (Us [.int .i64 u.Kind,.string u.Key,.int .i64 u.Id] [.int .i64 z.Kind,.string z.Key,.int .i64 z.Id] (alM u z) Bd acd)<|.nil _)<|BG h Bv λh=>UH) λh=>EX
def aL8 (j:AV):AB AV:=some j
def qh (j:CJ):AB AV:=(wX j.Events).bind λq=>(SY j.mJ q).bind λu=>(cond (!u) (aL8 true) ((qj j.Events).bind λz=>(WE j.State z).bind λI=>aL8 (!I)))
def aac :=Dc func99 rfl qh (λz=>.d (.ref (CZ z).cells 0)) Af λz r h=>AY<|D9 (λs=>∃(j:AV),CO s ⟨BA 18 [(1,Af j)],[],0⟩/\aL8 j=some r) (by rintro s ⟨j,hs,h⟩;exact DJ hs<|CW)<|λI=>Bo h λU J Y L h=>EI h (λq h=>DU A8 A8 A8 (.a 4<|.ca (aLZ J).view<|.ca (aDA L)<|.a 1<|.c (Au some q)<|.a 9<|.nil _)<|I _ ⟨true,Ae [],h⟩) λq h=>Bo h λZ M O u h=>DU A8 A8 A8 (.a 4<|.ca (aLZ J).view<|.ca (aDA L)<|.a 1<|.c (Au some q)<|.a 4<|.ca (aM5 M)<|.ca (aRt u)<|.a 3<|.nil _)<|I _ ⟨(!O),Ae [],h⟩
def kS (j:CJ):AB Int:=(aG j.Id).bind λO=>(cond (O != 0) (some 3) ((uf j j.Events).bind λJ=>(cond (J != 0) (some J) ((iG j.Events).bind λL=>(cond (L != 0) (some L) ((a3n j).bind λU=>(cond (!U) (some 6) ((uf j j.Waiting).bind λM=>(cond (M != 0) (some M) (((oW j j)).bind λq=>(cond q (some 4) (((vN j)).bind λu=>(cond u (some 26) (((rC j)).bind λz=>(cond z (some 29) (((qh j)).bind λI=>(cond I (some 6) (some 0))))))))))))))))))
def iQ :=Dc func28 rfl kS FP AX λj r h=>AY<|AZ<|AO h λu q h=>AP 2<|.X (aB1 q)<|BG h Bv λh=>AZ<|AO h λu q h=>AP 3<|.X (aU8 q)<|AY<|BG h Bv λh=>AZ<|AO h λu q h=>AP 2<|.X (aDd q)<|AY<|BG h Bv λh=>AZ<|AO h λu q h=>AP 1<|.X (alX q)<|BG h Bv λh=>AZ<|AO h λu q h=>AP 3<|.X (aU8 q)<|AY<|BG h Bv λh=>BO<|.conv _ (Qv (cs:=BI (CZ j)) 0 A8 A8)<|.Z (x:=.d (.fn (.func 93) [] [(.ref (CZ j).cells 0)])) (Oq [(.ref (CZ j).cells 0)] rfl)<|AZ<|BO<|.conv _ (Qv (cs:=[.d (.fn (.func 93) [] [(.ref (CZ j).cells 0)])]) 1 A8 A8)<|.p (x:=.d (.fn (.func 94) [] [(.ref (CZ j).cells 0),(.ref [(.fn (.func 93) [] [(.ref (CZ j).cells 0)])] 0)])) (Oq [(.ref (CZ j).cells 0),(.ref [(.fn (.func 93) [] [(.ref (CZ j).cells 0)])] 0)] rfl)<|.a 1<|.p (x:=.d (.fn (.func 96) [] [(.ref (CZ j).cells 0)])) (Oq [(.ref (CZ j).cells 0)] rfl)<|.a 1<|.p (x:=.d (.fn (.func 98) [] [(.ref (CZ j).cells 0)])) (Oq [(.ref (CZ j).cells 0)] rfl)<|.a 1<|.p (x:=.d (.fn (.func 99) [] [(.ref (CZ j).cells 0)])) (Oq [(.ref (CZ j).cells 0)] rfl)<|.a 1<|.p (Dx adM aFt [(.agg [(Ad 4),(.fn (.func 94) [] [(.ref (CZ j).cells 0),(.ref [(.fn (.func 93) [] [(.ref (CZ j).cells 0)])] 0)])]),(.agg [(Ad 26),(.fn (.func 96) [] [(.ref (CZ j).cells 0)])]),(.agg [(Ad 29),(.fn (.func 98) [] [(.ref (CZ j).cells 0)])]),(.agg [(Ad 6),(.fn (.func 99) [] [(.ref (CZ j).cells 0)])])])<|.Z (x:=(AX 4)) (aPY (xs:=[(.agg [(Ad 4),(.fn (.func 94) [] [(.ref (CZ j).cells 0),(.ref [(.fn (.func 93) [] [(.ref (CZ j).cells 0)])] 0)])]),(.agg [(Ad 26),(.fn (.func 96) [] [(.ref (CZ j).cells 0)])]),(.agg [(Ad 29),(.fn (.func 98) [] [(.ref (CZ j).cells 0)])]),(.agg [(Ad 6),(.fn (.func 99) [] [(.ref (CZ j).cells 0)])])]) qK)<|Ai<|Bh.rounds 5<|Bh.round<|AY<|AZ<|Nc A8<|Ew<|AZ<|Ai<|BO<|.Z (x:=.d (.ref [(Ad 4),(.fn (.func 94) [] [(.ref (CZ j).cells 0),(.ref [(.fn (.func 93) [] [(.ref (CZ j).cells 0)])] 0)])] 0)) (zA (k:=.i64) (i:=0) (xs:=[(.agg [(Ad 4),(.fn (.func 94) [] [(.ref (CZ j).cells 0),(.ref [(.fn (.func 93) [] [(.ref (CZ j).cells 0)])] 0)])]),(.agg [(Ad 26),(.fn (.func 96) [] [(.ref (CZ j).cells 0)])]),(.agg [(Ad 29),(.fn (.func 98) [] [(.ref (CZ j).cells 0)])]),(.agg [(Ad 6),(.fn (.func 99) [] [(.ref (CZ j).cells 0)])])]) (el:=(.agg [(Ad 4),(.fn (.func 94) [] [(.ref (CZ j).cells 0),(.ref [(.fn (.func 93) [] [(.ref (CZ j).cells 0)])] 0)])])) (size:=2) qK a0X Bd rfl rfl)<|AO h λu q h=>AP 2<|.p (a2t (d:=(.fn (.func 94) [] [(.ref (CZ j).cells 0),(.ref [(.fn (.func 93) [] [(.ref (CZ j).cells 0)])] 0)])) (⟨94,[(.ref (CZ j).cells 0),(.ref [(.fn (.func 93) [] [(.ref (CZ j).cells 0)])] 0)],rfl,aZv,fun  u q=>ad4 q⟩:yT Ak Dt (.fn (.func 94) [] [(.ref (CZ j).cells 0),(.ref [(.fn (.func 93) [] [(.ref (CZ j).cells 0)])] 0)]) (oW j j)) q)<|.aU<|BG h Bv λh=>DI<|Bh.round<|AY<|AZ<|Nc A8<|Ew<|AZ<|Ai<|BO<|.Z (x:=.d (.ref [(Ad 26),(.fn (.func 96) [] [(.ref (CZ j).cells 0)])] 0)) (zA (k:=.i64) (i:=1) (xs:=[(.agg [(Ad 4),(.fn (.func 94) [] [(.ref (CZ j).cells 0),(.ref [(.fn (.func 93) [] [(.ref (CZ j).cells 0)])] 0)])]),(.agg [(Ad 26),(.fn (.func 96) [] [(.ref (CZ j).cells 0)])]),(.agg [(Ad 29),(.fn (.func 98) [] [(.ref (CZ j).cells 0)])]),(.agg [(Ad 6),(.fn (.func 99) [] [(.ref (CZ j).cells 0)])])]) (el:=(.agg [(Ad 26),(.fn (.func 96) [] [(.ref (CZ j).cells 0)])])) (size:=2) qK a0X Bd rfl rfl)<|AO h λu q h=>AP 2<|.p (a2t (d:=(.fn (.func 96) [] [(.ref (CZ j).cells 0)])) (⟨96,[(.ref (CZ j).cells 0)],rfl,aeB,fun  u q=>ad5 q⟩:yT Ak Dt (.fn (.func 96) [] [(.ref (CZ j).cells 0)]) (vN j)) q)<|.aU<|BG h Bv λh=>DI<|Bh.round<|AY<|AZ<|Nc A8<|Ew<|AZ<|Ai<|BO<|.Z (x:=.d (.ref [(Ad 29),(.fn (.func 98) [] [(.ref (CZ j).cells 0)])] 0)) (zA (k:=.i64) (i:=2) (xs:=[(.agg [(Ad 4),(.fn (.func 94) [] [(.ref (CZ j).cells 0),(.ref [(.fn (.func 93) [] [(.ref (CZ j).cells 0)])] 0)])]),(.agg [(Ad 26),(.fn (.func 96) [] [(.ref (CZ j).cells 0)])]),(.agg [(Ad 29),(.fn (.func 98) [] [(.ref (CZ j).cells 0)])]),(.agg [(Ad 6),(.fn (.func 99) [] [(.ref (CZ j).cells 0)])])]) (el:=(.agg [(Ad 29),(.fn (.func 98) [] [(.ref (CZ j).cells 0)])])) (size:=2) qK a0X Bd rfl rfl)<|AO h λu q h=>AP 2<|.p (a2t (d:=(.fn (.func 98) [] [(.ref (CZ j).cells 0)])) (⟨98,[(.ref (CZ j).cells 0)],rfl,ahL,fun  u q=>aXz q⟩:yT Ak Dt (.fn (.func 98) [] [(.ref (CZ j).cells 0)]) (rC j)) q)<|.aU<|BG h Bv λh=>DI<|Bh.round<|AY<|AZ<|Nc A8<|Ew<|AZ<|Ai<|BO<|.Z (x:=.d (.ref [(Ad 6),(.fn (.func 99) [] [(.ref (CZ j).cells 0)])] 0)) (zA (k:=.i64) (i:=3) (xs:=[(.agg [(Ad 4),(.fn (.func 94) [] [(.ref (CZ j).cells 0),(.ref [(.fn (.func 93) [] [(.ref (CZ j).cells 0)])] 0)])]),(.agg [(Ad 26),(.fn (.func 96) [] [(.ref (CZ j).cells 0)])]),(.agg [(Ad 29),(.fn (.func 98) [] [(.ref (CZ j).cells 0)])]),(.agg [(Ad 6),(.fn (.func 99) [] [(.ref (CZ j).cells 0)])])]) (el:=(.agg [(Ad 6),(.fn (.func 99) [] [(.ref (CZ j).cells 0)])])) (size:=2) qK a0X Bd rfl rfl)<|AO h λu q h=>AP 2<|.p (a2t (d:=(.fn (.func 99) [] [(.ref (CZ j).cells 0)])) (⟨99,[(.ref (CZ j).cells 0)],rfl,af2,fun  u q=>aac q⟩:yT Ak Dt (.fn (.func 99) [] [(.ref (CZ j).cells 0)]) (qh j)) q)<|.aU<|BG h Bv λh=>DI<|Bh.round<|AY<|AZ<|MF A8<|EX
def ajM :Aa:={ FU with Room:=aKM,bQ:=aGC,Kind:=1,State:=true,Time:=1,Depth:=1 }
def PU (j:AV):AB AV:=some j
def aJ  :AB AV:=(aJk ajM aQj).bind λq=>(aJk ({ FU with Room:=aKM,bQ:=aGC,Kind:=2,State:=true,Key:=aGC,Time:=2,Depth:=2,bG:=[q.Id],bJ:=[q.Id],Content:={ Eu with N:=3 } }) aQj).bind λO=>(jT aKM).bind λU=>(a6V U.1 O).bind λu=>(a6V u.1 q).bind λj=>(a6V j.1 FU).bind λY=>(cond ((j.1.Rows.length:Int) != 2) (some true) ((dD u.1).bind λZ=>some ((Z.length:Int) != 1))).bind λx7=>(cond x7 (some false) ((Yf j.1 O.Id).bind λz=>(cond (U.2==0) (cond (u.2.2==0) (cond (j.2.2==0) (cond (Y.2.2 != 0) (cond (u.2.1==1) (cond (j.2.1==4) (cond (Y.2.1==0) ((Aj j.1.Rows 0).bind λI=>(cond (I.Id==q.Id) (cond z.2 (cond (z.1.Pos==1) (cond ((j.1.State.length:Int)==2) (cond ((j.1.Waiting.length:Int)==0) ((kS j.1).bind λJ=>(cond (J==0) ((dD u.1).bind λL=>(Aj L 0).bind λM=>PU (M==q.Id)) (PU false))) (PU false)) (PU false)) (PU false)) (PU false)) (PU false))) (PU false)) (PU false)) (PU false)) (PU false)) (PU false)) (PU false)) (PU false))))
def aEt (r:AV)(h:aJ=some r):Dw 26 [] [] (Af r) []:=ER func26 rfl<|AY<|AO h λj u h=>AP 1<|.X (aR6 u)<|AO h λu O h=>AP 2<|.p (Dx Df zero3 [Ad j.Id])<|.a 2<|.p (Dx Df zero3 [Ad j.Id])<|.a 2<|.X (aR6 O)<|AO h λO x4 h=>BO<|.X (aHd x4)<|AO h λx4 q h=>AP 2<|.X (aHU q)<|AO h λO q h=>AP 2<|.X (aHU q)<|AO h λq z h=>AP 2<|.X (aHU z)<|AZ<|AP 2<|.p (BJ Ea O.1.Rows)<|.a 1<|AO h λq z h=>.mg 56 5 (Af q) (.bi z (k2:=λh=>AO h λj u h=>.a 1<|.ca (a0W u)<|.Z (BJ Ad j)<|Ce))<|.aU<|BG h Bv λh=>AO h λq z h=>AP 3<|.X (wM z)<|D9 (λs=>∃(v12:AV),CO s ⟨BA 139 [(0,Af v12)],[],0⟩/\PU v12=some r) aI2<|λu=>EI h (λq h=>EI h (λz h=>EI h (λU h=>EI h (λZ h=>EI h (λx9 h=>EI h (λI h=>EI h (λJ h=>AO h λL M h=>EI h (λL h=>EI h (λY h=>EI h (λx15 h=>EI h (λx16 h=>EI h (λx17 h=>AO h λx18 x19 h=>EI h (λx20 h=>Bo h λx21 x22 x23 x24 h=>DU A8 A8 A8 (.a 2<|.c (Au some q)<|.a 3<|.c (Au some z)<|.a 3<|.c (Au some U)<|.a 3<|.c (Au some Z)<|.a 3<|.c (Au some x9)<|.a 3<|.c (Au some I)<|.a 3<|.c (Au some J)<|.a 2<|.p (BF Ea M)<|.a 6<|.c (Au some L)<|.a 2<|.c (Au some Y)<|.a 4<|.c (Au some x15)<|.a 2<|.p (BJ BR O.1.State)<|.a 2<|.c (Au some x16)<|.a 2<|.p (BJ BH O.1.Waiting)<|.a 2<|.c (Au some x17)<|.a 1<|.ca (iQ x19)<|.a 2<|.c (Au some x20)<|.a 1<|.ca (a0W x22)<|.p (BF Ad x24)<|.a 6<|.nil _)<|u _ ⟨(x23==j.Id),Ae [],h⟩) λj h=>DU A8 A8 A8 (.a 2<|.c (Au some q)<|.a 3<|.c (Au some z)<|.a 3<|.c (Au some U)<|.a 3<|.c (Au some Z)<|.a 3<|.c (Au some x9)<|.a 3<|.c (Au some I)<|.a 3<|.c (Au some J)<|.a 2<|.p (BF Ea M)<|.a 6<|.c (Au some L)<|.a 2<|.c (Au some Y)<|.a 4<|.c (Au some x15)<|.a 2<|.p (BJ BR O.1.State)<|.a 2<|.c (Au some x16)<|.a 2<|.p (BJ BH O.1.Waiting)<|.a 2<|.c (Au some x17)<|.a 1<|.ca (iQ x19)<|.a 2<|.c (Au some j)<|.a 9<|.nil _)<|u _ ⟨false,Ae [],h⟩) λj h=>DU A8 A8 A8 (.a 2<|.c (Au some q)<|.a 3<|.c (Au some z)<|.a 3<|.c (Au some U)<|.a 3<|.c (Au some Z)<|.a 3<|.c (Au some x9)<|.a 3<|.c (Au some I)<|.a 3<|.c (Au some J)<|.a 2<|.p (BF Ea M)<|.a 6<|.c (Au some L)<|.a 2<|.c (Au some Y)<|.a 4<|.c (Au some x15)<|.a 2<|.p (BJ BR O.1.State)<|.a 2<|.c (Au some x16)<|.a 2<|.p (BJ BH O.1.Waiting)<|.a 2<|.c (Au some j)<|.a 14<|.nil _)<|u _ ⟨false,Ae [],h⟩) λj h=>DU A8 A8 A8 (.a 2<|.c (Au some q)<|.a 3<|.c (Au some z)<|.a 3<|.c (Au some U)<|.a 3<|.c (Au some Z)<|.a 3<|.c (Au some x9)<|.a 3<|.c (Au some I)<|.a 3<|.c (Au some J)<|.a 2<|.p (BF Ea M)<|.a 6<|.c (Au some L)<|.a 2<|.c (Au some Y)<|.a 4<|.c (Au some x15)<|.a 2<|.p (BJ BR O.1.State)<|.a 2<|.c (Au some j)<|.a 20<|.nil _)<|u _ ⟨false,Ae [],h⟩) λj h=>DU A8 A8 A8 (.a 2<|.c (Au some q)<|.a 3<|.c (Au some z)<|.a 3<|.c (Au some U)<|.a 3<|.c (Au some Z)<|.a 3<|.c (Au some x9)<|.a 3<|.c (Au some I)<|.a 3<|.c (Au some J)<|.a 2<|.p (BF Ea M)<|.a 6<|.c (Au some L)<|.a 2<|.c (Au some Y)<|.a 4<|.c (Au some j)<|.a 26<|.nil _)<|u _ ⟨false,Ae [],h⟩) λj h=>DU A8 A8 A8 (.a 2<|.c (Au some q)<|.a 3<|.c (Au some z)<|.a 3<|.c (Au some U)<|.a 3<|.c (Au some Z)<|.a 3<|.c (Au some x9)<|.a 3<|.c (Au some I)<|.a 3<|.c (Au some J)<|.a 2<|.p (BF Ea M)<|.a 6<|.c (Au some L)<|.a 2<|.c (Au some j)<|.a 31<|.nil _)<|u _ ⟨false,Ae [],h⟩) λj h=>DU A8 A8 A8 (.a 2<|.c (Au some q)<|.a 3<|.c (Au some z)<|.a 3<|.c (Au some U)<|.a 3<|.c (Au some Z)<|.a 3<|.c (Au some x9)<|.a 3<|.c (Au some I)<|.a 3<|.c (Au some J)<|.a 2<|.p (BF Ea M)<|.a 6<|.c (Au some j)<|.a 34<|.nil _)<|u _ ⟨false,Ae [],h⟩) λj h=>DU A8 A8 A8 (.a 2<|.c (Au some q)<|.a 3<|.c (Au some z)<|.a 3<|.c (Au some U)<|.a 3<|.c (Au some Z)<|.a 3<|.c (Au some x9)<|.a 3<|.c (Au some I)<|.a 3<|.c (Au some j)<|.a 44<|.nil _)<|u _ ⟨false,Ae [],h⟩) λj h=>DU A8 A8 A8 (.a 2<|.c (Au some q)<|.a 3<|.c (Au some z)<|.a 3<|.c (Au some U)<|.a 3<|.c (Au some Z)<|.a 3<|.c (Au some x9)<|.a 3<|.c (Au some j)<|.a 48<|.nil _)<|u _ ⟨false,Ae [],h⟩) λj h=>DU A8 A8 A8 (.a 2<|.c (Au some q)<|.a 3<|.c (Au some z)<|.a 3<|.c (Au some U)<|.a 3<|.c (Au some Z)<|.a 3<|.c (Au some j)<|.a 52<|.nil _)<|u _ ⟨false,Ae [],h⟩) λj h=>DU A8 A8 A8 (.a 2<|.c (Au some q)<|.a 3<|.c (Au some z)<|.a 3<|.c (Au some U)<|.a 3<|.c (Au some j)<|.a 56<|.nil _)<|u _ ⟨false,Ae [],h⟩) λj h=>DU A8 A8 A8 (.a 2<|.c (Au some q)<|.a 3<|.c (Au some z)<|.a 3<|.c (Au some j)<|.a 60<|.nil _)<|u _ ⟨false,Ae [],h⟩) λj h=>DU A8 A8 A8 (.a 2<|.c (Au some q)<|.a 3<|.c (Au some j)<|.a 64<|.nil _)<|u _ ⟨false,Ae [],h⟩) λj h=>DU A8 A8 A8 (.a 2<|.c (Au some j)<|.a 68<|.nil _)<|u _ ⟨false,Ae [],h⟩
def aDE (j:Ag)(q:Ag)(k3:(Int->AB AV)):Int->AB AV:=λv2=>(cond (v2<(j.length:Int)) ((Aj j v2).bind λu=>(Aj q v2).bind λz=>(oH u z).bind λI=>(cond (!I) (some false) (k3 (Az (v2+1))))) (some true))
def aNj (j:Ag)(q:Ag):Int->AB AV:=bf (aDE j q) Am
def Xe (j:Ag)(q:Ag):AB AV:=(cond ((j.length:Int) != (q.length:Int)) (some false) (aNj j q 0))
def amS :=DR func69 rfl Xe BK BK Af λj q r h=>AY<|AZ<|AP 1<|.p (BJ BH j)<|.a 1<|.Z (BJ BH q)<|BG h Bv λh=>AZ<|AY<|Ai<|Dk (λu=>⟨BA 27 [(0,BK j),(1,BK q),(5,AX u)],[],0⟩) _ _ _ (Ae []) h<|λu z I J h=>AZ<|AP 2<|.Z (BJ BH j)<|Bl h (λh=>AZ<|Ai<|Gt h λu z J L O M h=>El A8 A8 A8 (.a 2<|.p (BF BH z)<|.a 3<|.p (BF BH L)<|.a 1<|.ca (jh M)<|.a 1<|.nil _)<|BG h Bv λh=>RY) λh=>EX
def aKe (j:QB)(q:QB)(k3:(Int->AB AV)):Int->AB AV:=λv2=>(cond (v2<(j.length:Int)) ((Aj j v2).bind λu=>(Aj q v2).bind λz=>(cond (!ML u z) (some false) (k3 (Az (v2+1))))) (some true))
def aV6 (j:QB)(q:QB):Int->AB AV:=bf (aKe j q) Am
def nH (j:QB)(q:QB):AB AV:=(cond ((j.length:Int) != (q.length:Int)) (some false) (aV6 j q 0))
def al4 :=DR func70 rfl nH QA QA Af λj u r h=>AY<|AZ<|AP 1<|.p (BJ Ea j)<|.a 1<|.Z (BJ Ea u)<|BG h Bv λh=>AZ<|AY<|Ai<|Dk (λq=>⟨BA 26 [(0,QA j),(1,QA u),(5,AX q)],[],0⟩) _ _ _ (Ae []) h<|λq I J z h=>AZ<|AP 2<|.Z (BJ Ea j)<|Bl h (λh=>AZ<|Ai<|Bo h λq I z L h=>El A8 A8 A8 (.a 2<|.p (BF Ea I)<|.a 3<|.p (BF Ea L)<|.a 1<|.p (x:=(Af (!ML q z))) (Us [.int .i64 q.Pos,.int .i64 q.Id,.int .i64 q.Status,.bool q.Gone] [.int .i64 z.Pos,.int .i64 z.Id,.int .i64 z.Status,.bool z.Gone] (VJ q z) Bd Vs)<|.nil _)<|BG h Bv λh=>UH) λh=>EX
def a4i (q:CJ)(u:CJ)(z:(Int->AB AV)):Int->AB AV:=λj=>(cond (j<(q.oG.length:Int)) ((Aj q.oG j).bind λI=>(Aj u.oG j).bind λJ=>(cond (!fA I J) (some false) (z (Az (j+1))))) (some true))
def zS (j:CJ)(q:CJ):Int->AB AV:=bf (a4i j q) Am
def a5T (j:CJ)(q:CJ)(z:(Int->AB AV)):Int->AB AV:=λu=>(cond (u<(j.jO.length:Int)) ((Aj j.jO u).bind λI=>(Aj q.jO u).bind λJ=>(cond (!iC I J) (some false) (z (Az (u+1))))) (zS j q 0))
def yK (j:CJ)(q:CJ):Int->AB AV:=bf (a5T j q) Am
def jX (j:CJ)(q:CJ):AB AV:=(cond ((j.jO.length:Int) != (q.jO.length:Int)) (some true) (some ((j.oG.length:Int) != (q.oG.length:Int)))).bind λu=>(cond u (some false) (yK j q 0))
def aaF :=DR func72 rfl jX FP FP Af λj u r h=>AY<|AZ<|AP 2<|.p (BJ OE j.jO)<|.a 2<|.p (BJ OE u.jO)<|.a 1<|AO h λq I h=>.mg 14 8 (Af q) (.bi I (k2:=λh=>.a 2<|.p (BJ O6 j.oG)<|.a 2<|.Z (BJ O6 u.oG)<|Ce))<|.aU<|BG h Bv λh=>AZ<|AY<|Ai<|Dk (λq=>⟨BA 59 [(2,.ptr 0 0),(3,.ptr 1 0),(5,AX q)],[.box (BI (CZ j)),.box (BI (CZ u))],0⟩) _ _ _ (Ae [AQ 0,AQ 1]) h<|λq I J z h=>AZ<|AP 3<|.Z (BJ OE j.jO)<|Bl h (λh=>AZ<|Ai<|Bo h λq I z L h=>El A8 A8 A8 (.a 3<|.p (BF OE I)<|.a 4<|.p (BF OE L)<|.a 1<|.p (x:=(Af (!iC q z))) (Us [.string q.User,.int .i64 q.Thread,.int .i64 q.Id,.int .i64 q.Time] [.string z.User,.int .i64 z.Thread,.int .i64 z.Id,.int .i64 z.Time] (aWU q z) Bd aQ2)<|.nil _)<|BG h Bv λh=>a3c) λh=>Cj<|AZ<|AY<|Ai<|Dk (λq=>⟨BA 59 [(2,.ptr 0 0),(3,.ptr 1 0),(6,AX q)],[.box (BI (CZ j)),.box (BI (CZ u))],0⟩) _ _ _ (Ae [AQ 0,AQ 1]) h<|λq I J z h=>AZ<|AP 3<|.Z (BJ O6 j.oG)<|Bl h (λh=>AZ<|Ai<|Bo h λq I z L h=>El A8 A8 A8 (.a 3<|.p (BF O6 I)<|.a 4<|.p (BF O6 L)<|.a 1<|.p (x:=(Af (!fA q z))) (Us [.string q.User,.int .i64 q.Until] [.string z.User,.int .i64 z.Until] (aUq q z) Bd aSO)<|.nil _)<|BG h Bv λh=>a3c) λh=>EX
def Ui (j:CJ)(q:CJ):AB AV:=(cond (j.Id.toList==q.Id.toList) (some (j.Next==q.Next)) (some false)).bind λU=>(cond U ((Xe j.Events q.Events).bind λY=>some Y) (some false)).bind λZ=>(cond Z ((Xe j.Waiting q.Waiting).bind λx8=>some x8) (some false)).bind λx6=>(cond x6 ((nH j.Rows q.Rows).bind λu=>some u) (some false)).bind λx9=>(cond x9 ((Rx j.mJ q.mJ).bind λz=>some z) (some false)).bind λI=>(cond I ((UF j.State q.State).bind λJ=>some J) (some false)).bind λL=>(cond L ((jX j q).bind λM=>some M) (some false)).bind λO=>some O
def Rh :=DR func21 rfl Ui FP FP Af λu z r h=>AY<|AP 5<|AO h λq j h=>.mg 10 6 (Af q) (.bi j)<|.a 1<|AO h λq j h=>.mg 18 5 (Af q) (Cc j (λe i=>aMn))<|.a 1<|AO h λq j h=>.mg 25 5 (Af q) (Cc j (λe i=>aMn))<|.a 1<|AO h λq j h=>.mg 32 5 (Af q) (Cc j (λe i=>by subst e;have h:=i;exact AO h λq j h=>.a 4<|.X (al4 j)<|Ce))<|.a 1<|AO h λq j h=>.mg 39 5 (Af q) (Cc j (λe i=>by subst e;have h:=i;exact AO h λq j h=>.a 4<|.X (pR j)<|Ce))<|.a 1<|AO h λq j h=>.mg 46 5 (Af q) (Cc j (λe i=>by subst e;have h:=i;exact AO h λq j h=>.a 4<|.X (aTR j)<|Ce))<|.a 1<|AO h λq j h=>.mg 53 3 (Af q) (Cc j (λe i=>by subst e;have h:=i;exact AO h λq j h=>.a 2<|.X (aaF j)<|Ce))<|.aW<|CW
def yU (j:BL):AB (CJ×Int):=(Zq j).bind λq=>(cond (q != 0) (some (LJ,3)) (some ({ LJ with Id:=j },0)))
def aT5 :=Dc func31 rfl yU D5 (λr=>.eG [FP r.1,AX r.2]) λj r h=>AY<|AZ<|AO h λz u h=>AP 1<|.ca (a1U u)<|aSS
def qg (q:CJ)(j:Int):AB (Aa×AV):=(L6 q.Events j).bind λu=>(cond u.2 (some (u.1,true)) ((L6 q.Waiting j).bind λz=>some (z.1,z.2)))
def aVO :=DR func34 rfl qg FP AX (λr=>.eG [DV r.1,Af r.2]) λI q r h=>AY<|AZ<|AO h λj u h=>AP 3<|.X (ND u)<|AY<|BG h (λh=>AY<|Ep<|aMO) λh=>AO h λj u h=>AP 3<|.X (ND u)<|Ep<|aTl
def uw (q:CJ)(j:Int):AB (Aa×AV):=(Jc q.Events j).bind λu=>(cond u.2 (some (u.1,true)) ((Jc q.Waiting j).bind λz=>some (z.1,z.2)))
def aN0 :=DR func35 rfl uw FP AX (λr=>.eG [DV r.1,Af r.2]) λI q r h=>AY<|AO h λj u h=>AP 3<|.X (KW u)<|AZ<|AY<|BG h (λh=>AY<|Ep<|aMO) λh=>AO h λj u h=>AP 3<|.X (KW u)<|Ep<|aTl
def uX (j:CJ):AB AU:=(Yc j.Events).bind λq=>(Yc j.Waiting).bind λu=>(Xn q u).bind λz=>(VK j.Events z).bind λI=>(VK j.Waiting I).bind λJ=>some J
def aCQ :=Dc func39 rfl uX FP Bf λu r h=>AY<|Gt h λz j I q L J h=>El A8 A8 A8 (.a 2<|.ca (aCZ j).view<|.a 2<|.ca (aCZ q).view<|.ca (qO J).view<|.a 1<|.nil _)<|Bo h λz j I q h=>El A8 A8 A8 (.a 5<|.ca (gW j).view<|.ca (gW q).view<|.a 1<|.nil _)<|CW
def a0O (j:Aa)(q:Aa):AB AV:=(cond (j.Id==q.Id) (some (j.Room.toList==q.Room.toList)) (some false)).bind λx1=>(cond x1 (some (j.bQ.toList==q.bQ.toList)) (some false)).bind λx3=>(cond x3 (some (j.Kind==q.Kind)) (some false)).bind λx5=>(cond x5 (some (j.State==q.State)) (some false)).bind λx7=>(cond x7 (some (j.Key.toList==q.Key.toList)) (some false)).bind λx9=>(cond x9 (some (j.Time==q.Time)) (some false)).bind λu=>(cond u (some (j.Depth==q.Depth)) (some false)).bind λz=>(cond z (some (j.Hash==q.Hash)) (some false)).bind λI=>(cond I (some (dh j.nM q.nM)) (some false)).bind λJ=>(cond J ((SY j.bG q.bG).bind λL=>some L) (some false)).bind λM=>(cond M ((SY j.bJ q.bJ).bind λO=>some O) (some false)).bind λU=>(cond U ((eF j.Content q.Content).bind λY=>some Y) (some false)).bind λZ=>some Z
def aga :=DR func264 rfl a0O DV DV Af λu z r h=>AY<|AP 5<|AO h λq j h=>.mg 10 6 (Af q) (.bi j)<|.a 1<|AO h λq j h=>.mg 18 5 (Af q) (Cc j)<|.a 1<|AO h λq j h=>.mg 25 5 (Af q) (Cc j)<|.a 1<|AO h λq j h=>.mg 32 5 (Af q) (Cc j)<|.a 1<|AO h λq j h=>.mg 39 5 (Af q) (Cc j)<|.a 1<|AO h λq j h=>.mg 46 5 (Af q) (Cc j)<|.a 1<|AO h λq j h=>.mg 53 5 (Af q) (Cc j)<|.a 1<|AO h λq j h=>.mg 60 5 (Af q) (Cc j)<|.a 1<|AO h λq j h=>.mg 67 5 (Af q) (Cc j (λe i=>by subst e;have h:=i;exact .a 4<|.Z (x:=(Af (dh u.nM z.nM))) (Ug [.string u.nM.Server,.int .i64 u.nM.Sum] [.string z.nM.Server,.int .i64 z.nM.Sum] (aMC u.nM z.nM) Bd aOg)<|Ce))<|.a 1<|AO h λq j h=>.mg 74 5 (Af q) (Cc j (λe i=>aLP))<|.a 1<|AO h λq j h=>.mg 81 5 (Af q) (Cc j (λe i=>aLP))<|.a 1<|AO h λq j h=>.mg 88 5 (Af q) (Cc j (λe i=>by subst e;have h:=i;exact AO h λq j h=>.a 4<|.X (aUw j)<|Ce))<|.aW<|CW
def aCu (j:Ag)(q:Ag)(u:(Aa->Aa->AB AV))(k3:(Int->AB AV)):Int->AB AV:=λv2=>(cond (v2<(j.length:Int)) ((Aj j v2).bind λz=>(Aj q v2).bind λI=>(u z I).bind λJ=>(cond (!J) (some false) (k3 (Az (v2+1))))) (some true))
def aWw (j:Ag)(q:Ag)(u:(Aa->Aa->AB AV)):Int->AB AV:=bf (aCu j q u) Am
def zL (j:Ag)(q:Ag)(u:(Aa->Aa->AB AV)):AB AV:=(cond ((j.length:Int) != (q.length:Int)) (some false) (aWw j q u 0))
def adO (q:(AA Aa))(u:(AA Aa))(z:(Aa->Aa->AB AV))(j:D)(I:Ve Ak BH BH Dt j z)(r:AV)(h:zL q u z=some r):Dw 263 [BK q,BK u,.d j] [] (Af r) []:=ER func263 rfl<|AY<|AZ<|AP 1<|.p (BJ BH q)<|.a 1<|.Z (BJ BH u)<|BG h Bv λh=>AZ<|AP 1<|.Z (BJ BH q)<|Ai<|Dk (λL=>⟨BA 32 [(1,BK u),(2,.d j),(15,BK q),(16,AX (q.length:Int)),(17,AX L)],[],0⟩) _ _ _ (Ae []) h<|λL J M O h=>AY<|AZ<|Bl h (λh=>AZ<|Ai<|AO h λL J h=>AP 1<|.Z (BF BH J)<|AO h λL J h=>AP 2<|.Z (BF BH J)<|AO h λL J h=>AP 3<|.Z (YL (d:=j) (I:Ve Ak BH BH Dt j z) J)<|aD7) λh=>EX
def Wy (j:Ag)(q:Ag):AB AV:=(zL j q (λa0 u=>a0O a0 u)).bind λz=>some z
def aXv :=DR func188 rfl Wy BK BK Af λj q r h=>AY<|AO h λu z h=>AP 2<|.X (adO j q (λu z=>a0O u z) (.fn (.func 264) [] []) ⟨264,[],rfl,alQ,λu z J I=>aga I⟩ u z)<|CW
def aDj (j:QB)(q:QB)(k3:(Int->AB AV)):Int->AB AV:=λv2=>(cond (v2<(j.length:Int)) ((Aj j v2).bind λu=>(Aj q v2).bind λz=>(cond (!ML u z) (some false) (k3 (Az (v2+1))))) (some true))
def aVq (j:QB)(q:QB):Int->AB AV:=bf (aDj j q) Am
def ZY (j:QB)(q:QB):AB AV:=(cond ((j.length:Int) != (q.length:Int)) (some false) (aVq j q 0))
def aeH :=DR func189 rfl ZY QA QA Af λj q r h=>AY<|AZ<|AP 1<|.p (BJ Ea j)<|.a 1<|.Z (BJ Ea q)<|BG h Bv λh=>AZ<|AP 1<|.Z (BJ Ea j)<|Ai<|Dk (λu=>⟨BA 26 [(0,QA j),(1,QA q),(12,AX (j.length:Int)),(13,AX u)],[],0⟩) _ _ _ (Ae []) h<|λu I J z h=>AY<|AZ<|Bl h (λh=>AZ<|Ai<|AY<|Bo h λu I z L h=>El A8 A8 A8 (.a 2<|.p (BF Ea I)<|.a 3<|.p (BF Ea L)<|.a 1<|.p (x:=(Af (!ML u z))) (Us [.int .i64 u.Pos,.int .i64 u.Id,.int .i64 u.Status,.bool u.Gone] [.int .i64 z.Pos,.int .i64 z.Id,.int .i64 z.Status,.bool z.Gone] (VJ u z) Bd Vs)<|.nil _)<|BG h Bv λh=>UH) λh=>EX
abbrev je:=AA TW
def aH7 (j:je)(q:je)(k3:(Int->AB AV)):Int->AB AV:=λv2=>(cond (v2<(j.length:Int)) ((Aj j v2).bind λu=>(Aj q v2).bind λz=>(cond (!iC u z) (some false) (k3 (Az (v2+1))))) (some true))
def aVF (j:je)(q:je):Int->AB AV:=bf (aH7 j q) Am
def oz (j:je)(q:je):AB AV:=(cond ((j.length:Int) != (q.length:Int)) (some false) (aVF j q 0))
def agu :=DR func190 rfl oz (λj=>.d ((BQ OE) j)) (λq=>.d ((BQ OE) q)) Af λj q r h=>AY<|AZ<|AP 1<|.p (BJ OE j)<|.a 1<|.Z (BJ OE q)<|BG h Bv λh=>AZ<|AP 1<|.Z (BJ OE j)<|Ai<|Dk (λu=>⟨BA 26 [(0,.d ((BQ OE) j)),(1,.d ((BQ OE) q)),(12,AX (j.length:Int)),(13,AX u)],[],0⟩) _ _ _ (Ae []) h<|λu I J z h=>AY<|AZ<|Bl h (λh=>AZ<|Ai<|AY<|Bo h λu I z L h=>El A8 A8 A8 (.a 2<|.p (BF OE I)<|.a 3<|.p (BF OE L)<|.a 1<|.p (x:=(Af (!iC u z))) (Us [.string u.User,.int .i64 u.Thread,.int .i64 u.Id,.int .i64 u.Time] [.string z.User,.int .i64 z.Thread,.int .i64 z.Id,.int .i64 z.Time] (aWU u z) Bd aQ2)<|.nil _)<|BG h Bv λh=>UH) λh=>EX
abbrev kC:=AA Tv
def aEe (j:kC)(q:kC)(k3:(Int->AB AV)):Int->AB AV:=λv2=>(cond (v2<(j.length:Int)) ((Aj j v2).bind λu=>(Aj q v2).bind λz=>(cond (!fA u z) (some false) (k3 (Az (v2+1))))) (some true))
def aW3 (j:kC)(q:kC):Int->AB AV:=bf (aEe j q) Am
def qG (j:kC)(q:kC):AB AV:=(cond ((j.length:Int) != (q.length:Int)) (some false) (aW3 j q 0))
def alK :=DR func191 rfl qG (λj=>.d ((BQ O6) j)) (λq=>.d ((BQ O6) q)) Af λj q r h=>AY<|AZ<|AP 1<|.p (BJ O6 j)<|.a 1<|.Z (BJ O6 q)<|BG h Bv λh=>AZ<|AP 1<|.Z (BJ O6 j)<|Ai<|Dk (λu=>⟨BA 26 [(0,.d ((BQ O6) j)),(1,.d ((BQ O6) q)),(12,AX (j.length:Int)),(13,AX u)],[],0⟩) _ _ _ (Ae []) h<|λu I J z h=>AY<|AZ<|Bl h (λh=>AZ<|Ai<|AY<|Bo h λu I z L h=>El A8 A8 A8 (.a 2<|.p (BF O6 I)<|.a 3<|.p (BF O6 L)<|.a 1<|.p (x:=(Af (!fA u z))) (Us [.string u.User,.int .i64 u.Until] [.string z.User,.int .i64 z.Until] (aUq u z) Bd aSO)<|.nil _)<|BG h Bv λh=>UH) λh=>EX
def KZ (j:CJ)(q:CJ):AB AV:=(cond (j.Id.toList==q.Id.toList) (some (j.Next==q.Next)) (some false)).bind λZ=>(cond Z ((Wy j.Events q.Events).bind λx5=>some x5) (some false)).bind λx3=>(cond x3 ((ZY j.Rows q.Rows).bind λx8=>some x8) (some false)).bind λx6=>(cond x6 ((Wy j.Waiting q.Waiting).bind λu=>some u) (some false)).bind λx9=>(cond x9 ((SY j.mJ q.mJ).bind λz=>some z) (some false)).bind λI=>(cond I ((WE j.State q.State).bind λJ=>some J) (some false)).bind λL=>(cond L ((oz j.jO q.jO).bind λM=>some M) (some false)).bind λO=>(cond O ((qG j.oG q.oG).bind λU=>some U) (some false)).bind λY=>some Y
def PG :=DR func113 rfl KZ FP FP Af λu z r h=>AY<|AP 5<|AO h λq j h=>.mg 10 6 (Af q) (.bi j)<|.a 1<|AO h λq j h=>.mg 18 5 (Af q) (Cc j (λe i=>aOQ))<|.a 1<|AO h λq j h=>.mg 25 5 (Af q) (Cc j (λe i=>by subst e;have h:=i;exact AO h λq j h=>.a 4<|.X (aeH j)<|Ce))<|.a 1<|AO h λq j h=>.mg 32 5 (Af q) (Cc j (λe i=>aOQ))<|.a 1<|AO h λq j h=>.mg 39 5 (Af q) (Cc j (λe i=>aLP))<|.a 1<|AO h λq j h=>.mg 46 5 (Af q) (Cc j (λe i=>by subst e;have h:=i;exact AO h λq j h=>.a 4<|.X (aRt j)<|Ce))<|.a 1<|AO h λq j h=>.mg 53 5 (Af q) (Cc j (λe i=>by subst e;have h:=i;exact AO h λq j h=>.a 4<|.X (agu j)<|Ce))<|.a 1<|AO h λq j h=>.mg 60 5 (Af q) (Cc j (λe i=>by subst e;have h:=i;exact AO h λq j h=>.a 4<|.X (alK j)<|Ce))<|.aW<|CW
def aE0 (j:CJ)(q:CJ):BP:=⟨BA 60 [(2,.ptr 0 0),(3,.ptr 1 0),(5,.ptr 2 0),(6,.ptr 3 0),(7,.ptr 4 0)],[.box (BI (CZ j)),.box (BI (CZ q)),.box (BI (CZ j)),.box (BI (CZ j)),.box (BI (CZ j))],0⟩
def aGP (j:AV):BP:=⟨BA 60 [(4,Af j)],[],0⟩
def RG (j:AV):AB AV:=some j
def gG (j:CJ)(q:CJ):AB AV:=(DC 8 [] j.mJ).bind λL=>(DC 8 L [7]).bind λM=>(DC 32 [] j.Rows).bind λO=>(DC 32 O [(⟨0,7,0,false⟩:FB)]).bind λU=>(KZ j j).bind λY=>(cond Y ((KZ j q).bind λZ=>(Ui j q).bind λu=>(cond (Z==u) ((KZ j ({ j with Next:=Ej .xor .i64 j.Next 1 })).bind λz=>(cond (!z) ((KZ ({ j with mJ:=M }) j).bind λI=>(cond (!I) ((KZ j ({ j with Rows:=U })).bind λJ=>RG (!J)) (RG false))) (RG false))) (RG false))) (RG false))
def aCp :=DR func40 rfl gG FP FP Af λz O r h=>AY<|Fn2 [] [164,165,166,167,168,169] (aE0 z O) ⟨NC (Ae [AQ 0,AQ 1,AQ 2,AQ 3,AQ 4]),NC (Ae [AQ 0,AQ 1,AQ 2,AQ 4,AQ 3]),NC (Ae [AQ 0,AQ 1,AQ 3,AQ 2,AQ 4]),NC (Ae [AQ 0,AQ 1,AQ 4,AQ 2,AQ 3]),NC (Ae [AQ 0,AQ 1,AQ 3,AQ 4,AQ 2]),NC (Ae [AQ 0,AQ 1,AQ 4,AQ 3,AQ 2]),trivial⟩<|AP 2<|.Z (a6y (k:=.i64) (u:=z.Next) (v:=1))<|Bo h λJ j Z I h=>BO<|.f (GY Df zero3 [])<|.a 2<|.f (DZ (k:=5) Ad j Df A8 (λ_=>rfl) Bd)<|.p (Dx Df zero3 [Ad 7])<|.f (DZ (k:=6) Ad I Df A8 (λ_=>rfl) Bd)<|.conv _ (IQ (e:=3) (s:=1) 7 (xs:=List.map Ad Z) A8)<|.aW<|Bo h λJ j Z I h=>BO<|.f (GY TJ ZG [])<|.a 2<|.f (DZ (k:=8) Ea j TJ A8 (λ_=>rfl) Bd)<|.a 1<|.p (Dx TJ ZG [Ea (⟨0,7,0,false⟩:FB)])<|.f (DZ (k:=9) Ea I TJ A8 (λ_=>rfl) Bd)<|.conv _ (IQ (e:=79) (s:=4) 10 (xs:=List.map Ea Z) A8)<|.aW<|D9 (λs=>∃(v5:AV),CO s (aGP v5)/\RG v5=some r) aVR<|aWy
def aHp (j:AV):BP:=⟨BA 112 [(6,Af j)],[],0⟩
def Jt (j:AV):AB AV:=some j
def mW (j:CJ)(u:Int)(q:BL):AB AV:=(wE j).bind λx1=>(cond (!x1) (some true) (some (decide ((q.size:Int)>200)))).bind λx2=>(cond x2 ((aJ).bind λx5=>some x5) ((jT q).bind λJ=>(yU q).bind λx7=>(Yf j u).bind λx8=>(dG j u).bind λx9=>(qg j u).bind λz=>(uw j u).bind λI=>(cond (J.2==x7.2) ((Ui J.1 x7.1).bind λL=>(cond L (cond (ML x8.1 x9.1) (cond (x8.2==x9.2) (cond (z.2==I.2) ((oH z.1 I.1).bind λM=>(cond M ((kS j).bind λO=>(a0b j).bind λU=>(cond (O==U) ((dD j).bind λY=>(uX j).bind λZ=>(Rx Y Z).bind λx27=>(cond x27 ((gG j J.1).bind λx29=>(cond x29 ((aJ).bind λx31=>Jt x31) (Jt false))) (Jt false))) (Jt false))) (Jt false))) (Jt false)) (Jt false)) (Jt false)) (Jt false))) (Jt false))))
def aWO (arI mO agY r)(h:mW arI mO agY=some r):Dw 8 [FP arI,AX mO,D5 agY] [] (Af r) []:=ER func8 rfl<|AY<|AZ<|AO h λx1 x2 h=>AP 1<|.ca (aWu x2)<|.a 1<|AO h λx1 x2 h=>.mg 22 4 (Af x1) (.bi x2)<|.aU<|BG h (λh=>AO h λx1 x2 h=>BO<|.X (aEt  x1 x2)<|CW) λh=>AO h λx1 x2 h=>AP 1<|.X (aHd x2)<|AO h λx2 j h=>AP 1<|.X (aT5 j)<|AO h λj q h=>AP 2<|.X (wM q)<|AO h λq x5 h=>AP 2<|.X (a2s x5)<|AO h λx5 x6 h=>AP 2<|.X (aVO x6)<|AO h λx6 I h=>AP 2<|.X (aN0 I)<|D9 (λs=>∃(v12:AV),CO s (aHp v12)/\Jt v12=some r) aI2<|aMx
end
def Zv (l:AA Int)(h:l.length<=1099511627776):Uc l=some (F7 l):=by
 unfold Uc nJ Oc XZ;rw[Dp EY];have h2:(LW l).length<=1099511627776:=by rw[(St l).length_eq];exact h
 simp[h,aKu,aCb]
def LU (l:AA Int):(F7 l).length<=l.length:=by
 rw[←aCb];exact EK (Lib.compact_length_le _) BU
def aG7 (a b:AA Int):(PX a b).length<=a.length:=by
 unfold PX;exact EK (Kt _ _) (LU a)
def aHA (a b:AA Int):(Hr a b).length<=a.length+b.length:=by
 rw[rO];exact EK (LU _) BU
def aau (a b:Int):cmp_Less_int a b=some (decide (a<b)):=by
 simp[cmp_Less_int,cmp_isNaN_int]
def aiq (l:AA Int)(x:Int)(hi:Inc l)(hn:l.length<=1099511627776):dW (a2z l x) (λr=>r.2=ET l x):=by
 unfold a2z aTH;refine ZJ (λ(m:Nat) (a b:Int)=>∃i j:Nat,a=i/\b=j/\i<=j/\j<=l.length/\m=j-i/\(∀q,(u:q<i)->(hl:q<l.length)->l[q]<x)/\(∀q,(u:j<=q)->(hl:q<l.length)->x<=l[q])) ?_ Am l.length 0 (l.length:Int) jC ⟨0,l.length,rfl,rfl,Ef _,Ec _,rfl,λq u=>AL,λq u hl=>AL⟩;rintro m a b k ⟨i,j,rfl,rfl,hij,hj,rfl,h1,h2⟩ Z;unfold aUl;refine dW.bif (λe=>?_) λe=>?_
 ·have O:i<j:=Ut
  have w1:Az ((i:Int)+(j:Int))=((i+j:Nat):Int):=OH
  have w2:IntKind.u64.wrap ((i+j:Nat):Int)=((i+j:Nat):Int):=by rw[pU];omega
  have w3:PZ .shr .u64 ((i+j:Nat):Int) 1=some (((i+j)/2:Nat):Int):=by
   have e0:((i+j:Nat):Int).fdiv (2^(min (1:Int).toNat IntKind.u64.bits))=(((i+j)/2:Nat):Int):=by
    have :(2:Int)^(min (1:Int).toNat IntKind.u64.bits)=2:=rfl;rw[this,Int.fdiv_eq_ediv_of_nonneg _ AL];omega
   unfold PZ;rw[EZ AL];exact Au some e0
  have w4:Az (((i+j)/2:Nat):Int)=(((i+j)/2:Nat):Int):=OH
  have hm:(i+j)/2<l.length:=AL
  rw[w1,w2,w3];simp only[Ac];rw[w4,CM hm];simp only[Ac];rw[aau,wrap_succ _ AL];simp only[Ac];have mono:∀p q,(hp:p<l.length)->(u:q<l.length)->p<q->l[p]<l[q]:=λp q hp u z=>KJ.1 hi p q hp u z;refine dW.bif (λU=>?_) λU=>?_
  ·have I:l[(i+j)/2]<x:=by simpa using U
   refine Z (j-((i+j)/2+1)) _ _ AL ⟨(i+j)/2+1,j,rfl,rfl,AL,hj,rfl,λq u hl=>?_,h2⟩;by_cases eq:q=(i+j)/2
   ·subst eq;exact I
   have :=mono q ((i+j)/2) hl hm AL;omega
  have I:¬l[(i+j)/2]<x:=by simpa using U
  refine Z ((i+j)/2-i) _ _ AL ⟨i,(i+j)/2,rfl,rfl,AL,AL,rfl,h1,λq u hl=>?_⟩;by_cases eq:q=(i+j)/2
  ·subst eq;omega
  have :=mono ((i+j)/2) q hm hl AL;omega
 have O:¬i<j:=Ut
 have J:i=j:=AL
 subst J;have mono:∀p q,(hp:p<l.length)->(u:q<l.length)->p<q->l[p]<l[q]:=λp q hp u z=>KJ.1 hi p q hp u z;by_cases hl:i<l.length
 ·rw[show decide ((i:Int)<(l.length:Int))=true by simpa using hl,CM hl];simp only[Bj,Ac];by_cases I:l[i]=x
  ·have M:(l[i]==x)=true:=xw
   rw[M];refine .ret ?_;exact(Lm.2 (I▸Et hl)).symm
  have M:(l[i]==x)=false:=xw
  rw[M]
  have Y:ET l x=false:=PW.2 λhm=>by
   obtain⟨q,u,e5⟩:=Ih hm;rcases aB2 q i with L|L|L
   ·have :=h1 q L u;omega
   ·subst L;exact I e5
   have :=mono i q hl u L;have :=h2 i (Ec _) hl;omega
  simp[a5r,Y,dW]
 rw[show decide ((i:Int)<(l.length:Int))=false by simpa using hl];refine .ret ?_;refine(PW.2 λhm=>?_).symm;obtain⟨q,u,M⟩:=Ih hm;have :=h1 q AL u;omega
variable {i:Nat}{l:AA Int}
theorem agc {b:AA Int}(h:i<l.length):(l.take (i+1)).filter (λx=> !ET b x)=(l.take i).filter (λx=> !ET b x)++(if ET b l[i]then[]else[l[i]]):=by
 rw[NU h,Qu]
 grind
def aaq (a b:AA Int)(h:a.length<=274877906944)(h2:b.length<=274877906944):a4h a b=some (PX a b):=by
 unfold a4h;rw[Zv b AL,Zv a AL];simp only[Ac];have ha:=LU a;have O:=LU b;have q:=Ll b
 have J:PX a b=((F7 a).take (F7 a).length).filter (λx=> !ET (F7 b) x):=by
  rw[Gn];unfold PX;congr 1;funext x;congr 1;by_cases j:x∈b
  ·rw[Lm.2 j,Lm.2 (MP.2 j)]
  rw[PW.2 j,PW.2 (λh=>j (MP.1 h))]
 rw[J];generalize F7 a=S at *;generalize F7 b=S2 at *;refine dW.eq ?_;unfold aM7;refine Jd S.length jC (λi v=>v=(S.take i).filter (λx=> !ET S2 x)) BU ?_ ?_
 ·rintro i v k hi rfl u;have z:=wrap_succ i AL;have L:((S.take i).filter (λx=> !ET S2 x)).length<=i:=EK (Kt _ _) EY;have hst:=agc (b:=S2) hi;unfold aCr a5J;rw[show decide ((i:Int)<(S.length:Int))=true by simpa using hi,CM hi];simp only[Bj,Ac];refine(aiq S2 S[i] q AL).bind ?_;rintro r M;rw[M];cases I:ET S2 S[i]with
  |true=>
   simp only[Eh,BN,z];exact u _ (by rw[hst];simp[I])
  |false=>
   simp only[Ip,Bj,z];rw[Dp Fp];exact u _ (by rw[hst];simp[I])
 rintro v k rfl;unfold aCr;rw[show decide ((S.length:Int)<(S.length:Int))=false by simp];exact .ret rfl
theorem Xt (l:AA Int)(x:Int)(h:l.length<=1099511627776):TV l x=some (ET l x):=by
 refine dW.eq ?_;unfold TV aPp;refine rJ l.length jC (λi=>∀j,(q:j<i)->(hl:j<l.length)->l[j]≠x) (λj q=>AL) ?_ ?_
 ·intro i k hi u z;unfold aLm;rw[show decide ((i:Int)<(l.length:Int))=true by simpa using hi,CM hi,wrap_succ i AL];simp only[Bj,Ac];refine dW.bif (λe=>?_) λe=>?_
  ·refine .ret ?_;have :l[i]=x:=Ut
   rw[Lm.2 (this▸Et hi)]
  grind
 intro k u;unfold aLm;rw[show decide ((l.length:Int)<(l.length:Int))=false by simp];refine .ret ?_;rw[PW.2];intro hm;obtain⟨j,q,e⟩:=Ih hm;exact u j q q e
def aDv (p:Int->AV):∀(l:AA Int) (i:Nat),i<=l.length->(∀j,(h:j<i)->(hl:j<l.length)->p l[j]=true)->(∀h:i<l.length,p l[i]=false)->l.takeWhile p=l.take i/\l.dropWhile p=l.drop i
 | [],i,h,_,_=>by simp at h;subst h;simp
 |a::l,0,_,_,h2=>by
  have :=h2 BU;simp at this;simp[this]
 |a::l,i+1,h,h1,h2=>by
  have q:=h1 0 AL BU;simp at q;have :=aDv p l i O5 (λj u hl=>by have :=h1 (j+1) AL Lu;simpa using this) (λhl=>by have :=h2 Lu;simpa using this);simp[q,this.1,this.2]
def kQ (l:AA Int)(x:Int)(h:l.length<=1099511627776):WI l x=some (put l x):=by
 unfold WI;rw[Xt l x h];simp only[Ac];unfold put;cases hh:ET l x with
 |true=>simp
 |false=>
  simp only[BN,TM,KA];refine dW.eq ?_;unfold aVj
  have q:∀i,i<=l.length->(∀j,(u:j<i)->(hl:j<l.length)->l[j]<x)->(∀h:i<l.length,¬l[i]<x)->
   dW ((Hq l 0 (i:Int)).bind λL=>(DC 8 [] L).bind λM=>(DC 8 M [x]).bind λO=>(Hq l (i:Int) ((l.length))).bind λI=>(DC 8 O I).bind λJ=>some J) (· =l.takeWhile (decide<| · <x)++x::l.dropWhile (decide<| · <x)):=by
   intro i hi h1 h2;obtain⟨U,Y⟩:=aDv (decide<| · <x) l i hi (λj u hl=>by simpa using h1 j u hl) (λhl=>by simpa using h2 hl)
   have Z:Hq l 0 (i:Int)=some (l.take i):=by
    have :=iy (l:=l) (lo:=0) (hi:=i) AL hi;simpa using this
   have e4:Hq l (i:Int) (l.length:Int)=some (l.drop i):=by
    rw[iy (l:=l) (lo:=i) (hi:=l.length) hi AL];congr 1;exact Qa BU
   rw[Z];simp only[Ac];rw[Dp EY];simp only[Ac,IE];rw[Dp EY];simp only[Ac];rw[e4];simp only[Ac];rw[Dp EY];refine .ret ?_;rw[U,Y];simp
  refine rJ l.length jC (λi=>∀j,(u:j<i)->(hl:j<l.length)->l[j]<x) (λj u=>AL) ?_ ?_
  ·intro i k hi z hk;unfold aFr;rw[show decide ((i:Int)<(l.length:Int))=true by simpa using hi,CM hi,wrap_succ i AL];simp only[Bj,Ac];refine dW.bif (λe=>?_) λe=>?_
   ·refine hk λj u hl=>?_;by_cases ej:j=i
    ·subst ej;simpa using e
    exact z j AL hl
   exact q i AL z (λ_=>Ut)
  intro k z;unfold aFr;rw[show decide ((l.length:Int)<(l.length:Int))=false by simp];exact q l.length AL z (λh=>AL)
theorem WB (l:AA Int)(x:Int):(put l x).length<=l.length+1:=by
 unfold put;split
 ·omega
 rw[Ed,GN];have :=Au List.length (Fn0 (p:=(decide<| · <x)) (l:=l))
 grind
theorem nU :∀(l a:AA Int),(l.foldl put a).length<=a.length+l.length
 | [],a=>BU
 |x::l,a=>by
  have h1:=nU l (put a x);have h2:=WB a x
  grind
def aOv {a:AA Int}(h:i<l.length):(l.take (i+1)).foldl put a=put ((l.take i).foldl put a) l[i]:=by
 rw[NU h,Qk];rfl
def aJW (l:AA Int)(h:l.length<=274877906944):jr l=some (F7 l):=by
 refine dW.eq ?_;unfold jr aSA;refine Jd l.length jC (λi v=>v=(l.take i).foldl put []) BU ?_ ?_
 ·rintro i v k hi rfl j;have hl:=nU (l.take i) [];simp only[QX,Gz]at hl;unfold aHH;rw[show decide ((i:Int)<(l.length:Int))=true by simpa using hi,CM hi,wrap_succ i AL];simp only[Bj,Ac];rw[kQ _ _ AL];exact j _ (aOv hi).symm
 rintro v k rfl;unfold aHH;rw[show decide ((l.length:Int)<(l.length:Int))=false by simp];exact .ret (by rw[Gn];rfl)
def um (a b:AA Int)(h:a.length<=274877906944)(h2:b.length<=274877906944):Xn a b=some (Hr a b):=by
 unfold Xn;rw[aJW a h];have hs:=LU a;refine dW.eq ?_;simp only[Ac];unfold aUr;refine Jd b.length jC (λi v=>v=(b.take i).foldl put (F7 a)) BU ?_ ?_
 ·rintro i v k hi rfl j;have hl:=nU (b.take i) (F7 a);simp only[Gz]at hl;unfold aHh;rw[show decide ((i:Int)<(b.length:Int))=true by simpa using hi,CM hi,wrap_succ i AL];simp only[Bj,Ac];rw[kQ _ _ AL];exact j _ (aOv hi).symm
 rintro v k rfl;unfold aHh;rw[show decide ((b.length:Int)<(b.length:Int))=false by simp];exact .ret (by rw[Gn];rfl)
variable {A α:Type}{s t:BL}
def Md {R:Type}(c:AV)(x y:R):(cond c (some x) (some y))=some (cond c x y):=by cases c<;>rfl
def a3t {R:Type}(c:AV)(x y:AB A)(f:A->AB R):(cond c x y).bind f=bif c then x.bind f else y.bind f:=by cases c<;>rfl
def lX (a b:AV):(cond a true b)=(a||b):=by cases a<;>rfl
def Vp (a b:AV):(cond a b false)=(a&&b):=by cases a<;>rfl
def Vf (h:i<(DL s).length):Hz s (i:Int)=some (DL s)[i]:=by
 unfold Hz;rw[ES (aEE i)];have h':i<s.size:=WJ
 have e:s[i]? =some s[i]:=by simp[h']
 simp only[dP,e,JV,DL,TF];rfl
def aYF (h:0<(DL s).length):Hz s 0=some (DL s)[0]:=Vf (i:=0) h
theorem Gj {R α:Type}{body:(Int->AB R)->Int->AB R}(l:AA α)(hl:l.length<Am)(p:α->AV)(bad:R)(rest:AB R)(u:∀k (i:Nat) (h:i<l.length),body k (i:Int)=bif p l[i]then some bad else k (Az ((i:Int)+1)))(z:∀k,body k (l.length:Int)=rest):
 bf body Am 0=bif l.any p then some bad else rest:=by
 have J:Am=9223372036854775808:=rfl
 have key:∀n (i:Nat),i+n=l.length->∀m,n<m->bf body m (i:Int)=bif (l.drop i).any p then some bad else rest:=by
  intro n
  induction n with
  |zero=>
   intro i hi m hm;obtain⟨m,rfl⟩:∃q,m=q+1:=⟨m-1,AL⟩
   have :i=l.length:=AL
   subst this;show body (bf body m) _=_;rw[z,Ox];rfl
  |succ n I=>
   intro i hi m hm;obtain⟨m,rfl⟩:∃q,m=q+1:=⟨m-1,AL⟩
   have j:i<l.length:=AL
   show body (bf body m) _=_;rw[u _ i j,wrap_succ i AL,I (i+1) AL m AL,MW j,List.any_cons];cases p l[i]<;>rfl
 grind
def bytes_inj (h:DL s=DL t):s=t:=by
 have hd:s.data.toList=t.data.toList:=by
  unfold DL at h;refine List.map_inj_right (f:=λc:UInt8=>(c.toNat:Int)) (λa b j=>?_) |>.1 h;exact UInt8.toNat_inj.1 AL
 obtain⟨⟨a⟩⟩:=s;obtain⟨⟨b⟩⟩:=t;simp only at hd;rw[hd]
def toList_inj (h:s.toList=t.toList):s=t:=by
 rw[ByteArray.toList_eq,ByteArray.toList_eq]at h;obtain⟨⟨a⟩⟩:=s;obtain⟨⟨b⟩⟩:=t;simp only at h;rw[h]
def JA:(s.toList==t.toList)=decide (s=t):=by
 by_cases h:s=t
 ·subst h;simp
 have :s.toList≠t.toList:=λe=>h (toList_inj e);simp[h,this]
theorem JY {R α:Type}{body:(Int->AB R)->Int->AB R}(l:AA α)(hl:l.length<Am)(q:α->AV)(g:Nat->AB R)(rest:AB R)(z:∀k (i:Nat) (h:i<l.length),body k (i:Int)=bif q l[i]then g i else k (Az ((i:Int)+1)))(I:∀k,body k (l.length:Int)=rest):
 bf body Am 0=if l.findIdx q<l.length then g (l.findIdx q)else rest:=by
 have L:Am=9223372036854775808:=rfl
 have key:∀n (i:Nat),i+n=l.length->∀m,n<m->bf body m (i:Int)=if(l.drop i).findIdx q+i<l.length then g ((l.drop i).findIdx q+i)else rest:=by
  intro n
  induction n with
  |zero=>
   intro i hi m hm;obtain⟨m,rfl⟩:∃u,m=u+1:=⟨m-1,AL⟩
   have :i=l.length:=AL
   subst this;show body (bf body m) _=_;rw[I,Ox,EZ AL]
  |succ n J=>
   intro i hi m hm;obtain⟨m,rfl⟩:∃u,m=u+1:=⟨m-1,AL⟩
   have j:i<l.length:=AL
   show body (bf body m) _=_;rw[z _ i j,wrap_succ i AL,J (i+1) AL m AL,MW j,Ws];cases q l[i]with
   |true=>
    simp[j]
   |false=>
    grind
 grind
def oL {lo hi:Nat}(h1:lo<=hi)(h2:hi<=s.size):OC s (lo:Int) (hi:Int)=some (s.extract lo hi):=by
 unfold OC;rw[ES ⟨AL,AL,AL⟩];simp
def aSY (s:BL)(a b:Nat):DL (s.extract a b)=((DL s).take b).drop a:=by
 simp[DL,ByteArray.data_extract,fP,YM,List.extract_eq_drop_take']
theorem aLd (l:AA α)(q:α->AV):(bif l.any (λc=> !q c)then false else true)=l.all q:=by
 grind
def aF6 :∀(l:AA UInt8) (c:UInt8),Lib.indexByte l c=if l.findIdx (· ==c)<l.length then((l.findIdx (· ==c):Nat):Int)else -1
 | [],c=>rfl
 |b::l,c=>by
  unfold Lib.indexByte;rw[Ws];cases h:b==c with
  |true=>simp
  |false=>
   rw[aF6 l c];simp only[TM,KA,BN,GN];by_cases hl:l.findIdx (· ==c)<l.length
   ·simp only[hl,JK,show l.findIdx (· ==c)+1<l.length+1 by omega];have :(((l.findIdx (· ==c):Nat):Int)== -1)=false:=BU
    simp[this]
   simp[hl,show ¬l.findIdx (· ==c)+1<l.length+1 by omega]
structure Hg (e:Aa):Prop where
 prev:e.bG.length<=40
 auth:e.bJ.length<=40
 allow:e.Content.Allow.length<=100
 deny:e.Content.iw.length<=100
 users:e.Content.Levels.Users.length<=100
 kinds:e.Content.Levels.Kinds.length<=100
 room:e.Room.size<=2000
 sender:e.bQ.size<=2000
 key:e.Key.size<=2000
 text:e.Content.Text.size<=2000
 via:e.Content.Via.size<=2000
 server:e.nM.Server.size<=2000
 allows:∀x∈e.Content.Allow,x.size<=2000
 denies:∀x∈e.Content.iw,x.size<=2000
 names:∀x∈e.Content.Levels.Users,x.User.size<=2000
variable {l:AA α}
def aZH {P:α->Prop}(h:∀j,(hl:j<l.length)->P l[j]):∀x∈l,P x:=λx q=>by
 obtain⟨j,u,rfl⟩:=Ih q;exact h j u
def D8 {R:Type}(h:i<l.length)(f:α->AB R)(z:AB R):(cond ((i:Int)<(l.length:Int)) ((Aj l (i:Int)).bind f) z)=f l[i]:=by
 rw[show decide ((i:Int)<(l.length:Int))=true by simpa using h,CM h];rfl
def EG {R:Type}(y z:AB R):(cond ((l.length:Int)<(l.length:Int)) y z)=z:=by
 rw[show decide ((l.length:Int)<(l.length:Int))=false by simp];rfl
variable {n:Nat}
def fuel_lt (h:n<=1099511627776):n<Am:=jl
def dec_lt (h:i<n):decide ((i:Int)<(n:Int))=true:=O5
def DN (n:Nat):decide ((n:Int)<(n:Int))=false:=BU
variable {a0:A}
def H8 {R:Type}{body:(A->Int->AB R)->A->Int->AB R}(l:AA α)(hl:l.length<=1099511627776)(step:A->α->A)(I:Nat->A->Prop)(j:A->AB R)(z:I 0 a0)(J:∀k a (i:Nat) (h:i<l.length),I i a->I (i+1) (step a l[i])/\body k a (i:Int)=k (step a l[i]) (Az ((i:Int)+1)))(L:∀k a,I l.length a->body k a (l.length:Int)=j a):aP body Am a0 0=j (l.foldl step a0):=by
 have key:∀n (i:Nat) (a:A),i+n=l.length->I i a->∀m,n<m->aP body m a (i:Int)=j ((l.drop i).foldl step a):=by
  intro n
  induction n with
  |zero=>
   intro i a hi ha m hm;obtain⟨m,rfl⟩:∃u,m=u+1:=⟨m-1,AL⟩
   have :i=l.length:=AL
   subst this;show body (aP body m) _ _=_;rw[L _ _ ha,Ox];rfl
  |succ n M=>
   intro i a hi ha m hm;obtain⟨m,rfl⟩:∃u,m=u+1:=⟨m-1,AL⟩
   have q:i<l.length:=AL
   obtain⟨h1,h2⟩:=J (aP body m) a i q ha;show body (aP body m) _ _=_;rw[h2,wrap_succ i AL,M (i+1) _ AL h1 m AL,MW q,Gu]
 have :=key l.length 0 a0 AL z Am (fuel_lt hl);simpa using this
def XP {R:Type}{body:(Int->A->AB R)->Int->A->AB R}(l:AA α)(hl:l.length<=1099511627776)(step:A->α->A)(I:Nat->A->Prop)(j:A->AB R)(z:I 0 a0)(J:∀k a (i:Nat) (h:i<l.length),I i a->I (i+1) (step a l[i])/\body k (i:Int) a=k (Az ((i:Int)+1)) (step a l[i]))(L:∀k a,I l.length a->body k (l.length:Int) a=j a):aP body Am 0 a0=j (l.foldl step a0):=by
 have key:∀n (i:Nat) (a:A),i+n=l.length->I i a->∀m,n<m->aP body m (i:Int) a=j ((l.drop i).foldl step a):=by
  intro n
  induction n with
  |zero=>
   intro i a hi ha m hm;obtain⟨m,rfl⟩:∃u,m=u+1:=⟨m-1,AL⟩
   have :i=l.length:=AL
   subst this;show body (aP body m) _ _=_;rw[L _ _ ha,Ox];rfl
  |succ n M=>
   intro i a hi ha m hm;obtain⟨m,rfl⟩:∃u,m=u+1:=⟨m-1,AL⟩
   have q:i<l.length:=AL
   obtain⟨h1,h2⟩:=J (aP body m) a i q ha;show body (aP body m) _ _=_;rw[h2,wrap_succ i AL,M (i+1) _ AL h1 m AL,MW q,Gu]
 have :=key l.length 0 a0 AL z Am (fuel_lt hl);simpa using this
def Jj {α:Type}(p:α->AV):∀l:AA α,l.find? p=l[l.findIdx p]?
 | []=>rfl
 |x::l=>by
  rw[xO,Ws];cases h:p x with
  |true=>rfl
  |false=>simp[Jj p l]
def En (l:AA Aa)(id:Int):Option Aa:=l.find? λe=>e.Id==id
def IZ (l:AA Aa)(id:Int):Aa×AV:=match En l id with
 |some e=>(e,true)
 |none=>(FU,false)
variable {e:Aa}{l:AA Aa}
def aW2 {id:Int}(h:En l id=some e):e.Id=id:=by
 have :=a4A h;simpa using this
def NK {id:Int}(h:En l id=some e):e∈l:=ZW h
def Nj (l:AA Aa)(id:Int):(IZ l id).2=(En l id).isSome:=by
 unfold IZ;cases En l id<;>rfl
def a5M (l:AA Aa)(hl:l.length<=1099511627776)(f:Aa->AB AV)(p:Aa->AV)(j:∀e,f e=some (p e)):
 Uy l f=some (if l.findIdx p<l.length then((l.findIdx p:Nat):Int)else -1):=by
 unfold Uy aFP;rw[JY l (fuel_lt hl) p (λi=>some (i:Int)) (some (-1))]
 ·split<;>rfl
 ·intro k i h;unfold sV;rw[D8 h,j];rfl
 intro k;unfold sV;rw[EG]
variable {n:Int}
theorem found_eq (l:AA Aa)(p:Aa->AV)(j:n=if l.findIdx p<l.length then((l.findIdx p:Nat):Int)else -1):
 (cond (n<0) (some (FU,false)) ((Aj l n).bind λq=>some (q,true)))=some (match l.find? p with |some e=>(e,true)|none=>(FU,false)):=by
 subst j;rw[Jj];by_cases h:l.findIdx p<l.length
 ·rw[ES h,EM h,show decide (((l.findIdx p:Nat):Int)<0)=false by simp,CM h];rfl
 grind
def NG (l:AA Aa)(id:Int)(hl:l.length<=1099511627776):L6 l id=some (IZ l id):=by
 unfold L6 a4C a1w;rw[a5M l hl _ (λe=>e.Id==id) λ_=>rfl];exact found_eq l _ rfl
def aSI (l:AA Aa)(id:Int)(hl:l.length<=1099511627776):rY l id=some (if l.findIdx (λe=>e.Id==id)<l.length then((l.findIdx (λe=>e.Id==id):Nat):Int)else -1):=by
 unfold rY aU0;rw[JY l (fuel_lt hl) (λe=>e.Id==id) (λi=>some (i:Int)) (some (-1))]
 ·split<;>rfl
 ·intro k i h;unfold aIX;rw[D8 h]
 intro k;unfold aIX;rw[EG]
def KU (l:AA Aa)(id:Int)(hl:l.length<=1099511627776):Jc l id=some (IZ l id):=by
 unfold Jc;rw[aSI l id hl];exact found_eq l _ rfl
def ofIds (l:AA Aa)(ids:AA Int):AA Aa:=ids.filterMap (En l)
def foldl_append {α β:Type}(f:α->AA β):∀(l:AA α) (a:AA β),l.foldl (λr x=>r++f x) a=a++l.flatMap f
 | [],a=>BU
 |x::l,a=>by rw[Gu,foldl_append f l,OZ,Il]
def aTA (l:AA Aa):∀ids,ofIds l ids=ids.flatMap λid=>(En l id).toList
 | []=>rfl
 |id::ids=>by
  unfold ofIds;rw[Vx,OZ,←aTA l ids];cases En l id<;>rfl
def toList_le (o:AB α):o.toList.length<=1:=by cases o<;>simp
def NS {id:Int}(h:En l id=some e):IZ l id=(e,true):=by unfold IZ;rw[h]
def RS {id:Int}(h:En l id=none):IZ l id=(FU,false):=by unfold IZ;rw[h]
def bT (l:AA Aa)(ids:AA Int):(ofIds l ids).length<=ids.length:=List.length_filterMap_le ..
def aNi (l:AA Aa)(ids:AA Int):ids.foldl (λr id=>r++(En l id).toList) []=ofIds l ids:=by
 rw[foldl_append (λid=>(En l id).toList),aTA];rfl
def aiz (l:AA Aa)(ids:AA Int)(hl:l.length<=1000)(hi:ids.length<=1000000):a0u l ids=some (ofIds l ids):=by
 unfold a0u
 have hm:Ir 376 FU 0 (ids.length:Int)=some []:=by
  unfold Ir;rw[ES a4b];rfl
 rw[hm];simp only[Ac];unfold aVn;rw[H8 ids AL (λr id=>r++(En l id).toList) (λi r=>r.length<=i) (λr=>some r) BU]
 ·rw[aNi]
 ·intro k a i h q;have u:=toList_le (En l ids[i]);refine⟨L8,?_⟩;unfold aFs a3N;rw[D8 h,NG l _ AL];cases j:En l ids[i]with
  |none=>simp[RS j]
  |some e=>
   rw[NS j];simp only[Ac,Bj,Qw];rw[Dp Fp];rfl
 intro k a q;unfold aFs;rw[EG]
def aDB (l:AA Aa)(ids:AA Int)(hl:l.length<=1000)(hi:ids.length<=1000000):og l ids=some (ofIds l ids):=by
 unfold og aTg;rw[H8 ids AL (λr id=>r++(En l id).toList) (λi r=>r.length<=i) (λr=>some r) BU]
 ·rw[aNi]
 ·intro k a i h q;have u:=toList_le (En l ids[i]);refine⟨L8,?_⟩;unfold aIm a4u;rw[D8 h,KU l _ AL];cases j:En l ids[i]with
  |none=>simp[RS j]
  |some e=>
   rw[NS j];simp only[Ac,Bj,Qw];rw[Dp Fp];rfl
 intro k a q;unfold aIm;rw[EG]
def aWD (l:AA α)(i:Nat)(x:α)(h:i<l.length):l.set i x=l.take i++x::l.drop (i+1):=aCT▸by simp[h]
def aQD (A:AA α)(g:α)(D:AA α){n:Nat}(h:A.length=n):(A++g::D).take n=A/\(A++g::D).drop (n+1)=D:=by
 subst h;simp
def uy (l:AA Int)(x:Int)(hi:Inc l)(hl:l.length<=1000000000):lS l x=some (put l x):=by
 refine dW.eq ?_;unfold lS aQs
 have L:∀i,i<=l.length->(∀j,(U:j<i)->(hl:j<l.length)->l[j]<x)->(∀h:i<l.length,x<l[i])->put l x=l.take i++x::l.drop i:=by
  intro i hi' h1 h2;obtain⟨e1,O⟩:=aDv (decide<| · <x) l i hi' (λj U hl=>by simpa using h1 j U hl) (λhl=>by have :=h2 hl;simp;omega)
  have hno:ET l x=false:=PW.2 λhm=>by
   obtain⟨q,hq,e4⟩:=Ih hm;rcases vW q i with h5|h5
   ·have :=h1 q h5 hq;omega
   have h6:=h2 AL;rcases vW i q with h7|h7
   ·have :=KJ.1 hi i q AL hq h7;omega
   have :q=i:=AL
   subst this;omega
  unfold put;rw[hno,e1,O];rfl
 have z:∀i,i<=l.length->∀d,d<=l.length-i->∀m,d<m->dW (aP (VF (i:Int) x) m ((i+d:Nat):Int) (l.take (i+d)++(l++[x]).getD (i+d) 0::l.drop (i+d))) (· =l.take i++x::l.drop i):=by
  intro i I d
  induction d with
  |zero=>
   intro _ m hm;obtain⟨m,rfl⟩:∃m',m=m'+1:=⟨m-1,AL⟩
   show dW (VF (i:Int) x (aP (VF (i:Int) x) m) _ _) _;generalize aP (VF (i:Int) x) m=k;unfold VF;rw[show decide (((i+0:Nat):Int)>(i:Int))=false by simp];simp only[BN,PK];have hlen:i<(l.take i++(l++[x]).getD i 0::l.drop i).length:=EY
   rw[CM hlen];refine .ret ?_;rw[dP,aWD _ _ _ hlen];simp[List.take_append,List.drop_append,zU I]
  |succ d ih=>
   intro hd m hm;obtain⟨m,rfl⟩:∃m',m=m'+1:=⟨m-1,AL⟩
   have Y:=ih AL m AL;show dW (VF (i:Int) x (aP (VF (i:Int) x) m) _ _) _;generalize aP (VF (i:Int) x) m=k at Y ⊢;unfold VF;rw[show decide (((i+(d+1):Nat):Int)>(i:Int))=true by simp;omega];simp only[Bj];have w:Az (((i+(d+1):Nat):Int)-1)=((i+d:Nat):Int):=OH
   have J:i+d<l.length:=AL
   have hL:(l.take (i+(d+1))++(l++[x]).getD (i+(d+1)) 0::l.drop (i+(d+1))).length=l.length+1:=EY
   have h1:i+d<(l.take (i+(d+1))++(l++[x]).getD (i+(d+1)) 0::l.drop (i+(d+1))).length:=AL
   have h2:i+(d+1)<(l.take (i+(d+1))++(l++[x]).getD (i+(d+1)) 0::l.drop (i+(d+1))).length:=AL
   rw[w,CM h1];simp only[Ac];rw[CM h2];simp only[Ac]
   have hg:(l.take (i+(d+1))++(l++[x]).getD (i+(d+1)) 0::l.drop (i+(d+1)))[i+d]=l[i+d]:=by
    rw[List.getElem_append_left EY];simp
   rw[hg,dP,aWD _ _ _ h2]
   have e:(l.take (i+(d+1))++(l++[x]).getD (i+(d+1)) 0::l.drop (i+(d+1))).take (i+(d+1))++l[i+d]::(l.take (i+(d+1))++(l++[x]).getD (i+(d+1)) 0::l.drop (i+(d+1))).drop (i+(d+1)+1)=l.take (i+d)++(l++[x]).getD (i+d) 0::l.drop (i+d):=by
    have ht:(l.take (i+(d+1))).length=i+(d+1):=EY
    rw[(aQD _ _ _ ht).1,(aQD _ _ _ ht).2];have h3:(l++[x]).getD (i+d) 0=l[i+d]:=by simp[List.getD,JR J,J]
    rw[h3,show i+(d+1)=i+d+1 by omega,NU J,MW J,Il];rfl
   rw[e];exact Y
 have u:l++[x]=l.take l.length++(l++[x]).getD l.length 0::l.drop l.length:=BU
 refine rJ l.length (fuel_lt AL) (λi=>∀j,(U:j<i)->(hl:j<l.length)->l[j]<x) (λj U=>AL) ?_ ?_
 ·intro i k I Z hk;unfold aE9;rw[show decide ((i:Int)<(l.length:Int))=true by simpa using I,CM I];simp only[Bj,Ac];refine dW.bif (λe=>?_) λe=>?_
  ·rw[wrap_succ i AL];refine hk λj U hl'=>?_;by_cases ej:j=i
   ·subst ej;simpa using e
   exact Z j AL hl'
  have hge:¬l[i]<x:=Ut
  refine dW.bif (λO=>?_) λO=>?_
  ·have hx:l[i]=x:=Z5
   refine .ret ?_;unfold put;rw[Lm.2 (hx▸Et I)];rfl
  have hx:l[i]≠x:=Z5
  rw[Dp Fp];simp only[Ac];rw[L i AL Z (λ_=>AL)];have w:Az (((l++[x]).length:Int)-1)=((i+(l.length-i):Nat):Int):=aGk
  rw[w];have M:=z i AL (l.length-i) (Ec _) Am (fuel_lt AL);rw[show i+(l.length-i)=l.length by omega]at M ⊢;rw[←u]at M;exact M
 intro k Z;unfold aE9;rw[show decide ((l.length:Int)<(l.length:Int))=false by simp];simp only[BN,Ac];rw[Dp Fp];simp only[Ac];rw[L l.length (Ec _) Z (λh=>AL)];have w:Az (((l++[x]).length:Int)-1)=((l.length+0:Nat):Int):=aGk
 rw[w];have M:=z l.length (Ec _) 0 AL Am (fuel_lt AL);rw[PK]at M ⊢;rw[←u]at M;exact M
def dJ (l:AA Aa)(id:Int):AV:=(En l id).isSome
def PI (l:AA Aa)(ids:AA Int):AA Int:=ids.foldl (λr id=>bif dJ l id then r else put r id) []
def Fr (l:AA Aa)(ids:AA Int):AA Int:=(F7 ids).filter (dJ l)
variable {ids:AA Int}{x:Int}
def Ny:x∈Fr l ids↔x∈ids/\dJ l x=true:=by unfold Fr;rw[Ji,MP]
def gy (l:AA Aa)(ids:AA Int):Inc (Fr l ids):=(Ll ids).sublist Uj
def ak9 (l:AA Aa)(ids:AA Int):(Fr l ids).length<=ids.length:=EK (Kt _ _) (LU ids)
def a6m (l:AA Aa):∀(ids r:AA Int),Inc r->Inc (ids.foldl (λr id=>bif dJ l id then r else put r id) r)/\∀x,x∈ids.foldl (λr id=>bif dJ l id then r else put r id) r↔x∈r\/x∈ids/\dJ l x=false
 | [],r,h=>⟨h,λx=>BU⟩
 |id::ids,r,h=>by
  rw[Gu];cases j:dJ l id with
  |true=>
   obtain⟨h1,h2⟩:=a6m l ids r h;refine⟨h1,λx=>(h2 x).trans ⟨λh=>?_,λh=>?_⟩⟩
   ·rcases h with h|h
    ·exact .inl h
    exact .inr ⟨Ii _ h.1,h.2⟩
   rcases h with h|⟨h,h3⟩
   ·exact .inl h
   rcases FI.1 h with rfl|h
   ·rw[j]at h3;cases h3
   exact .inr ⟨h,h3⟩
  |false=>
   obtain⟨h1,h2⟩:=a6m l ids (put r id) (Pn h);refine⟨h1,λx=>(h2 x).trans ?_⟩;rw[XY,FI];constructor
   ·rintro((h|rfl)|h)
    ·exact .inl h
    ·exact .inr ⟨.inl rfl,j⟩
    exact .inr ⟨.inr h.1,h.2⟩
   rintro(h|⟨rfl|h,h3⟩)
   ·exact .inl (.inl h)
   ·exact .inl (.inr rfl)
   exact .inr ⟨h,h3⟩
def kL:x∈PI l ids↔x∈ids/\dJ l x=false:=by
 unfold PI;rw[(a6m l ids [] .nil).2 x];simp
def akj (l:AA Aa)(ids:AA Int):Inc (PI l ids):=(a6m l ids [] .nil).1
def a6f (l:AA Aa)(ids:AA Int):(PI l ids).length<=ids.length:=by
 have key:∀(ids r:AA Int),(ids.foldl (λr id=>bif dJ l id then r else put r id) r).length<=r.length+ids.length:=by
  intro ids
  induction ids with
  |nil=>intro r;simp
  |cons id ids j=>
   intro r;rw[Gu];have h1:=j (cond (dJ l id) r (put r id))
   have h2:(cond (dJ l id) r (put r id)).length<=r.length+1:=by
    cases dJ l id with
    |true=>exact Nat.le_succ _
    |false=>exact WB r id
   simp only[GN];omega
 have :=key ids [];simpa[PI]using this
def cV (l:AA Aa)(ids:AA Int)(hl:l.length<=1000)(hi:ids.length<=500000000):VK l ids=some (PI l ids):=by
 unfold VK aTX;rw[H8 ids AL (λr id=>bif dJ l id then r else put r id) (λi r=>Inc r/\r.length<=i) (λr=>some r) ⟨.nil,Ec _⟩]
 ·rfl
 ·intro k a i h j;have hp:=aSI l ids[i] AL
  have u:dJ l ids[i]=decide (l.findIdx (λe=>e.Id==ids[i])<l.length):=by
   unfold dJ En;rw[Jj];by_cases h:l.findIdx (λe=>e.Id==ids[i])<l.length
   ·rw[EM h,Lp h];rfl
   rw[Ns AL,JF h];rfl
  refine⟨?_,?_⟩
  ·cases dJ l ids[i]with
   |true=>exact⟨j.1,by have :=j.2;show a.length<=i+1;omega⟩
   |false=>exact⟨Pn j.1,by have :=WB a ids[i];have :=j.2;show(put a ids[i]).length<=i+1;omega⟩
  unfold aLS aBk;rw[D8 h,hp];simp only[Ac];by_cases q:l.findIdx (λe=>e.Id==ids[i])<l.length
  ·rw[ES q,u,Lp q,show decide (((l.findIdx (λe=>e.Id==ids[i]):Nat):Int)<0)=false by simp];rfl
  rw[EZ q,u,JF q,CM h];simp only[show decide ((-1:Int)<0)=true by decide,Bj,BN,Ac];rw[uy a _ j.1 (by have :=j.2;omega)];rfl
 intro k a j;unfold aLS;rw[EG]
theorem a1q (a b:AA Int)(h:a.length<=274877906944)(h2:b.length<=274877906944):dU a b=some (PX a b):=by
 unfold dU;rw[aJW a h];simp only[Ac];have ha:=LU a;unfold aVt;rw[H8 (F7 a) AL (λr x=>bif ET b x then r else r++[x]) (λi r=>r.length<=i) (λr=>some r) (Ec _)]
 ·congr 1;unfold PX;generalize F7 a=S
  have key:∀(S r:AA Int),S.foldl (λr x=>bif ET b x then r else r++[x]) r=r++S.filter (λx=> !ET b x):=by
   intro S
   induction S with
   |nil=>
    intro r;simp
   |cons x S j=>
    intro r;rw[Gu,j,U4];cases ET b x<;>simp
  simpa using key S []
 ·intro k r i h q;have u:=Xt b (F7 a)[i] AL;refine⟨?_,?_⟩
  ·cases ET b (F7 a)[i]with
   |true=>
    grind
   |false=>
    show(r++[(F7 a)[i]]).length<=i+1;simp;omega
  unfold aHc a3D;rw[D8 h,u];simp only[Ac];cases ET b (F7 a)[i]with
  |true=>
   rfl
  |false=>
   simp only[Ip,Bj,BN];rw[CM h];simp only[Ac];rw[Dp Fp];rfl
 intro k r q;unfold aHc;rw[EG]
theorem aUL (l:AA Aa)(ids:AA Int):PX ids (PI l ids)=Fr l ids:=
 Du (aDy _ _) (gy _ _) λx=>by
  rw[aM8,kL,Ny]
  grind
def aaO (l:AA Aa)(ids:AA Int)(hl:l.length<=1000)(hi:ids.length<=100000):a1P l ids=some (Fr l ids):=by
 unfold a1P;rw[cV l ids hl AL];simp only[Ac];have :=a6f l ids;rw[a1q _ _ AL AL,aUL];rfl
def aTk (l:AA Aa)(ids:AA Int)(hl:l.length<=1000)(hi:ids.length<=100000):yF l ids=some (Fr l ids):=by
 unfold yF;rw[cV l ids hl AL];simp only[Ac];have :=a6f l ids;rw[a1q _ _ AL AL,aUL];rfl
def I7 (l:AA Aa)(id:Int):AA Int:=(IZ l id).1.bJ
def UM (l:AA Aa)(r:AA Int)(x:Int):AA Int:=bif dJ l x then put r x else r
def KN (l:AA Aa)(ids:AA Int):AA Int:=ids.foldl (λr id=>(I7 l id).foldl (UM l) r) []
def a4n (l:AA Aa):∀(xs r:AA Int),Inc r->Inc (xs.foldl (UM l) r)/\(∀x,x∈xs.foldl (UM l) r↔x∈r\/x∈xs/\dJ l x=true)/\(xs.foldl (UM l) r).length<=r.length+xs.length
 | [],r,h=>⟨h,λx=>BU,BU⟩
 |y::xs,r,h=>by
  rw[Gu];unfold UM;cases q:dJ l y with
  |true=>
   obtain⟨h1,h2,h3⟩:=a4n l xs (put r y) (Pn h);refine⟨h1,λx=>(h2 x).trans ?_,?_⟩
   ·rw[XY,FI];constructor
    ·rintro((h|rfl)|h)
     ·exact .inl h
     ·exact .inr ⟨.inl rfl,q⟩
     exact .inr ⟨.inr h.1,h.2⟩
    rintro(h|⟨rfl|h,j⟩)
    ·exact .inl (.inl h)
    ·exact .inl (.inr rfl)
    exact .inr ⟨h,j⟩
   have :=WB r y;simp only[GN,Bj]at h3 ⊢;exact EK h3 AL
  |false=>
   obtain⟨h1,h2,h3⟩:=a4n l xs r h;refine⟨h1,λx=>(h2 x).trans ⟨λh=>?_,λh=>?_⟩,?_⟩
   ·rcases h with h|h
    ·exact .inl h
    exact .inr ⟨Ii _ h.1,h.2⟩
   ·rcases h with h|⟨h,j⟩
    ·exact .inl h
    rcases FI.1 h with rfl|h
    ·rw[q]at j;cases j
    exact .inr ⟨h,j⟩
   simp only[GN,BN]at h3 ⊢;exact EK h3 AL
theorem aLM (l:AA Aa):∀(ids r:AA Int),Inc r->Inc (ids.foldl (λr id=>(I7 l id).foldl (UM l) r) r)/\∀x,x∈ids.foldl (λr id=>(I7 l id).foldl (UM l) r) r↔x∈r\/dJ l x=true/\∃id∈ids,x∈I7 l id
 | [],r,h=>⟨h,λx=>BU⟩
 |id::ids,r,h=>by
  rw[Gu];obtain⟨j,q,_⟩:=a4n l (I7 l id) r h;obtain⟨h1,h2⟩:=aLM l ids _ j
  grind
def wF (l:AA Aa)(ids:AA Int):Inc (KN l ids):=(aLM l ids [] .nil).1
def Sz:x∈KN l ids↔dJ l x=true/\∃id∈ids,x∈I7 l id:=by
 unfold KN;rw[(aLM l ids [] .nil).2 x];simp
def chainOf (l:AA Aa)(ids:AA Int):AA Int:=l.foldl (λs _=>Hr s (KN l s)) (KN l (Fr l ids))
inductive OD (l:List Aa) (ids:List Int):Int->Prop
 |one {i x:Int} (h:i∈ids) (hx:x∈I7 l i) (hk:dJ l x=true):OD l ids x
 |more {y x:Int} (h:OD l ids y) (hx:x∈I7 l y) (hk:dJ l x=true):OD l ids x
def aer {i:Int}(h:x∈I7 l i):dJ l i=true:=by
 unfold I7 at h;unfold dJ;cases j:En l i with
 |none=>rw[RS j]at h;cases h
 |some e=>rfl
theorem yM {s t:AA Int}(hs:Inc s)(j:Inc t)(h:∀x∈s,x∈t):s.length<=t.length/\(t.length<=s.length->s=t):=by
 have e:s=t.filter (λx=>ET s x):=Du hs (j.sublist Uj) λx=>by
  rw[Ji,Lm]
  grind
 have hl:=Kt (λx=>ET s x) t;refine⟨by rw[e];exact hl,λq=>?_⟩;have h3:(t.filter (λx=>ET s x)).length=t.length:=by have :=Au List.length e;omega
 rw[e];exact zf.2 (List.length_filter_eq_length_iff.1 h3)
def Rn (l:AA Aa):AA Int:=F7 (l.map (·.Id))
def zB (h:dJ l x=true):x∈Rn l:=by
 unfold dJ at h;obtain⟨e,j⟩:=Qi.1 h;exact MP.2 (Hl.2 ⟨e,NK j,aW2 j⟩)
theorem a7f (l:AA Aa):∀(l':AA Aa) (s:AA Int),Inc s->(∀x∈s,dJ l x=true)->
 Inc (l'.foldl (λs _=>Hr s (KN l s)) s)/\(∀x∈l'.foldl (λs _=>Hr s (KN l s)) s,dJ l x=true)/\(∀x∈s,x∈l'.foldl (λs _=>Hr s (KN l s)) s)/\
 ((Rn l).length<=s.length+l'.length->∀x∈KN l (l'.foldl (λs _=>Hr s (KN l s)) s),x∈l'.foldl (λs _=>Hr s (KN l s)) s)
 | [],s,hs,u=>⟨hs,u,λ_ h=>h,λhlen x j=>by
     have h1:=(yM hs (Ll _) (λx j=>zB (u x j))).2 (by show(Rn l).length<=s.length;simpa using hlen);have h2:=zB (Sz.1 j).1;unfold Rn at h2
     rw[←h1]at h2;exact h2⟩
 |e::l',s,hs,u=>by
  rw[Gu]
  have z:∀x∈Hr s (KN l s),dJ l x=true:=λx j=>by
   rcases gI.1 j with h|h
   ·exact u x h
   exact(Sz.1 h).1
  obtain⟨h1,h2,h3,J⟩:=a7f l l' (Hr s (KN l s)) (xk _ _) z;refine⟨h1,h2,λx j=>h3 x (gI.2 (.inl j)),λhlen=>?_⟩;have I:=yM hs (xk s (KN l s)) λx j=>gI.2 (.inl j);by_cases q:s=Hr s (KN l s)
  ·
   have hst:∀(l':AA Aa),l'.foldl (λs _=>Hr s (KN l s)) s=s:=by
    intro l'
    induction l' with
    |nil=>
     rfl
    |cons e l' L=>
     grind
   rw[←q,hst];intro x j;rw[q];exact gI.2 (.inr j)
  grind
def aOM (l:AA Aa)(ids:AA Int):Inc (chainOf l ids):=(a7f l l _ (wF _ _) λ_ j=>(Sz.1 j).1).1
def akv (h:x∈chainOf l ids):dJ l x=true:=(a7f l l _ (wF _ _) λ_ j=>(Sz.1 j).1).2.1 x h
def aPB (l:AA Aa)(ids:AA Int):∀(l':AA Aa) (s:AA Int),(∀x∈s,OD l ids x)->∀x∈l'.foldl (λs _=>Hr s (KN l s)) s,OD l ids x
 | [],s,h=>h
 |e::l',s,h=>by
  rw[Gu];refine aPB l ids l' _ λx j=>?_;rcases gI.1 j with j|j
  ·exact h x j
  obtain⟨h1,y,h2,h3⟩:=Sz.1 j;exact .more (h y h2) h3 h1
theorem aLJ:x∈chainOf l ids↔OD l ids x:=by
 constructor
 ·refine aPB l ids l _ (λx j=>?_) x;obtain⟨h1,y,h2,h3⟩:=Sz.1 j;exact .one (Ny.1 h2).1 h3 h1
 obtain⟨h1,h2,h3,u⟩:=a7f l l _ (wF l (Fr l ids)) λ_ j=>(Sz.1 j).1
 have hlen:(Rn l).length<=(KN l (Fr l ids)).length+l.length:=by
  have :=LU (l.map (·.Id));unfold Rn
  grind
 have z:=u hlen;intro h
 induction h with
 |one h j q=>
  exact h3 _ (Sz.2 ⟨q,_,Ny.2 ⟨h,aer j⟩,j⟩)
 |more h j q I=>
  exact z _ (Sz.2 ⟨q,_,I,j⟩)
theorem iE (l:AA Aa)(ids:AA Int):(chainOf l ids).length<=l.length:=by
 have h1:=(yM (t:=Rn l) (aOM l ids) (Ll _) λx j=>zB (akv j)).1;have h2:=LU (l.map λe:Aa=>e.Id);unfold Rn at h1
 grind
def RQ (l:AA Aa):Prop:=∀e∈l,e.bJ.length<=40
def aBR (h:RQ l)(id:Int):(I7 l id).length<=40:=by
 unfold I7;cases j:En l id with
 |none=>rw[RS j];exact Ef _
 |some e=>rw[NS j];exact h e (NK j)
theorem aYQ (l:AA Aa)(ids:AA Int):(KN l ids).length<=l.length:=by
 have h1:=(yM (t:=Rn l) (wF l ids) (Ll _) λx j=>zB (Sz.1 j).1).1;have h2:=LU (l.map λe:Aa=>e.Id);unfold Rn at h1
 grind
variable {r:AA Int}
theorem lD (hi:Inc r)(h:∀x∈r,dJ l x=true):r.length<=l.length:=by
 have h1:=(yM (t:=Rn l) hi (Ll _) λx j=>zB (h x j)).1;have h2:=LU (l.map λe:Aa=>e.Id);unfold Rn at h1
 grind
theorem aUM (l:AA Aa)(ids:AA Int)(hl:l.length<=1000)(ha:RQ l)(hi:ids.length<=100000):uj l ids true=some (KN l ids):=by
 unfold uj aUG;rw[H8 ids AL (λr id=>(I7 l id).foldl (UM l) r) (λi r=>Inc r/\∀x∈r,dJ l x=true) (λr=>some r) ⟨.nil,λx u=>by cases u⟩]
 ·rfl
 ·intro k r i h z;obtain⟨L,U,_⟩:=a4n l (I7 l ids[i]) r z.1;refine⟨⟨L,λx u=>?_⟩,?_⟩
  ·grind
  unfold aIP aAA;rw[D8 h,KU l _ AL];simp only[Ac,Bj];show aHQ (I7 l ids[i]) l k (i:Int) r 0=_;have M:=aBR ha ids[i];unfold aHQ;rw[H8 (I7 l ids[i]) AL (UM l) (λ_ r=>Inc r/\∀x∈r,dJ l x=true) (λr=>k r (Az ((i:Int)+1))) z]
  ·intro k2 O j I q;refine⟨?_,?_⟩
   ·unfold UM;cases J:dJ l (I7 l ids[i])[j]with
    |true=>
     exact⟨Pn q.1,λx u=>(XY.1 u).elim (q.2 x) λe=>e▸J⟩
    |false=>
     exact q
   unfold aHe a6d;rw[D8 I,KU l _ AL];simp only[Ac,Nj];show(cond (dJ l (I7 l ids[i])[j]) _ _)=_;unfold UM;cases J:dJ l (I7 l ids[i])[j]with
   |true=>
    simp only[Bj];rw[CM I];simp only[Ac];have :=lD q.1 q.2;rw[kQ _ _ AL];rfl
   |false=>
    rfl
  intro k2 O _;unfold aHe;rw[EG]
 intro k r z;unfold aIP;rw[EG]
def anI (l:AA Aa)(ids:AA Int)(hl:l.length<=1000)(ha:RQ l)(h1:Inc ids)(h2:∀x∈ids,dJ l x=true):a6i l ids true=some (l.foldl (λs _=>Hr s (KN l s)) ids):=by
 unfold a6i aVV;rw[H8 l AL (λs _=>Hr s (KN l s)) (λ_ r=>Inc r/\∀x∈r,dJ l x=true) (λr=>some r) ⟨h1,h2⟩]
 ·intro k r i h j;refine⟨⟨xk _ _,λx q=>(gI.1 q).elim (j.2 x) λh=>(Sz.1 h).1⟩,?_⟩;have u:=lD j.1 j.2;have z:=aYQ l r;unfold aFv;rw[dec_lt h];simp only[Bj];rw[aUM l r hl ha AL];simp only[Ac];rw[um _ _ AL AL];rfl
 intro k r j;unfold aFv;rw[DN];rfl
def aIu (l:AA Aa)(ids:AA Int)(hl:l.length<=1000)(ha:RQ l)(hi:ids.length<=100000):fV l ids=some (chainOf l ids):=by
 unfold fV;have q:=ak9 l ids;rw[aaO l ids hl hi];simp only[Ac];rw[aUM l _ hl ha AL];simp only[Ac];rw[anI l _ hl ha (wF _ _) λx j=>(Sz.1 j).1];rfl
variable {B:Type}
section
variable {R C D E F G:Type}{Q:R->Prop}
def TD {body:(A->B->C->AB R)->A->B->C->AB R}(I:Nat->A->B->C->Prop)(hs:∀m a b c k,I m a b c->(∀j a' q u,j<m->I j a' q u->dW (k a' q u) Q)->dW (body k a b c) Q):
 ∀n m a b c,m<n->I m a b c->dW (iK body n a b c) Q
 |0,m,_,_,_,h,_=>AL
 |n+1,m,a,b,c,h,hi=>hs m a b c _ hi λj a' q u h' z=>TD I hs n j a' q u AL z
def a3z {body:(A->B->C->D->E->AB R)->A->B->C->D->E->AB R}(I:Nat->A->B->C->D->E->Prop)(hs:∀m a b c d e k,I m a b c d e->(∀j a' q u z e',j<m->I j a' q u z e'->dW (k a' q u z e') Q)->dW (body k a b c d e) Q):
 ∀n m a b c d e,m<n->I m a b c d e->dW (DK body n a b c d e) Q
 |0,m,_,_,_,_,_,h,_=>AL
 |n+1,m,a,b,c,d,e,h,hi=>hs m a b c d e _ hi λj a' q u z e' h' J=>a3z I hs n j a' q u z e' AL J
def aGi {body:(A->B->C->D->E->F->AB R)->A->B->C->D->E->F->AB R}(I:Nat->A->B->C->D->E->F->Prop)(hs:∀m a b c d e f k,I m a b c d e f->(∀j a' q u z e' J,j<m->I j a' q u z e' J->dW (k a' q u z e' J) Q)->dW (body k a b c d e f) Q):
 ∀n m a b c d e f,m<n->I m a b c d e f->dW (GR body n a b c d e f) Q
 |0,m,_,_,_,_,_,_,h,_=>AL
 |n+1,m,a,b,c,d,e,f,h,hi=>hs m a b c d e f _ hi λj a' q u z e' J h' L=>aGi I hs n j a' q u z e' J AL L
def aTJ {body:(A->B->C->D->E->F->G->AB R)->A->B->C->D->E->F->G->AB R}(I:Nat->A->B->C->D->E->F->G->Prop)(hs:∀m a b c d e f g k,I m a b c d e f g->(∀j a' q u z e' J L,j<m->I j a' q u z e' J L->dW (k a' q u z e' J L) Q)->dW (body k a b c d e f g) Q):
 ∀n m a b c d e f g,m<n->I m a b c d e f g->dW (adv body n a b c d e f g) Q
 |0,m,_,_,_,_,_,_,_,h,_=>AL
 |n+1,m,a,b,c,d,e,f,g,h,hi=>hs m a b c d e f g _ hi λj a' q u z e' J L h' M=>aTJ I hs n j a' q u z e' J L AL M
end
def P9 {V:Type}:∀(m:AA (Int×V)) (k k':Int) (v:V),DF (Dy m k v) k'=bif k'==k then some v else DF m k'
 | [],k,k',v=>by
   unfold Dy DF;rfl
 |p::m,k,k',v=>by
  unfold Dy;cases h:k==p.1 with
  |true=>
   have h1:k=p.1:=O5
   subst h1;simp only[Bj,DF];cases k'==p.1<;>rfl
  |false=>
   have h1:k≠p.1:=O5
   simp only[BN,DF,P9 m k k' v];cases h2:k'==p.1 with
   |true=>
    have h3:k'=p.1:=LM
    subst h3;have :(p.1==k)=false:=by simpa using λe:p.1=k=>h1 e.symm
    rw[this];rfl
   |false=>rfl
def ZV (l:AA Aa)(m:AA (Int×Int)):Prop:=∀id,(DF m id=none/\En l id=none)\/∃(n:Nat) (e:Aa),DF m id=some (n:Int)/\En l id=some e/\l[n]? =some e
variable {m:AA (Int×Int)}
def ZV.isSome (h:ZV l m)(id:Int):(DF m id).isSome=dJ l id:=by
 unfold dJ;rcases h id with⟨h1,h2⟩|⟨n,e,h1,h2,_⟩<;>rw[h1,h2]<;>rfl
theorem ZV.get (h:ZV l m){id:Int}(j:En l id=some e):Aj l ((DF m id).getD 0)=some e:=by
 rcases h id with⟨_,h2⟩|⟨n,e',h1,h2,h3⟩
 ·grind
 rw[j]at h2;cases h2;rw[h1];show Aj l (n:Int)=_;rw[aC8,h3]
theorem sJ (l:AA Aa)(hl:l.length<=1000):dW (Zm l) (ZV l):=by
 unfold Zm aTF
 refine ZJ (λm a b=>∃i:Nat,a=(i:Int)-1/\m=i/\i<=l.length/\∀id,(DF b id=none/\(l.drop i).find? (λe=>e.Id==id)=none)\/∃(n:Nat) (e:Aa),DF b id=some (n:Int)/\(l.drop i).find? (λe=>e.Id==id)=some e/\l[n]? =some e) ?_ Am l.length _ _ (fuel_lt AL)
  ⟨l.length,OH,rfl,Ec _,λid=>.inl ⟨rfl,BU⟩⟩
 rintro m a b k ⟨i,rfl,hm,hi,h⟩ u;unfold aR3;refine dW.bif (λe=>?_) λe=>?_
 ·have q:0<i:=by have :=VB e;omega
  have j:i-1<l.length:=AL
  have z:(i:Int)-1=((i-1:Nat):Int):=AL
  rw[z,CM j];simp only[Ac];refine u (i-1) _ _ AL ⟨i-1,OH,rfl,AL,λid=>?_⟩;rw[P9,MW j,show i-1+1=i by omega,xO]
  grind
 have I:i=0:=by have :=N8 e;omega
 subst I;refine .ret λid=>?_;have :=h id;rw[a1Z]at this;exact this
inductive VY (l:List Aa) (from_:List Int):Int->Prop
 |one {x:Int} (h:x∈from_) (hk:dJ l x=true):VY l from_ x
 |more {y x:Int} (h:VY l from_ y) (hx:x∈I7 l y) (hk:dJ l x=true):VY l from_ x
def VY.dJ {f:AA Int}(h:VY l f x):dJ l x=true:=by cases h<;>assumption
theorem aag (h:x∉r):(put r x).length=r.length+1:=by
 unfold put;rw[EZ (by rw[Lm];exact h),Ed,GN];have :=Au List.length (Fn0 (p:=(decide<| · <x)) (l:=r))
 grind
def aO8 (r:AA Int)(x:Int):F7 (r++[x])=put (F7 r) x:=by unfold F7;rw[Qk];rfl
structure acD (l:List Aa) (from_ next aA0:List Int) (i:Nat) (out later:List Int) (found level:List (Int×Bool)):Prop where
 found:∀x,(DF found x).getD false=true↔x∈out
 level:∀x,(DF level x).getD false=true->x∈out
 nodup:(F7 out).length=out.length
 rch:∀x∈out,VY l from_ x
 seen:∀x∈next.take i,dJ l x=true->x∈out
 sub:∀x∈aA0,x∈out
 ref:∀y∈out,y∈aA0\/∀x∈I7 l y,x∈later
 back:∀x∈later,∃y∈out,x∈I7 l y
 size:later.length+40*aA0.length<=40*out.length
 same:out.length=aA0.length->later=[]
def aEO {j:AA Int}(h:(F7 j).length=j.length)(q:∀x∈j,dJ l x=true):j.length<=l.length:=by
 rw[←h];exact lD (Ll j) λx u=>q x (MP.1 u)
def adH (l:AA Aa)(h:En l x=some e):Za e=some (I7 l x):=by
 unfold Za I7;rw[NS h]
theorem acv (l:AA Aa)(q:AA Int)(hl:l.length<=1000)(ha:RQ l)(hf:q.length<=10000000):
 dW (zO l q λa0=>Za a0) (λr=>Inc r/\∀x,x∈r↔VY l q x):=by
 unfold zO;refine(sJ l hl).bind λat_ Z=>?_;unfold aQ6
 refine a3z (λm z next at' found level=>at'=at_/\m=2*(l.length-z.length)+(if next=[]then 0 else 1)/\next.length<=10000000/\(∀x,(DF found x).getD false=true↔x∈z)/\(F7 z).length=z.length/\
  (∀x∈z,VY l q x)/\(∀x∈next,dJ l x=true->VY l q x)/\(∀x∈q,dJ l x=true->x∈z\/x∈next)/\(∀y∈z,∀x∈I7 l y,dJ l x=true->x∈z\/x∈next)) ?_ Am (2*(l.length-([]:AA Int).length)+(if q=[]then 0 else 1)) _ _ _ _ _ ?_ ?_
 ·rintro m z next at2 found level k ⟨aK5,rfl,hn,h1,h2,h3,h4,h5,h6⟩ M;subst aK5;unfold aQp;have hol:=aEO h2 λx j=>(h3 x j).dJ;refine dW.bif (λe=>?_) λe=>?_
  ·have hne:next≠[]:=by
    rintro rfl;simp at e
   unfold aRX;refine aGi (body:=aLa next l (λa0=>Za a0) k) (λ(m:Nat) (o la:AA Int) (c:Int) (d:AA (Int×Int)) (fo le:AA (Int×AV))=>∃i:Nat,c=i/\i+m=next.length/\d=at2/\acD l q next z i o la fo le) ?_ Am next.length _ _ _ _ _ _ jl ?_
   ·rintro m o la c d fo le k2 ⟨i,rfl,hm,rfl,u⟩ U;unfold aLa;refine dW.bif (λe=>?_) λe=>?_
    ·have hi:i<next.length:=Ut
     have w:=wrap_succ i AL;have aK6:=aEO u.nodup λx j=>(u.rch x j).dJ;rw[CM hi];simp only[Ac];rw[Z.isSome];unfold a3f;have J:next.take (i+1)=next.take i++[next[i]]:=by rw[NU hi]
     cases Y:dJ l next[i]with
     |false=>
      simp only[Ip,Bj,Ac,w];refine U (m-1) _ _ _ _ _ _ AL ⟨i+1,rfl,AL,rfl,{ u with seen:=λx j M=>?_ }⟩;rw[J,Je]at j;rcases j with j|j
      ·exact u.seen x j M
      rw[Np.1 j,Y]at M;cases M
     |true=>
      simp only[Eh,BN,Ac];by_cases O:next[i]∈o
      ·rw[(u.found next[i]).2 O];simp only[Bj,Ac,w];refine U (m-1) _ _ _ _ _ _ AL ⟨i+1,rfl,AL,rfl,{ u with seen:=λx j M=>?_ }⟩;rw[J,Je]at j;rcases j with j|j
       ·exact u.seen x j M
       rw[Np.1 j];exact O
      have f1:(DF fo next[i]).getD false=false:=by
       cases h:(DF fo next[i]).getD false with
       |false=>
        rfl
       |true=>
        exact absurd ((u.found _).1 h) O
      have f2:(DF le next[i]).getD false=false:=by
       cases h:(DF le next[i]).getD false with
       |false=>
        rfl
       |true=>
        exact absurd (u.level _ h) O
      rw[f1,f2];simp only[BN,Ac];obtain⟨ev,hev⟩:=Qi.1 (show(En l next[i]).isSome=true from Y);rw[Dp Fp];simp only[Ac];rw[Z.get hev];simp only[Ac];rw[adH l hev];simp only[Ac];have hau:=aBR ha next[i];have hsz:=u.size;rw[Dp AL];simp only[Ac,w];refine U (m-1) _ _ _ _ _ _ AL ⟨i+1,rfl,AL,rfl,?_⟩;have hnx:VY l q next[i]:=h4 _ (Et hi) Y;refine⟨λx=>?_,λx j=>?_,?_,λx j=>?_,λx j M=>?_,λx j=>qQ _ (u.sub x j),λy L=>?_,λx j=>?_,?_,λh=>?_⟩
      ·rw[P9,Je,Np];cases j:x==next[i]with
       |true=>
        grind
       |false=>
        simp only[BN];rw[u.found x];exact⟨.inl,λh=>h.elim id λh=>by simp[h]at j⟩
      ·rw[P9]at j;rw[Je,Np];cases hxe:x==next[i]with
       |true=>
        grind
       |false=>
        rw[hxe]at j;exact .inl (u.level x j)
      ·rw[aO8,aag (λh=>O (MP.1 h)),u.nodup];simp
      ·rcases Je.1 j with j|j
       ·exact u.rch x j
       rw[Np.1 j];exact hnx
      ·rw[J,Je]at j;rcases j with j|j
       ·exact qQ _ (u.seen x j M)
       exact a6a _ j
      ·rcases Je.1 L with L|L
       ·exact(u.ref y L).imp id λh x j=>qQ _ (h x j)
       rw[Np.1 L];exact .inr λx j=>a6a _ j
      ·rcases Je.1 j with j|j
       ·obtain⟨y,L,h⟩:=u.back x j;exact⟨y,qQ _ L,h⟩
       exact⟨next[i],a6a _ (Np.2 rfl),j⟩
      ·simp only[Ed,QK];omega
      have :=u.size;simp only[Ed,QK]at h;omega
    have hi:i=next.length:=by
      have :¬i<next.length:=Ut
      omega
    subst hi;have aK6:=aEO u.nodup λx j=>(u.rch x j).dJ;have hsz:=u.size;refine M (2*(l.length-o.length)+(if la=[]then 0 else 1)) _ _ _ _ _ ?_ ⟨rfl,rfl,AL,u.found,u.nodup,u.rch,λx j I=>?_,λx j I=>?_,λy L x j I=>?_⟩
    ·rw[EZ hne];have hle:z.length<=o.length:=AL
     rcases vW z.length o.length with h|h
     ·split<;>omega
     have :=u.same AL
     grind
    ·obtain⟨y,L,h⟩:=u.back x j;exact .more (u.rch y L) h I
    ·rcases h5 x j I with h|h
     ·exact .inl (u.sub x h)
     exact .inl (u.seen x (by rw[Gn];exact h) I)
    rcases u.ref y L with h|h
    ·rcases h6 y h x j I with h|h
     ·exact .inl (u.sub x h)
     exact .inl (u.seen x (by rw[Gn];exact h) I)
    grind
   exact⟨0,rfl,AL,rfl,⟨h1,λx j=>by simp[DF]at j,h2,h3,λx j=>a0f,λ_ h=>h,λy L=>.inl L,λx j=>(Gh j).elim,BU,λ_=>rfl⟩⟩
  have hz:next=[]:=by
   cases next with
   |nil=>
    rfl
   |cons a b=>
    simp at e
  subst hz;rw[Zv z AL];refine .ret ⟨Ll _,λx=>?_⟩;rw[MP];refine⟨h3 x,λh=>?_⟩
  induction h with
  |one h I=>
   grind
  |more h j I ih=>
   grind
 ·have :Am=9223372036854775808:=rfl
  grind
 exact⟨rfl,rfl,hf,λx=>by simp[DF],rfl,λx j=>(Gh j).elim,λx j M=>.one j M,λx j _=>.inr j,λy L=>(Gh L).elim⟩
def aJG (l:AA Aa)(ids:AA Int)(hl:l.length<=1000)(ha:RQ l)(hi:ids.length<=100000):YF l ids=some (chainOf l ids):=by
 refine dW.eq ?_;unfold YF;refine(sJ l hl).bind λat_ q=>?_;unfold aMh;rw[H8 ids AL (λr id=>r++I7 l id) (λi r=>r.length<=40*i) (λr=>(zO l r λa0=>Za a0).bind λJ=>some J) BU]
 ·rw[foldl_append (I7 l),IE]
  have hlen:(ids.flatMap (I7 l)).length<=40*ids.length:=by
   have key:∀ids:AA Int,(ids.flatMap (I7 l)).length<=40*ids.length:=by
    intro ids
    induction ids with
    |nil=>simp
    |cons x ids I=>have :=aBR ha x;rw[OZ,Ed,GN];omega
   exact key ids
  refine(acv l _ hl ha AL).bind λr L=>.ret ?_;refine Du L.1 (aOM l ids) λx=>(L.2 x).trans (Iff.trans ?_ aLJ.symm);constructor
  ·intro h
   induction h with
   |one h j=>
    obtain⟨i,hi,h⟩:=Vy.1 h;exact .one hi h j
   |more h u j I=>exact .more I u j
  intro h
  induction h with
  |one h u j=>exact .one (Vy.2 ⟨_,h,u⟩) j
  |more h u j I=>exact .more I u j
 ·intro k r i h O;have M:=aBR ha ids[i];refine⟨by simp only[Ed];omega,?_⟩;unfold aGu a2j;rw[D8 h,q.isSome];cases j:dJ l ids[i]with
  |false=>
   have :I7 l ids[i]=[]:=by
    unfold I7;rw[RS (by unfold dJ at j;simpa using j)];rfl
   rw[this,Rs];rfl
  |true=>
   obtain⟨ev,z⟩:=Qi.1 (show(En l ids[i]).isSome=true from j);simp only[Bj];rw[q.get z];simp only[Ac];have :I7 l ids[i]=ev.bJ:=by unfold I7;rw[NS z]
   rw[←this,Dp AL];rfl
 intro k r _;unfold aGu;rw[EG]
def aEB :∀x:AA UInt8,Op.bytesLess x x=false
 | []=>rfl
 |a::x=>by
  unfold Op.bytesLess;rw[aEB x];simp
theorem aMz :∀{x y z:AA UInt8},Op.bytesLess x y=true->Op.bytesLess y z=true->Op.bytesLess x z=true
 |_,_,[],_,h=>a1Y
 | [],_,_::_,_,_=>
     rfl
 |_::_,[],_::_,h,_=>a1Y
 |a::x,b::y,c::z,h,k=>by
  simp only[Op.bytesLess,zI,ED,Iu,VR]at h k ⊢;rcases h with h|⟨rfl,h⟩<;>rcases k with k|⟨rfl,k⟩
  ·grind
  ·exact .inl h
  ·exact .inl k
  exact .inr ⟨rfl,aMz h k⟩
def aNa :∀{x y:AA UInt8},Op.bytesLess x y=false->Op.bytesLess y x=false->x=y
 | [],[],_,_=>rfl
 | [],_::_,h,_=>a1Y
 |_::_,[],_,h=>a1Y
 |a::x,b::y,h,k=>by
  simp only[Op.bytesLess,a1h,Bool.and_eq_false_iff,yH,aIt]at h k;have e:a=b:=UInt8.le_antisymm (UInt8.not_lt.1 k.1) (UInt8.not_lt.1 h.1);subst e;have h2:=h.2.resolve_left (λh=>h rfl);have k2:=k.2.resolve_left (λh=>h rfl);rw[aNa h2 k2]
def Fe (a b:BM):AV:=decide (a.Kind<b.Kind)||(a.Kind==b.Kind&&Op.bytesLess a.Key.toList b.Key.toList)
def Iq (a b:BM):AV:=a.Kind==b.Kind&&(a.Key=b.Key)
def anN (a:BM):Fe a a=false:=by unfold Fe;rw[aEB];simp
variable {a b c:BM}
theorem aNJ (h:Fe a b=true)(k:Fe b c=true):Fe a c=true:=by
 unfold Fe at *;simp only[zI,ED,Iu,VR]at *;rcases h with h|⟨h1,h2⟩<;>rcases k with k|⟨j,k2⟩
 ·grind
 ·grind
 ·grind
 exact .inr ⟨AL,aMz h2 k2⟩
def Wq:Iq a b=true↔a.Kind=b.Kind/\a.Key=b.Key:=by unfold Iq;simp
def aV9 (h:Fe a b=false)(k:Fe b a=false):Iq a b=true:=by
 unfold Fe at *;simp only[a1h,Bool.and_eq_false_iff,yH,aIt]at *;have e:a.Kind=b.Kind:=AL
 rw[Wq];exact⟨e,toList_inj (aNa (h.2.resolve_left λn=>n e) (k.2.resolve_left λn=>n e.symm))⟩
def a0F (h:Iq a b=true):Fe a b=false:=by
 obtain⟨h1,h2⟩:=Wq.1 h;unfold Fe;rw[h1,h2,aEB];simp
theorem tN (h:Iq a b=true):Fe a c=Fe b c/\Fe c a=Fe c b:=by
 obtain⟨h1,h2⟩:=Wq.1 h;unfold Fe
 grind
theorem aia (a b:BM):qp a b=some (Fe a b):=by
 unfold qp Fe
 grind
theorem anP (k:Int)(key:BL)(m:Int)(o:BL)(i j:Int):a13 k key m o=some (Fe ⟨k,key,i⟩ ⟨m,o,j⟩):=by
 unfold a13 Fe
 grind
def FN (s:AA BM)(e:BM):Nat:=s.findIdx λx=> !Fe x e
def KT (s:AA BM)(e:BM):AV:=match s[FN s e]? with
 |some x=>Iq x e
 |none=>false
def zo (s:AA BM)(e:BM):FN s e<=s.length:=List.findIdx_le_length
variable {e:BM}{s:AA BM}
def aSf (h:FN s e<s.length):Fe s[FN s e] e=false:=by
 have :=List.findIdx_getElem (w:=h);unfold FN;simpa using this
theorem aV1 (s:AA BM)(k:Int)(key:BL)(hs:s.length<=1000000):a0l s k key=some (((FN s ⟨k,key,0⟩:Nat):Int),KT s ⟨k,key,0⟩):=by
 unfold a0l aEh aRy;generalize j:(⟨k,key,0⟩:BM)=e
 have hp:bf (aBw s (λa0=>zX a0 e) (λa0=>vU a0 e)) Am 0=some (((FN s e:Nat):Int),KT s e):=by
  rw[JY s (fuel_lt AL) (λx=> !Fe x e) (λi=>some (((i:Nat):Int),match s[i]? with |some x=> !Fe e x|none=>false)) (some (((s.length:Nat):Int),false))]
  ·split
   ·rename_i h;congr 2;unfold KT FN;rw[EM h];have h1:Fe s[s.findIdx λx=> !Fe x e] e=false:=aSf h;show(!Fe e s[s.findIdx λx=> !Fe x e])=Iq s[s.findIdx λx=> !Fe x e] e;cases h2:Fe e s[s.findIdx λx=> !Fe x e]with
    |false=>
     rw[aV9 h1 h2];rfl
    |true=>
     cases h3:Iq s[s.findIdx λx=> !Fe x e] e with
     |false=>
      rfl
     |true=>
      rw[(tN h3).2,anN]at h2;cases h2
   rename_i h;have h':FN s e=s.length:=by have :=zo s e;unfold FN at *;omega
   have h2:KT s e=false:=by unfold KT;rw[h',Ns (Ec _)]
   rw[h',h2]
  ·intro k2 i h;unfold aBw;rw[D8 h,D8 h];simp only[zX,vU,aia,Ac]
   grind
  intro k2;unfold aBw;rw[EG,EG];rfl
 rw[hp];rfl
def Jf (s:AA BM):Prop:=s.Pairwise λa b=>Fe a b=true
def JM (s:AA BM)(k:Int)(key:BL):Int×AV:=match s.find? λx=>Iq x ⟨k,key,0⟩with
 |some x=>(x.Id,true)
 |none=>(0,false)
def aEM (s:AA BM)(k:Int)(key:BL)(hs:s.length<=1000000):pI s k key=some (JM s k key):=by
 unfold pI aRq;rw[JY s (fuel_lt AL) (λx=>Iq x ⟨k,key,0⟩) (λi=>(Aj s (i:Int)).bind λj=>some (j.Id,true)) (some (0,false))]
 ·unfold JM;rw[Jj];split
  ·rename_i h;rw[CM h,EM h];rfl
  rename_i h;rw[Ns AL]
 ·intro k2 i h;unfold aGt;rw[D8 h,CM h];simp only[Ac];unfold Iq;rw[JA];cases s[i].Kind==k<;>rfl
 intro k2;unfold aGt;rw[EG]
def akU (h:Jf s)(e:BM):s.find? (λx=>Iq x e)=match s[FN s e]? with |some x=>if Iq x e then some x else none|none=>none:=by
 induction s with
 |nil=>rfl
 |cons a s j=>
  have h':=QI.1 h;unfold FN;rw[xO,Ws];cases hp:Fe a e with
  |true=>
   have hs:Iq a e=false:=by
    cases hs:Iq a e with
    |false=>rfl
    |true=>rw[a0F hs]at hp;cases hp
   rw[hs];simp only[Eh,BN,jV];exact j h'.2
  |false=>
   simp only[Ip,Bj,dw];cases hs:Iq a e with
   |true=>rfl
   |false=>
    simp only[TM,KA];refine aBV.2 λx q u=>?_;have h1:=h'.1 x q;rw[(tN u).2,hp]at h1;cases h1
theorem aHN (s:AA BM)(k:Int)(key:BL)(hs:s.length<=1000000)(h:Jf s):nZ s k key=some (JM s k key):=by
 unfold nZ;rw[aV1 s k key hs];simp only[Ac];unfold JM KT;rw[akU h];by_cases hl:FN s ⟨k,key,0⟩<s.length
 ·rw[EM hl];simp only;cases j:Iq s[FN s ⟨k,key,0⟩] ⟨k,key,0⟩with
  |true=>
   simp only[Bj,JK];rw[CM hl];rfl
  |false=>
   rfl
 grind
def GL (s:AA BM)(k:Int)(key:BL)(id:Int):AA BM:=
 s.take (FN s ⟨k,key,0⟩)++⟨k,key,id⟩::s.drop (FN s ⟨k,key,0⟩+bif KT s ⟨k,key,0⟩then 1 else 0)
theorem amE (h:KT s e=true):FN s e<s.length:=by
 unfold KT at h
 grind
variable {l:AA α}
def xU (hi:i<=l.length):Hq l 0 (i:Int)=some (l.take i):=by
 have :=iy (l:=l) (lo:=0) (hi:=i) AL hi;simpa using this
def Xk (hi:i<=l.length):Hq l (i:Int) (l.length:Int)=some (l.drop i):=by
 rw[iy (l:=l) (lo:=i) (hi:=l.length) hi AL];congr 1;exact Qa BU
def Yi (s:AA BM)(k:Int)(key:BL)(id:Int)(hs:s.length<=1000000):Ro s k key id=some (GL s k key id):=by
 unfold Ro;rw[aV1 s k key hs];simp only[Ac];have hp:=zo s ⟨k,key,0⟩;unfold aAR GL;rw[xU hp];simp only[Ac];rw[Dp EY];simp only[Ac,IE];rw[Dp EY];simp only[Ac];cases j:KT s ⟨k,key,0⟩with
 |true=>
  have hl:=amE j;simp only[Bj];rw[wrap_succ _ AL,Xk hl];simp only[Ac];rw[Dp EY];simp
 |false=>
  simp only[BN];rw[Xk hp];simp only[Ac];rw[Dp EY];simp
def aIM (s:AA BM)(k:Int)(key:BL)(id:Int)(hs:s.length<=1000000):dQ s k key id=some (GL s k key id):=by
 unfold dQ aNX
 have j:∀(k2:Int->AB (AA BM)),Yu k2 ((FN s ⟨k,key,0⟩:Nat):Int) s k key id false=some (GL s k key id):=by
  intro k2;have hp:=zo s ⟨k,key,0⟩;unfold Yu a6I GL;simp only[BN];rw[xU hp];simp only[Ac];rw[Dp EY];simp only[Ac,IE];rw[Dp EY];simp only[Ac];by_cases hl:FN s ⟨k,key,0⟩<s.length
  ·rw[dec_lt hl,CM hl];simp only[Bj,Ac]
   have u:KT s ⟨k,key,0⟩=(s[FN s ⟨k,key,0⟩].Kind==k&&(s[FN s ⟨k,key,0⟩].Key=key)):=by
    unfold KT;rw[EM hl];rfl
   rw[u,JA,←Vp];cases z:s[FN s ⟨k,key,0⟩].Kind==k with
   |false=>
    simp only[BN,Ac];rw[Xk hp];simp only[Ac];rw[Dp EY];simp
   |true=>
    simp only[Bj,Ac];cases decide (s[FN s ⟨k,key,0⟩].Key=key)with
    |true=>
     simp only[Bj];rw[wrap_succ _ AL,Xk hl];simp only[Ac];rw[Dp EY];simp
    |false=>
     simp only[BN];rw[Xk hp];simp only[Ac];rw[Dp EY];simp
  have q:FN s ⟨k,key,0⟩=s.length:=AL
  have u:KT s ⟨k,key,0⟩=false:=by unfold KT;rw[q,Ns (Ec _)]
  rw[u,q,DN];simp only[BN,Ac];rw[Xk (Ec _)];simp only[Ac];rw[Dp EY];simp
 rw[JY s (fuel_lt AL) (λx=> !Fe x ⟨k,key,0⟩) (λi=>Yu (λ_=>none) (i:Int) s k key id false) (Yu (λ_=>none) (s.length:Int) s k key id false)]
 ·split
  ·exact j _
  rename_i h;have q:FN s ⟨k,key,0⟩=s.length:=aPx
  have :=j λ_=>none;rw[q]at this;exact this
 ·intro k2 i h;unfold aDQ;rw[dec_lt h,CM h];simp only[Bj,Ac];rw[anP _ _ _ _ s[i].Id 0];simp only[Ac];show Yu k2 _ s k key id (Fe s[i] ⟨k,key,0⟩)=_;cases Fe s[i] ⟨k,key,0⟩<;>rfl
 intro k2;unfold aDQ;rw[DN];rfl
theorem Po (s:AA BM)(k:Int)(key:BL)(id:Int):(GL s k key id).length<=s.length+1:=by
 unfold GL
 grind
variable {x:BM}
theorem ahs (h:x∈s.take (FN s e)):Fe x e=true:=by
 obtain⟨i,hi,rfl⟩:=Ih h;have j:i<FN s e:=by simp at hi;omega
 have :=List.not_of_lt_findIdx j
 grind
def aNy (hs:Jf s)(h:x∈s.drop (FN s e+bif KT s e then 1 else 0)):Fe e x=true:=by
 generalize q:(FN s e+bif KT s e then 1 else 0)=n at h;obtain⟨i,hi,rfl⟩:=Ih h;rw[List.getElem_drop];rw[NP]at hi;by_cases hl:FN s e<s.length
 ·have h1:=aSf hl;cases j:KT s e with
  |true=>
   rw[j]at q;simp only[Bj]at q;have h2:Iq s[FN s e] e=true:=aOi
   rw[←(tN h2).1];exact KJ.1 hs _ _ hl AL AL
  |false=>
   rw[j]at q;simp only[BN,PK]at q;subst q;have h2:Iq s[FN s e] e=false:=aOi
   have h3:Fe e s[FN s e]=true:=by
    cases h:Fe e s[FN s e]with
    |true=>rfl
    |false=>rw[aV9 h1 h]at h2;cases h2
   rcases X0 i with u|u
   ·subst u;simpa using h3
   exact aNJ h3 (KJ.1 hs _ _ hl AL AL)
 omega
def XM (h:Jf s)(k:Int)(key:BL)(id:Int):Jf (GL s k key id):=by
 have u:Iq ⟨k,key,id⟩ ⟨k,key,0⟩=true:=Wq.2 ⟨rfl,rfl⟩;unfold GL Jf;refine a5h.2 ⟨h.sublist (List.take_sublist ..),QI.2 ⟨λx j=>?_,h.sublist (List.drop_sublist ..)⟩,λx j y q=>?_⟩
 ·rw[(tN u).1];exact aNy h j
 have h1:Fe x ⟨k,key,0⟩=true:=ahs j;rcases FI.1 q with rfl|q
 ·rw[(tN u).2];exact h1
 exact aNJ h1 (aNy h q)
structure OO (l:List (List BM)):Prop where
 len:l.length<=100
 each:∀s∈l,s.length<=100/\Jf s
def JI (l:AA (AA BM))(x:BM):AV:=l.all λs=>(JM s x.Kind x.Key).2&&(JM s x.Kind x.Key).1==x.Id
theorem adw (l:AA (AA BM))(x:BM)(h:OO l):aAx l x=some (JI l x):=by
 unfold aAx aVm;rw[Gj l (fuel_lt (by have :=h.len;omega)) (λs=> !((JM s x.Kind x.Key).2&&(JM s x.Kind x.Key).1==x.Id)) false (some true)]
 ·unfold JI
  grind
 ·intro k i hi;obtain⟨h1,h2⟩:=h.each l[i] (Et hi);unfold aGy;rw[D8 hi,aHN _ _ _ AL h2]
  grind
 intro k;unfold aGy;rw[EG]
theorem aiX (l:AA (AA BM))(x:BM)(h:OO l):aAw l x=some (JI l x):=by
 unfold aAw aQS;rw[Gj l (fuel_lt (by have :=h.len;omega)) (λs=> !((JM s x.Kind x.Key).2&&(JM s x.Kind x.Key).1==x.Id)) false (some true)]
 ·unfold JI
  grind
 ·intro k i hi;obtain⟨h1,h2⟩:=h.each l[i] (Et hi);unfold aGL;rw[D8 hi,aEM _ _ _ AL]
  grind
 intro k;unfold aGL;rw[EG]
def IY (l:AA (AA BM)):AA BM:=match l with
 | []=>[]
 |s::_=>s.filter (JI l)
def Ry (l:AA (AA BM)):AA Int:=(l.flatMap λs=>s.filter λx=> !JI l x).map (·.Id)
def Qp (l:AA (AA BM))(i:Nat):AA BM:=if i=0 then[]else IY l
def O7 (l:AA (AA BM))(i:Nat):AA Int:=((l.take i).flatMap λs=>s.filter λx=> !JI l x).map (·.Id)
variable {l:AA (AA BM)}
theorem aRZ (h:i<l.length):Qp l (i+1)=Qp l i++(if i=0 then l[i].filter (JI l)else[]):=by
 unfold Qp IY
 grind
def aCm (h:i<l.length):O7 l (i+1)=O7 l i++(l[i].filter λx=> !JI l x).map (·.Id):=by
 unfold O7;rw[NU h,List.flatMap_append,J8];simp
def aCt (l:AA (AA BM)):O7 l l.length=Ry l:=by unfold O7 Ry;rw[Gn]
def aR2 (l:AA (AA BM)):Qp l l.length=IY l:=by
 unfold Qp;cases l with
 |nil=>rfl
 |cons s l=>simp
def aJ9 (h:OO l)(i:Nat):(O7 l i).length<=100*i:=by
 induction i with
 |zero=>simp[O7]
 |succ i j=>
  by_cases hi:i<l.length
  ·rw[aCm hi,Ed,Di];have :=(h.each _ (Et hi)).1;have :=Kt (λx=> !JI l x) l[i];omega
  have :O7 l (i+1)=O7 l i:=by unfold O7;rw[Qa AL,Qa AL]
  rw[this];omega
def a1m (h:OO l):(Ry l).length<=10000:=by
 have :=aJ9 h l.length;rw[aCt]at this;have :=h.len;omega
def gZ (h:OO l):(IY l).length<=100:=by
 unfold IY;cases l with
 |nil=>exact Ef _
 |cons s l=>exact EK (Kt _ _) (h.each s (I8 ..)).1
def aVh (h:OO l):Jf (IY l):=by
 unfold IY;cases l with
 |nil=>exact .nil
 |cons s l=>exact(h.each s (I8 ..)).2.sublist Uj
def aRJ (l:AA (AA BM))(h:OO l):wO l=some (IY l,F7 (Ry l)):=by
 have hlen:=h.len;refine dW.eq ?_;unfold wO aVK;refine aGi (body:=aCq l) (λ(m:Nat) (a:AA BM) (b:AA Int) (c:Int) (d:AA (AA BM)) (_:AA BM) (_:AA Int)=>∃i:Nat,c=i/\i+m=l.length/\d=l/\a=Qp l i/\b=O7 l i) ?_ Am l.length [] [] 0 l [] [] (fuel_lt AL) ⟨0,rfl,AL,rfl,rfl,by simp[O7]⟩;rintro m a b c d e f k ⟨i,rfl,hm,rfl,rfl,rfl⟩ U;unfold aCq;refine dW.bif (λhi=>?_) λhi=>?_
 ·have hi:i<d.length:=Hf
  have hs:=(h.each d[i] (Et hi)).1;have Y:=aJ9 h i;rw[CM hi];simp only[Ac,qR];unfold aRC
  refine aTJ (body:=aKd d[i] k (i:Int)) (λ(J:Nat) (a:AA BM) (b:AA Int) (c:Int) (u:AA (AA BM)) (_:AA BM) (_:AA Int) (g:Int)=>
   ∃j:Nat,c=j/\j+J=d[i].length/\u=d/\g=i/\a=Qp d i++(if i=0 then(d[i].take j).filter (JI d)else[])/\b=O7 d i++((d[i].take j).filter λx=> !JI d x).map (·.Id)) ?_ Am d[i].length _ _ _ _ _ _ _ (fuel_lt AL) ⟨0,rfl,AL,rfl,rfl,BU,BU⟩
  rintro J a b c u e2 f2 g k2 ⟨j,rfl,Z,rfl,rfl,rfl,rfl⟩ I;unfold aKd;refine dW.bif (λz=>?_) λz=>?_
  ·have z:j<u[i].length:=iI
   have q:u[i].take (j+1)=u[i].take j++[u[i][j]]:=by rw[NU z]
   rw[CM z];simp only[Ac];rw[adw u _ h];simp only[Ac];have w:=wrap_succ j AL;have L:=Kt (λx=> !JI u x) (u[i].take j);have M:=Kt (JI u) (u[i].take j)
   have hst:(Qp u i).length<=100:=by
     unfold Qp;split; ·exact Ef _
     ·exact gZ h
   rw[Gz]at L M;cases ha:JI u u[i][j]with
   |false=>
    simp only[Ip,Bj];rw[Dp (by simp only[Ed,Di,QK];omega)];simp only[Ac,w];refine I (J-1) _ _ _ _ _ _ _ AL ⟨j+1,rfl,AL,rfl,rfl,?_,?_⟩
    ·rw[q,Qu];simp[ha]
    rw[q,Qu];simp[ha]
   |true=>
    simp only[Eh,BN];by_cases O:i=0
    ·subst O;simp only[show(((0:Nat):Int)==0)=true from rfl,Bj,JK];rw[Dp Va];simp only[Ac,w];refine I (J-1) _ _ _ _ _ _ _ AL ⟨j+1,rfl,AL,rfl,rfl,?_,?_⟩
     ·rw[q,Qu];simp[ha]
     rw[q,Qu];simp[ha]
    have :((i:Int)==0)=false:=Z5
    rw[this];simp only[BN,w];refine I (J-1) _ _ _ _ _ _ _ AL ⟨j+1,rfl,AL,rfl,rfl,?_,?_⟩
    ·simp[O]
    rw[q,Qu];simp[ha]
  have z:j=u[i].length:=by
    have :¬j<u[i].length:=iI
    omega
  subst z;rw[wrap_succ i AL,Gn];exact U (m-1) _ _ _ _ _ _ AL ⟨i+1,rfl,AL,rfl,(aRZ hi).symm,(aCm hi).symm⟩
 have hi:i=d.length:=by
   have :¬i<d.length:=Hf
   omega
 subst hi;have :=a1m h;rw[aCt,aR2,Zv _ AL];exact .ret rfl
def aQm (l:AA (AA BM))(h:OO l):xI l=some (IY l,F7 (Ry l)):=by
 have hlen:=h.len;refine dW.eq ?_;unfold xI aQ7;refine TD (body:=aGU l) (λ(m:Nat) (a:AA BM) (b:AA Int) (c:Int)=>∃i:Nat,c=i/\i+m=l.length/\a=Qp l i/\b=F7 (O7 l i)) ?_ Am l.length [] [] 0 (fuel_lt AL) ⟨0,rfl,AL,rfl,by simp[O7,F7]⟩;rintro m a b c k ⟨i,rfl,hm,rfl,rfl⟩ U;unfold aGU;refine dW.bif (λhi=>?_) λhi=>?_
 ·have hi:i<l.length:=Hf
  have hs:=(h.each l[i] (Et hi)).1;have Y:=aJ9 h i;unfold aUo
  refine TD (body:=aD1 l (i:Int) k) (λ(I:Nat) (a:AA BM) (b:AA Int) (c:Int)=>
   ∃j:Nat,c=j/\j+I=l[i].length/\a=Qp l i++(if i=0 then(l[i].take j).filter (JI l)else[])/\b=F7 (O7 l i++((l[i].take j).filter λx=> !JI l x).map (·.Id))) ?_ Am l[i].length _ _ _ (fuel_lt AL) ⟨0,rfl,AL,BU,BU⟩
  rintro I a b c k2 ⟨j,rfl,Z,rfl,rfl⟩ z;unfold aD1;rw[CM hi];simp only[Ac];refine dW.bif (λu=>?_) λu=>?_
  ·have u:j<l[i].length:=Qy
   have q:l[i].take (j+1)=l[i].take j++[l[i][j]]:=by rw[NU u]
   rw[CM u];simp only[Ac];rw[aiX l _ h];simp only[Ac];have w:=wrap_succ j AL;have J:=Kt (λx=> !JI l x) (l[i].take j);have L:=Kt (JI l) (l[i].take j)
   have hst:(Qp l i).length<=100:=by
     unfold Qp;split; ·exact Ef _
     ·exact gZ h
   have M:=LU (O7 l i++((l[i].take j).filter λx=> !JI l x).map λe:BM=>e.Id);rw[Ed,Di]at M;rw[Gz]at J L;cases ha:JI l l[i][j]with
   |false=>
    simp only[Ip,Bj];rw[kQ _ _ AL];unfold kT;simp only[Ac,w];refine z (I-1) _ _ _ AL ⟨j+1,rfl,AL,?_,?_⟩
    ·rw[q,Qu];simp[ha]
    rw[q,Qu,J8,←Il];simp only[ha,U4,Ip,JK,List.filter_nil,Gg,List.map_nil];rw[aO8]
   |true=>
    simp only[Eh,BN];unfold kT;by_cases O:i=0
    ·subst O;simp only[show(((0:Nat):Int)==0)=true from rfl,Bj,JK,Ac];rw[Dp Va];simp only[Ac,w];refine z (I-1) _ _ _ AL ⟨j+1,rfl,AL,?_,?_⟩
     ·rw[q,Qu];simp[ha]
     rw[q,Qu];simp[ha]
    have :((i:Int)==0)=false:=Z5
    rw[this];simp only[BN,w];refine z (I-1) _ _ _ AL ⟨j+1,rfl,AL,?_,?_⟩
    ·simp[O]
    rw[q,Qu];simp[ha]
  have u:j=l[i].length:=by
    have :¬j<l[i].length:=Qy
    omega
  subst u;rw[wrap_succ i AL,Gn];exact U (m-1) _ _ _ AL ⟨i+1,rfl,AL,(aRZ hi).symm,by rw[←aCm hi]⟩
 have hi:i=l.length:=by
   have :¬i<l.length:=Hf
   omega
 subst hi;rw[aCt,aR2];exact .ret rfl
def VO (s:AA BM):AA Int:=s.map (·.Id)
def Gi (l:AA Aa)(s:AA BM):AA Int:=Hr (VO s) (chainOf l (VO s))
def allOf (l:AA Aa)(bF:AA (AA BM)):AA Int:=bF.foldl (λa s=>Hr a (Gi l s)) []
def KG (l:AA Aa)(bF:AA (AA BM))(x:Int):Nat:=bF.countP λs=>ET (Gi l s) x
def U5 (l:AA Aa)(bF:AA (AA BM)):AA Int:=(allOf l bF).filter λx=>KG l bF x<bF.length
def LV (l:AA Aa)(bF:AA (AA BM)):AA Int:=Hr (F7 (Ry bF)) (U5 l bF)
def aNt (l:AA Aa)(s:AA BM):Inc (Gi l s):=xk _ _
def aGF (s:AA BM):(VO s).length=s.length:=Di _
def zy (l:AA Aa)(s:AA BM):(Gi l s).length<=s.length+l.length:=by
 have h1:=aHA (VO s) (chainOf l (VO s));have h2:=iE l (VO s);rw[aGF]at h1;unfold Gi;omega
theorem aCG (l:AA Aa):∀(bF:AA (AA BM)) (a:AA Int),Inc a->Inc (bF.foldl (λa s=>Hr a (Gi l s)) a)/\∀x,x∈bF.foldl (λa s=>Hr a (Gi l s)) a↔x∈a\/∃s∈bF,x∈Gi l s
 | [],a,h=>⟨h,λx=>BU⟩
 |s::bF,a,h=>by
  rw[Gu];obtain⟨h1,h2⟩:=aCG l bF (Hr a (Gi l s)) (xk _ _);refine⟨h1,λx=>(h2 x).trans ?_⟩;rw[gI]
  grind
def aki (l:AA Aa)(bF:AA (AA BM)):Inc (allOf l bF):=(aCG l bF [] .nil).1
variable {bF:AA (AA BM)}{l:AA Aa}
def aZM {x:Int}:x∈allOf l bF↔∃s∈bF,x∈Gi l s:=by
 unfold allOf;rw[(aCG l bF [] .nil).2 x];simp
def ai1 (l:AA Aa)(bF:AA (AA BM)):Inc (U5 l bF):=(aki l bF).sublist Uj
theorem aSB:JI bF x=true↔∀s∈bF,(JM s x.Kind x.Key).2=true/\(JM s x.Kind x.Key).1=x.Id:=by
 unfold JI
 grind
def a1L (l:AA Aa):∀(bF:AA (AA BM)) (a:AA Int),(∀s∈bF,s.length<=100)->(bF.foldl (λa s=>Hr a (Gi l s)) a).length<=a.length+bF.length*(100+l.length)
 | [],a,_=>BU
 |s::bF,a,h=>by
  rw[Gu];have h1:=a1L l bF (Hr a (Gi l s)) λt j=>h t (Ii _ j);have h2:=aHA a (Gi l s);have h3:=zy l s;have q:=h s (I8 ..);rw[GN,iL];omega
theorem aWF (hs:OO bF)(hl:l.length<=1000):(U5 l bF).length<=110000:=by
 have h1:=a1L l bF [] λs h=>(hs.2 s h).1;have h2:=hs.1;have h3:=Kt (λx=>KG l bF x<bF.length) (allOf l bF);have j:bF.length*(100+l.length)<=100*1100:=a1l h2 AL;unfold U5;unfold allOf at h3 ⊢
 grind
def aee (h:Jf s)(z:x∈s):JM s x.Kind x.Key=(x.Id,true):=by
 unfold JM;cases u:s.find? (λy=>Iq y ⟨x.Kind,x.Key,0⟩)with
 |none=>
  have :=aBV.1 u x z;unfold Iq at this;simp at this
 |some y=>
  have h1:=a4A u;have J:=ZW u;have h2:Iq y x=true:=by unfold Iq at h1 ⊢;exact h1
  have :y=x:=by
   obtain⟨i,hi,rfl⟩:=Ih z;obtain⟨j,I,rfl⟩:=Ih J;rcases aB2 i j with h3|h3|h3
   ·have q:=KJ.1 h i j hi I h3;have L:Iq s[i] s[j]=true:=by obtain⟨a,b⟩:=Wq.1 h2;exact Wq.2 ⟨a.symm,b.symm⟩
    rw[a0F L]at q;cases q
   ·subst h3;rfl
   have q:=KJ.1 h j i I hi h3;rw[a0F h2]at q;cases q
  rw[this]
variable {k:Int}
theorem abl {key:BL}(h:JM s k key=(n,true)):(⟨k,key,n⟩:BM)∈s:=by
 unfold JM at h;cases j:s.find? (λy=>Iq y ⟨k,key,0⟩)with
 |none=>
  grind
 |some y=>
  rw[j]at h;have q:Iq y ⟨k,key,0⟩=true:=by have :=a4A j;exact this
  have h1:=Wq.1 q;have u:=ZW j;obtain⟨a,b,c⟩:=y;cases h;simp only at h1;rw[←h1.1,←h1.2];exact u
def anG (j:JI bF x=true)(hs:s∈bF):x∈s:=by
 obtain⟨h1,h2⟩:=aSB.1 j s hs;exact abl (s:=s) (k:=x.Kind) (key:=x.Key) (n:=x.Id) (by rw[←h1,←h2])
def acA (h:OO bF)(j:∀s∈bF,x∈s):JI bF x=true:=
 aSB.2 λs hs=>by rw[aee (h.2 s hs).2 (j s hs)];exact⟨rfl,rfl⟩
def aaD (h:OO bF)(q:bF≠[]):x∈IY bF↔∀s∈bF,x∈s:=by
 cases bF with
 |nil=>exact absurd rfl q
 |cons s bF=>
  show x∈s.filter (JI (s::bF))↔_;rw[Ji];exact⟨λj t u=>anG j.2 u,λj=>⟨j s (I8 ..),acA h j⟩⟩
def aRS (l:AA Int)(h:l.length<=1099511627776):((Oc l).bind λx=>(XZ x).bind λy=>some y)=some (F7 l):=by
 unfold Oc XZ;have h2:(LW l).length<=1099511627776:=by rw[(St l).length_eq];exact h
 simp[h,aKu,aCb]
def aX5 (s:AA BM):s.foldl (λr x=>r++[x.Id]) []=VO s:=by
 rw[foldl_append (λx:BM=>[x.Id])];unfold VO;rw[IE]
 induction s with
 |nil=>rfl
 |cons x s j=>rw[OZ,j];rfl
def afm (l:AA Aa)(s:AA BM)(hl:l.length<=1000)(ha:RQ l)(hs:s.length<=100):a1b l s=some (Gi l s):=by
 unfold a1b
 have hm:Ir 8 (0:Int) 0 (s.length:Int)=some []:=by
  unfold Ir;rw[ES a4b];rfl
 rw[hm];simp only[Ac];unfold aPf;rw[H8 s AL (λr x=>r++[x.Id]) (λi r=>r.length<=i) (λr=>(YF l r).bind λu=>(DC 8 r u).bind λz=>(Oc z).bind λj=>(XZ j).bind λq=>some q) BU]
 ·have h1:=iE l (VO s);have h2:=aGF s;rw[aX5,aJG l _ hl ha AL];simp only[Ac];rw[Dp AL];simp only[Ac];rw[aRS _ L8];unfold Gi;rw[rO]
 ·intro k a i h I;refine⟨a3L,?_⟩;unfold aKB;rw[D8 h,Dp Fp];rfl
 intro k a I;unfold aKB;rw[EG]
def amx (l:AA Aa)(s:AA BM)(hl:l.length<=1000)(ha:RQ l)(hs:s.length<=100):aAI l s=some (Gi l s):=by
 unfold aAI aUc;rw[H8 s AL (λr x=>r++[x.Id]) (λi r=>r.length<=i) (λr=>(fV l r).bind λj=>(Xn r j).bind λq=>some q) BU]
 ·have h1:=iE l (VO s);have h2:=aGF s;rw[aX5,aIu l _ hl ha AL];simp only[Ac];rw[um _ _ AL AL];rfl
 ·intro k a i h u;refine⟨a3L,?_⟩;unfold aHg;rw[dec_lt h,CM h];simp only[Bj,Ac];rw[Dp Fp];rfl
 intro k a u;unfold aHg;rw[DN];rfl
def stepM (m:AA (Int×Int))(x:Int):AA (Int×Int):=Dy m x (Az (((DF m x).getD 0)+1))
structure Me (m:List (Int×Int)) (f:Int->Nat):Prop where
 nodup:(m.map (·.1)).Nodup
 find:∀x,DF m x=if f x=0 then none else some (f x:Int)
variable {v:Int}
def afP {y:Int}:y∈(Dy m k v).map (·.1)↔y=k\/y∈m.map (·.1):=by
 induction m with
 |nil=>simp[Dy]
 |cons p m j=>
  unfold Dy;cases h:k==p.1 with
  |true=>
   have h1:k=p.1:=O5
   simp only[Bj,Gg,FI];rw[h1];simp
  |false=>
   simp only[BN,Gg,FI,j];exact⟨λh=>h.elim (λe=>.inr (.inl e)) λh=>h.elim .inl λh=>.inr (.inr h),λh=>h.elim (λe=>.inr (.inl e)) λh=>h.elim .inl λh=>.inr (.inr h)⟩
def agl (h:(m.map (·.1)).Nodup):((Dy m k v).map (·.1)).Nodup:=by
 induction m with
 |nil=>simp[Dy]
 |cons p m q=>
  have h':=LC.1 h;unfold Dy;cases j:k==p.1 with
  |true=>
   have h1:k=p.1:=VI
   simp only[Bj,Gg];rw[h1];exact h
  |false=>
   have h1:k≠p.1:=VI
   simp only[BN,Gg];refine LC.2 ⟨λhm=>?_,q h'.2⟩;rcases afP.1 hm with e|hm
   ·exact h1 e.symm
   exact h'.1 hm
def aeR (m:AA (Int×Int))(k v:Int):(Dy m k v).length<=m.length+1:=by
 induction m with
 |nil=>simp[Dy]
 |cons p m j=>
  unfold Dy;cases k==p.1 with
  |true=>simp
  |false=>simp only[BN,GN];omega
variable {f:Int->Nat}
def Me.step (h:Me m f)(x:Int)(u:f x<=1000000):Me (stepM m x) (λy=>f y+if y=x then 1 else 0):=by
 refine⟨agl h.nodup,λy=>?_⟩;unfold stepM;rw[P9,h.find x]
 have e:Az (((if f x=0 then none else some (f x:Int)).getD 0)+1)=((f x+1:Nat):Int):=by
  by_cases j:f x=0
  ·rw[ES j,j];rfl
  rw[EZ j];show Az ((f x:Int)+1)=_;exact wrap_succ _ AL
 by_cases q:y=x
 ·subst q;simp only[I9,Bj,JK];rw[e,EZ AL]
 have :(y==x)=false:=Zk
 rw[this];simp only[BN,EZ q,PK];exact h.find y
def Me.fold:∀(c:AA Int) {m:AA (Int×Int)} {f:Int->Nat},c.Nodup->Me m f->(∀x,f x<=1000)->Me (c.foldl stepM m) (λy=>f y+if y∈c then 1 else 0)
 | [],m,f,_,h,_=>by
   refine⟨h.nodup,λx=>?_⟩;simp only[List.foldl_nil,Gh,KA,PK];exact h.find x
 |x::c,m,f,q,h,L=>by
  have j:=LC.1 q
  have key:∀(c:AA Int) (m:AA (Int×Int)) (g:Int->Nat),c.Nodup->Me m g->(∀x∈c,g x<=1000)->Me (c.foldl stepM m) (λy=>g y+if y∈c then 1 else 0):=by
   intro c
   induction c with
   |nil=>intro m g _ h _;refine⟨h.nodup,λx=>?_⟩;simp only[List.foldl_nil,Gh,KA,PK];exact h.find x
   |cons z c M=>
    intro m g q h I;have j:=LC.1 q
    have h1:=M (stepM m z) (λy=>g y+if y=z then 1 else 0) j.2 (h.step z (by have :=I z (I8 ..);omega)) λy J=>by
     have u:y≠z:=λe=>j.1 (e▸J);simp only[EZ u,PK];exact I y (Ii _ J)
    refine⟨h1.nodup,λy=>?_⟩;rw[Gu,h1.find y]
    have :(g y+if y=z then 1 else 0)+(if y∈c then 1 else 0)=g y+if y∈z::c then 1 else 0:=by
     by_cases e:y=z
     ·subst e;simp[j.1]
     simp[e]
    simp only[this]
  exact key (x::c) m f q h λy _=>L y
def aLt :∀(c:AA Int) (m:AA (Int×Int)),(c.foldl stepM m).length<=m.length+c.length
 | [],m=>BU
 |x::c,m=>by
  have h1:=aLt c (stepM m x);have h2:=aeR m x (Az (((DF m x).getD 0)+1));rw[Gu,GN];unfold stepM at h1 ⊢;omega
variable {l:AA Int}
def ZN (h:Inc l):l.Nodup:=h.imp λh=>AL
def Me.mem (h:Me m f){x:Int}:(x,n)∈m↔f x≠0/\n=f x:=by
 have key:∀m:AA (Int×Int),(m.map (·.1)).Nodup->((x,n)∈m↔DF m x=some n):=by
  intro m
  induction m with
  |nil=>intro _;simp[DF]
  |cons p m z=>
   intro I;have j:=LC.1 I;unfold DF;rw[FI];cases u:x==p.1 with
   |true=>
    have h1:x=p.1:=Qy
    simp only[Bj,Nk];constructor
    ·rintro(e|hm)
     ·rw[←e]
     exact absurd (Hl.2 ⟨_,hm,h1⟩) j.1
    intro e;left;rw[h1,←e]
   |false=>
    have h1:x≠p.1:=Qy
    simp only[BN];rw[←z j.2];exact⟨λh=>h.elim (λe=>absurd (by rw[←e]) h1) id,.inr⟩
 rw[key m h.nodup,h.find x];by_cases q:f x=0
 ·simp[q]
 rw[EZ q];simp only[Nk,ne_eq,q,not_false_eq_true,true_and];exact eq_comm
def aOy (h:l.Nodup):LW l=F7 l:=by
 refine Du ?_ (Ll l) λx=>by rw[MP];exact(St l).mem_iff
 have h1:=Fin l;have h2:(LW l).Nodup:=(St l).nodup_iff.2 h;exact(h1.and h2).imp λh=>AL
def aFL (n:Int):∀(m:AA (Int×Int)) (r:AA Int) (bF:AA (AA BM)),(bF.length:Int)=n->r.length+m.length<=1000000->List.foldlM (WR bF) r m=some (r++(m.filter λp=>p.2<n).map (·.1))
 | [],r,bF,_,_=>BU
 |p::m,r,bF,hs,q=>by
  simp only[GN]at q;have e:WR bF r p=(cond (p.2<n) ((DC 8 r [p.1]).bind λj=>some j) (some r)):=by unfold WR;rw[hs]
  rw[U7,e];cases hd:decide (p.2<n)with
  |true=>
   simp only[Bj];rw[Dp Fp];simp only[Ac];show List.foldlM (WR bF) (r++[p.1]) m=_;rw[aFL n m (r++[p.1]) bF hs Va,U4,ES hd];simp
  |false=>
   simp only[BN];show List.foldlM (WR bF) r m=_;rw[aFL n m r bF hs AL,U4,EZ (by simp[hd])]
def aUb (l:AA Aa)(bF:AA (AA BM))(x:Int):KG l bF x<=bF.length:=List.countP_le_length
def Me.of_eq {g:Int->Nat}(h:Me m f)(e:∀x,f x=g x):Me m g:=⟨h.nodup,λx=>by rw[h.find,e]⟩
def aXx (l:AA Aa)(bF:AA (AA BM))(hl:l.length<=1000)(ha:RQ l)(hs:OO bF):a0p l bF=some (U5 l bF):=by
 unfold a0p aS2;have hsl:=hs.len;rw[XP (a0:=[]) bF AL (λm s=>(Gi l s).foldl stepM m) (λi m=>Me m (KG l (bF.take i))/\m.length<=1100*i) (λv2=>(Ir 8 (0:Int) 0 (v2.length:Int)).bind λI=>(List.foldlM (WR bF) I v2).bind pq) ⟨⟨WZ,λx=>rfl⟩,Ef _⟩]
 ·obtain⟨z,hlen⟩:Me (bF.foldl (λm s=>(Gi l s).foldl stepM m) []) (KG l bF)/\(bF.foldl (λm s=>(Gi l s).foldl stepM m) []).length<=1100*bF.length:=by
   have key:∀(b a:AA (AA BM)) (m:AA (Int×Int)),(∀s∈b,s.length<=100)->a.length+b.length<=100->Me m (KG l a)->m.length<=1100*a.length->Me (b.foldl (λm s=>(Gi l s).foldl stepM m) m) (KG l (a++b))/\(b.foldl (λm s=>(Gi l s).foldl stepM m) m).length<=1100*(a.length+b.length):=by
    intro b
    induction b with
    |nil=>intro a m _ _ h1 h2;simpa using⟨h1,h2⟩
    |cons s b Z=>
     intro a m Y J h1 h2;rw[Gu,List.append_cons];have hc:=zy l s;have q:=Y s (I8 ..);have h3:=aLt (Gi l s) m;simp only[GN]at J ⊢;have :=Z (a++[s]) ((Gi l s).foldl stepM m) (λt ht=>Y t (Ii _ ht)) Va ?_ Va
     ·simpa[Tz,Vk 1]using this
     refine(Me.fold (Gi l s) (ZN (aNt l s)) h1 λx=>by have :=aUb l a x;omega).of_eq λx=>?_;unfold KG;rw[List.countP_append,List.countP_singleton];by_cases u:x∈Gi l s
     ·rw[ES u,ES (Lm.2 u)]
     rw[EZ u,EZ (by rw[PW.2 u];simp)]
   have :=key bF [] [] (λs h=>(hs.each s h).1) (by simpa using hs.len) ⟨WZ,λx=>rfl⟩ (Ef _);simpa using this
  generalize bF.foldl (λm s=>(Gi l s).foldl stepM m) []=m at z hlen
  have hm:Ir 8 (0:Int) 0 (m.length:Int)=some []:=by
   unfold Ir;rw[ES a4b];rfl
  rw[hm];simp only[Ac];rw[aFL (bF.length:Int) m [] bF rfl RD];simp only[Ac,IE];have L:((m.filter λp=>p.2<(bF.length:Int)).map (·.1)).Nodup:=z.nodup.sublist (Uj.map _);have hle:((m.filter λp=>p.2<(bF.length:Int)).map (·.1)).length<=m.length:=by rw[Di];exact Kt _ _
  unfold pq Oc;rw[ES AL];simp only[Ac];congr 1;rw[aOy L];refine Du (Ll _) (ai1 _ _) λx=>?_;rw[MP,Hl];unfold U5;rw[Ji,aZM];constructor
  ·rintro⟨⟨y,n⟩,hp,rfl⟩;rw[Ji]at hp;obtain⟨h1,h2⟩:=z.mem.1 hp.1;have h3:n<(bF.length:Int):=by simpa using hp.2
   subst h2;refine⟨?_,EY⟩;have :0<KG l bF y:=AL
   obtain⟨s,M,O⟩:=List.countP_pos_iff.1 this;exact⟨s,M,Lm.1 O⟩
  rintro⟨⟨s,h1,h2⟩,h3⟩;have h4:0<KG l bF x:=List.countP_pos_iff.2 ⟨s,h1,Lm.2 h2⟩;refine⟨(x,(KG l bF x:Int)),Ji.2 ⟨z.mem.2 ⟨AL,rfl⟩,?_⟩,rfl⟩;have h5:KG l bF x<bF.length:=Yg
  simp;omega
 ·intro k m i h U;have hc:=zy l bF[i];have q:=(hs.each bF[i] (Et h)).1;refine⟨⟨?_,?_⟩,?_⟩
  ·refine(Me.fold (Gi l bF[i]) (ZN (aNt l bF[i])) U.1 λx=>by have :=aUb l (bF.take i) x;rw[Gz]at this;omega).of_eq λx=>?_;rw[NU h];unfold KG;rw[List.countP_append,List.countP_singleton];by_cases u:x∈Gi l bF[i]
   ·rw[ES u,ES (Lm.2 u)]
   rw[EZ u,EZ (by rw[PW.2 u];simp)]
  ·have :=aLt (Gi l bF[i]) m;have :=U.2;omega
  unfold a6K;rw[D8 h,afm l _ hl ha q];simp only[Ac];unfold aSr;rw[XP (Gi l bF[i]) AL stepM (λ_ _=>True) (λv8=>k (Az ((i:Int)+1)) v8) trivial]
  ·intro k2 a j hj _;refine⟨trivial,?_⟩;unfold a1x;rw[D8 hj];rfl
  intro k2 a _;unfold a1x;rw[EG]
 intro k m U;unfold a6K;rw[EG]
def aZz {R:Type}{body:(A->B->Int->AB R)->A->B->Int->AB R}(l:AA α)(hl:l.length<=1099511627776)(f:A->B->α->A)(g:A->B->α->B)(I:Nat->A->B->Prop)(j:A->B->AB R){Q:R->Prop}{q:B}(u:I 0 a0 q)(z:∀k a b (i:Nat) (h:i<l.length),I i a b->I (i+1) (f a b l[i]) (g a b l[i])/\body k a b (i:Int)=k (f a b l[i]) (g a b l[i]) (Az ((i:Int)+1)))(J:∀k a b,I l.length a b->body k a b (l.length:Int)=j a b)(L:∀a b,I l.length a b->dW (j a b) Q):dW (iK body Am a0 q 0) Q:=by
 refine TD (body:=body) (Q:=Q) (λm a b c=>∃i:Nat,c=i/\i+m=l.length/\I i a b) ?_ Am l.length a0 q 0 (fuel_lt hl) ⟨0,rfl,AL,u⟩;rintro m a b c k ⟨i,rfl,hm,hi⟩ M;by_cases e:i<l.length
 ·obtain⟨h1,h2⟩:=z k a b i e hi;rw[h2,wrap_succ i AL];exact M (m-1) _ _ _ AL ⟨i+1,rfl,AL,h1⟩
 have :i=l.length:=AL
 subst this;rw[J _ _ _ hi];exact L a b hi
def aLe (x:Int):∀(cs:AA (AA Int)) (n:Nat),n+cs.length<=1000000->cs.foldl (λ(n:Int) c=>bif ET c x then Az (n+1)else n) (n:Int)=((n+cs.countP (λc=>ET c x):Nat):Int)
 | [],n,_=>BU
 |c::cs,n,h=>by
  rw[GN]at h;rw[Gu,List.countP_cons];cases j:ET c x with
  |true=>
   simp only[Bj,JK];rw[wrap_succ n AL,aLe x cs (n+1) AL];congr 1;omega
  |false=>
   simp only[BN,TM,KA,PK];exact aLe x cs n AL
def aYt (l:AA Aa)(bF:AA (AA BM))(hl:l.length<=1000)(ha:RQ l)(hs:OO bF):a7k l bF=some (U5 l bF):=by
 refine dW.eq ?_;unfold a7k aRs;have hsl:=hs.len
 have z:∀i,(allOf l (bF.take i)).length<=1100*i:=by
  intro i;have h1:=a1L l (bF.take i) [] λs h=>(hs.each s (a0D h)).1;rw[Gz,QX]at h1;have h2:min i bF.length*(100+l.length)<=i*1100:=a1l (aIZ _ _) AL;unfold allOf;omega
 refine aZz bF AL (λa _ s=>a++[Gi l s]) (λ_ b s=>Hr b (Gi l s)) (λi a b=>a=(bF.take i).map (Gi l)/\b=allOf l (bF.take i)) (λa b=>aHF b a [] 0) ⟨rfl,rfl⟩ ?_ ?_ ?_
 ·rintro k a b i h ⟨rfl,rfl⟩;have M:=zy l bF[i];have q:=(hs.each bF[i] (Et h)).1;have u:bF.take (i+1)=bF.take i++[bF[i]]:=NU h;refine⟨⟨by rw[u,J8];rfl,by rw[u];unfold allOf;rw[Qk];rfl⟩,?_⟩;unfold aKk;rw[dec_lt h,CM h];simp only[Bj,Ac];rw[amx l _ hl ha q];simp only[Ac];rw[Dp (by simp only[Di,Gz,QK];omega)];simp only[Ac];have :=z i;rw[um _ _ AL AL];rfl
 ·rintro k a b ⟨rfl,rfl⟩;unfold aKk;rw[DN];rfl
 rintro a b ⟨rfl,rfl⟩;rw[Gn];refine dW.of ?_;have O:=z bF.length;rw[Gn]at O;unfold aHF;rw[H8 (allOf l bF) AL (λr x=>bif KG l bF x<bF.length then r++[x]else r) (λi r=>r.length<=i) (λr=>some r) (Ec _)]
 ·congr 1;unfold U5
  have key:∀(S r:AA Int),S.foldl (λr x=>bif KG l bF x<bF.length then r++[x]else r) r=r++S.filter (λx=>KG l bF x<bF.length):=by
   intro S
   induction S with
   |nil=>intro r;simp
   |cons x S U=>
    intro r;rw[Gu,U,U4];cases decide (KG l bF x<bF.length)<;>simp
  simpa using key (allOf l bF) []
 ·intro k r i h Y;refine⟨?_,?_⟩
  ·cases decide (KG l bF (allOf l bF)[i]<bF.length)with
   |false=>show r.length<=i+1;omega
   |true=>show(r++[(allOf l bF)[i]]).length<=i+1;simp;omega
  unfold aIT;rw[dec_lt h];simp only[Bj];unfold aTz
  rw[H8 (bF.map (Gi l)) Yn (λ(n:Int) c=>bif ET c (allOf l bF)[i]then Az (n+1)else n) (λ_ _=>True)
   (λn=>bif n<((bF.map (Gi l)).length:Int) then k (r++[(allOf l bF)[i]]) (Az ((i:Int)+1))else k r (Az ((i:Int)+1))) trivial]
  ·have I:=aLe (allOf l bF)[i] (bF.map (Gi l)) 0 Yn;rw[show((0:Nat):Int)=0 from rfl]at I;rw[I,List.countP_map,Di,Js]
   have e:decide (((bF.countP ((λc=>ET c (allOf l bF)[i])∘Gi l):Nat):Int)<(bF.length:Int))=decide (KG l bF (allOf l bF)[i]<bF.length):=by
    unfold KG;rw[decide_eq_decide];exact Int.ofNat_lt
   rw[e];cases decide (KG l bF (allOf l bF)[i]<bF.length)<;>rfl
  ·intro k2 n j J _;refine⟨trivial,?_⟩;have L:j<bF.length:=by rw[Di]at J;exact J
   have M:=zy l bF[j];have q:=(hs.each bF[j] (Et L)).1;unfold aFG;rw[dec_lt J,CM J,CM h];simp only[Bj,Ac];rw[Xt _ _ (by rw[TF];omega)];simp only[Ac];cases ET (bF.map (Gi l))[j] (allOf l bF)[i]<;>rfl
  intro k2 n _;unfold aFG;rw[DN];simp only[BN];rw[CM h];simp only[Ac];rw[Dp Fp];cases decide (n<((bF.map (Gi l)).length:Int))<;>rfl
 intro k r _;unfold aIT;rw[DN];rfl
def ab1 (l:AA Aa)(bF:AA (AA BM))(hl:l.length<=1000)(ha:RQ l)(hs:OO bF):a6A l bF=some (LV l bF):=by
 have h1:=a1m hs;have h2:=LU (Ry bF);have h3:=aWF hs hl;unfold a6A;rw[aRJ bF hs,aXx l bF hl ha hs];simp only[Ac];rw[Dp AL];simp only[Ac];rw[aRS _ L8];unfold LV;rw[rO]
def aZ2 (l:AA Aa)(bF:AA (AA BM))(hl:l.length<=1000)(ha:RQ l)(hs:OO bF):a1f l bF=some (LV l bF):=by
 have h1:=a1m hs;have h2:=LU (Ry bF);have h3:=aWF hs hl;unfold a1f;rw[aQm bF hs,aYt l bF hl ha hs];simp only[Ac];rw[um _ _ AL AL];rfl
end Go.Proofs.YtfmoknlmaldmlaaGreat
