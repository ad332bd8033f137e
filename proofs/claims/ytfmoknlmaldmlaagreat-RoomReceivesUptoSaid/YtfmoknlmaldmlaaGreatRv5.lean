/- Part 5 of the proofs. -/
import Derived.Test.YtfmoknlmaldmlaaGreatRv4
set_option linter.defProp false
set_option linter.unnecessarySimpa false
set_option linter.unusedSectionVars false
set_option linter.unusedVariables false
set_option linter.unusedSimpArgs false
namespace Go.Proofs.YtfmoknlmaldmlaaGreat
open Go.RowKit Go.Proofs.Tryz
section
set_option maxRecDepth 20000
set_option maxHeartbeats 4000000
def aJ0 (j:(AV->Int->AL AV))(q:Int)(u:AV):AL AV:=j u (Au (q+1))
def aKo (j:(Int->Int->AL AV))(q:Int)(u:Int):AL AV:=j u (Au (q+1))
def aGu (L:QV)(v2:AV)(j:Int)(z:AV)(I:(AV->Int->AL AV))(J:(Int->Int->AL AV)):Int->Int->AL AV:=λu q=>(cond (q<(L.length:Int)) ((Ak L q).bind λM=>(Ak v2 j).bind λO=>(UQ M O).bind λU=>(cond U (aKo J q (Au (u+1))) (aKo J q u))) (cond (u<(L.length:Int)) ((Ak v2 j).bind λY=>(D5 8 z [Y]).bind λZ=>aJ0 I j Z) (aJ0 I j z)))
def aWI (z:QV)(v2:AV)(j:Int)(q:AV)(u:(AV->Int->AL AV)):Int->Int->AL AV:=aQ (aGu z v2 j q u) Am
def aHM (v2:AV)(z:QV)(u:(AV->Int->AL AV)):AV->Int->AL AV:=λj q=>(cond (q<(v2.length:Int)) (aWI z v2 q j u 0 0) (some j))
def aJM (v2:AV)(j:QV):AV->Int->AL AV:=aQ (aHM v2 j) Am
def aKV (j:GH)(q:Ah)(J:(QV->AV->Int->AL AV)):QV->AV->Int->AL AV:=λz v2 u=>(cond (u<(j.length:Int)) ((Ak j u).bind λL=>(a6c q L).bind λI=>(D5 24 z [I]).bind λM=>(aH v2 I).bind λO=>J M O (Au (u+1))) (aJM v2 z [] 0))
def aQK (j:GH)(q:Ah):QV->AV->Int->AL AV:=iG (aKV j q) Am
def a2j (q:Ah)(j:GH):AL AV:=aQK j q [] [] 0
def aY0 :=Gj func417 rfl a2j BI JO Cb λZ j r h=>BM<|.f (CV 3 1)<|.aY<|BM<|.f (CV 27 1)<|.aY<|AZ<|Aa<|AZ<|Aj<|QY (λu q z=>⟨Az 67 [(0,BI Z),(1,JO j),(5,.aS 0),(6,Bf q),(7,AX z)],[(a0N u)],0⟩) _ _ _ _ _ (Ae [AU 1]) h<|λu q z I J L h=>Aa<|AP 2<|.Z (BJ (BP BO) j)<|Bo h (λh=>Aa<|Aj<|Bv h λu q I L h=>AP 3<|.p (BD (BP BO) q)<|.a 1<|.X (aap L).view<|AO h λu q h=>AP 2<|.p (EG a4K pz [(BP Ad) I])<|.Y (Dk (k:=0) (BP Ad) q a4K A8 (λ_=>rfl) Bl)<|AO h λu q h=>CU<|.a 2<|.ca (aAq q).view<|.aN<|Cx<|z _ _ _ _ (Ae [AU 1]) h) λh=>CZ<|BM<|.f (CV 3 1)<|.aY<|Aa<|AZ<|Aj<|DV (λu q=>⟨Az 67 [(5,.aS 0),(6,Bf J),(9,.aS 1),(10,AX q)],[(a0N I),(Cb u)],0⟩) _ _ _ _ (Ae [AU 0,AU 1]) h<|λu q z L Y h=>Aa<|AP 2<|.Z (BJ Ad J)<|Bo h (λh=>Cm (λs=>∃(M:(AA Int)),CO s ⟨Az 67 [(5,.aS 0),(6,Bf J),(9,.aS 1),(10,AX Y)],[(a0N I),(Cb M)],0⟩/\aJ0 q Y M=some r) (by rintro s ⟨M,hs,h⟩;exact D6 hs<|aEr)<|λu=>Aj<|AZ<|Aa<|AZ<|Aj<|DV (λu q=>⟨Az 67 [(5,.aS 0),(6,Bf J),(9,.aS 1),(10,AX Y),(11,AX u),(12,AX q)],[(a0N I),(Cb L)],0⟩) _ _ _ _ (Ae [AU 0,AU 1]) h<|λq z x8 x9 O h=>Aa<|AP 2<|.Z (Kt (k:=0) (e':=27) (s:=1) (BP Ad) I A8 a2W)<|Bo h (λh=>Cm (λs=>∃(U:Int),CO s ⟨Az 67 [(5,.aS 0),(6,Bf J),(9,.aS 1),(10,AX Y),(11,AX U),(12,AX O)],[(a0N I),(Cb L)],0⟩/\aKo z O U=some r) (by rintro s ⟨U,hs,h⟩;exact D6 hs<|Cx<|x8 _ _ _ (Ae [AU 0,AU 1]) h)<|λu=>Aj<|Hq h λq z I J L Y h=>F6 A8 A8 A8 (.a 2<|.p (IC (e':=27) (kd:=.i64) (BP Ad) z (k:=0) A8 a2W aJQ)<|.p (x:=(Bf q)) (KC (e:=27) (size:=1) (k:=0) (i:=(O).toNat) (off:=0) (BP Ad) A8 A8 (Gl z).2 aJQ (DT A8) (λ_=>rfl))<|.a 2<|.p (BD Ad J)<|.a 1<|.ca (Xb Y)<|.nil _)<|BA h (λh=>Cx<|u _ ⟨(Au (x9+1)),Ae [AU 0,AU 1],h⟩) λh=>u _ ⟨x9,Ae [AU 0,AU 1],h⟩) λh=>CZ<|AP 2<|.Z (Kt (k:=0) (e':=27) (s:=1) (BP Ad) I A8 a2W)<|BA h (λh=>Bv h λq z I J h=>CU<|.a 3<|.p (BD Ad z)<|.a 1<|.p (EG Dy zero3 [Ad q])<|.f (Dk (k:=1) Ad J Dy A8 (λ_=>rfl) Bl)<|.aN<|u _ ⟨I,Ae [AU 0,AU 2],h⟩) λh=>u _ ⟨L,Ae [AU 0,AU 1],h⟩) λh=>CZ<|AZ<|Jm
def aAn (q:Ah)(j:GH):AL AV:=(tV j).bind λu=>(a2j q j).bind λz=>(aH u.2 z).bind λI=>some I
def ale :=Gj func360 rfl aAn BI JO Cb λz j r h=>BM<|.f (CV 3 1)<|.aY<|AO h λq u h=>AP 1<|.f (x:=.eP [.aS 1,.aS 2]) (EK [] [JO j] (aWu u))<|.a 2<|.conv _ (JI (e:=82) (s:=3) 1 (xs:=List.map BO q.1) A8)<|.a 1<|.conv _ (JI (e:=3) (s:=1) 2 (xs:=List.map Ad q.2) A8)<|.aW<|Bv h λu I L J h=>AP 3<|.ca (aY0 I).view<|.Y (x:=.aS 3) (Jt [Bf q.2,Bf u] (aAq J))<|iP
def zO (q:Ah)(j:AV):AL AV:=(dG q j).bind λu=>(fB j u).bind λz=>some z
def aMa :=Gj func418 rfl zO BI Bf Cb λq j r h=>BM<|.f (CV 3 1)<|.aY<|Bv h λu z J I h=>AP 3<|.ca (a18 z).view<|.Y (x:=.aS 1) (Jt [Bf j,Bf u] (a9k I))<|Jm
def a8f (j:AQ):AL AY:=(cond (j.Kind==2) ((cond (j.Content.N==0) (some true) (some (j.Content.N==4))).bind λq=>(cond q (some (!(j.Key.toList==j.bU.toList))) (some false)).bind λu=>some u) ((cond (j.Kind==3) (some true) (some (j.Kind==4))).bind λz=>some z))
def ag7 :=Dc func419 rfl a8f DL Ag λu r h=>AZ<|Aa<|AZ<|BA h (λh=>AP 4<|AO h λj q h=>.mg 10 5 (Ag j) (.bi q)<|.a 1<|AO h λj q h=>.mg 17 5 (Ag j) (DC q)<|.aW<|CY) λh=>AP 3<|AO h λj q h=>.mg 26 4 (Ag j) (.bi q)<|.aW<|CY
def a0K (j:(AV->Int->AL AV))(q:Int)(u:AV):AL AV:=j u (Au (q+1))
def a8z (j:(AV->Int->AL AV))(q:Int)(u:AV):AL AV:=j u (Au (q+1))
def aIG (q:AV)(O:AV)(U:(AV->Int->AL AV))(Y:Int)(z:(AV->Int->AL AV)):AV->Int->AL AV:=λu j=>(cond (j<(q.length:Int)) ((Ak q j).bind λI=>(UQ O I).bind λJ=>(cond J ((Ak q j).bind λL=>(XF u L).bind λM=>a8z z j M) (a8z z j u))) (a0K U Y u))
def aOw (j:AV)(q:AV)(u:(AV->Int->AL AV))(z:Int):AV->Int->AL AV:=aQ (aIG j q u z) Am
def aJ4 (u:AV)(j:Ah)(O:(AV->Int->AL AV)):AV->Int->AL AV:=λv2 q=>(cond (q<(u.length:Int)) ((Ak u q).bind λU=>(Ju j U).bind λY=>(a8f Y.1).bind λz=>(cond z ((Ak u q).bind λI=>(XF v2 I).bind λJ=>(Ak u q).bind λL=>(dO j [L]).bind λM=>aOw M u O q J 0) (a0K O q v2))) (some v2))
def aUF (q:AV)(j:Ah):AV->Int->AL AV:=aQ (aJ4 q j) Am
def a2P (q:Ah)(j:AV):AL AV:=(zO q j).bind λu=>aUF u q [] 0
def ahZ :=Gj func361 rfl a2P BI Bf Cb λu U r h=>BM<|.f (CV 3 1)<|.aY<|AO h λJ z h=>AP 2<|.X (aMa z).view<|BM<|.Y (Ht Dy zero3 [])<|Aa<|AZ<|Aj<|DV (λz j=>⟨Az 65 [(0,BI u),(5,Bf J),(6,.aS 0),(7,AX j)],[(Cb z)],0⟩) _ _ _ _ (Ae [AU 1]) h<|λz j q I M h=>Aa<|AP 2<|.Z (BJ Ad J)<|Bo h (λh=>Cm (λs=>∃(Z:(AA Int)),CO s ⟨Az 65 [(0,BI u),(5,Bf J),(6,.aS 0),(7,AX M)],[(Cb Z)],0⟩/\a0K j M Z=some r) (by rintro s ⟨Z,hs,h⟩;exact D6 hs<|Cx<|q _ _ _ (Ae [AU 0]) h)<|λz=>Aj<|Bv h λj q Y O h=>AP 3<|.p (BD Ad q)<|.a 1<|.X (MK O)<|AO h λj q h=>AP 1<|.ca (ag7 q)<|.aY<|BA h (λh=>Bv h λj q Y O h=>AP 3<|.p (BD Ad q)<|.a 1<|.Y (x:=.aS 2) (EK [.ent 0] [.aS 0,AX j] (rX O))<|Bv h λj q I Y h=>AP 3<|.p (BD Ad q)<|.a 1<|.p (EG Dy zero3 [Ad j])<|.X (aKn Y).view<|AZ<|Aj<|DV (λz j=>⟨Az 65 [(0,BI u),(5,Bf J),(6,.aS 0),(7,AX M),(10,Bf I),(11,AX j)],[(Cb z)],0⟩) _ _ _ _ (Ae [AU 2]) h<|λj q Y O x9 h=>Aa<|AP 2<|.Z (BJ Ad I)<|Bo h (λh=>Cm (λs=>∃(L:(AA Int)),CO s ⟨Az 65 [(0,BI u),(5,Bf J),(6,.aS 0),(7,AX M),(10,Bf I),(11,AX x9)],[(Cb L)],0⟩/\a8z q x9 L=some r) (by rintro s ⟨L,hs,h⟩;exact D6 hs<|aBJ)<|λz=>Aj<|Bv h λj q I M h=>AP 3<|.p (BD Ad q)<|.a 1<|.ca (Xb M)<|.aY<|BA h (λh=>Bv h λJ j q I h=>CU<|.a 3<|.p (BD Ad j)<|.a 1<|.f (x:=.aS 1) (EK [.ent 0] [.aS 0,AX J] (rX I))<|.aN<|z _ ⟨q,Ae [AU 1],h⟩) λh=>z _ ⟨O,Ae [AU 0],h⟩) λh=>CZ<|z _ ⟨O,Ae [AU 0],h⟩) λh=>z _ ⟨I,Ae [AU 0],h⟩) λh=>JC
def aBP (q:AV)(j:AV)(k3:(Int->AL AY)):Int->AL AY:=λv2=>(cond (v2<(q.length:Int)) ((Ak q v2).bind λu=>(UQ j u).bind λz=>(cond z (some false) (k3 (Au (v2+1))))) (some true))
def aQ8 (q:AV)(j:AV):Int->AL AY:=bn (aBP q j) Am
def a2B (u:Ah)(j:AV)(q:Int):AL AY:=(dO u [q]).bind λz=>aQ8 z j 0
def aXL :=O5 func421 rfl a2B BI Bf AX Ag λI j q r h=>AZ<|AO h λz u h=>AP 2<|.p (EG Dy zero3 [Ad q])<|.X (aKn u).view<|Aa<|AZ<|Aj<|Dp (λu=>⟨Az 25 [(1,Bf j),(7,Bf z),(8,AX u)],[],0⟩) _ _ _ (Ae []) h<|λu L M J h=>Aa<|AP 2<|.Z (BJ Ad z)<|Bo h (λh=>Aa<|Aj<|Bv h λz u L J h=>AP 3<|.p (BD Ad u)<|.a 1<|.ca (Xb J)<|.aY<|BA h CB λh=>Cx<|M _ _ (Ae []) h) λh=>El
def aCu (j:BR)(u:Int)(q:BL)(k2:(Int->AL BR)):Int->AL BR:=λz=>(cond (z<(j.length:Int)) ((Ak j z).bind λx5=>(cond (x5.Kind<u) (some true) ((Ak j z).bind λx8=>(cond (x8.Kind==u) ((Ak j z).bind λI=>some (Op.bytesLess (I.Key.toList) (q.toList))) (some false)).bind λx9=>some x9)).bind λx6=>some x6) (some false)).bind λx3=>(cond x3 (k2 (Au (z+1))) ((cond (z<(j.length:Int)) ((Ak j z).bind λJ=>some (J.Kind==u)) (some false)).bind λL=>(cond L ((Ak j z).bind λM=>some (M.Key.toList==q.toList)) (some false)).bind λO=>(cond O (some j) ((I8 j 0 z).bind λU=>(D5 32 [] U).bind λY=>(D5 32 Y [(⟨u,q,0⟩:BK)]).bind λZ=>(I8 j z ((j).length)).bind λx23=>(D5 32 Z x23).bind λx24=>some x24))))
def aR1 (q:BR)(u:Int)(j:BL):Int->AL BR:=bn (aCu q u j) Am
def Y9 (q:BR)(u:Int)(j:BL):AL BR:=aR1 q u j 0
def uo {cZ Si CW r}(h:Y9 cZ Si CW=some r):E8 432 [.aS 0,AX Si,D8 CW] [(MP cZ)] (.aS 1) [.dead,(MP r)]:=Ec func432 rfl<|BM<|.f (CV 82 3)<|.aY<|AZ<|Aa<|Aj<|Dp (λq=>⟨Az 81 [(0,.aS 1),(1,AX Si),(2,D8 CW),(7,AX q)],[.dead,(MP cZ)],1⟩) _ _ _ (Ae [(0,false),AU 0]) h<|λq k2 j u h=>Aa<|AP 2<|.p (Kt (k:=1) (e':=82) (s:=3) BO cZ A8 Ti)<|.a 1<|AO h λq z h=>.mg 13 26 (Ag q) (.bi z (λh=>AO h λq j h=>.a 2<|.p (IC (e':=82) (kd:=.i64) BO j (k:=1) A8 Ti Qx)<|.a 1<|.p (x:=(AX q.Kind)) (KC (e:=82) (size:=3) (k:=1) (i:=(u).toNat) (off:=0) BO A8 A8 (Gl j).2 YX (DT A8) (λ_=>rfl))<|.a 2<|AO h λq j h=>.mg 21 17 (Ag q) (.bi j (k2:=λh=>AO h λq j h=>.a 2<|.p (IC (e':=82) (kd:=.i64) BO j (k:=1) A8 Ti Qx)<|.a 1<|.p (x:=(AX q.Kind)) (KC (e:=82) (size:=3) (k:=1) (i:=(u).toNat) (off:=0) BO A8 A8 (Gl j).2 YX (DT A8) (λ_=>rfl))<|.a 2<|AO h λq j h=>.mg 29 8 (Ag q) (.bi j (λh=>AO h λq j h=>.a 2<|.p (IC (e':=82) (kd:=.i64) BO j (k:=1) A8 Ti Qx)<|.a 1<|.Z (x:=(D8 q.Key)) (KC (e:=82) (size:=3) (k:=1) (i:=(u).toNat) (off:=1) BO A8 A8 (Gl j).2 RH (DT A8) (λ_=>rfl))<|Cc))<|.aW<|Cc))<|.aW<|Cc))<|.aY<|Bo h (λh=>Aj<|Cx<|j _ _ (Ae [(0,false),AU 1]) h) λh=>CZ<|Aa<|AP 2<|.p (Kt (k:=1) (e':=82) (s:=3) BO cZ A8 Ti)<|.a 1<|AO h λq j h=>.mg 46 8 (Ag q) (.bi j (λh=>AO h λq j h=>.a 2<|.p (IC (e':=82) (kd:=.i64) BO j (k:=1) A8 Ti Qx)<|.a 1<|.Z (x:=(AX q.Kind)) (KC (e:=82) (size:=3) (k:=1) (i:=(u).toNat) (off:=0) BO A8 A8 (Gl j).2 YX (DT A8) (λ_=>rfl))<|Cc))<|.a 1<|AO h λq j h=>.mg 56 7 (Ag q) (DC j (λe i=>by subst e;have h:=i;exact AO h λq j h=>.a 2<|.p (IC (e':=82) (kd:=.i64) BO j (k:=1) A8 Ti Qx)<|.a 1<|.Z (x:=(D8 q.Key)) (KC (e:=82) (size:=3) (k:=1) (i:=(u).toNat) (off:=1) BO A8 A8 (Gl j).2 RH (DT A8) (λ_=>rfl))<|Cc))<|.aY<|BA h (λh=>AZ<|sQ) λh=>Bv h λq j u z h=>BM<|.f (Ht fC RD [])<|.a 2<|.conv _ (JI (e:=82) (s:=3) 1 (xs:=List.map BO cZ) A8)<|.p (SE BO j (λ_=>rfl) Ls Ti Qx (λ_=>rfl) rfl)<|.Y (Dk (k:=2) BO z fC A8 (λ_=>rfl) Bl)<|AO h λq j h=>AP 4<|.p (EG fC RD [BO (⟨Si,CW,0⟩:BK)])<|.Y (Dk (k:=3) BO j fC A8 (λ_=>rfl) Bl)<|Bv h λq j u z h=>AP 3<|.p (SE BO j Ls (λ_=>rfl) Ti Qx (λ_=>rfl) rfl)<|.Y (Dk (k:=4) BO z fC A8 (λ_=>rfl) Bl)<|aVS
def aAl (j:BR):AL BR:=some j
def lR (j:AQ):AL BR:=(cond (j.Kind==1) (some []) ((Y9 [] 1 CX).bind λJ=>(Y9 J 3 CX).bind λL=>(Y9 L 2 j.bU).bind λz=>(cond (j.Kind != 2) (some z) ((Y9 z 2 j.Key).bind λI=>(cond (j.Content.N==3) (some true) (some (j.Content.N==1))).bind λM=>(cond M (some true) (some (j.Content.N==2))).bind λq=>(cond q ((Y9 I 4 CX).bind λu=>aAl u) (aAl I))))))
def aE9 :=LX func383 rfl lR DL MP λq r h=>AP 1<|.f (CV 82 3)<|.aY<|Aa<|AZ<|BA h (λh=>BM<|.f (CV 82 3)<|.aY<|MJ) λh=>AO h λz I h=>BM<|.Y (x:=.aS 2) (EK [.nil 3] [.d (.lit (.slice none 0 0)),AX 1,D8 CX] (uo I) (hE:=(anJ (t:=82)<|trivial)) (ha:=⟨.inr (.inl ⟨0,3,rfl,rfl,rfl⟩),.inl rfl,.inl rfl,trivial⟩))<|AO h λI j h=>AP 1<|.Y (x:=.aS 3) (EK [.ent 2] [.aS 2,AX 3,D8 CX] (uo j))<|AO h λz j h=>AP 3<|.Y (x:=.aS 4) (EK [.ent 3] [.aS 3,AX 2,D8 q.bU] (uo j))<|Aa<|AZ<|BA h (λh=>AZ<|a6T) λh=>AO h λI j h=>AP 3<|.Y (x:=.aS 5) (EK [.ent 4] [.aS 4,AX 2,D8 q.Key] (uo j))<|Cm (λs=>∃(J:(AA BK)),CO s ⟨Az 39 [(3,.aS 0)],[(MP J)],0⟩/\aAl J=some r) aKQ<|λz=>AZ<|AP 2<|AO h λj u h=>.mg 28 3 (Ag j) (.bi u)<|.a 1<|AO h λj u h=>.mg 33 2 (Ag j) (DC u)<|.aY<|BA h (λh=>AO h λj u h=>CU<|.a 1<|.f (x:=.aS 6) (EK [.ent 5] [.aS 5,AX 4,D8 CX] (uo u))<|.aN<|z _ ⟨j,Ae [AU 6],h⟩) λh=>z _ ⟨I,Ae [AU 5],h⟩
def a7P (k3:(Ah->Int->AL Ah))(v2:Int)(j:Ah):AL Ah:=k3 j (Au (v2+1))
def aG6 (j:AV)(q:Ah)(k3:(Ah->Int->AL Ah)):Ah->Int->AL Ah:=λu v2=>(cond (v2<(j.length:Int)) ((Ak j v2).bind λJ=>(Ju q J).bind λI=>(cond I.2 ((D5 376 u [I.1]).bind λz=>a7P k3 v2 z) (a7P k3 v2 u))) (some u))
def aTw (j:AV)(q:Ah):Ah->Int->AL Ah:=aQ (aG6 j q) Am
def o7 (q:Ah)(j:AV):AL Ah:=aTw j q [] 0
def aJ7 :=Gj func382 rfl o7 BI Bf F8 λq j r h=>BM<|.f (CV 38 29)<|.aY<|BM<|.f (CV 38 29)<|.aY<|Aa<|AZ<|Aj<|DV (λz u=>⟨Az 30 [(0,BI q),(1,Bf j),(5,.aS 0),(6,AX u)],[(F8 z)],0⟩) _ _ _ _ (Ae [AU 1]) h<|λz u I M J h=>Aa<|AP 2<|.Z (BJ Ad j)<|Bo h (λh=>Cm (λs=>∃(L:(AA AQ)),CO s ⟨Az 30 [(0,BI q),(1,Bf j),(5,.aS 0),(6,AX J)],[(F8 L)],0⟩/\a7P u J L=some r) aGb<|λz=>Aj<|Bv h λu I J O h=>AP 3<|.p (BD Ad I)<|.a 1<|.X (MK O)<|AZ<|BA h (λh=>AO h λu I h=>CU<|.a 2<|.p (EG IJ Md [Ap J.1])<|.f (Dk (k:=0) Ap I IJ A8 (λ_=>rfl) Bl)<|aEV) λh=>z _ ⟨M,Ae [AU 0],h⟩) λh=>JC
def a8D (j:(Ah->AY->Int->AL Ah))(z:Int)(q:Ah)(u:AY):AL Ah:=j q u (Au (z+1))
def a9d (L:Ah)(q:Int)(J:Ah)(j:(Ah->AY->Int->AL Ah))(M:AY)(u:AY):AL Ah:=(cond u ((Ak L q).bind λz=>(D5 376 J [z]).bind λI=>a8D j q I true) (a8D j q J M))
def Rx (j:Ah)(Z:BR)(z:Int)(k5:(Ah->Int->AL Ah))(q:(Ah->AY->Int->AL Ah)):Ah->AY->Int->AL Ah:=λI J u=>(cond (u<(j.length:Int)) (some (!J)) (some false)).bind λL=>(cond L ((Ak j u).bind λM=>(Ak Z z).bind λO=>(cond (M.Kind==O.Kind) ((Ak j u).bind λU=>(Ak Z z).bind λY=>a9d j u I q J (U.Key.toList==Y.Key.toList)) (a9d j u I q J false))) (k5 I (Au (z+1))))
def aWa (j:Ah)(q:BR)(u:Int)(z:(Ah->Int->AL Ah)):Ah->AY->Int->AL Ah:=iG (Rx j q u z) Am
def aFa (j:BR)(z:Ah)(I:(Ah->Int->AL Ah)):Ah->Int->AL Ah:=λq u=>(cond (u<(j.length:Int)) (aWa z j u I q false 0) (some q))
def aPu (j:BR)(q:Ah):Ah->Int->AL Ah:=aQ (aFa j q) Am
def tY (q:Ah)(j:AQ):AL Ah:=(lR j).bind λu=>(o7 q j.bI).bind λz=>aPu u z [] 0
def aKz :=Gj func309 rfl tY BI DL F8 λcZ je r h=>AP 1<|.f (CV 38 29)<|.aY<|AO h λz j h=>AP 1<|.X (aE9 j).view<|AO h λj q h=>AP 3<|.X (aJ7 q).view<|BM<|.f (CV 38 29)<|.aY<|Aa<|AZ<|Aj<|DV (λq u=>⟨Az 65 [(5,Dh z),(6,BI j),(7,.aS 0),(8,AX u)],[(F8 q)],0⟩) _ _ _ _ (Ae [AU 2]) h<|λq u J Z U h=>Aa<|AP 2<|.Z (BJ BO z)<|Bo h (λh=>Aa<|Aj<|AZ<|AZ<|Aj<|QY (λq u J=>⟨Az 65 [(5,Dh z),(6,BI j),(7,.aS 0),(8,AX U),(9,Ag u),(10,AX J)],[(F8 q)],0⟩) _ _ _ _ _ (Ae [AU 0]) h<|λq u Z Y x9 I h=>Aa<|AP 2<|.p (BJ Ap j)<|.a 1<|AO h λq x11 h=>.mg 27 3 (Ag q) (.bi x11)<|.aY<|Bo h (λh=>Cm (λs=>∃(L:(AA AQ)) (M:AY),CO s ⟨Az 65 [(5,Dh z),(6,BI j),(7,.aS 0),(8,AX U),(9,Ag M),(10,AX I)],[(F8 L)],0⟩/\a8D u I L M=some r) (by rintro s ⟨L,M,hs,h⟩;exact D6 hs<|Cx<|Z _ _ _ _ (Ae [AU 0]) h)<|λq=>Aj<|Cm (λs=>∃(O:AY),CO s ⟨Az 65 [(5,Dh z),(6,BI j),(7,.aS 0),(8,AX U),(9,Ag x9),(10,AX I),(56,Ag O)],[(F8 Y)],0⟩/\a9d j I Y u x9 O=some r) (by rintro s ⟨O,hs,h⟩;exact D6 hs<|BA h (λh=>Bv h λz j u J h=>AP 3<|.p (BD Ap j)<|.a 1<|.p (EG IJ Md [Ap z])<|.Y (Dk (k:=0) Ap J IJ A8 (λ_=>rfl) Bl)<|Cx<|q _ ⟨u,true,Ae [AU 1],h⟩) λh=>q _ ⟨Y,x9,Ae [AU 0],h⟩)<|λz=>Bv h λj q u J h=>EX h (λj h=>Bv h λu Z U Y h=>DN A8 A8 A8 (.a 2<|.p (BD Ap q)<|.a 4<|.p (BD BO J)<|.a 3<|.c (BF some j)<|.a 2<|.p (BD Ap Z)<|.a 4<|.p (BD BO Y)<|.a 4<|.nil _)<|z _ ⟨(u.Key.toList==U.Key.toList),Ae [AU 0],h⟩) λj h=>DN A8 A8 A8 (.a 2<|.p (BD Ap q)<|.a 4<|.p (BD BO J)<|.a 3<|.c (BF some j)<|.a 12<|.nil _)<|z _ ⟨false,Ae [AU 0],h⟩) λh=>CZ<|qK) λh=>JC
def a7v :Ci:={ L8 with lg:=50,oV:=50,iq:=50 }
def a3T (j:Ci):AL Ci:=some j
def aB8 (j:BL):AL Ci:=(cond (!(j.toList==CX.toList)) (a3T ({ a7v with Users:=[(⟨j,100⟩:IQ)] })) (a3T a7v))
def aev :=Dc func389 rfl aB8 D8 Iu λj r h=>AZ<|AZ<|Cm (λs=>∃(q:Ci),CO s ⟨Az 12 [(2,.ptr 0 0),(3,.ptr 1 0)],[.box (Ar (FV L8)),.box (Ar (FV q))],0⟩/\a3T q=some r) aON<|λK2=>AZ<|BA h (λh=>CU<|.a 2<|.p (EG a0t a13 [FH (⟨j,100⟩:IQ)])<|.aN<|K2 _ ⟨({ a7v with Users:=[(⟨j,100⟩:IQ)] }),Ae [AU 0,AU 1],h⟩) λh=>K2 _ ⟨a7v,Ae [AU 0,AU 1],h⟩
def a4B (j:(BL->AY->Int->AL (Ci×BL)))(q:Int)(u:BL)(z:AY):AL (Ci×BL):=j u z (Au (q+1))
def aDN (j:Ah)(u:BL)(z:(Int->Ci->AL (Ci×BL))):Int->Ci->AL (Ci×BL):=λq I=>(bif q<(j.length:Int) then(Ak j q).bind λJ=>(cond (J.Kind==3) ((Ak j q).bind λL=>some (L.Content.Levels,u)) (z (Au (q+1)) I))else(aB8 u).bind λM=>some (M,u))
def aAc (j:Ah)(q:BL):Int->Ci->AL (Ci×BL):=aQ (aDN j q) Am
def Rt (j:Ah)(I:(BL->AY->Int->AL (Ci×BL))):BL->AY->Int->AL (Ci×BL):=λJ v2 q=>(cond (q<(j.length:Int)) (some (!v2)) (some false)).bind λL=>(cond L ((Ak j q).bind λu=>(cond (u.Kind==1) ((Ak j q).bind λz=>a4B I q z.bU true) (a4B I q J v2))) (aAc j J 0 L8))
def aWN (j:Ah):BL->AY->Int->AL (Ci×BL):=iG (Rt j) Am
def sS (j:Ah):AL (Ci×BL):=aWN j CX false 0
def aIj :=Dc func315 rfl sS BI (λr=>.eP [Iu r.1,D8 r.2]) λj r h=>AZ<|AZ<|AZ<|Aa<|AZ<|Aj<|QY (λq u z=>⟨Az 51 [(0,BI j),(2,.ptr 0 0),(4,D8 q),(5,Ag u),(6,AX z)],[.box (Ar (FV L8))],0⟩) _ _ _ _ _ (Ae [AU 0]) h<|λq u z I U J h=>Aa<|AP 2<|.p (BJ Ap j)<|.a 1<|AO h λq Y h=>.mg 12 3 (Ag q) (.bi Y)<|.aY<|Bo h (λh=>Cm (λs=>∃(L:BL) (M:AY),CO s ⟨Az 51 [(0,BI j),(2,.ptr 0 0),(4,D8 L),(5,Ag M),(6,AX J)],[.box (Ar (FV L8))],0⟩/\a4B u J L M=some r) (by rintro s ⟨L,M,hs,h⟩;exact D6 hs<|Cx<|z _ _ _ _ (Ae [AU 0]) h)<|λq=>Aj<|AO h λu z h=>AP 2<|.Z (BD Ap z)<|BA h (λh=>AO h λu z h=>AP 2<|.Z (BD Ap z)<|Cx<|q _ ⟨u.bU,true,Ae [AU 0],h⟩) λh=>q _ ⟨I,U,Ae [AU 0],h⟩) λh=>CZ<|Aa<|AZ<|Aj<|DV (λq u=>⟨Az 51 [(0,BI j),(2,.ptr 0 0),(4,D8 I),(7,AX q)],[.box (Ar (FV u))],0⟩) _ _ _ _ (Ae [AU 0]) h<|λq u z U J h=>Aa<|AP 2<|.Z (BJ Ap j)<|Bo h (λh=>Aa<|Aj<|AO h λq u h=>AP 2<|.Z (BD Ap u)<|BA h (λh=>AO h λq u h=>AP 2<|.Z (BD Ap u)<|Eb<|by rw[←CM h];exact⟨[Iu q.Content.Levels,D8 I],[],⟨⟨0,Ar (FV q.Content.Levels),true,9,A8,A8,A8,Yt,DT A8,aD1,A8⟩,FU A8,trivial⟩,A8,A8,A8⟩) λh=>Xp) λh=>CZ<|AO h λq u h=>AP 1<|.X (aev u)<|Eb<|by rw[←CM h];exact⟨[Iu q,D8 I],[],⟨⟨0,Ar (FV q),true,9,A8,A8,A8,Yt,DT A8,aD1,A8⟩,FU A8,trivial⟩,A8,A8,A8⟩
def aEi (j:Ci)(q:BL)(k2:(Int->AL Int)):Int->AL Int:=λu=>(cond (u<(j.Users.length:Int)) ((Ak j.Users u).bind λz=>(cond (z.User.toList==q.toList) ((Ak j.Users u).bind λI=>some I.N) (k2 (Au (u+1))))) (some j.User))
def aPn (q:Ci)(j:BL):Int->AL Int:=bn (aEi q j) Am
def Ud (q:Ci)(j:BL):AL Int:=aPn q j 0
def Zm :=DW func316 rfl Ud Iu D8 AX λq j r h=>AZ<|Aa<|AZ<|Aj<|Dp (λu=>⟨Az 29 [(1,D8 j),(2,.ptr 0 0),(5,AX u)],[.box (Ar (FV q))],0⟩) _ _ _ (Ae [AU 0]) h<|λu z I J h=>Aa<|AP 3<|.Z (BJ FH q.Users)<|Bo h (λh=>Aa<|Aj<|AO h λu z h=>AP 3<|.Z (BD FH z)<|BA h (λh=>AO h λu z h=>AP 3<|.Z (BD FH z)<|CY) λh=>dS) λh=>El
def a03 (q:Ah)(j:AQ):AL Int:=(tY q j).bind λu=>(sS u).bind λz=>(Ud z.1 j.bU).bind λI=>some I
def aPr :=DW func448 rfl a03 BI DL AX λq u r h=>AZ<|Bv h λz j J I h=>AP 2<|.ca (aKz j).view<|.X (aIj I)<|AO h λz j h=>AP 3<|.X (Zm j)<|CY
def a5h (u:Ah)(j:AQ)(q:AQ):AL AY:=(a03 u j).bind λz=>(a03 u q).bind λI=>(cond (z != I) (some (decide (z>I))) (cond (j.Time != q.Time) (some (decide (j.Time<q.Time))) (some (decide (j.Id<q.Id)))))
def agE :=O5 func422 rfl a5h BI DL DL Ag λj q u r h=>AZ<|Bv h λJ z L I h=>F6 A8 A8 A8 (.a 2<|.ca (aPr z)<|.a 2<|.ca (aPr I)<|.a 2<|.nil _)<|Aa<|AZ<|BA h CB λh=>Aa<|AZ<|JW
def aBA (j:(AY->Int->AV->AQ->AL AV))(I:Int)(q:AY)(u:AV)(z:AQ):AL AV:=j q (Au (I+1)) u z
def aDq (v2:AV)(j:Ah)(k4:(AV->AV->AL AV))(q:(AY->Int->AV->AQ->AL AV)):AY->Int->AV->AQ->AL AV:=λL u I J=>(cond (u<(v2.length:Int)) ((Ak v2 u).bind λM=>(Ju j M).bind λz=>(Ak v2 u).bind λO=>(a2B j v2 O).bind λU=>(cond U ((cond (!L) (some true) ((a5h j z.1 J).bind λY=>some Y)).bind λZ=>some Z) (some false)).bind λx20=>(cond x20 (aBA q u true I z.1) (aBA q u L I J))) (cond (!L) (some I) ((D5 8 I [J.Id]).bind λx27=>(fB v2 [J.Id]).bind λx28=>k4 x28 x27)))
def aUX (v2:AV)(j:Ah)(q:(AV->AV->AL AV)):AY->Int->AV->AQ->AL AV:=XM (aDq v2 j q) Am
def aF (j:Ah)(u:(AV->AV->AL AV)):AV->AV->AL AV:=λv2 q=>(cond ((v2.length:Int)>0) (aUX v2 j u false 0 q Eo) (some q))
def aOe (j:Ah):AV->AV->AL AV:=aQ (aF j) Am
def a2S (q:Ah)(j:AV):AL AV:=(zO q j).bind λu=>aOe q u []
def aZ7 :=Gj func362 rfl a2S BI Bf Cb λu U r h=>BM<|.f (CV 3 1)<|.aY<|AO h λq j h=>AP 2<|.X (aMa j).view<|BM<|.Y (Ht Dy zero3 [])<|Aa<|Aj<|DV (λq j=>⟨Az 66 [(0,BI u),(5,Bf q),(6,.aS 0)],[(Cb j)],0⟩) _ _ _ _ (Ae [AU 1]) h<|λq j z Y M h=>Aa<|AP 1<|.Z (BJ Ad Y)<|Bo h (λh=>Aj<|AZ<|AZ<|Aa<|AZ<|Aj<|Bq.XM (λq j z M=>⟨Az 66 [(0,BI u),(5,Bf Y),(6,.aS 0),(7,.ptr 1 0),(8,Ag q),(9,AX j)],[(Cb z),.box (Ar (Ap M))],0⟩) _ _ _ _ _ _ (Ae [AU 0,AU 1]) h<|λq j M x6 O x8 Z h=>Aa<|AP 2<|.Z (BJ Ad Y)<|Bo h (λh=>Cm (λs=>∃(I:AY) (J:(AA Int)) (L:AQ),CO s ⟨Az 66 [(0,BI u),(5,Bf Y),(6,.aS 0),(7,.ptr 1 0),(8,Ag I),(9,AX O)],[(Cb J),.box (Ar (Ap L))],0⟩/\aBA j O I J L=some r) (by rintro s ⟨I,J,L,hs,h⟩;exact D6 hs<|Cx<|M _ _ _ _ _ (Ae [AU 0,AU 1]) h)<|λq=>Aj<|Bv h λj z M O h=>AP 3<|.p (BD Ad z)<|.a 1<|.X (MK O)<|Bv h λj z O x10 h=>AP 4<|.p (BD Ad z)<|.a 1<|.ca (aXL x10)<|.a 1<|AO h λj z h=>.mg 42 8 (Ag j) (DC z (λe i=>by subst e;have h:=i;exact .a 2<|AO h λq j h=>.mg 44 5 (Ag q) (.bi j (k2:=λh=>AO h λq j h=>.a 3<|.X (agE j)<|Cc))<|.aW<|Cc))<|.aY<|BA h (λh=>Cx<|q _ ⟨true,x8,M.1,Ae [AU 0,AU 1],h⟩) λh=>q _ ⟨x6,x8,Z,Ae [AU 0,AU 1],h⟩) λh=>CZ<|Aa<|AZ<|BA h ni λh=>AO h λq j h=>AP 3<|.p (EG Dy zero3 [Ad Z.Id])<|.Y (Dk (k:=0) Ad j Dy A8 (λ_=>rfl) Bl)<|AO h λq j h=>CU<|.a 3<|.p (EG Dy zero3 [Ad Z.Id])<|.ca (a9k j).view<|.aN<|z _ _ _ (Ae [AU 2]) h) λh=>JC
def aBm (j:Ah)(u:Int)(q:BL)(k3:(Int->AQ->AL (AQ×AY))):Int->AQ->AL (AQ×AY):=λz v2=>(cond (z<(j.length:Int)) ((Ak j z).bind λJ=>(cond (J.Kind==u) ((Ak j z).bind λL=>some (L.Key.toList==q.toList)) (some false)).bind λM=>(cond M ((Ak j z).bind λI=>some (I,true)) (k3 (Au (z+1)) v2))) (some (Eo,false)))
def aOg (q:Ah)(u:Int)(j:BL):Int->AQ->AL (AQ×AY):=aQ (aBm q u j) Am
def aAT (q:Ah)(u:Int)(j:BL):AL (AQ×AY):=aOg q u j 0 Eo
def aeC :=O5 func449 rfl aAT BI AX D8 (λr=>.eP [DL r.1,Ag r.2]) λz I q r h=>AZ<|Aa<|AZ<|Aj<|DV (λu j=>⟨Az 36 [(0,BI z),(1,AX I),(2,D8 q),(6,.ptr 0 0),(8,AX u)],[.box (Ar (Ap j))],0⟩) _ _ _ _ (Ae [AU 0]) h<|λu j L M O h=>Aa<|AP 2<|.Z (BJ Ap z)<|Bo h (λh=>Aa<|Aj<|AO h λu j h=>AP 2<|.p (BD Ap j)<|.a 4<|AO h λu j h=>.mg 22 8 (Ag u) (.bi j (λh=>AO h λu j h=>.a 2<|.Z (BD Ap j)<|Cc))<|.aY<|BA h (λh=>AO h λu j h=>AP 2<|.Z (BD Ap j)<|Eb<|by rw[←CM h];exact⟨[DL u,Ag true],[],⟨⟨0,Ar (Ap u),true,29,A8,A8,A8,Gg,DT A8,zN,A8⟩,FU A8,trivial⟩,A8,A8,A8⟩) λh=>Cx<|L _ _ _ (Ae [AU 0]) h) λh=>CZ<|AZ<|Eb<|by rw[←CM h];exact⟨[DL Eo,Ag false],[],⟨⟨0,Ar (Ap Eo),true,29,A8,A8,A8,Gg,DT A8,zN,A8⟩,FU A8,trivial⟩,A8,A8,A8⟩
def a4Z (j:(Ah->Int->AL Ah))(q:Int)(u:Ah):AL Ah:=j u (Au (q+1))
def a2i (I:(Ah->Int->AL Ah))(J:Int)(q:AY)(j:Ah)(u:AQ):AL Ah:=(cond q ((D5 376 j [u]).bind λz=>a4Z I J z) (a4Z I J j))
def aH8 (q:BR)(u:BR)(x2:Ah)(z:Ah)(Z:(Ah->Int->AL Ah)):Ah->Int->AL Ah:=λM j=>(cond (j<(q.length:Int)) ((Ak q j).bind λx9=>(Ak q j).bind λO=>(lS u x9.Kind O.Key).bind λI=>(Ak q j).bind λU=>(Ak q j).bind λY=>(aAT x2 U.Kind Y.Key).bind λJ=>(cond I.2 ((Ju z I.1).bind λL=>a2i Z j L.2 M L.1) (a2i Z j J.2 M J.1))) (some M))
def aUl (u:BR)(j:BR)(z:Ah)(q:Ah):Ah->Int->AL Ah:=aQ (aH8 u j z q) Am
def aAY (j:Ah)(u:BR)(q:AQ):AL Ah:=(lR q).bind λz=>(o7 j q.bI).bind λI=>aUl z u I j [] 0
def aZh {cZ sN jL r}(h:aAY cZ sN jL=some r):E8 423 [BI cZ,Dh sN,DL jL] [] (.aS 0) [(F8 r)]:=Ec func423 rfl<|AP 1<|.f (CV 38 29)<|.aY<|AO h λu q h=>AP 1<|.X (aE9 q).view<|AO h λq j h=>AP 3<|.X (aJ7 j).view<|BM<|.f (CV 38 29)<|.aY<|Aa<|AZ<|Aj<|DV (λj O=>⟨Az 70 [(0,BI cZ),(1,Dh sN),(7,Dh u),(8,BI q),(9,.aS 0),(10,AX O)],[(F8 j)],0⟩) _ _ _ _ (Ae [AU 2]) h<|λj O Y x6 U h=>Aa<|AP 2<|.Z (BJ BO u)<|Bo h (λh=>Cm (λs=>∃(Z:(AA AQ)),CO s ⟨Az 70 [(0,BI cZ),(1,Dh sN),(7,Dh u),(8,BI q),(9,.aS 0),(10,AX U)],[(F8 Z)],0⟩/\a4Z O U Z=some r) (by rintro s ⟨Z,hs,h⟩;exact D6 hs<|aBJ)<|λj=>Aj<|Hq h λY x8 x9 L x11 z h=>F6 A8 A8 A8 (.a 3<|.p (BD BO x8)<|.a 4<|.p (BD BO L)<|.a 2<|.ca (aFE z)<|.a 5<|.nil _)<|Hq h λY x8 x9 L z x13 h=>Yl [SL 3 (Go.Op.indexAddr 40 (Go.Operand.tmp 44) (Go.Operand.tmp 45)) (λu q j=>bW (k:=.i64) BO x8 Ti Qx A8 j),SL 8 (Go.Op.indexAddr 40 (Go.Operand.tmp 49) (Go.Operand.tmp 50)) (λu q j=>bW (k:=.i64) BO L Ti Qx A8 j),ZA 11 (aeC x13) aj2] 208<|Cm (λs=>∃(M:AY) (I:(AA AQ)) (J:AQ),CO s ⟨Az 70 [(0,BI cZ),(1,Dh sN),(7,Dh u),(8,BI q),(9,.aS 0),(10,AX U),(13,.ptr 1 0),(14,Ag M)],[(F8 I),.box (Ar (Ap J))],0⟩/\a2i O U M I J=some r) (by rintro s ⟨M,I,J,hs,h⟩;exact D6 hs<|AZ<|BA h (λh=>AO h λu q h=>CU<|.a 2<|.p (EG IJ Md [Ap J])<|.f (Dk (k:=0) Ap q IJ A8 (λ_=>rfl) Bl)<|.aN<|j _ ⟨u,Ae [AU 2],h⟩) λh=>j _ ⟨I,Ae [AU 0],h⟩)<|λu=>AZ<|BA h (λh=>AO h λq j h=>CU<|.a 2<|.ca (MK j)<|.aN<|u _ ⟨q.2,x6,q.1,Ae [AU 0,AU 1],h⟩) λh=>u _ ⟨z.2,x6,z.1,Ae [AU 0,AU 1],h⟩) λh=>JC
def aIB (j:Ah)(k3:(Int->AQ->AL (AQ×AY))):Int->AQ->AL (AQ×AY):=λq v2=>(cond (q<(j.length:Int)) ((Ak j q).bind λu=>(cond (u.Kind==1) ((Ak j q).bind λz=>some (z,true)) (k3 (Au (q+1)) v2))) (some (Eo,false)))
def aSl (j:Ah):Int->AQ->AL (AQ×AY):=aQ (aIB j) Am
def xH (j:Ah):AL (AQ×AY):=aSl j 0 Eo
def aTk :=Dc func251 rfl xH BI (λr=>.eP [DL r.1,Ag r.2]) λj r h=>AZ<|Aa<|AZ<|Aj<|DV (λq u=>⟨Az 22 [(0,BI j),(2,.ptr 0 0),(4,AX q)],[.box (Ar (Ap u))],0⟩) _ _ _ _ (Ae [AU 0]) h<|λq u I J L h=>Aa<|AP 2<|.Z (BJ Ap j)<|Bo h (λh=>Aa<|Aj<|AO h λq u h=>AP 2<|.Z (BD Ap u)<|BA h (λh=>AO h λq u h=>AP 2<|.Z (BD Ap u)<|Eb<|a7u) λh=>Tj) λh=>CZ<|AZ<|Eb<|a9C
def aK1 (j:Ah)(q:BL)(k2:(Int->AL AY)):Int->AL AY:=λu=>(cond (u<(j.length:Int)) ((Ak j u).bind λz=>(cond (z.Kind==2) ((Ak j u).bind λI=>some (I.Key.toList==q.toList)) (some false)).bind λJ=>(cond J (some true) (k2 (Au (u+1))))) (some false))
def aN0 (q:Ah)(j:BL):Int->AL AY:=bn (aK1 q j) Am
def a5A (q:Ah)(j:BL):AL AY:=aN0 q j 0
def ahg :=DW func385 rfl a5A BI D8 Ag λq j r h=>AZ<|Aa<|AZ<|Aj<|Dp (λu=>⟨Az 27 [(0,BI q),(1,D8 j),(5,AX u)],[],0⟩) _ _ _ (Ae []) h<|λu z I J h=>Aa<|AP 2<|.Z (BJ Ap q)<|Bo h (λh=>Aa<|Aj<|AO h λu z h=>AP 2<|.p (BD Ap z)<|.a 3<|AO h λu z h=>.mg 18 8 (Ag u) (.bi z (λh=>AO h λu z h=>.a 2<|.Z (BD Ap z)<|Cc))<|aAw) λh=>El
def Yb (v2:AY):AL AY:=some v2
def a8T (j:AQ)(q:Ah):AL AY:=(xH q).bind λu=>(cond u.2 (cond ((j.bG.length:Int)==1) ((Ak j.bG 0).bind λI=>(cond (I==u.1.Id) (cond (j.bU.toList==u.1.bU.toList) (cond (j.Key.toList==u.1.bU.toList) (cond (j.Content.N==3) ((a5A q j.Key).bind λz=>Yb (!z)) (Yb false)) (Yb false)) (Yb false)) (Yb false))) (Yb false)) (Yb false))
def akk :=DW func311 rfl a8T DL BI Ag λj Y r h=>AZ<|AO h λu q h=>AP 1<|.X (aTk q)<|Cm (λs=>∃(v2:AY),CO s ⟨Az 55 [(4,Ag v2)],[],0⟩/\Yb v2=some r) (by rintro s ⟨v2,hs,h⟩;exact D6 hs<|CY)<|λu=>EX h (λq h=>EX h (λz h=>AO h λI J h=>EX h (λI h=>EX h (λL h=>EX h (λM h=>EX h (λO h=>AO h λZ U h=>DN A8 A8 A8 (.a 1<|.c (BF some q)<|.a 2<|.p (BJ Ad j.bG)<|.a 2<|.c (BF some z)<|.a 2<|.p (BD Ad J)<|.a 5<|.c (BF some I)<|.a 6<|.c (BF some L)<|.a 6<|.c (BF some M)<|.a 5<|.c (BF some O)<|.a 3<|.ca (ahg U)<|.a 3<|.nil _)<|u _ ⟨(!Z),Ae [],h⟩) λO h=>DN A8 A8 A8 (.a 1<|.c (BF some q)<|.a 2<|.p (BJ Ad j.bG)<|.a 2<|.c (BF some z)<|.a 2<|.p (BD Ad J)<|.a 5<|.c (BF some I)<|.a 6<|.c (BF some L)<|.a 6<|.c (BF some M)<|.a 5<|.c (BF some O)<|.a 7<|.nil _)<|u _ ⟨false,Ae [],h⟩) λM h=>DN A8 A8 A8 (.a 1<|.c (BF some q)<|.a 2<|.p (BJ Ad j.bG)<|.a 2<|.c (BF some z)<|.a 2<|.p (BD Ad J)<|.a 5<|.c (BF some I)<|.a 6<|.c (BF some L)<|.a 6<|.c (BF some M)<|.a 13<|.nil _)<|u _ ⟨false,Ae [],h⟩) λL h=>DN A8 A8 A8 (.a 1<|.c (BF some q)<|.a 2<|.p (BJ Ad j.bG)<|.a 2<|.c (BF some z)<|.a 2<|.p (BD Ad J)<|.a 5<|.c (BF some I)<|.a 6<|.c (BF some L)<|.a 20<|.nil _)<|u _ ⟨false,Ae [],h⟩) λI h=>DN A8 A8 A8 (.a 1<|.c (BF some q)<|.a 2<|.p (BJ Ad j.bG)<|.a 2<|.c (BF some z)<|.a 2<|.p (BD Ad J)<|.a 5<|.c (BF some I)<|.a 27<|.nil _)<|u _ ⟨false,Ae [],h⟩) λz h=>DN A8 A8 A8 (.a 1<|.c (BF some q)<|.a 2<|.p (BJ Ad j.bG)<|.a 2<|.c (BF some z)<|.a 36<|.nil _)<|u _ ⟨false,Ae [],h⟩) λq h=>DN A8 A8 A8 (.a 1<|.c (BF some q)<|.a 42<|.nil _)<|u _ ⟨false,Ae [],h⟩
def aDX (j:Ah)(q:BL)(k2:(Int->AL Int)):Int->AL Int:=λu=>(cond (u<(j.length:Int)) ((Ak j u).bind λz=>(cond (z.Kind==2) ((Ak j u).bind λI=>some (I.Key.toList==q.toList)) (some false)).bind λJ=>(cond J ((Ak j u).bind λL=>some L.Content.N) (k2 (Au (u+1))))) (some 0))
def aOX (q:Ah)(j:BL):Int->AL Int:=bn (aDX q j) Am
def lV (q:Ah)(j:BL):AL Int:=aOX q j 0
def aEK :=DW func253 rfl lV BI D8 AX λq j r h=>AZ<|Aa<|AZ<|Aj<|Dp (λz=>⟨Az 33 [(0,BI q),(1,D8 j),(5,AX z)],[],0⟩) _ _ _ (Ae []) h<|λz u I J h=>Aa<|AP 2<|.Z (BJ Ap q)<|Bo h (λh=>Aa<|Aj<|AO h λz u h=>AP 2<|.p (BD Ap u)<|.a 3<|AO h λz u h=>.mg 18 8 (Ag z) (.bi u (λh=>AO h λz u h=>.a 2<|.Z (BD Ap u)<|Cc))<|.aY<|BA h (λh=>AO h λz u h=>AP 2<|.Z (BD Ap u)<|CY) λh=>SQ) λh=>El
def XA (j:Int)(u:Int)(q:AY):AL AY:=(cond (j<0) (some true) (some (decide (j>4)))).bind λZ=>(cond Z (some false) (cond (u==3) ((cond q (some (j != 4)) (some false)).bind λx5=>some x5) (cond (u==0) ((cond (j==1) (some true) (some (j==2))).bind λx8=>(cond x8 (some true) (some (j==3))).bind λz=>(cond z (some true) ((cond (j==4) (some (!q)) (some false)).bind λI=>some I)).bind λJ=>some J) (cond (u==2) ((cond q ((cond (j==0) (some true) (some (j==2))).bind λL=>some L) (some false)).bind λM=>some M) (cond (u==1) ((cond (!q) ((cond (j==0) (some true) (some (j==2))).bind λO=>(cond O (some true) (some (j==1))).bind λU=>some U) (some false)).bind λY=>some Y) (cond (u==4) (some (!q)) (some false)))))))
def akZ {aBt aHY anC r}(h:XA aBt aHY anC=some r):E8 312 [AX aBt,AX aHY,Ag anC] [] (Ag r) []:=by
 refine Ec func312 rfl ?_;unfold XA at h;refine AZ<|Aa<|AP 2<|?_;obtain⟨x1,hx1,h⟩:=Du h;refine .mg 9 3 (Ag x1) ?_ ?_
 ·rcases Zh hx1 with⟨I,h⟩|⟨I,h⟩
  ·refine .c (BF some I)<|.aM 3 ?_;obtain rfl:=CM h;kernel_rfl
  refine .c (BF some I)<|.aM 3 ?_;obtain rfl:=CM h;kernel_rfl
 refine .aY<|Df h (λh=>?_) λh=>?_
 ·refine BM<|.aM 1 ?_;rw[←CM h];exact .ret (Ez [])
 refine F9<|Aa<|AZ<|Aj<|AZ<|Df h (λh=>?_) λh=>?_
 ·refine AP 2<|?_;obtain⟨x5,hx5,h⟩:=Du h;refine .mg 18 2 (Ag x5) ?_ ?_
  ·replace h:=hx5;cases anC with
   |true=>
    replace h:=Ru rfl h;refine .aM 3 ?_;obtain rfl:=CM h;kernel_rfl
   |false=>
    replace h:=Rl rfl h;refine .aM 3 ?_;obtain rfl:=CM h;kernel_rfl
  refine .aM 1 ?_;rw[←CM h];exact .ret (Ez [])
 refine AZ<|Df h (λh=>?_) λh=>?_
 ·refine AP 2<|?_;obtain⟨x8,hx8,h⟩:=Du h;refine .mg 25 3 (Ag x8) ?_ ?_
  ·rcases Zh hx8 with⟨J,h⟩|⟨J,h⟩
   ·refine .c (BF some J)<|.aM 3 ?_;obtain rfl:=CM h;kernel_rfl
   refine .c (BF some J)<|.aM 3 ?_;obtain rfl:=CM h;kernel_rfl
  refine .a 1<|?_;obtain⟨L,M,h⟩:=Du h;refine .mg 30 2 (Ag L) ?_ ?_
  ·replace h:=M;cases x8 with
   |true=>
    replace h:=Ru rfl h;refine .aM 3 ?_;obtain rfl:=CM h;kernel_rfl
   |false=>
    replace h:=Rl rfl h;refine .aM 3 ?_;obtain rfl:=CM h;kernel_rfl
  refine .a 1<|?_;obtain⟨x12,O,h⟩:=Du h;refine .mg 34 6 (Ag x12) ?_ ?_
  ·replace h:=O;cases L with
   |true=>
    replace h:=Ru rfl h;refine .aM 7 ?_;obtain rfl:=CM h;kernel_rfl
   |false=>
    replace h:=Rl rfl h;refine .a 2<|?_;obtain⟨x14,U,h⟩:=Du h;refine .mg 36 3 (Ag x14) ?_ ?_
    ·rcases Zh U with⟨j,h⟩|⟨j,h⟩
     ·refine .c (BF some j)<|.aM 3 ?_;obtain rfl:=CM h;kernel_rfl
     refine .c (BF some j)<|.aM 3 ?_;obtain rfl:=CM h;kernel_rfl
    refine .aM 1 ?_;obtain rfl:=CM h;kernel_rfl
  refine .aM 1 ?_;rw[←CM h];exact .ret (Ez [])
 refine AZ<|Df h (λh=>?_) λh=>?_
 ·refine AP 2<|?_;obtain⟨x17,Y,h⟩:=Du h;refine .mg 45 6 (Ag x17) ?_ ?_
  ·replace h:=Y;cases anC with
   |true=>
    replace h:=Ru rfl h;refine .a 2<|?_;obtain⟨x19,Z,h⟩:=Du h;refine .mg 47 3 (Ag x19) ?_ ?_
    ·rcases Zh Z with⟨q,h⟩|⟨q,h⟩
     ·refine .c (BF some q)<|.aM 3 ?_;obtain rfl:=CM h;kernel_rfl
     refine .c (BF some q)<|.aM 3 ?_;obtain rfl:=CM h;kernel_rfl
    refine .aM 1 ?_;obtain rfl:=CM h;kernel_rfl
   |false=>
    replace h:=Rl rfl h;refine .aM 7 ?_;obtain rfl:=CM h;kernel_rfl
  refine .aM 1 ?_;rw[←CM h];exact .ret (Ez [])
 refine AZ<|Df h (λh=>?_) λh=>?_
 ·refine AP 2<|?_;obtain⟨x22,aGX,h⟩:=Du h;refine .mg 56 11 (Ag x22) ?_ ?_
  ·rcases Zh aGX with⟨u,h⟩|⟨u,h⟩
   ·refine .c (BF some u)<|.a 2<|?_;obtain⟨x24,hx24,h⟩:=Du h;refine .mg 59 3 (Ag x24) ?_ ?_
    ·rcases Zh hx24 with⟨z,h⟩|⟨z,h⟩
     ·refine .c (BF some z)<|.aM 3 ?_;obtain rfl:=CM h;kernel_rfl
     refine .c (BF some z)<|.aM 3 ?_;obtain rfl:=CM h;kernel_rfl
    refine .a 1<|?_;obtain⟨x26,axD,h⟩:=Du h;refine .mg 64 2 (Ag x26) ?_ ?_
    ·replace h:=axD;cases x24 with
     |true=>
      replace h:=Ru rfl h;refine .aM 3 ?_;obtain rfl:=CM h;kernel_rfl
     |false=>
      replace h:=Rl rfl h;refine .aM 3 ?_;obtain rfl:=CM h;kernel_rfl
    refine .aM 1 ?_;obtain rfl:=CM h;kernel_rfl
   refine .c (BF some u)<|.aM 11 ?_;obtain rfl:=CM h;kernel_rfl
  refine .aM 1 ?_;rw[←CM h];exact .ret (Ez [])
 refine AZ<|Df h (λh=>?_) λh=>?_
 ·refine BM<|.aM 3 ?_;rw[←CM h];exact .ret (Ez [])
 refine F9<|BM<|.aM 1 ?_;rw[←CM h];exact .ret (Ez [])
def aGO (j:Ah)(k2:(Int->AL (Int×Gq))):Int->AL (Int×Gq):=λq=>(cond (q<(j.length:Int)) ((Ak j q).bind λu=>(cond (u.Kind==4) ((Ak j q).bind λz=>(Ak j q).bind λI=>(D5 16 [] I.Content.Allow).bind λJ=>some (z.Content.N,J)) (k2 (Au (q+1))))) (some (0,[])))
def aLL (j:Ah):Int->AL (Int×Gq):=bn (aGO j) Am
def a4z (j:Ah):AL (Int×Gq):=aLL j 0
def ahT :=Dc func386 rfl a4z BI (λr=>.eP [AX r.1,Ib r.2]) λq r h=>AZ<|Aa<|AZ<|Aj<|Dp (λu=>⟨Az 31 [(0,BI q),(4,AX u)],[],0⟩) _ _ _ (Ae []) h<|λu j z I h=>Aa<|AP 2<|.Z (BJ Ap q)<|Bo h (λh=>Aa<|Aj<|AO h λu j h=>AP 2<|.Z (BD Ap j)<|BA h (λh=>Hq h λu j z I J L h=>Yl [SL 2 (Go.Op.indexAddr 22 (Go.Operand.tmp 17) (Go.Operand.tmp 18)) (λu es z=>bW (k:=.i64) Ap j Kv Gg A8 z),RG 6 (Go.Op.buildSlice 28 0 #[]) [] [(Wv [])] (λu j=>a7L OM zero9 A8 A8 (DT A8) [] [] A8 A8 A8 A8 j),SL 9 (Go.Op.indexAddr 22 (Go.Operand.tmp 24) (Go.Operand.tmp 25)) (λu es j=>bW (k:=.i64) Ap I Kv Gg A8 j),RG 13 (Go.Op.call { callee:=(Go.Callee.builtin Go.Builtin.append),args:= #[(Go.Operand.tmp 23),(Go.Operand.tmp 29)],argTypes:= #[28,28] }) [(Wv [])] [.dead,.dead] (λu j=>CG.thaw (k:=1) (e:=9) (s:=1) (xs:=List.map DX J) (es:=[(Wv [])]) (es':=[.dead,(Wv J)]) (Dk (k:=0) DX L OM A8 (λ_=>rfl) Bl j) A8)] 137<|CY) λh=>VY) λh=>El
def aB7 (j:Int)(q:Int):AL Int:=(cond (q==3) (some true) (some (j==1))).bind λu=>(cond u (some 0) ((cond (q==1) ((cond (j==0) (some true) (some (j==2))).bind λz=>(cond z (some true) (some (j==3))).bind λI=>some I) (some false)).bind λJ=>(cond J (some 0) (some 21))))
def amC :=DW func387 rfl aB7 AX AX AX λu z r h=>AZ<|Aa<|AP 2<|AO h λj q h=>.mg 7 3 (Ag j) (.bi q)<|.aY<|BA h CB λh=>Aa<|AP 2<|AO h λj q h=>.mg 13 11 (Ag j) (.bi q (λh=>.a 2<|AO h λj q h=>.mg 16 3 (Ag j) (.bi q)<|.a 1<|AO h λj q h=>.mg 21 2 (Ag j) (DC q)<|.aW<|Cc))<|.aY<|JW
def a3j (q:Int)(j:Int):AL Int:=(cond (q==2) ((cond (j==0) (some true) (some (j==2))).bind λu=>some u) (some false)).bind λz=>(cond z (some 0) (some 21))
def ajz :=DW func388 rfl a3j AX AX AX λj q r h=>AZ<|Aa<|AP 2<|AO h λu z h=>.mg 7 7 (Ag u) (.bi z (λh=>.a 2<|AO h λu z h=>.mg 10 3 (Ag u) (.bi z)<|.aW<|Cc))<|.aY<|JW
def a3K (q:AQ)(u:Ah)(j:Int):AL Int:=(a4z u).bind λz=>(cond (q.Content.N==3) ((aB7 z.1 j).bind λI=>some I) (cond (q.Content.N==2) ((a3j z.1 j).bind λJ=>some J) (some 0)))
def aa0 :=O5 func313 rfl a3K DL BI AX AX λz I j r h=>AZ<|AO h λJ q h=>AP 1<|.X (ahT q)<|Aa<|AZ<|BA h (λh=>AO h λq u h=>AP 2<|.X (amC u)<|CY) λh=>Aa<|AZ<|BA h (λh=>AO h λq u h=>AP 2<|.X (ajz u)<|CY) λh=>AZ<|CY
def a5r (j:AQ)(u:Ah)(q:Int):AL Int:=(lV u j.bU).bind λZ=>(cond (Z != 3) (some 18) ((sS u).bind λz=>(Ud z.1 j.bU).bind λI=>(Ud z.1 j.Key).bind λY=>(cond (j.Content.N==1) (some (decide (I<z.1.gY))) (some false)).bind λx6=>(cond x6 (some 20) ((cond (j.Content.N==0) ((cond (q==4) (some (decide (I<z.1.oV))) (some false)).bind λJ=>(cond J (some true) (some (decide (I<z.1.lg)))).bind λL=>(cond L (some true) (some (decide (Y>=I)))).bind λM=>some M) (some false)).bind λx9=>(cond x9 (some 20) ((cond (j.Content.N==4) ((cond (I<z.1.oV) (some true) (some (decide (Y>=I)))).bind λO=>some O) (some false)).bind λU=>(cond U (some 20) (some 0))))))))
def ams :=O5 func314 rfl a5r DL BI AX AX λz I u r h=>AZ<|Aa<|AO h λq j h=>AP 3<|.X (aEK j)<|BA h CB λh=>AO h λq j h=>AP 1<|.X (aIj j)<|Bv h λj J M L h=>F6 A8 A8 A8 (.a 3<|.ca (Zm J)<|.a 3<|.ca (Zm L)<|.a 2<|.nil _)<|AZ<|Aa<|AP 2<|AO h λq j h=>.mg 35 5 (Ag q) (.bi j)<|.aY<|BA h CB λh=>Aa<|AP 2<|AO h λq j h=>.mg 43 20 (Ag q) (.bi j (λh=>.a 2<|AO h λq j h=>.mg 46 5 (Ag q) (.bi j)<|.a 1<|AO h λq j h=>.mg 53 4 (Ag q) (DC j)<|.a 1<|AO h λq j h=>.mg 59 3 (Ag q) (DC j)<|.aW<|Cc))<|.aY<|BA h CB λh=>Aa<|AP 2<|AO h λq j h=>.mg 66 10 (Ag q) (.bi j (λh=>.a 4<|AO h λq j h=>.mg 71 4 (Ag q) (.bi j)<|.aW<|Cc))<|.aY<|JW
def a5m (j:AQ)(q:Ah):AL Int:=(a8T j q).bind λJ=>(cond J (some 0) ((lV q j.Key).bind λu=>(cond (j.Key.toList==j.bU.toList) (some (u==4)) (some false)).bind λL=>(cond L (some 19) ((XA u j.Content.N (j.Key.toList==j.bU.toList)).bind λM=>(cond (!M) (some 18) (cond (j.Key.toList==j.bU.toList) ((a3K j q u).bind λz=>some z) ((a5r j q u).bind λI=>some I)))))))
def aib :=DW func252 rfl a5m DL BI AX λu z r h=>AZ<|Aa<|AO h λI j h=>AP 2<|.ca (akk j)<|.aY<|BA h CB λh=>AO h λI j h=>AP 3<|.X (aEK j)<|AZ<|Aa<|AP 1<|AO h λj q h=>.mg 20 3 (Ag j) (.bi q)<|.aY<|BA h CB λh=>Aa<|AO h λj q h=>AP 5<|.X (akZ q)<|BA h CB λh=>Aa<|AZ<|BA h (λh=>AO h λj q h=>AP 3<|.X (aa0 q)<|CY) λh=>AO h λj q h=>AP 3<|.X (ams q)<|CY
def aJr (j:Ci)(q:Int)(k2:(Int->AL Int)):Int->AL Int:=λu=>(bif u<(j.Kinds.length:Int) then(Ak j.Kinds u).bind λz=>(cond (z.Kind==q) ((Ak j.Kinds u).bind λI=>some I.N) (k2 (Au (u+1))))else(V4 q).bind λJ=>(cond J (some j.State) (some j.Message)))
def aWj (j:Ci)(q:Int):Int->AL Int:=bn (aJr j q) Am
def qZ (j:Ci)(q:Int):AL Int:=aWj j q 0
def aDm :=DW func317 rfl qZ Iu AX AX λj u r h=>AZ<|Aa<|AZ<|Aj<|Dp (λz=>⟨Az 33 [(1,AX u),(2,.ptr 0 0),(5,AX z)],[.box (Ar (FV j))],0⟩) _ _ _ (Ae [AU 0]) h<|λz q I J h=>Aa<|AP 3<|.Z (BJ FI j.Kinds)<|Bo h (λh=>Aa<|Aj<|AO h λz q h=>AP 3<|.Z (BD FI q)<|BA h (λh=>AO h λz q h=>AP 3<|.Z (BD FI q)<|CY) λh=>dS) λh=>CZ<|Aa<|AO h λz q h=>AP 1<|.ca (Zt q)<|.aY<|JW
def a6G (j:Ci):AL AV:=some [j.User,j.Message,j.State,j.gY,j.lg,j.oV,j.iq]
def aRw :=LX func390 rfl a6G Iu Cb λj r h=>AP 1<|.f (CV 3 1)<|.aY<|AP 14<|.Y (Ht Dy zero3 [Ad j.User,Ad j.Message,Ad j.State,Ad j.gY,Ad j.lg,Ad j.oV,Ad j.iq])<|MJ
def oh (j:Int)(u:Int)(q:Int):AL AY:=(cond (j==u) (some true) ((cond (j<=q) (some (decide (u<=q))) (some false)).bind λz=>some z)).bind λI=>some I
def aK2 :=O5 func391 rfl oh AX AX AX Ag λj u q r h=>AZ<|AP 3<|AO h λz I h=>.mg 10 9 (Ag z) (.bi I (k2:=λh=>.a 3<|AO h λz I h=>.mg 14 4 (Ag z) (.bi I)<|.aW<|Cc))<|.aW<|CY
def tH (q:Ci)(z:Ci)(u:BL)(j:BL):AL AY:=(Ud q j).bind λJ=>(Ud q u).bind λI=>(Ud z u).bind λL=>(oh I L J).bind λM=>(cond M ((cond (I==L) (some true) (some (u.toList==j.toList))).bind λO=>(cond O (some true) (some (decide (I<J)))).bind λU=>some U) (some false)).bind λY=>some Y
def aW5 {kC aES aKF aBu r}(h:tH kC aES aKF aBu=some r):E8 392 [Iu kC,Iu aES,D8 aKF,D8 aBu] [] (Ag r) []:=Ec func392 rfl<|AZ<|Hq h λq j I u J z h=>F6 A8 A8 A8 (.a 2<|.ca (Zm j)<|.a 2<|.ca (Zm u)<|.a 2<|.ca (Zm z)<|.a 3<|.nil _)<|AO h λj u h=>AP 3<|.ca (aK2 u)<|.a 1<|AO h λq j h=>.mg 26 13 (Ag q) (DC j (λe i=>by subst e;have h:=i;exact .a 3<|AO h λq j h=>.mg 29 4 (Ag q) (.bi j)<|.a 1<|AO h λq j h=>.mg 35 3 (Ag q) (DC j)<|.aW<|Cc))<|.aW<|CY
def a2C (j:Ci)(q:Ci)(O:Int)(z:(Int->AL Int))(I:Int)(u:Int):AL Int:=(qZ j u).bind λJ=>(qZ q u).bind λL=>(oh J L O).bind λM=>(cond (!M) (some 20) (z (Au (I+1))))
def aJ1 (j:Ci)(u:Ci)(q:BL)(I:(Int->AL Int)):Int->AL Int:=λz=>(cond (z<(j.Users.length:Int)) ((Ak j.Users z).bind λJ=>(tH u j J.User q).bind λL=>(cond (!L) (some 20) (I (Au (z+1))))) (some 0))
def aII (q:Ci)(u:Ci)(j:BL):Int->AL Int:=bn (aJ1 q u j) Am
def aC5 (j:Ci)(u:Ci)(q:BL)(I:(Int->AL Int)):Int->AL Int:=λz=>(cond (z<(j.Users.length:Int)) ((Ak j.Users z).bind λJ=>(tH j u J.User q).bind λL=>(cond (!L) (some 20) (I (Au (z+1))))) (aII u j q 0))
def aCY (q:Ci)(u:Ci)(j:BL):Int->AL Int:=bn (aC5 q u j) Am
def aCe (j:Ci)(q:Ci)(M:Int)(z:BL)(I:(Int->AL Int)):Int->AL Int:=λu=>(cond (u<(Au ((j.Kinds.length:Int)+(q.Kinds.length:Int)))) (cond (u<(j.Kinds.length:Int)) ((Ak j.Kinds u).bind λJ=>a2C j q M I u J.Kind) ((Ak q.Kinds (Au (u-(j.Kinds.length:Int)))).bind λL=>a2C j q M I u L.Kind)) (aCY j q z 0))
def a9l (q:Ci)(u:Ci)(z:Int)(j:BL):Int->AL Int:=bn (aCe q u z j) Am
def aGs (I:AV)(L:AV)(J:Int)(q:Ci)(u:Ci)(j:BL)(M:(Int->AL Int)):Int->AL Int:=λz=>(cond (z<(I.length:Int)) ((Ak I z).bind λO=>(Ak L z).bind λU=>(oh O U J).bind λY=>(cond (!Y) (some 20) (M (Au (z+1))))) (a9l q u J j 0))
def aTn (z:AV)(I:AV)(J:Int)(q:Ci)(u:Ci)(j:BL):Int->AL Int:=bn (aGs z I J q u j) Am
def a7X (j:Ci)(u:Ci)(q:BL):AL Int:=(Ud j q).bind λz=>(a6G j).bind λI=>(a6G u).bind λJ=>aTn I J z j u q 0
def ak8 :=O5 func318 rfl a7X Iu Iu D8 AX λj q u r h=>AZ<|AO h λJ z h=>AP 2<|.X (Zm z)<|Bv h λz I M L h=>F6 A8 A8 A8 (.a 1<|.ca (aRw I).view<|.a 1<|.ca (aRw L).view<|.a 2<|.nil _)<|Aa<|AZ<|Aj<|Dp (λI=>⟨Az 116 [(2,D8 u),(3,.ptr 0 0),(4,.ptr 1 0),(7,AX J),(8,Bf z),(9,Bf M),(10,AX I)],[.box (Ar (FV j)),.box (Ar (FV q))],0⟩) _ _ _ (Ae [AU 0,AU 1]) h<|λI M L U h=>Aa<|AP 2<|.Z (BJ Ad z)<|Bo h (λh=>Aa<|Aj<|Hq h λz I M U Z Y h=>F6 A8 A8 A8 (.a 2<|.p (BD Ad I)<|.a 3<|.p (BD Ad U)<|.a 2<|.ca (aK2 Y)<|.a 1<|.nil _)<|BA h CB λh=>Cx<|L _ _ (Ae [AU 0,AU 1]) h) λh=>CZ<|Aa<|AZ<|Aj<|Dp (λz=>⟨Az 116 [(2,D8 u),(3,.ptr 0 0),(4,.ptr 1 0),(7,AX J),(11,AX z)],[.box (Ar (FV j)),.box (Ar (FV q))],0⟩) _ _ _ (Ae [AU 0,AU 1]) h<|λz I M L h=>Aa<|AP 3<|.p (BJ FI j.Kinds)<|.a 2<|.Z (BJ FI q.Kinds)<|Bo h (λh=>Aa<|Aj<|AZ<|Cm (λs=>∃(O:Int),CO s ⟨Az 116 [(2,D8 u),(3,.ptr 0 0),(4,.ptr 1 0),(7,AX J),(11,AX L),(12,AX O)],[.box (Ar (FV j)),.box (Ar (FV q))],0⟩/\a2C j q J I L O=some r) (by rintro s ⟨O,hs,h⟩;exact D6 hs<|Hq h λz I L U Z Y h=>F6 A8 A8 A8 (.a 2<|.ca (aDm I)<|.a 2<|.ca (aDm U)<|.a 1<|.ca (aK2 Y)<|.a 1<|.nil _)<|BA h CB λh=>Cx<|M _ _ (Ae [AU 0,AU 1]) h)<|λJ=>AP 3<|.Z (BJ FI j.Kinds)<|Df h (λh=>AO h λz I h=>CU<|.a 3<|.p (BD FI I)<|.aN<|J _ ⟨z.Kind,Ae [AU 0,AU 1],h⟩) λh=>AO h λz I h=>CU<|.a 5<|.p (BJ FI j.Kinds)<|.a 1<|.p (BD FI I)<|.aN<|J _ ⟨z.Kind,Ae [AU 0,AU 1],h⟩) λh=>CZ<|Aa<|AZ<|Aj<|Dp (λJ=>⟨Az 116 [(2,D8 u),(3,.ptr 0 0),(4,.ptr 1 0),(13,AX J)],[.box (Ar (FV j)),.box (Ar (FV q))],0⟩) _ _ _ (Ae [AU 0,AU 1]) h<|λJ z I M h=>Aa<|AP 3<|.Z (BJ FH j.Users)<|Bo h (λh=>Aa<|Aj<|Bv h λJ z M L h=>F6 A8 A8 A8 (.a 5<|.p (BD FH z)<|.a 3<|.ca (aW5 L)<|.a 1<|.nil _)<|BA h CB λh=>aJN) λh=>CZ<|Aa<|AZ<|Aj<|Dp (λJ=>⟨Az 116 [(2,D8 u),(3,.ptr 0 0),(4,.ptr 1 0),(14,AX J)],[.box (Ar (FV j)),.box (Ar (FV q))],0⟩) _ _ _ (Ae [AU 0,AU 1]) h<|λJ z I M h=>Aa<|AP 3<|.Z (BJ FH q.Users)<|Bo h (λh=>Aa<|Aj<|Bv h λJ z M L h=>F6 A8 A8 A8 (.a 5<|.p (BD FH z)<|.a 3<|.ca (aW5 L)<|.a 1<|.nil _)<|BA h CB λh=>aJN) λh=>El
def a5V (j:AQ)(q:Ah):AL Int:=(sS q).bind λu=>(Ud u.1 j.bU).bind λz=>(qZ u.1 j.Kind).bind λI=>(cond (z<I) (some 20) (cond (j.Kind==3) ((a7X u.1 j.Content.Levels j.bU).bind λJ=>some J) (some 0)))
def ahh :=DW func254 rfl a5V DL BI AX λu z r h=>AZ<|AO h λJ j h=>AP 1<|.X (aIj j)<|Aa<|Bv h λj q L I h=>F6 A8 A8 A8 (.a 3<|.ca (Zm q)<|.a 3<|.ca (aDm I)<|.a 1<|.nil _)<|BA h CB λh=>Aa<|AZ<|BA h (λh=>AO h λj q h=>AP 6<|.X (ak8 q)<|CY) λh=>AZ<|CY
def a7F (j:AY):AL Int:=(cond j (some 0) (some 17))
def gW (j:AQ)(q:Ah):AL Int:=(xH q).bind λJ=>(cond (j.Kind==1) (cond (!J.2) ((qg j.bU).bind λL=>(qg j.Room).bind λM=>a7F (L.toList==M.toList)) (a7F false)) (cond (!J.2) (some 17) (cond (j.Kind==2) ((a5m j q).bind λu=>some u) ((lV q j.bU).bind λz=>(cond (z != 3) (some 18) ((a5V j q).bind λI=>some I))))))
def a9A :=DW func162 rfl gW DL BI AX λz I r h=>AZ<|AO h λq j h=>AP 1<|.X (aTk j)<|Aa<|AZ<|BA h (λh=>Aa<|Cm (λs=>∃(u:AY),CO s ⟨Az 42 [(25,Ag u)],[],0⟩/\a7F u=some r) (by rintro s ⟨u,hs,h⟩;exact D6 hs<|JW)<|λq=>EX h (λj h=>Bv h λJ L M O h=>DN A8 A8 A8 (.a 2<|.c (BF some j)<|.a 2<|.ca (a3Q L)<|.a 2<|.ca (a3Q O)<|.a 2<|.nil _)<|q _ ⟨(J.toList==M.toList),Ae [],h⟩) λj h=>DN A8 A8 A8 (.a 2<|.c (BF some j)<|.a 8<|.nil _)<|q _ ⟨false,Ae [],h⟩) λh=>Aa<|AZ<|BA h CB λh=>Aa<|AZ<|BA h (λh=>AO h λq j h=>AP 2<|.X (aib j)<|CY) λh=>Aa<|AO h λq j h=>AP 3<|.X (aEK j)<|BA h CB λh=>AO h λq j h=>AP 2<|.X (ahh j)<|CY
def a6o (u:Int)(q:BL)(z:Int)(j:BL):AL AY:=(cond (u<z) (some true) ((cond (u==z) (some (Op.bytesLess (q.toList) (j.toList))) (some false)).bind λI=>some I)).bind λJ=>some J
def ama {aGW aET aKG axX r}(h:a6o aGW aET aKG axX=some r):E8 310 [AX aGW,D8 aET,AX aKG,D8 axX] [] (Ag r) []:=Ec func310 rfl<|AZ<|AP 3<|AO h λj q h=>.mg 12 9 (Ag j) (.bi q (k2:=λh=>.a 3<|AO h λj q h=>.mg 16 4 (Ag j) (.bi q)<|.aW<|Cc))<|.aW<|CY
def a9g (j:BR)(u:BR)(z:Int):AL BR:=(I8 j z ((j).length)).bind λI=>(D5 32 u I).bind λq=>some q
def bJ (k2:(Int->AL BR))(z:Int)(j:BR)(u:Int)(q:BL)(I:Int)(Y:AY):AL BR:=(cond Y (k2 (Au (z+1))) ((I8 j 0 z).bind λZ=>(D5 32 [] Z).bind λx6=>(D5 32 x6 [(⟨u,q,I⟩:BK)]).bind λU=>(cond (z<(j.length:Int)) ((Ak j z).bind λJ=>some (J.Kind==u)) (some false)).bind λL=>(cond L ((Ak j z).bind λM=>some (M.Key.toList==q.toList)) (some false)).bind λO=>(cond O (a9g j U (Au (z+1))) (a9g j U z))))
def aED (q:BR)(u:Int)(j:BL)(z:Int)(k2:(Int->AL BR)):Int->AL BR:=λI=>(cond (I<(q.length:Int)) ((Ak q I).bind λJ=>(Ak q I).bind λL=>(a6o J.Kind L.Key u j).bind λM=>bJ k2 I q u j z M) (bJ k2 I q u j z false))
def aR0 (u:BR)(z:Int)(j:BL)(q:Int):Int->AL BR:=bn (aED u z j q) Am
def iO (u:BR)(z:Int)(j:BL)(q:Int):AL BR:=aR0 u z j q 0
def aFJ {nJ Si CW X6 r}(h:iO nJ Si CW X6=some r):E8 250 [Dh nJ,AX Si,D8 CW,AX X6] [] (.aS 0) [(MP r)]:=Ec func250 rfl<|BM<|.f (CV 82 3)<|.aY<|AZ<|Aa<|Aj<|Dp (λq=>⟨Az 73 [(0,Dh nJ),(1,AX Si),(2,D8 CW),(3,AX X6),(9,AX q)],[],0⟩) _ _ _ (Ae []) h<|λq j u z h=>Aa<|Cm (λs=>∃(I:AY),CO s ⟨Az 73 [(0,Dh nJ),(1,AX Si),(2,D8 CW),(3,AX X6),(9,AX z),(29,Ag I)],[],0⟩/\bJ j z nJ Si CW X6 I=some r) (by rintro s ⟨I,hs,h⟩;exact D6 hs<|Bo h (λh=>Aj<|Cx<|u _ _ (Ae []) h) λh=>CZ<|Bv h λq j u M h=>BM<|.f (Ht NZ RD [])<|.a 2<|.p (SE BO j (λ_=>rfl) zN qR Qx (λ_=>rfl) rfl)<|.Y (Dk (k:=0) BO M NZ A8 (λ_=>rfl) Bl)<|AO h λq j h=>AP 5<|.p (EG NZ RD [BO (⟨Si,CW,X6⟩:BK)])<|.Y (Dk (k:=1) BO j NZ A8 (λ_=>rfl) Bl)<|Cm (λs=>∃(L:Int),CO s ⟨Az 73 [(0,Dh nJ),(9,AX L),(10,.aS 0)],[(MP q)],0⟩/\a9g nJ q L=some r) (by rintro s ⟨L,hs,h⟩;exact D6 hs<|Bv h λq j u z h=>AP 3<|.p (SE BO j zN (λ_=>rfl) qR Qx (λ_=>rfl) rfl)<|.Y (Dk (k:=0) BO z NZ A8 (λ_=>rfl) Bl)<|Jm)<|λq=>AP 2<|.p (BJ BO nJ)<|.a 1<|AO h λj u h=>.mg 48 8 (Ag j) (.bi u (λh=>AO h λq j h=>.a 2<|.Z (BD BO j)<|Cc))<|.a 1<|AO h λj u h=>.mg 58 7 (Ag j) (DC u (λe i=>by subst e;have h:=i;exact AO h λq j h=>.a 2<|.Z (BD BO j)<|Cc))<|.aY<|BA h (λh=>Cx<|q _ ⟨(Au (z+1)),Ae [AU 2],h⟩) λh=>q _ ⟨z,Ae [AU 2],h⟩)<|λq=>EX h (λj h=>Hq h λu z M O U Y h=>DN A8 A8 A8 (.a 2<|.p (BJ BO nJ)<|.a 1<|.c (BF some j)<|.a 2<|.p (BD BO z)<|.a 4<|.p (BD BO O)<|.a 4<|.ca (ama Y)<|.a 1<|.nil _)<|q _ ⟨U,Ae [],h⟩) λj h=>DN A8 A8 A8 (.a 2<|.p (BJ BO nJ)<|.a 1<|.c (BF some j)<|.a 14<|.nil _)<|q _ ⟨false,Ae [],h⟩
def a8R (j:(BR->Int->AL BR))(q:Int)(u:BR):AL BR:=j u (Au (q+1))
def a0H (v2:BR)(j:(AQ×AY))(z:(BR->Int->AL BR))(I:Int)(q:AY):AL BR:=(cond q ((iO v2 j.1.Kind j.1.Key j.1.Id).bind λu=>a8R z I u) (a8R z I v2))
def aJj (j:AV)(q:Ah)(I:(BR->Int->AL BR)):BR->Int->AL BR:=λv2 z=>(cond (z<(j.length:Int)) ((Ak j z).bind λO=>(Ju q O).bind λu=>(cond u.2 ((V4 u.1.Kind).bind λJ=>(cond J ((aAY q v2 u.1).bind λL=>(gW u.1 L).bind λM=>a0H v2 u I z (M==0)) (a0H v2 u I z false))) (a0H v2 u I z false))) (some v2))
def aRL (j:AV)(q:Ah):BR->Int->AL BR:=aQ (aJj j q) Am
def fE (q:Ah)(u:BR)(j:AV):AL BR:=(D5 32 [] u).bind λz=>aRL j q z 0
def aQR :=O5 func363 rfl fE BI Dh Bf Dh λu sN j r h=>AZ<|AO h λz q h=>BM<|.f (Ht NZ RD [])<|.a 1<|.f (Dk (k:=0) BO q NZ A8 (λ_=>rfl) Bl)<|.conv _ (JI (e:=82) (s:=3) 1 (xs:=List.map BO z) A8)<|.aW<|Aa<|AZ<|Aj<|DV (λz q=>⟨Az 53 [(0,BI u),(2,Bf j),(7,Dh z),(8,AX q)],[],0⟩) _ _ _ _ (Ae []) h<|λz q I M L h=>Aa<|AP 2<|.Z (BJ Ad j)<|Bo h (λh=>Cm (λs=>∃(O:(AA BK)),CO s ⟨Az 53 [(0,BI u),(2,Bf j),(7,Dh O),(8,AX L)],[],0⟩/\a8R q L O=some r) (by rintro s ⟨O,hs,h⟩;exact D6 hs<|a1J)<|λz=>Aj<|Bv h λI U x7 Y h=>AP 3<|.p (BD Ad U)<|.a 1<|.X (MK Y)<|Cm (λs=>∃(J:AY),CO s ⟨Az 53 [(0,BI u),(2,Bf j),(7,Dh M),(8,AX L),(9,.ptr 0 0),(43,Ag J)],[.box (Ar (Ap x7.1))],0⟩/\a0H M x7 q L J=some r) (by rintro s ⟨J,hs,h⟩;exact D6 hs<|BA h (λh=>AO h λq I h=>CU<|.a 7<|.ca (aFJ I).view<|.aN<|z _ ⟨q,Ae [],h⟩) λh=>z _ ⟨M,Ae [],h⟩)<|λz=>EX h (λq h=>AO h λZ I h=>by cases Z with |true=>exact(have h:=Ru rfl h;Bv h λL U Y x9 h=>DN A8 A8 A8 (.a 1<|.c (BF some q)<|.a 2<|.ca (Zt I)<|.a 6<|.ca (aZh U).view<|.ca (a9A x9)<|.a 2<|.nil _)<|z _ ⟨(Y==0),Ae [AU 0],h⟩)|false=>exact(have h:=Rl rfl h;DN A8 A8 A8 (.a 1<|.c (BF some q)<|.a 2<|.ca (Zt I)<|.a 10<|.nil _)<|z _ ⟨false,Ae [AU 0],h⟩)) λq h=>DN A8 A8 A8 (.a 1<|.c (BF some q)<|.a 13<|.nil _)<|z _ ⟨false,Ae [AU 0],h⟩) λh=>El
def aGK (j:AQ)(q:Ah)(k2:(Int->AL (Int×AY))):Int->AL (Int×AY):=λu=>(cond (u<(j.bI.length:Int)) ((Ak j.bI u).bind λI=>(Ju q I).bind λz=>(cond z.2 (some (z.1.Kind==3)) (some false)).bind λJ=>(cond J ((Ak j.bI u).bind λL=>some (L,true)) (k2 (Au (u+1))))) (some (0,false)))
def aVK (j:AQ)(q:Ah):Int->AL (Int×AY):=bn (aGK j q) Am
def a3D (j:Ah)(q:AQ):AL (Int×AY):=aVK q j 0
def ajF :=DW func424 rfl a3D BI DL (λr=>.eP [AX r.1,Ag r.2]) λz j r h=>AZ<|Aa<|AZ<|Aj<|Dp (λq=>⟨Az 37 [(0,BI z),(3,.ptr 0 0),(6,AX q)],[.box (Ar (Ap j))],0⟩) _ _ _ (Ae [AU 0]) h<|λq u I J h=>Aa<|AP 3<|.Z (BJ Ad j.bI)<|Bo h (λh=>Aa<|Aj<|Bv h λq u J L h=>AP 4<|.p (BD Ad u)<|.a 1<|.X (MK L)<|AP 1<|AO h λq u h=>.mg 27 4 (Ag q) (.bi u)<|.aY<|BA h (λh=>AO h λq u h=>AP 3<|.Z (BD Ad u)<|CY) λh=>dS) λh=>El
def bK (j:Ah)(L:(AV->Int->Int->AL AV)):AV->Int->Int->AL AV:=λz v2 I=>(cond (I<(j.length:Int)) ((Ju j v2).bind λJ=>(cond (!J.2) (some true) ((UQ z v2).bind λM=>some M)).bind λO=>(cond O (some z) ((D5 8 z [v2]).bind λq=>(a3D j J.1).bind λu=>(cond (!u.2) (some q) (L q u.1 (Au (I+1))))))) (some z))
def aOt (j:Ah):AV->Int->Int->AL AV:=iG (bK j) Am
def uJ (q:Ah)(j:Int):AL AV:=aOt q [] j 0
def aQk :=Gj func365 rfl uJ BI AX Cb λq u r h=>BM<|.f (CV 3 1)<|.aY<|BM<|.Y (Ht Dy zero3 [])<|AZ<|Aa<|AZ<|Aj<|QY (λz j J=>⟨Az 49 [(0,BI q),(5,.aS 0),(6,AX j),(7,AX J)],[(Cb z)],0⟩) _ _ _ _ _ (Ae [AU 1]) h<|λz j J I L M h=>Aa<|AP 2<|.Z (BJ Ap q)<|Bo h (λh=>Aa<|Aj<|AO h λz j h=>AP 2<|.X (MK j)<|Aa<|AP 2<|AO h λj M h=>.mg 28 4 (Ag j) (.bi M (k2:=λh=>AO h λz j h=>.a 2<|.Z (x:=(Ag z)) (fJ (eH:=[.aS 0,AX L]) (fH:=[.d (.sl (List.map Ad I)),AX L]) (Xb j) aKv rfl ⟨⟨3,1,_,A8,rfl⟩,rfl,trivial⟩ rfl)<|Cc))<|.aY<|BA h ni λh=>AO h λj I h=>AP 2<|.p (EG Dy zero3 [Ad L])<|.Y (Dk (k:=0) Ad I Dy A8 (λ_=>rfl) Bl)<|AO h λj I h=>AP 2<|.X (ajF I)<|Aa<|AZ<|BA h (λh=>AZ<|MJ) λh=>Cx<|Cx<|J _ _ _ _ (Ae [AU 2]) h) λh=>JC
def aHU (j:AV)(q:Int)(k2:(Int->AL Int)):Int->AL Int:=λu=>(cond (u<(j.length:Int)) ((Ak j u).bind λz=>(cond (z==q) (some u) (k2 (Au (u+1))))) (some (j.length:Int)))
def aUN (j:AV)(q:Int):Int->AL Int:=bn (aHU j q) Am
def a3V (j:AV)(q:Int):AL Int:=aUN j q 0
def aiD :=DW func455 rfl a3V Bf AX AX λj q r h=>AZ<|Aa<|AZ<|Aj<|Dp (λu=>⟨Az 21 [(0,Bf j),(1,AX q),(5,AX u)],[],0⟩) _ _ _ (Ae []) h<|λu z I J h=>Aa<|AP 2<|.Z (BJ Ad j)<|Bo h (λh=>Aa<|Aj<|AO h λu z h=>AP 2<|.p (BD Ad z)<|a1O) λh=>CZ<|AP 1<|.Z (BJ Ad j)<|CY
def aHk (q:AV)(j:AV)(k3:(Int->AL Int)):Int->AL Int:=λv2=>(cond (v2<(q.length:Int)) ((Ak q v2).bind λu=>(UQ j u).bind λz=>(cond z ((Ak q v2).bind λI=>(a3V j I).bind λJ=>some J) (k3 (Au (v2+1))))) (some (j.length:Int)))
def aUO (q:AV)(j:AV):Int->AL Int:=bn (aHk q j) Am
def xq (u:Ah)(j:AV)(q:Int):AL Int:=(uJ u q).bind λz=>aUO z j 0
def aNM :=O5 func450 rfl xq BI Bf AX AX λJ j z r h=>AZ<|AO h λu q h=>AP 2<|.X (aQk q).view<|Aa<|AZ<|Aj<|Dp (λq=>⟨Az 32 [(1,Bf j),(7,Bf u),(8,AX q)],[],0⟩) _ _ _ (Ae []) h<|λq L I M h=>Aa<|AP 2<|.Z (BJ Ad u)<|Bo h (λh=>Aa<|Aj<|Bv h λu q L M h=>AP 3<|.p (BD Ad q)<|.a 1<|.ca (Xb M)<|.aY<|BA h (λh=>Bv h λu q L I h=>AP 3<|.p (BD Ad q)<|.a 1<|.X (aiD I)<|CY) λh=>SQ) λh=>CZ<|AP 1<|.Z (BJ Ad j)<|CY
def a4X (q:Ah)(j:AV)(u:Int)(z:Int):AL AY:=(xq q j u).bind λI=>(xq q j z).bind λJ=>(cond (I != J) (some (decide (I>J))) ((Ju q u).bind λL=>(Ju q z).bind λM=>(cond (L.1.Time != M.1.Time) (some (decide (L.1.Time<M.1.Time))) (some (decide (u<z))))))
def afp {cZ zW aKH aKI r}(h:a4X cZ zW aKH aKI=some r):E8 425 [BI cZ,Bf zW,AX aKH,AX aKI] [] (Ag r) []:=Ec func425 rfl<|AZ<|Bv h λq j z u h=>AP 3<|.ca (aNM j)<|.a 3<|.X (aNM u)<|Aa<|AZ<|BA h CB λh=>AO h λq j h=>AP 2<|.X (MK j)<|AO h λq j h=>AP 2<|.X (MK j)<|Aa<|AZ<|JW
def a09 (k3:(AV->Int->AL AV))(v2:Int)(j:AV):AL AV:=k3 j (Au (v2+1))
def zn (u:(Int->AL AV))(q:Int)(z:AV)(j:AV)(v2:Int)(k3:(AV->Int->AL AV))(I:AY):AL AV:=(cond I (u (Au (q+1))) ((I8 z q ((z).length)).bind λJ=>(D5 8 [] J).bind λL=>(I8 z 0 q).bind λM=>(Ak j v2).bind λO=>(D5 8 M [O]).bind λU=>(D5 8 U L).bind λY=>a09 k3 v2 Y))
def aIc (J:AV)(j:AV)(v2:Int)(z:Ah)(q:AV)(k3:(AV->Int->AL AV))(I:(Int->AL AV)):Int->AL AV:=λu=>(cond (u<(J.length:Int)) ((Ak J u).bind λL=>(Ak j v2).bind λM=>(a4X z q L M).bind λO=>zn I u J j v2 k3 O) (zn I u J j v2 k3 false))
def aWd (z:AV)(q:AV)(v2:Int)(u:Ah)(j:AV)(k3:(AV->Int->AL AV)):Int->AL AV:=bn (aIc z q v2 u j k3) Am
def aJ2 (j:AV)(u:Ah)(q:AV)(k3:(AV->Int->AL AV)):AV->Int->AL AV:=λz v2=>(cond (v2<(j.length:Int)) ((Ak j v2).bind λL=>(Ju u L).bind λM=>(cond (!M.2) (some true) ((Ak j v2).bind λI=>(UQ z I).bind λJ=>some J)).bind λO=>(cond O (a09 k3 v2 z) (aWd z j v2 u q k3 0))) (some z))
def aTx (q:AV)(u:Ah)(j:AV):AV->Int->AL AV:=aQ (aJ2 q u j) Am
def a8k (u:Ah)(j:AV)(q:AV):AL AV:=aTx q u j [] 0
def agB {cZ zW lN r}(h:a8k cZ zW lN=some r):E8 366 [BI cZ,Bf zW,Bf lN] [] (.aS 0) [(Cb r)]:=Ec func366 rfl<|BM<|.f (CV 3 1)<|.aY<|BM<|.Y (Ht Dy zero3 [])<|Aa<|AZ<|Aj<|DV (λq j=>⟨Az 76 [(0,BI cZ),(1,Bf zW),(2,Bf lN),(7,.aS 0),(8,AX j)],[(Cb q)],0⟩) _ _ _ _ (Ae [AU 1]) h<|λq j u I z h=>Aa<|AP 2<|.Z (BJ Ad lN)<|Bo h (λh=>Cm (λs=>∃(U:(AA Int)),CO s ⟨Az 76 [(0,BI cZ),(1,Bf zW),(2,Bf lN),(7,.aS 0),(8,AX z)],[(Cb U)],0⟩/\a09 j z U=some r) (by rintro s ⟨U,hs,h⟩;exact D6 hs<|a0c)<|λq=>Aj<|Bv h λu J O L h=>AP 3<|.p (BD Ad J)<|.a 1<|.X (MK L)<|Aa<|AP 2<|AO h λu J h=>.mg 31 7 (Ag u) (.bi J (k2:=λh=>Bv h λq j u z h=>.a 3<|.p (BD Ad j)<|.a 1<|.Z (x:=(Ag u)) (fJ (eH:=[.aS 0,AX q]) (fH:=[.d (.sl (List.map Ad I)),AX q]) (Xb z) aKv rfl ⟨⟨3,1,_,A8,rfl⟩,rfl,trivial⟩ rfl)<|Cc))<|.aY<|BA h (λh=>CZ<|q _ ⟨I,Ae [AU 0],h⟩) λh=>AZ<|Aa<|Aj<|Dp (λq=>⟨Az 76 [(0,BI cZ),(1,Bf zW),(2,Bf lN),(7,.aS 0),(8,AX z),(11,AX q)],[(Cb I)],0⟩) _ _ _ (Ae [AU 0]) h<|λu J O L h=>Aa<|Cm (λs=>∃(M:AY),CO s ⟨Az 76 [(0,BI cZ),(1,Bf zW),(2,Bf lN),(7,.aS 0),(8,AX z),(11,AX L),(55,Ag M)],[(Cb I)],0⟩/\zn J L I lN z j M=some r) (by rintro s ⟨M,hs,h⟩;exact D6 hs<|Bo h (λh=>Aj<|Cx<|O _ _ (Ae [AU 0]) h) λh=>CZ<|Bv h λj u z J h=>BM<|.f (Ht Dy zero3 [])<|.a 2<|.conv _ (JI (e:=3) (s:=1) 0 (xs:=List.map Ad I) A8)<|.p (SE Ad u (by intro Y;cases Y) (λ_=>rfl) Jc Ey (λ_=>rfl) rfl)<|.f (Dk (k:=1) Ad J Dy A8 (λ_=>rfl) Bl)<|.conv _ (JI (e:=3) (s:=1) 2 (xs:=List.map Ad z) A8)<|.aW<|Hq h λj u I z J O h=>AO h λj L h=>Bq.aEt [SL 3 (Go.Op.slice 27 (Go.Operand.tmp 63) none (some (Go.Operand.tmp 64)) (some (Go.Operand.tmp 65))) (λq j I=>aJe Ad u Jc Ey (λ_=>rfl) I),SL 6 (Go.Op.indexAddr 27 (Go.Operand.tmp 67) (Go.Operand.tmp 68)) (λq j u=>bW (k:=.i64) Ad z Jc Ey A8 u),SL 8 (Go.Op.buildSlice 27 1 #[(0,(Go.Operand.tmp 70))]) (λq j u=>a4U Dy zero3 A8 A8 (DT A8) [AX I] [Ad I] A8 A8 A8 A8 u),RG 9 (Go.Op.call { callee:=(Go.Callee.builtin Go.Builtin.append),args:= #[(Go.Operand.tmp 66),(Go.Operand.tmp 71)],argTypes:= #[27,27] }) [.dead,.dead,.dead] [.dead,.dead,.dead,(Cb J)] (λq j=>aYk Ad O (by intro Y;cases Y) Dy (λ_=>rfl) Bl j),RG 11 (Go.Op.call { callee:=(Go.Callee.builtin Go.Builtin.append),args:= #[(Go.Operand.tmp 72),(Go.Operand.tmp 73)],argTypes:= #[27,27] }) [.dead,.dead,.dead,(Cb J)] [.dead,.dead,.dead,.dead,(Cb j)] (λq j=>Dk (k:=3) Ad L Dy A8 (λ_=>rfl) Bl j)] 129<|q _ ⟨j,Ae [AU 4],h⟩)<|λq=>EX h (λj h=>Hq h λu z J O x9 Z h=>DN A8 A8 A8 (.a 2<|.p (Kt (k:=0) (e':=3) (s:=1) Ad I A8 Jc)<|.a 1<|.c (BF some j)<|.a 4<|.p (IC (e':=3) (kd:=.i64) Ad z (k:=0) A8 Jc Ey)<|.p (x:=(AX u)) (KC (e:=3) (size:=1) (k:=0) (i:=(L).toNat) (off:=0) Ad A8 A8 (Gl z).2 Ey (DT A8) (λ_=>rfl))<|.a 2<|.p (BD Ad O)<|.a 1<|.ca (afp Z)<|.a 1<|.nil _)<|q _ ⟨x9,Ae [AU 0],h⟩) λj h=>DN A8 A8 A8 (.a 2<|.p (Kt (k:=0) (e':=3) (s:=1) Ad I A8 Jc)<|.a 1<|.c (BF some j)<|.a 12<|.nil _)<|q _ ⟨false,Ae [AU 0],h⟩) λh=>JC
def aDc (u:(Int->PO->AL PO)):Int->PO->AL PO:=λq j=>(cond (q<(j.Same.length:Int)) ((Ak j.Same q).bind λz=>(Ak j.Same q).bind λI=>(Ak j.Same q).bind λJ=>(iO j.Last z.Kind I.Key J.Id).bind λL=>u (Au (q+1)) ({ j with Last:=L })) (some j))
def aNR  :Int->PO->AL PO:=aQ (aDc) Am
def a0v (J:AV)(L:AV)(j:Ah)(q:(BR×AV))(u:AV)(z:BR)(M:AV):AL PO:=(fB J L).bind λO=>(a8k j M O).bind λI=>(fE j (({ { { { YV with Same:=q.1 }with Power:=u }with First:=z }with Others:=I }).First) (({ { { { YV with Same:=q.1 }with Power:=u }with First:=z }with Others:=I }).Others)).bind λU=>aNR 0 ({ Same:=q.1,Power:=u,First:=z,Others:=I,Last:=U }:PO)
def a6u (j:Ah)(q:GH):AL PO:=(tV q).bind λu=>(aAn j q).bind λJ=>(a2P j J).bind λL=>(a2S j L).bind λz=>(fE j (({ { YV with Same:=u.1 }with Power:=z }).Same) (({ { YV with Same:=u.1 }with Power:=z }).Power)).bind λM=>(lS (({ { { YV with Same:=u.1 }with Power:=z }with First:=M }).First) 3 CX).bind λI=>(cond I.2 ((uJ j I.1).bind λO=>a0v J L j u z M O) (a0v J L j u z M []))
def aXh :=DW func302 rfl a6u BI JO (λr=>.d (dh r)) λI j r h=>AZ<|AZ<|AO h λu q h=>AP 1<|.f (x:=.eP [.aS 2,.aS 3]) (EK [] [JO j] (aWu q))<|.a 2<|.conv _ (JI (e:=82) (s:=3) 2 (xs:=List.map BO u.1) A8)<|.a 1<|.conv _ (JI (e:=3) (s:=1) 3 (xs:=List.map Ad u.2) A8)<|.aW<|AO h λq J h=>AP 2<|.X (ale J).view<|AO h λJ L h=>AP 2<|.X (ahZ L).view<|AO h λL z h=>AP 2<|.X (aZ7 z).view<|AO h λz M h=>AP 5<|.X (aQR M)<|AZ<|Cm (λs=>∃(U:(AA Int)),CO s ⟨Az 89 [(0,BI I),(4,.ptr 0 0),(5,.ptr 1 0),(6,Bf q),(7,Bf J),(8,Bf U)],[.box (Ar (dh YV)),.box (Ar (dh ({ { { YV with Same:=u.1 }with Power:=L }with First:=z })))],0⟩/\a0v q J I u L z U=some r) (by rintro s ⟨U,hs,h⟩;exact D6 hs<|Bv h λu L z M h=>AP 4<|.ca (a9k L).view<|.X (agB M).view<|AO h λu q h=>AP 5<|.X (aQR q)<|Aa<|AZ<|Aj<|DV (λu q=>⟨Az 89 [(4,.ptr 0 0),(5,.ptr 1 0),(11,AX u)],[.box (Ar (dh YV)),.box (Ar (dh q))],0⟩) _ _ _ _ (Ae [AU 0,AU 1]) h<|λu q J L z h=>Aa<|AP 3<|.Z (BJ BO z.Same)<|Bo h (λh=>Aa<|Aj<|Hq h λu q L M x7 Z h=>AO h λx9 Y h=>DN A8 A8 A8 (.a 5<|.p (BD BO q)<|.a 5<|.p (BD BO M)<|.a 5<|.p (BD BO Z)<|.a 2<|.ca (aFJ Y).view<|.a 2<|.nil _)<|zS) λh=>CZ<|AZ<|Eb<|by rw[←CM h];exact⟨[.d (dh z)],[],⟨⟨0,Ar (dh z),true,5,A8,A8,A8,aKx,DT A8,WY,A8⟩,trivial⟩,A8,A8,A8⟩)<|λO=>AO h λu q h=>AP 2<|.X (aFE q)<|AZ<|BA h (λh=>AO h λq J h=>CU<|.a 2<|.ca (aQk J).view<|.aN<|O _ ⟨q,Ae [AU 0,AU 1],h⟩) λh=>O _ ⟨[],Ae [AU 0,AU 1],h⟩
def a1F (q:Ah)(j:GH):AL BR:=(cond ((j.length:Int)==0) (some []) (cond ((j.length:Int)==1) ((Ak j 0).bind λu=>some u) ((a6u q j).bind λz=>some z.Last)))
def aL5 :=DW func244 rfl a1F BI JO Dh λu j r h=>AZ<|Aa<|AP 1<|.Z (BJ (BP BO) j)<|BA h CB λh=>Aa<|AP 1<|.Z (BJ (BP BO) j)<|BA h (λh=>AO h λz q h=>AP 1<|.Z (BD (BP BO) q)<|CY) λh=>AO h λz q h=>AP 2<|.X (aXh q)<|CY
def a1V (j:BR)(u:Int)(q:BL)(k2:(Int->AL AY)):Int->AL AY:=λz=>(cond (z<(j.length:Int)) ((Ak j z).bind λI=>(cond (I.Kind==u) ((Ak j z).bind λJ=>some (J.Key.toList==q.toList)) (some false)).bind λL=>(cond L (some true) (k2 (Au (z+1))))) (some false))
def aDx (q:BR)(u:Int)(j:BL):Int->AL AY:=bn (a1V q u j) Am
def aJ (q:BR)(u:Int)(j:BL):AL AY:=aDx q u j 0
def a1u :=O5 func384 rfl aJ Dh AX D8 Ag λq I j r h=>AZ<|Aa<|AZ<|Aj<|Dp (λu=>⟨Az 30 [(0,Dh q),(1,AX I),(2,D8 j),(7,AX u)],[],0⟩) _ _ _ (Ae []) h<|λu z J L h=>Aa<|AP 2<|.Z (BJ BO q)<|Bo h (λh=>Aa<|Aj<|AO h λu z h=>AP 2<|.p (BD BO z)<|.a 4<|AO h λu z h=>.mg 21 8 (Ag u) (.bi z (λh=>AO h λu z h=>.a 2<|.Z (BD BO z)<|Cc))<|a9a) λh=>El
def vH (M:Ah)(j:Int)(q:BR)(u:(BR->Int->AL Int))(z:AY):AL Int:=(cond z (some 16) ((Ak M j).bind λI=>(Ak M j).bind λJ=>(D5 32 q [(⟨I.Kind,J.Key,0⟩:BK)]).bind λL=>u L (Au (j+1))))
def aDJ (u:Ah)(J:BR)(z:AQ)(I:(BR->Int->AL Int)):BR->Int->AL Int:=λq j=>(bif j<(u.length:Int) then(Ak u j).bind λL=>(Ak u j).bind λM=>(aJ J L.Kind M.Key).bind λO=>(cond (!O) (vH u j q I true) ((Ak u j).bind λU=>(Ak u j).bind λY=>(aJ q U.Kind Y.Key).bind λZ=>vH u j q I Z))else(cond (z.Kind != 1) ((aJ q 1 CX).bind λx33=>some (!x33)) (some false)).bind λx31=>(cond x31 (some 16) (some 0)))
def aFh (u:Ah)(q:BR)(j:AQ):BR->Int->AL Int:=aQ (aDJ u q j) Am
def aCj (q:Ah)(j:AQ)(J:(Int->AL Int)):Int->AL Int:=λu=>(bif u<(q.length:Int) then(Ak q u).bind λz=>(cond (!(z.Room.toList==j.Room.toList)) (some 13) (J (Au (u+1))))else(lR j).bind λI=>aFh q I j [] 0)
def aHl (q:Ah)(j:AQ):Int->AL Int:=bn (aCj q j) Am
def aCK (j:AQ)(q:Ah)(k2:(Int->AL Int)):Int->AL Int:=λu=>(bif u<(j.bI.length:Int) then(Ak j.bI u).bind λz=>(Ju q z).bind λI=>(cond (!I.2) (some 14) (k2 (Au (u+1))))else(o7 q j.bI).bind λJ=>aHl J j 0)
def aTW (j:AQ)(q:Ah):Int->AL Int:=bn (aCK j q) Am
def a3x (j:Ah)(q:AQ):AL Int:=aTW q j 0
def adH :=DW func308 rfl a3x BI DL AX λO u r h=>AZ<|Aa<|AZ<|Aj<|Dp (λj=>⟨Az 107 [(0,BI O),(3,.ptr 0 0),(5,AX j)],[.box (Ar (Ap u))],0⟩) _ _ _ (Ae [AU 0]) h<|λj q I z h=>Aa<|AP 3<|.Z (BJ Ad u.bI)<|Bo h (λh=>Aa<|Aj<|Bv h λj q z U h=>AP 4<|.p (BD Ad q)<|.a 1<|.X (MK U)<|a0G) λh=>CZ<|AO h λj q h=>AP 3<|.X (aJ7 q).view<|Aa<|AZ<|Aj<|Dp (λq=>⟨Az 107 [(3,.ptr 0 0),(8,BI j),(9,AX q)],[.box (Ar (Ap u))],0⟩) _ _ _ (Ae [AU 0]) h<|λq I z U h=>Aa<|AP 2<|.Z (BJ Ap j)<|Bo h (λh=>Aa<|Aj<|AO h λj q h=>F6 A8 A8 A8 (.a 2<|.p (BD Ap q)<|.a 5<|.nil _)<|BA h CB λh=>Cx<|z _ _ (Ae [AU 0]) h) λh=>CZ<|AO h λq I h=>AP 1<|.X (aE9 I).view<|BM<|.f (CV 82 3)<|.aY<|Aa<|AZ<|Aj<|DV (λI z=>⟨Az 107 [(3,.ptr 0 0),(8,BI j),(10,Dh q),(11,.aS 1),(12,AX z)],[.box (Ar (Ap u)),(MP I)],0⟩) _ _ _ _ (Ae [AU 0,AU 1]) h<|λI z U J L h=>Aa<|AP 2<|.Z (BJ Ap j)<|Bo h (λh=>Aa<|Aj<|Aa<|Cm (λs=>∃(M:AY),CO s ⟨Az 107 [(3,.ptr 0 0),(8,BI j),(10,Dh q),(11,.aS 1),(12,AX L),(84,Ag M)],[.box (Ar (Ap u)),(MP J)],0⟩/\vH j L J z M=some r) (by rintro s ⟨M,hs,h⟩;exact D6 hs<|BA h CB λh=>Hq h λj q I z J L h=>DN A8 A8 A8 (.a 3<|.p (BD Ap q)<|.a 4<|.p (BD Ap z)<|.a 3<|.p (EG fC RD [BO (⟨j.Kind,I.Key,0⟩:BK)])<|.f (Dk (k:=1) BO L fC A8 (λ_=>rfl) Bl)<|.a 1<|.nil _)<|Cx<|U _ _ _ (Ae [AU 0,AU 2]) h)<|λj=>Hq h λI z U L x8 x9 h=>EX h (λJ h=>DN A8 A8 A8 (.a 3<|.p (BD Ap z)<|.a 4<|.p (BD Ap L)<|.a 2<|.ca (a1u x9)<|.a 1<|.c (BF some J)<|.a 13<|.nil _)<|j _ ⟨true,Ae [AU 0,AU 1],h⟩) λx10 h=>Hq h λY x12 Z x14 x15 x16 h=>DN A8 A8 A8 (.a 3<|.p (BD Ap z)<|.a 4<|.p (BD Ap L)<|.a 2<|.ca (a1u x9)<|.a 1<|.c (BF some x10)<|.a 3<|.p (BD Ap x12)<|.a 4<|.p (BD Ap x14)<|.a 2<|.p (x:=(Ag x15)) (fJ (eH:=[.aS 1,AX Y.Kind,D8 Z.Key]) (fH:=[.d (.sl (List.map BO J)),AX Y.Kind,D8 Z.Key]) (a1u x16) aOv rfl ⟨⟨82,3,_,A8,rfl⟩,rfl,rfl,trivial⟩ rfl)<|.a 1<|.nil _)<|j _ ⟨x15,Ae [AU 0,AU 1],h⟩) λh=>CZ<|Aa<|AP 3<|AO h λj q h=>.mg 102 4 (Ag j) (.bi q (λh=>AO h λj q h=>.a 1<|.Z (x:=(Ag j)) (fJ (eH:=[.aS 1,AX 1,D8 CX]) (fH:=[.d (.sl (List.map BO J)),AX 1,D8 CX]) (a1u q) aOv rfl ⟨⟨82,3,_,A8,rfl⟩,rfl,rfl,trivial⟩ rfl)<|Cc))<|.aY<|JW
def a2M (k3:(Ah->Int->AL Ah))(v2:Int)(j:Ah):AL Ah:=k3 j (Au (v2+1))
def aEa (j:BR)(q:Ah)(k3:(Ah->Int->AL Ah)):Ah->Int->AL Ah:=λu v2=>(cond (v2<(j.length:Int)) ((Ak j v2).bind λJ=>(Ju q J.Id).bind λI=>(cond I.2 ((D5 376 u [I.1]).bind λz=>a2M k3 v2 z) (a2M k3 v2 u))) (some u))
def aVp (j:BR)(q:Ah):Ah->Int->AL Ah:=aQ (aEa j q) Am
def nZ (j:Ah)(q:BR):AL Ah:=aVp q j [] 0
def aOA :=Gj func163 rfl nZ BI Dh F8 λq j r h=>BM<|.f (CV 38 29)<|.aY<|BM<|.Y (Ht IJ Md [])<|Aa<|AZ<|Aj<|DV (λz u=>⟨Az 32 [(0,BI q),(1,Dh j),(5,.aS 0),(6,AX u)],[(F8 z)],0⟩) _ _ _ _ (Ae [AU 1]) h<|λz u I M J h=>Aa<|AP 2<|.Z (BJ BO j)<|Bo h (λh=>Cm (λs=>∃(L:(AA AQ)),CO s ⟨Az 32 [(0,BI q),(1,Dh j),(5,.aS 0),(6,AX J)],[(F8 L)],0⟩/\a2M u J L=some r) aGb<|λz=>Aj<|Bv h λu I J O h=>AP 3<|.p (BD BO I)<|.a 2<|.X (MK O)<|AZ<|BA h (λh=>AO h λu I h=>CU<|.a 2<|.p (EG IJ Md [Ap J.1])<|.f (Dk (k:=0) Ap I IJ A8 (λ_=>rfl) Bl)<|aEV) λh=>z _ ⟨M,Ae [AU 0],h⟩) λh=>JC
def akw (j:G8)(q:Int)(k3:(Int->JA->AL (JA×AY))):Int->JA->AL (JA×AY):=λu v2=>(cond (u<(j.length:Int)) ((Ak j u).bind λz=>(cond (z.Id==q) ((Ak j u).bind λI=>some (I,true)) (k3 (Au (u+1)) v2))) (some (Wu,false)))
def aeI (q:G8)(j:Int):Int->JA->AL (JA×AY):=aQ (akw q j) Am
def aAV (q:G8)(j:Int):AL (JA×AY):=aeI q j 0 Wu
def aTA {ax2 qY r}(h:aAV ax2 qY=some r):E8 155 [.aS 0,AX qY] [(Qq ax2)] (.eP [YE r.1,Ag r.2]) [(Qq ax2)]:=Ec func155 rfl<|AZ<|Aa<|AZ<|Aj<|DV (λj q=>⟨Az 25 [(0,.aS 0),(1,AX qY),(4,.ptr 1 0),(6,AX j)],[(Qq ax2),.box (Ar (MW q))],1⟩) _ _ _ _ (Ae [AU 0,AU 1]) h<|λj q I z J h=>Aa<|AP 2<|.Z (Kt (k:=0) (e':=174) (s:=4) MW ax2 A8 a8h)<|Bo h (λh=>Aa<|Aj<|AO h λj q h=>AP 2<|.p (IC (e':=174) (kd:=.i64) MW q (k:=0) A8 a8h Zr)<|.a 1<|.Z (x:=(AX j.Id)) (KC (e:=174) (size:=4) (k:=0) (i:=(z).toNat) (off:=0) MW A8 A8 (Gl q).2 Ey (DT A8) (λ_=>rfl))<|BA h (λh=>AO h λj q h=>AP 2<|.p (IC (e':=174) (kd:=.i64) MW q (k:=0) A8 a8h Zr)<|.Z (x:=(YE j)) (KC (e:=174) (size:=4) (k:=0) (i:=(z).toNat) (off:=0) MW A8 A8 (Gl q).2 Zr (DT A8) aE2 rfl)<|Eb<|by rw[←CM h];exact⟨[YE j,Ag true],[AU 0],⟨⟨1,Ar (MW j),true,4,A8,A8,A8,Zr,DT A8,aE2,A8⟩,FU A8,trivial⟩,A8,A8,A8⟩) λh=>aGf) λh=>CZ<|AZ<|Eb<|by rw[←CM h];exact⟨[YE Wu,Ag false],[AU 0],⟨⟨1,Ar (MW Wu),true,4,A8,A8,A8,Zr,DT A8,aE2,A8⟩,FU A8,trivial⟩,A8,A8,A8⟩
def a8J (j:(Int->Int->AL Int))(q:Int)(u:Int):AL Int:=j u (Au (q+1))
def aCg (q:AQ)(u:G8)(z:Ah)(j:BR)(Y:(Int->Int->AL Int)):Int->Int->AL Int:=λI J=>(cond (J<(q.bI.length:Int)) ((Ak q.bI J).bind λZ=>(aAV u Z).bind λL=>(cond (I==0) (some (L.1.Err != 0)) (some false)).bind λM=>(cond M (a8J Y J 16) (a8J Y J I))) (cond (I != 0) (some I) ((nZ z j).bind λO=>(gW q O).bind λU=>some U)))
def aNL (q:AQ)(u:G8)(z:Ah)(j:BR):Int->Int->AL Int:=aQ (aCg q u z j) Am
def wu (q:AQ)(u:G8)(z:Ah)(j:BR)(v2:Int):AL Int:=aNL q u z j v2 0
def a1L (u:Ah)(z:G8)(q:AQ)(j:BR):AL Int:=(a3x u q).bind λL=>(cond (L==0) ((tY u q).bind λI=>(gW q I).bind λJ=>wu q z u j J) (wu q z u j L))
def ah9 {cZ apJ jL Tn r}(h:a1L cZ apJ jL Tn=some r):E8 248 [BI cZ,.aS 0,DL jL,Dh Tn] [(Qq apJ)] (AX r) [(Qq apJ)]:=Ec func248 rfl<|AZ<|AO h λq j h=>AP 2<|.X (adH j)<|Cm (λs=>∃(v2:Int),CO s ⟨Az 55 [(0,BI cZ),(1,.aS 0),(3,Dh Tn),(6,.ptr 1 0),(9,AX v2)],[(Qq apJ),.box (Ar (Ap jL))],1⟩/\wu jL apJ cZ Tn v2=some r) (by rintro s ⟨v2,hs,h⟩;exact D6 hs<|Aa<|AZ<|Aj<|DV (λq j=>⟨Az 55 [(0,BI cZ),(1,.aS 0),(3,Dh Tn),(6,.ptr 1 0),(9,AX q),(10,AX j)],[(Qq apJ),.box (Ar (Ap jL))],1⟩) _ _ _ _ (Ae [AU 0,AU 1]) h<|λq j u I z h=>Aa<|AP 3<|.Z (BJ Ad jL.bI)<|Bo h (λh=>Cm (λs=>∃(J:Int),CO s ⟨Az 55 [(0,BI cZ),(1,.aS 0),(3,Dh Tn),(6,.ptr 1 0),(9,AX J),(10,AX z)],[(Qq apJ),.box (Ar (Ap jL))],1⟩/\a8J j z J=some r) (by rintro s ⟨J,hs,h⟩;exact D6 hs<|Cx<|u _ _ _ (Ae [AU 0,AU 1]) h)<|λq=>Aj<|Bv h λj u z L h=>AP 4<|.p (BD Ad u)<|.a 1<|.Y (x:=.eP [YE z.1,Ag z.2]) (EK [.ent 0] [.aS 0,AX j] (aTA L))<|AP 2<|AO h λj u h=>.mg 42 4 (Ag j) (.bi u)<|.aY<|BA h (λh=>Cx<|q _ ⟨16,Ae [AU 0,AU 1],h⟩) λh=>q _ ⟨I,Ae [AU 0,AU 1],h⟩) λh=>CZ<|Aa<|AZ<|BA h ni λh=>Bv h λq j u I h=>F6 A8 A8 A8 (.a 3<|.ca (aOA j).view<|.ca (a9A I)<|.a 1<|.nil _)<|UA)<|λj=>AZ<|BA h (λh=>Bv h λq u I z h=>DN A8 A8 A8 (.a 3<|.ca (aKz u).view<|.ca (a9A z)<|.a 1<|.nil _)<|j _ ⟨I,Ae [AU 0,AU 1],h⟩) λh=>j _ ⟨q,Ae [AU 0,AU 1],h⟩
def yG (z:(G8->Int->AL G8))(I:Int)(j:G8)(q:JA):AL G8:=(D5 64 j [q]).bind λu=>z u (Au (I+1))
def a04 (z:Ah)(I:(AQ×AY))(O:(G8->Int->AL G8))(U:Int)(u:G8)(j:JA):AL G8:=(a1L z u I.1 j.Before).bind λq=>(cond ((({ { j with Err:=q }with After:=({ j with Err:=q }).Before }).Err)==0) ((V4 I.1.Kind).bind λJ=>some J) (some false)).bind λL=>(cond L ((iO (({ { j with Err:=q }with After:=({ j with Err:=q }).Before }).Before) I.1.Kind I.1.Key I.1.Id).bind λM=>yG O U u ({ { { j with Err:=q }with After:=({ j with Err:=q }).Before }with After:=M })) (yG O U u ({ { j with Err:=q }with After:=({ j with Err:=q }).Before })))
def aJC (u:(AQ×AY))(j:Ah)(Y:(G8->Int->AL G8))(Z:Int)(z:(GH->Int->G8->AL G8)):GH->Int->G8->AL G8:=λI J q=>(cond (J<(u.1.bG.length:Int)) ((Ak u.1.bG J).bind λL=>(aAV q L).bind λM=>(D5 24 I [M.1.After]).bind λO=>z O (Au (J+1)) q) (cond ((I.length:Int)>0) ((a1F j I).bind λU=>a04 j u Y Z q ({ (⟨u.1.Id,[],[],0⟩:JA)with Before:=U })) (a04 j u Y Z q (⟨u.1.Id,[],[],0⟩:JA))))
def aMN (q:(AQ×AY))(j:Ah)(u:(G8->Int->AL G8))(z:Int):GH->Int->G8->AL G8:=iG (aJC q j u z) Am
def aHt (u:AV)(j:Ah)(z:(G8->Int->AL G8)):G8->Int->AL G8:=λv2 q=>(cond (q<(u.length:Int)) ((Ak u q).bind λI=>(Ju j I).bind λJ=>aMN J j z q [] 0 v2) (some v2))
def aUM (q:AV)(j:Ah):G8->Int->AL G8:=aQ (aHt q j) Am
def jC (j:Ah):AL G8:=(a5K j).bind λq=>aUM q j [] 0
def aDa :=LX func161 rfl jC BI Qq λq r h=>BM<|.f (CV 174 4)<|.aY<|BM<|.f (CV 174 4)<|.aY<|AO h λz j h=>AP 1<|.X (al0 j).view<|Aa<|AZ<|Aj<|DV (λj I=>⟨Az 95 [(0,BI q),(3,.aS 0),(4,Bf z),(5,AX I)],[(Qq j)],0⟩) _ _ _ _ (Ae [AU 1]) h<|λj I L Y Z h=>Aa<|AP 2<|.Z (BJ Ad z)<|Bo h (λh=>Aa<|Aj<|Bv h λj Y O x8 h=>AP 3<|.p (BD Ad Y)<|.a 1<|.X (MK x8)<|BM<|.f (CV 41 1)<|.aY<|Aa<|AZ<|Aj<|QY (λj I L=>⟨Az 95 [(0,BI q),(3,.aS 0),(4,Bf z),(5,AX Z),(6,.ptr 1 0),(8,.aS 2),(9,AX I)],[(Qq L),.box (Ar (Ap O.1)),.arr 41 1 (List.map (BP BO) j)],0⟩) _ _ _ _ _ (Ae [AU 0,AU 1,AU 2]) h<|λj Y x8 x9 x10 x11 h=>Aa<|AP 3<|.Z (BJ Ad O.1.bG)<|Bo h (λh=>Aa<|Aj<|Bv h λz j I L h=>AP 4<|.p (BD Ad j)<|.a 1<|.Y (x:=.eP [YE I.1,Ag I.2]) (EK [.ent 0] [.aS 0,AX z] (aTA L))<|AO h λz j h=>CU<|.a 3<|.p (EG cG UZ [(BP BO) I.1.After])<|.f (Dk (k:=2) (BP BO) j cG A8 (λ_=>rfl) Bl)<|.aN<|Cx<|x8 _ _ _ _ (Ae [AU 0,AU 1,AU 4]) h) λh=>CZ<|AZ<|Cm (λs=>∃(J:(AA JA)) (u:JA),CO s ⟨Az 95 [(0,BI q),(3,.aS 0),(4,Bf z),(5,AX Z),(6,.ptr 1 0),(12,.ptr 2 0)],[(Qq J),.box (Ar (Ap O.1)),.box (Ar (MW u))],0⟩/\a04 q O I Z J u=some r) (by rintro s ⟨J,u,hs,h⟩;exact D6 hs<|AO h λj Y h=>AP 5<|.Y (x:=(AX j)) (EK [.ent 0] [BI q,.aS 0,DL O.1,Dh u.Before] (ah9 Y))<|AZ<|Cm (λs=>∃(U:(AA JA)) (M:JA),CO s ⟨Az 95 [(0,BI q),(3,.aS 0),(4,Bf z),(5,AX Z),(12,.ptr 1 0)],[(Qq U),.box (Ar (MW M))],0⟩/\yG I Z U M=some r) (by rintro s ⟨U,M,hs,h⟩;exact D6 hs<|AO h λz j h=>CU<|.a 2<|.p (EG aP5 aGT [MW M])<|.f (Dk (k:=0) MW j aP5 A8 (λ_=>rfl) Bl)<|.aN<|Cx<|L _ _ _ (Ae [AU 2]) h)<|λz=>AP 3<|AO h λI L h=>.mg 75 4 (Ag I) (.bi L (λh=>AO h λz j h=>.a 2<|.X (Zt j)<|Cc))<|.aY<|BA h (λh=>AO h λI L h=>CU<|.a 8<|.ca (aFJ L).view<|.aN<|z _ ⟨J,({ { { u with Err:=j }with After:=({ u with Err:=j }).Before }with After:=I }),Ae [AU 0,AU 2],h⟩) λh=>z _ ⟨J,({ { u with Err:=j }with After:=({ u with Err:=j }).Before }),Ae [AU 0,AU 2],h⟩)<|λz=>AP 1<|.Z (Kt (k:=2) (e':=41) (s:=1) (BP BO) x9 A8 aBC)<|BA h (λh=>AO h λj I h=>CU<|.a 2<|.conv _ (JI (e:=41) (s:=1) 2 (xs:=List.map (BP BO) x9) A8)<|.ca (aL5 I)<|.aN<|z _ ⟨x11,({ (⟨O.1.Id,[],[],0⟩:JA)with Before:=j }),Ae [AU 0,AU 1,AU 3],h⟩) λh=>z _ ⟨x11,(⟨O.1.Id,[],[],0⟩:JA),Ae [AU 0,AU 1,AU 3],h⟩) λh=>JC
def Yx (j:(Int->Int->AL Int))(q:Int)(u:Int):AL Int:=j u (Au (q+1))
def aBy (j:Ah)(M:G8)(J:(Int->Int->AL Int)):Int->Int->AL Int:=λv2 q=>(cond (q<(j.length:Int)) ((Ak j q).bind λO=>(XJ M O.Id).bind λL=>(Ak j q).bind λu=>(cond (u.Kind==1) (some L.2) (some false)).bind λz=>(cond z (some (L.1.Err==0)) (some false)).bind λI=>(cond I (Yx J q (Au (v2+1))) (Yx J q v2))) (some v2))
def aNg (j:Ah)(q:G8):Int->Int->AL Int:=aQ (aBy j q) Am
def tN (j:Ah):AL Int:=(jC j).bind λq=>aNg j q 0 0
def aV9 :=Dc func153 rfl tN BI AX λj r h=>AZ<|AO h λu z h=>AP 1<|.X (aDa z).view<|AZ<|Aa<|AZ<|Aj<|DV (λz q=>⟨Az 43 [(0,BI j),(3,Rk u),(4,AX z),(5,AX q)],[],0⟩) _ _ _ _ (Ae []) h<|λz q I M J h=>Aa<|AP 2<|.Z (BJ Ap j)<|Bo h (λh=>Cm (λs=>∃(L:Int),CO s ⟨Az 43 [(0,BI j),(3,Rk u),(4,AX L),(5,AX J)],[],0⟩/\Yx q J L=some r) (by rintro s ⟨L,hs,h⟩;exact D6 hs<|a1J)<|λz=>Aj<|Bv h λq I J O h=>AP 3<|.p (BD Ap I)<|.a 2<|.X (Opn O)<|AO h λu q h=>AP 2<|.p (BD Ap q)<|.a 3<|AO h λu q h=>.mg 32 2 (Ag u) (.bi q)<|.a 1<|AO h λu q h=>.mg 36 3 (Ag u) (DC q)<|.aY<|BA h (λh=>Cx<|z _ ⟨(Au (M+1)),Ae [],h⟩) λh=>z _ ⟨M,Ae [],h⟩) λh=>El
def aDi (j:Ah):AL AY:=(KN j).bind λq=>(cond (q==0) ((iQ j).bind λu=>some (u==0)) (some false)).bind λz=>some z
def amD :=Dc func241 rfl aDi BI Ag λu r h=>AZ<|AO h λq j h=>AP 1<|.ca (aTZ j)<|.a 1<|AO h λq j h=>.mg 6 4 (Ag q) (.bi j (λh=>AO h λq j h=>.a 1<|.X (aIe j)<|Cc))<|.aW<|CY
def mD (j:Ah):AL G8:=(aDi j).bind λq=>(cond (!q) (some []) ((jC j).bind λu=>some u))
def aKr :=LX func154 rfl mD BI Qq λj r h=>BM<|.f (CV 174 4)<|.aY<|Aa<|AO h λu q h=>AP 1<|.X (amD q)<|BA h (λh=>BM<|.f (CV 174 4)<|.aY<|Jm) λh=>AO h λu q h=>AP 1<|.Y (x:=.aS 1) (Jt [BI j] (aDa q))<|Jm
def aDB (j:AV)(u:Bj)(q:Int)(k2:(Int->AL AY)):Int->AL AY:=λz=>(cond (z<(j.length:Int)) ((Ak j z).bind λJ=>(YK u J).bind λI=>(cond (!I.2) (some true) (some (decide (I.1.Pos>=q)))).bind λL=>(cond L (some false) (k2 (Au (z+1))))) (some true))
def aTR (j:AV)(u:Bj)(q:Int):Int->AL AY:=bn (aDB j u q) Am
def a0s (u:Bj)(j:AV)(q:Int):AL AY:=aTR j u q 0
def agm :=O5 func156 rfl a0s Fb Bf AX Ag λz j q r h=>AZ<|Aa<|AZ<|Aj<|Dp (λu=>⟨Az 33 [(1,Bf j),(2,AX q),(3,.ptr 0 0),(7,AX u)],[.box (Ar (CJ z))],0⟩) _ _ _ (Ae [AU 0]) h<|λu I L J h=>Aa<|AP 2<|.Z (BJ Ad j)<|Bo h (λh=>Aa<|Aj<|Bv h λu I J M h=>Yl [SL 3 (Go.Op.indexAddr 27 (Go.Operand.tmp 18) (Go.Operand.tmp 19)) (λu L J=>bW (k:=.i64) Ad I Jc Ey A8 J),ZA 5 (a7V M) aii] 36<|AP 2<|AO h λu I h=>.mg 27 5 (Ag u) (.bi I)<|.aY<|BA h CB λh=>Cx<|L _ _ (Ae [AU 0]) h) λh=>El
def aI2 (j:Bj)(x7:G8)(k9:(Int->AL AY)):Int->AL AY:=λu=>(cond (u<(j.Rows.length:Int)) ((Ak j.Rows u).bind λq=>(YK j q.Id).bind λI=>(Ju j.Events q.Id).bind λz=>(XJ x7 q.Id).bind λJ=>(cond (!z.2) (some true) (some (q.Pos != u))).bind λL=>(cond L (some true) (some (I.1.Pos != u))).bind λM=>(cond M (some true) ((a0s j z.1.bG u).bind λO=>some (!O))).bind λU=>(cond U (some true) ((a0s j z.1.bI u).bind λY=>some (!Y))).bind λZ=>(cond Z (some false) ((cond (!((J.1.Err != 0)==(q.Status==2))) (some true) ((cond (q.Status != 2) (some (q.Status != 3)) (some false)).bind λx28=>(cond x28 (some (q.Status != 4)) (some false)).bind λx30=>some x30)).bind λx26=>(cond x26 (some false) (k9 (Au (u+1))))))) (some true))
def aSw (j:Bj)(q:G8):Int->AL AY:=bn (aI2 j q) Am
def a5n (j:Bj):AL AY:=(cond ((j.Rows.length:Int) != (j.Events.length:Int)) (some true) (some (j.Next != (j.Rows.length:Int)))).bind λq=>(cond q (some true) ((tN j.Events).bind λu=>some (decide (u>1)))).bind λz=>(cond z (some false) ((mD j.Events).bind λI=>aSw j I 0))
def adW :=Dc func79 rfl a5n Fb Ag λu r h=>AZ<|Aa<|AP 2<|.p (BJ En u.Rows)<|.a 2<|.p (BJ Ap u.Events)<|.a 1<|AO h λq j h=>.mg 19 7 (Ag q) (.bi j (k2:=λh=>.a 4<|.Z (BJ En u.Rows)<|Cc))<|.a 1<|AO h λq j h=>.mg 28 4 (Ag q) (DC j (k2:=λe i=>by subst e;have h:=i;exact AO h λq j h=>.a 2<|.X (aV9 j)<|Cc))<|.aY<|BA h CB λh=>AO h λq j h=>AP 2<|.X (aKr j).view<|Aa<|AZ<|Aj<|Dp (λj=>⟨Az 122 [(1,.ptr 0 0),(3,Rk q),(4,AX j)],[.box (Ar (CJ u))],0⟩) _ _ _ (Ae [AU 0]) h<|λj z J M h=>Aa<|AP 3<|.Z (BJ En u.Rows)<|Bo h (λh=>Aa<|Aj<|AO h λj z h=>AP 3<|.Z (BD En z)<|AO h λz I h=>AP 3<|.X (a7V I)<|AO h λz I h=>AP 4<|.X (MK I)<|AO h λI L h=>AP 3<|.X (Opn L)<|Aa<|AP 2<|AO h λq j h=>.mg 72 5 (Ag q) (.bi j)<|.a 1<|AO h λq j h=>.mg 79 4 (Ag q) (DC j)<|.a 1<|AO h λq j h=>.mg 85 6 (Ag q) (DC j (k2:=λe i=>aUe))<|.a 1<|AO h λq j h=>.mg 93 6 (Ag q) (DC j (k2:=λe i=>aUe))<|.aY<|BA h CB λh=>AP 7<|AO h λq j h=>.mg 107 14 (Ag q) (.bi j (k2:=λh=>.a 3<|AO h λq j h=>.mg 111 4 (Ag q) (.bi j)<|.a 1<|AO h λq j h=>.mg 117 3 (Ag q) (DC j)<|.aW<|Cc))<|aDt) λh=>El
def kD (j:Ah)(q:AQ):AL AY:=(dG j q.bG).bind λu=>(cond ((u.length:Int)==0) ((dG j q.bI).bind λz=>some ((z.length:Int)==0)) (some false)).bind λI=>some I
def aBw :=DW func86 rfl kD BI DL Ag λu z r h=>AZ<|AO h λj q h=>AP 3<|.ca (a18 q).view<|.p (BJ Ad j)<|.a 1<|AO h λj q h=>.mg 11 7 (Ag j) (.bi q (λh=>AO h λj q h=>.a 3<|.ca (a18 q).view<|.Z (BJ Ad j)<|Cc))<|.aW<|CY
end
section
set_option maxRecDepth 20000
set_option maxHeartbeats 4000000
def aDz (j:Bj)(q:(Int->AL Int)):Int->AL Int:=λu=>(cond (u<(j.Waiting.length:Int)) ((Ak j.Waiting u).bind λz=>(kD j.Events z).bind λI=>(cond I (some 26) (q (Au (u+1))))) (cond ((j.Waiting.length:Int)>200) (some 29) (some 0)))
def aIx (j:Bj):Int->AL Int:=bn (aDz j) Am
def aIR (j:Bj)(u:(Int->AL Int)):Int->AL Int:=λq=>(cond (q<(j.Waiting.length:Int)) ((Ak j.Waiting q).bind λz=>(Ju j.Events z.Id).bind λI=>(cond I.2 (some 4) (u (Au (q+1))))) (aIx j 0))
def aLF (j:Bj):Int->AL Int:=bn (aIR j) Am
def a6W (j:Bj):AL Int:=(a0E j j.Waiting).bind λq=>(cond (q != 0) (some q) (aLF j 0))
def aZi :=Dc func80 rfl a6W Fb AX λj r h=>AZ<|AO h λq u h=>AP 3<|.X (aRf u)<|Aa<|AZ<|BA h CB λh=>Aa<|AZ<|Aj<|Dp (λq=>⟨Az 54 [(1,.ptr 0 0),(4,AX q)],[.box (Ar (CJ j))],0⟩) _ _ _ (Ae [AU 0]) h<|λq u I z h=>Aa<|AP 3<|.Z (BJ Ap j.Waiting)<|Bo h (λh=>Aa<|Aj<|Bv h λq u z J h=>Yl [SL 5 (Go.Op.indexAddr 22 (Go.Operand.tmp 26) (Go.Operand.tmp 27)) (λq I z=>bW (k:=.i64) Ap u Kv Gg A8 z),ZA 8 (MK J) aaw] 66<|a0G) λh=>CZ<|Aa<|AZ<|Aj<|Dp (λq=>⟨Az 54 [(1,.ptr 0 0),(7,AX q)],[.box (Ar (CJ j))],0⟩) _ _ _ (Ae [AU 0]) h<|λq u I z h=>Aa<|AP 3<|.Z (BJ Ap j.Waiting)<|Bo h (λh=>Aa<|Aj<|Bv h λq u z J h=>F6 A8 A8 A8 (.a 5<|.p (BD Ap u)<|.a 1<|.ca (aBw J)<|.nil _)<|BA h CB λh=>dS) λh=>CZ<|Aa<|AP 2<|.Z (BJ Ap j.Waiting)<|JW
def a3f (k3:(AV->Int->AL AV))(v2:Int)(j:AV):AL AV:=k3 j (Au (v2+1))
def aIk (j:Ah)(q:G8)(k3:(AV->Int->AL AV)):AV->Int->AL AV:=λu v2=>(cond (v2<(j.length:Int)) ((Ak j v2).bind λL=>(XJ q L.Id).bind λJ=>(cond J.2 (some (J.1.Err==0)) (some false)).bind λM=>(cond M ((Ak j v2).bind λz=>(D5 8 u [z.Id]).bind λI=>a3f k3 v2 I) (a3f k3 v2 u))) (some u))
def aSm (j:Ah)(q:G8):AV->Int->AL AV:=aQ (aIk j q) Am
def a2c (j:Ah)(q:G8):AL AV:=aSm j q [] 0
def alQ :=Gj func243 rfl a2c BI Rk Cb λj q r h=>BM<|.f (CV 3 1)<|.aY<|BM<|.f (CV 3 1)<|.aY<|Aa<|AZ<|Aj<|DV (λI u=>⟨Az 40 [(0,BI j),(1,Rk q),(5,.aS 0),(6,AX u)],[(Cb I)],0⟩) _ _ _ _ (Ae [AU 1]) h<|λI u z L J h=>Aa<|AP 2<|.Z (BJ Ap j)<|Bo h (λh=>Cm (λs=>∃(M:(AA Int)),CO s ⟨Az 40 [(0,BI j),(1,Rk q),(5,.aS 0),(6,AX J)],[(Cb M)],0⟩/\a3f u J M=some r) (by rintro s ⟨M,hs,h⟩;exact D6 hs<|Xp)<|λI=>Aj<|Bv h λu z J O h=>AP 3<|.p (BD Ap z)<|.a 2<|.X (Opn O)<|AP 1<|AO h λu z h=>.mg 26 4 (Ag u) (.bi z)<|.aY<|BA h (λh=>Bv h λu z L J h=>CU<|.a 3<|.p (BD Ap z)<|.a 2<|.p (EG Dy zero3 [Ad u.Id])<|.f (Dk (k:=0) Ad J Dy A8 (λ_=>rfl) Bl)<|.aN<|I _ ⟨L,Ae [AU 2],h⟩) λh=>I _ ⟨L,Ae [AU 0],h⟩) λh=>JC
def a6l (j:(AV->Int->AL AV))(q:Int)(u:AV):AL AV:=j u (Au (q+1))
def a2F (j:(AY->Int->AV->AL AV))(z:Int)(q:AY)(u:AV):AL AV:=j q (Au (z+1)) u
def jM (j:(AY->Int->AV->AL AV))(z:Int)(q:AV)(I:AY)(u:AY):AL AV:=(cond u (a2F j z false q) (a2F j z I q))
def aKB (L:AV)(z:Ah)(I:Int)(k4:(AV->Int->AL AV))(q:(AY->Int->AV->AL AV)):AY->Int->AV->AL AV:=λM u j=>(cond (u<(L.length:Int)) ((Ak L u).bind λO=>(Ju z O).bind λJ=>(cond J.2 (cond (u != I) ((Ak L I).bind λU=>(UQ J.1.bG U).bind λY=>jM q u j M Y) (jM q u j M false)) (jM q u j M false))) (cond M ((Ak L I).bind λZ=>(D5 8 j [Z]).bind λx27=>a6l k4 I x27) (a6l k4 I j)))
def aL0 (q:AV)(j:Ah)(u:Int)(z:(AV->Int->AL AV)):AY->Int->AV->AL AV:=iG (aKB q j u z) Am
def aIK (q:AV)(j:Ah)(z:(AV->Int->AL AV)):AV->Int->AL AV:=λv2 u=>(cond (u<(q.length:Int)) (aL0 q j u z true 0 v2) (some v2))
def aQy (q:AV)(j:Ah):AV->Int->AL AV:=aQ (aIK q j) Am
def a7E (q:Ah)(j:AV):AL AV:=(nG j).bind λu=>aQy u q [] 0
def akD :=Gj func242 rfl a7E BI Bf Cb λj Jw r h=>BM<|.f (CV 3 1)<|.aY<|AO h λu q h=>AP 1<|.X (aFK q).view<|BM<|.Y (Ht Dy zero3 [])<|Aa<|AZ<|Aj<|DV (λq z=>⟨Az 60 [(0,BI j),(5,Bf u),(6,.aS 0),(7,AX z)],[(Cb q)],0⟩) _ _ _ _ (Ae [AU 1]) h<|λq z I J L h=>Aa<|AP 2<|.Z (BJ Ad u)<|Bo h (λh=>Cm (λs=>∃(v6:(AA Int)),CO s ⟨Az 60 [(0,BI j),(5,Bf u),(6,.aS 0),(7,AX L)],[(Cb v6)],0⟩/\a6l z L v6=some r) (by rintro s ⟨v6,hs,h⟩;exact D6 hs<|Tj)<|λq=>Aj<|AZ<|Aa<|AZ<|Aj<|QY (λq z I=>⟨Az 60 [(0,BI j),(5,Bf u),(6,.aS 0),(7,AX L),(8,Ag q),(9,AX z)],[(Cb I)],0⟩) _ _ _ _ _ (Ae [AU 0]) h<|λz I J Y x8 Z h=>Aa<|AP 2<|.Z (BJ Ad u)<|Bo h (λh=>Cm (λs=>∃(M:AY) (O:(AA Int)),CO s ⟨Az 60 [(0,BI j),(5,Bf u),(6,.aS 0),(7,AX L),(8,Ag M),(9,AX x8)],[(Cb O)],0⟩/\a2F I x8 M O=some r) (by rintro s ⟨M,O,hs,h⟩;exact D6 hs<|Cx<|J _ _ _ _ (Ae [AU 0]) h)<|λq=>Aj<|Bv h λz J x10 x11 h=>AP 3<|.p (BD Ad J)<|.a 1<|.X (MK x11)<|Cm (λs=>∃(U:AY),CO s ⟨Az 60 [(0,BI j),(5,Bf u),(6,.aS 0),(7,AX L),(8,Ag Y),(9,AX x8),(50,Ag U)],[(Cb Z)],0⟩/\jM I x8 Z Y U=some r) (by rintro s ⟨U,hs,h⟩;exact D6 hs<|BA h (λh=>Cx<|q _ ⟨false,Z,Ae [AU 0],h⟩) λh=>q _ ⟨Y,Z,Ae [AU 0],h⟩)<|λu=>EX h (λq h=>EX h (λz h=>Bv h λI J L Y h=>DN A8 A8 A8 (.a 1<|.c (BF some q)<|.a 4<|.c (BF some z)<|.a 4<|.p (BD Ad J)<|.a 1<|.ca (Xb Y)<|.a 1<|.nil _)<|u _ ⟨L,Ae [AU 0],h⟩) λz h=>DN A8 A8 A8 (.a 1<|.c (BF some q)<|.a 4<|.c (BF some z)<|.a 8<|.nil _)<|u _ ⟨false,Ae [AU 0],h⟩) λq h=>DN A8 A8 A8 (.a 1<|.c (BF some q)<|.a 13<|.nil _)<|u _ ⟨false,Ae [AU 0],h⟩) λh=>CZ<|AZ<|BA h (λh=>Bv h λu z I J h=>CU<|.a 3<|.p (BD Ad z)<|.a 1<|.p (EG Dy zero3 [Ad u])<|.f (Dk (k:=0) Ad J Dy A8 (λ_=>rfl) Bl)<|.aN<|q _ ⟨I,Ae [AU 1],h⟩) λh=>q _ ⟨Z,Ae [AU 0],h⟩) λh=>JC
def XC (j:Ah)(q:G8):AL AV:=(a2c j q).bind λu=>(a7E j u).bind λz=>some z
def aD0 :=Gj func157 rfl XC BI Rk Cb λj q r h=>BM<|.f (CV 3 1)<|.aY<|Bv h λu z J I h=>AP 3<|.ca (alQ z).view<|.Y (x:=.aS 1) (Jt [BI j,Bf u] (akD I))<|Jm
def a8G (j:Ah):AL AV:=(mD j).bind λq=>(XC j q).bind λu=>some u
def aTj :=LX func81 rfl a8G BI Cb λj r h=>BM<|.f (CV 3 1)<|.aY<|Bv h λq u I z h=>AP 2<|.ca (aKr u).view<|.Y (x:=.aS 1) (Jt [BI j,Rk q] (aD0 z))<|Jm
def vk (j:AV)(q:AV)(k3:(Int->AL AY)):Int->AL AY:=λv2=>(cond (v2<(j.length:Int)) ((Ak j v2).bind λu=>(Ak q v2).bind λz=>(cond (u != z) (some false) (k3 (Au (v2+1))))) (some true))
def aBr (j:AV)(q:AV):Int->AL AY:=bn (vk j q) Am
def Zl (j:AV)(q:AV):AL AY:=(cond ((j.length:Int) != (q.length:Int)) (some false) (aBr j q 0))
def aEM :=DW func37 rfl Zl Bf Bf Ag λj q r h=>AZ<|Aa<|AP 1<|.p (BJ Ad j)<|.a 1<|.Z (BJ Ad q)<|BA h CB λh=>Aa<|AZ<|Aj<|Dp (λu=>⟨Az 26 [(0,Bf j),(1,Bf q),(5,AX u)],[],0⟩) _ _ _ (Ae []) h<|λu z I J h=>Aa<|AP 2<|.Z (BJ Ad j)<|Bo h (λh=>Aa<|Aj<|Bv h λu z J L h=>F6 A8 A8 A8 (.a 2<|.p (BD Ad z)<|.a 3<|.p (BD Ad L)<|.a 2<|.nil _)<|BA h CB λh=>SQ) λh=>El
def aKP (I:AV)(j:G8)(q:Ah)(J:(GH->Int->AL BR)):GH->Int->AL BR:=λv2 u=>(cond (u<(I.length:Int)) ((Ak I u).bind λL=>(XJ j L).bind λM=>(D5 24 v2 [M.1.After]).bind λO=>J O (Au (u+1))) (cond ((v2.length:Int)==0) (some []) ((a1F q v2).bind λz=>some z)))
def aPA (u:AV)(j:G8)(q:Ah):GH->Int->AL BR:=aQ (aKP u j q) Am
def qc (j:Ah)(q:G8):AL BR:=(XC j q).bind λu=>aPA u q j [] 0
def aU2 :=DW func158 rfl qc BI Rk Dh λq u r h=>AZ<|AO h λz j h=>AP 2<|.X (aD0 j).view<|BM<|.f (CV 41 1)<|.aY<|Aa<|AZ<|Aj<|DV (λj I=>⟨Az 39 [(0,BI q),(1,Rk u),(5,Bf z),(6,.aS 0),(7,AX I)],[.arr 41 1 (List.map (BP BO) j)],0⟩) _ _ _ _ (Ae [AU 0]) h<|λj I L J M h=>Aa<|AP 2<|.Z (BJ Ad z)<|Bo h (λh=>Aa<|Aj<|Bv h λz j I J h=>AP 3<|.p (BD Ad j)<|.a 1<|.X (Opn J)<|AO h λz j h=>CU<|.a 3<|.p (EG cG UZ [(BP BO) I.1.After])<|.f (Dk (k:=0) (BP BO) j cG A8 (λ_=>rfl) Bl)<|.aN<|Cx<|L _ _ _ (Ae [AU 2]) h) λh=>CZ<|Aa<|AP 1<|.Z (Kt (k:=0) (e':=41) (s:=1) (BP BO) J A8 aBC)<|BA h CB λh=>AO h λz j h=>AP 2<|.conv _ (JI (e:=41) (s:=1) 0 (xs:=List.map (BP BO) J) A8)<|.X (aL5 j)<|CY
def a7M (j:Ah):AL BR:=(mD j).bind λq=>(qc j q).bind λu=>some u
def alc :=Dc func82 rfl a7M BI Dh λj r h=>AZ<|Bv h λz q I u h=>AP 2<|.ca (aKr q).view<|.X (aU2 u)<|CY
def jY (k3:(Int->AL AY))(v2:Int)(j:AY):AL AY:=(cond j (some false) (k3 (Au (v2+1))))
def ZP (j:BR)(q:BR)(k3:(Int->AL AY)):Int->AL AY:=λv2=>(cond (v2<(j.length:Int)) ((Ak j v2).bind λL=>(Ak q v2).bind λM=>(cond (L.Kind != M.Kind) (jY k3 v2 true) ((Ak j v2).bind λu=>(Ak q v2).bind λz=>(cond (!(u.Key.toList==z.Key.toList)) (jY k3 v2 true) ((Ak j v2).bind λI=>(Ak q v2).bind λJ=>jY k3 v2 (I.Id != J.Id)))))) (some true))
def a5j (j:BR)(q:BR):Int->AL AY:=bn (ZP j q) Am
def Xu (j:BR)(q:BR):AL AY:=(cond ((j.length:Int) != (q.length:Int)) (some false) (a5j j q 0))
def aQr :=DW func71 rfl Xu Dh Dh Ag λj q r h=>AZ<|Aa<|AP 1<|.p (BJ BO j)<|.a 1<|.Z (BJ BO q)<|BA h CB λh=>Aa<|AZ<|Aj<|Dp (λI=>⟨Az 54 [(0,Dh j),(1,Dh q),(5,AX I)],[],0⟩) _ _ _ (Ae []) h<|λI z J u h=>Aa<|AP 2<|.Z (BJ BO j)<|Bo h (λh=>Aa<|Aj<|Cm (λs=>∃(L:AY),CO s ⟨Az 54 [(0,Dh j),(1,Dh q),(5,AX u),(53,Ag L)],[],0⟩/\jY z u L=some r) (by rintro s ⟨L,hs,h⟩;exact D6 hs<|BA h CB λh=>XD)<|λI=>Bv h λz J u M h=>EX h (λz h=>DN A8 A8 A8 (.a 2<|.p (BD BO J)<|.a 4<|.p (BD BO M)<|.a 3<|.c (BF some z)<|.a 25<|.nil _)<|I _ ⟨true,Ae [],h⟩) λz h=>Bv h λu Y Z x8 h=>EX h (λu h=>DN A8 A8 A8 (.a 2<|.p (BD BO J)<|.a 4<|.p (BD BO M)<|.a 3<|.c (BF some z)<|.a 2<|.p (BD BO Y)<|.a 4<|.p (BD BO x8)<|.a 4<|.c (BF some u)<|.a 12<|.nil _)<|I _ ⟨true,Ae [],h⟩) λu h=>Bv h λZ x9 O U h=>DN A8 A8 A8 (.a 2<|.p (BD BO J)<|.a 4<|.p (BD BO M)<|.a 3<|.c (BF some z)<|.a 2<|.p (BD BO Y)<|.a 4<|.p (BD BO x8)<|.a 4<|.c (BF some u)<|.a 2<|.p (BD BO x9)<|.a 4<|.p (BD BO U)<|.a 4<|.nil _)<|I _ ⟨(Z.Id != O.Id),Ae [],h⟩) λh=>El
def a4l (j:AY):AL Int:=(cond j (some 6) (some 0))
def vM (j:Bj)(J:Int):AL Int:=(cond (J != 0) (some J) ((a5n j).bind λM=>(cond (!M) (some 6) ((a6W j).bind λL=>(cond (L != 0) (some L) ((a8G j.Events).bind λq=>(Zl j.uP q).bind λu=>(cond (!u) (a4l true) ((a7M j.Events).bind λz=>(Xu j.State z).bind λI=>a4l (!I)))))))))
def lF (j:Bj):AL Int:=(kE j.Id).bind λz=>(cond (z != 0) (some 3) ((a0E j j.Events).bind λu=>(cond (u==0) ((iQ j.Events).bind λq=>vM j q) (vM j u))))
def aRj :=Dc func24 rfl lF Fb AX λu r h=>AZ<|Aa<|AO h λq j h=>AP 2<|.X (aJ9 j)<|BA h CB λh=>AO h λq j h=>AP 3<|.X (aRf j)<|Cm (λs=>∃(J:Int),CO s ⟨Az 44 [(1,.ptr 0 0),(3,AX J)],[.box (Ar (CJ u))],0⟩/\vM u J=some r) (by rintro s ⟨J,hs,h⟩;exact D6 hs<|Aa<|AZ<|BA h CB λh=>Aa<|AO h λq j h=>AP 1<|.X (adW j)<|BA h CB λh=>AO h λq j h=>AP 1<|.X (aZi j)<|Aa<|AZ<|BA h CB λh=>Aa<|Cm (λs=>∃(z:AY),CO s ⟨Az 44 [(43,Ag z)],[],0⟩/\a4l z=some r) aMK<|λq=>Bv h λj I Z O h=>EX h (λL h=>DN A8 A8 A8 (.a 4<|.ca (aTj I).view<|.ca (aEM O)<|.a 1<|.c (BF some L)<|.a 8<|.nil _)<|q _ ⟨true,Ae [],h⟩) λL h=>Bv h λx7 U Y M h=>DN A8 A8 A8 (.a 4<|.ca (aTj I).view<|.ca (aEM O)<|.a 1<|.c (BF some L)<|.a 4<|.ca (alc U)<|.ca (aQr M)<|.a 2<|.nil _)<|q _ ⟨(!Y),Ae [],h⟩)<|λj=>AZ<|BA h (λh=>AO h λq I h=>CU<|.a 2<|.ca (aIe I)<|.aN<|j _ ⟨q,Ae [AU 0],h⟩) λh=>j _ ⟨q,Ae [AU 0],h⟩
def a1W (j:(Int->AL AY))(q:Int)(u:AY):AL AY:=(cond u (some false) (j (Au (q+1))))
def aGP (u:Int)(j:Ah)(k2:(Int->AL AY))(O:(Int->AL AY)):Int->AL AY:=λq=>(cond (q<u) ((Ak j u).bind λz=>(Ak j q).bind λI=>(cond (z.Id==I.Id) ((Ak j u).bind λJ=>(Ak j q).bind λL=>(a7W J L).bind λM=>a1W O q M) (a1W O q false))) (k2 (Au (u+1))))
def aTt (q:Int)(j:Ah)(k2:(Int->AL AY)):Int->AL AY:=bn (aGP q j k2) Am
def aCl (j:Ah)(k2:(Int->AL AY)):Int->AL AY:=λq=>(cond (q<(j.length:Int)) (aTt q j k2 0) (some true))
def aLu (j:Ah):Int->AL AY:=bn (aCl j) Am
def rP (j:Ah):AL AY:=aLu j 0
def ah2 :=Dc func25 rfl rP BI Ag λj r h=>AZ<|Aa<|AZ<|Aj<|Dp (λq=>⟨Az 38 [(0,BI j),(3,AX q)],[],0⟩) _ _ _ (Ae []) h<|λq u z I h=>Aa<|AP 2<|.Z (BJ Ap j)<|Bo h (λh=>Aa<|Aj<|AZ<|Aj<|Dp (λq=>⟨Az 38 [(0,BI j),(3,AX I),(4,AX q)],[],0⟩) _ _ _ (Ae []) h<|λq u J L h=>Aa<|AZ<|Bo h (λh=>Aa<|Aj<|Cm (λs=>∃(M:AY),CO s ⟨Az 38 [(0,BI j),(3,AX I),(4,AX L),(37,Ag M)],[],0⟩/\a1W u L M=some r) (by rintro s ⟨M,hs,h⟩;exact D6 hs<|BA h CB λh=>XD)<|λq=>Bv h λu z I J h=>EX h (λu h=>Hq h λI L Z U Y O h=>DN A8 A8 A8 (.a 2<|.p (BD Ap z)<|.a 4<|.p (BD Ap J)<|.a 3<|.c (BF some u)<|.a 2<|.p (BD Ap L)<|.a 3<|.p (BD Ap U)<|.a 1<|.ca (aZ6 O)<|.a 1<|.nil _)<|q _ ⟨Y,Ae [],h⟩) λu h=>DN A8 A8 A8 (.a 2<|.p (BD Ap z)<|.a 4<|.p (BD Ap J)<|.a 3<|.c (BF some u)<|.a 10<|.nil _)<|q _ ⟨false,Ae [],h⟩) λh=>CZ<|VY) λh=>El
def aKd (q:AQ)(j:BL):AL AQ:=(wL q).bind λu=>(a0Y ({ q with Hash:=u })).bind λz=>some ({ { { q with Hash:=u }with Id:=z }with sF:=(⟨j,({ { q with Hash:=u }with Id:=z }).Id⟩:PZ) })
def aPx :=DW func55 rfl aKd DL D8 DL λq j r h=>AZ<|AO h λz u h=>AP 1<|.X (aPg u)<|AO h λu I h=>AP 1<|.X (aSz I)<|AZ<|AZ<|Eb<|by rw[←CM h];exact⟨[DL ({ { { q with Hash:=z }with Id:=u }with sF:=(⟨j,({ { q with Hash:=z }with Id:=u }).Id⟩:PZ) })],[],⟨⟨1,Ar (Ap ({ { { q with Hash:=z }with Id:=u }with sF:=(⟨j,({ { q with Hash:=z }with Id:=u }).Id⟩:PZ) })),true,29,A8,A8,A8,Gg,DT A8,zN,A8⟩,trivial⟩,A8,A8,A8⟩
def afm (I:AQ)(k3:(Int->(AA (Int×AY))->AL AV))(J:Int)(u:(Int->(AA (Int×AY))->AL AV)):Int->(AA (Int×AY))->AL AV:=λj q=>(cond (j<(I.bI.length:Int)) ((Ak I.bI j).bind λz=>u (Au (j+1)) (EM q z true)) (k3 (Au (J+1)) q))
def amS (j:AQ)(k3:(Int->(AA (Int×AY))->AL AV))(q:Int):Int->(AA (Int×AY))->AL AV:=aQ (afm j k3 q) Am
def aYW (j:AQ)(k3:(Int->(AA (Int×AY))->AL AV))(I:Int)(J:(Int->(AA (Int×AY))->AL AV)):Int->(AA (Int×AY))->AL AV:=λq z=>(cond (q<(j.bG.length:Int)) ((Ak j.bG q).bind λu=>J (Au (q+1)) (EM z u true)) (amS j k3 I 0 z))
def als (j:AQ)(k3:(Int->(AA (Int×AY))->AL AV))(q:Int):Int->(AA (Int×AY))->AL AV:=aQ (aYW j k3 q) Am
def ahf (j:Ah)(k3:(Int->(AA (Int×AY))->AL AV)):Int->(AA (Int×AY))->AL AV:=λq v2=>(cond (q<(j.length:Int)) ((Ak j q).bind λz=>als z k3 q 0 v2) ((ZI v2).bind λu=>some u))
def ahQ (j:Ah):Int->(AA (Int×AY))->AL AV:=aQ (ahf j) Am
def aIs (j:Ah):AL AV:=ahQ j 0 []
def aVN :=LX func108 rfl aIs BI Cb λj r h=>BM<|.f (CV 3 1)<|.aY<|BM<|.Y (x:=.mp 1) pI<|Aa<|AP 1<|.Z (BJ Ap j)<|Aj<|DV (λq u=>⟨Az 40 [(3,.mp 0),(11,BI j),(12,AX (j.length:Int)),(13,AX q)],[.map (List.map (CS D7 E9) u)],0⟩) _ _ _ _ (Ae [AU 1]) h<|λq u z I L h=>AZ<|Aa<|Bo h (λh=>Aa<|Aj<|AO h λq u h=>BM<|.Z (BD Ap u)<|Aa<|AP 2<|.Z (BJ Ad q.bG)<|Aj<|DV (λu z=>⟨Az 40 [(3,.mp 0),(5,.ptr 1 0),(11,BI j),(12,AX (j.length:Int)),(13,AX I),(18,Bf q.bG),(19,AX (q.bG.length:Int)),(20,AX u)],[.map (List.map (CS D7 E9) z),.box (Ar (Ap q))],0⟩) _ _ _ _ (Ae [AU 0,AU 1]) h<|λu L J O M h=>AZ<|Aa<|Bo h (λh=>Aa<|Aj<|AO h λq u h=>BM<|.Z (BD Ad u)<|CU<|.a 2<|.f (YB (k:=0) (key:=q) (val:=true) (m:=M) E9 Rf IE A8)<|.nil<|zS) λh=>CZ<|AP 2<|.Z (BJ Ad q.bI)<|Aj<|DV (λu z=>⟨Az 40 [(3,.mp 0),(11,BI j),(12,AX (j.length:Int)),(13,AX I),(28,Bf q.bI),(29,AX (q.bI.length:Int)),(30,AX u)],[.map (List.map (CS D7 E9) z)],0⟩) _ _ _ _ (Ae [AU 0]) h<|λq u I L J h=>AZ<|Aa<|Bo h (λh=>Aa<|Aj<|AO h λq u h=>BM<|.Z (BD Ad u)<|CU<|.a 2<|.f (YB (k:=0) (key:=q) (val:=true) (m:=J) E9 Rf IE A8)<|.nil<|Tj) λh=>CZ<|Xp) λh=>CZ<|AO h λq u h=>AP 1<|.Y (x:=.aS 1) (EK [.ent 0] [.mp 0] (aSW u))<|Jm
def aK5 (j:Bj):AL AV:=(aIs j.Events).bind λq=>(aIs j.Waiting).bind λu=>(aVE q u).bind λz=>(eY j.Events z).bind λI=>(eY j.Waiting I).bind λJ=>some J
def aUg :=Dc func38 rfl aK5 Fb Bf λu r h=>AZ<|Hq h λz j I q L J h=>F6 A8 A8 A8 (.a 2<|.ca (aVN j).view<|.a 2<|.ca (aVN q).view<|.ca (aY4 J).view<|.a 1<|.nil _)<|Bv h λz j I q h=>F6 A8 A8 A8 (.a 5<|.ca (aAW j).view<|.ca (aAW q).view<|.a 1<|.nil _)<|CY
def aEG (j:Ah)(q:Bj)(z:(Int->AL Int)):Int->AL Int:=λu=>(cond (u<(j.length:Int)) ((Ak j u).bind λI=>(cond (!(I.Room.toList==q.Id.toList)) (some 13) (z (Au (u+1))))) (some 0))
def aJc (j:Ah)(q:Bj):Int->AL Int:=bn (aEG j q) Am
def fG (q:Bj)(j:Ah):AL Int:=(Nk j).bind λu=>(cond (u != 0) (some u) (aJc j q 0))
def aL6 :=DW func90 rfl fG Fb BI AX λq j r h=>AZ<|Aa<|AO h λu z h=>AP 1<|.X (aVg z)<|AZ<|BA h CB λh=>Aa<|AP 1<|.Z (BJ Ap j)<|Aj<|Dp (λu=>⟨Az 25 [(2,.ptr 0 0),(13,BI j),(14,AX (j.length:Int)),(15,AX u)],[.box (Ar (CJ q))],0⟩) _ _ _ (Ae [AU 0]) h<|λu z I J h=>AZ<|Aa<|Bo h (λh=>Aa<|Aj<|AO h λu z h=>BM<|.Z (BD Ap z)<|a0G) λh=>El
def a2A (j:Int):AL AV:=dJ 8 j
def agX {p1 r}(h:a2A p1=some r):E8 256 [.d (.lit (.slice none 0 0)),AX p1] [] (.aS 0) [(Cb r)]:=
 akn Ad p1 r h
def a3Y (j:QV)(q:(AV->Int->AL AV)):AV->Int->AL AV:=λJ u=>(cond (u<(j.length:Int)) ((Ak j u).bind λz=>(D5 8 J z).bind λI=>q I (Au (u+1))) (some J))
def aVH (j:QV):AV->Int->AL AV:=aQ (a3Y j) Am
def a6r (j:QV)(k3:(Int->Int->AL AV)):Int->Int->AL AV:=λq v2=>(bif v2<(j.length:Int) then(Ak j v2).bind λu=>(cond ((Au (q+(u.length:Int)))<0) none (k3 (Au (q+(u.length:Int))) (Au (v2+1))))else(a2A q).bind λz=>aVH j z 0)
def aLa (j:QV):Int->Int->AL AV:=aQ (a6r j) Am
def a1X (j:QV):AL AV:=aLa j 0 0
def aho {nD r}(h:a1X nD=some r):E8 174 [.d ((BP (BP Ad)) nD)] [] (.aS 0) [(Cb r)]:=by
 refine Ec func174 rfl ?_;unfold a1X at h;refine BM<|.f (CV 3 1)<|.aY<|AZ<|Aa<|AP 1<|.Z (BJ (BP Ad) nD)<|Aj ?_;refine DV (λz v2=>⟨Az 36 [(0,.d ((BP (BP Ad)) nD)),(3,AX z),(9,.d ((BP (BP Ad)) nD)),(10,AX (nD.length:Int)),(11,AX v2)],[],0⟩) _ _ _ _ (Ae []) h ?_;clear h;intro U k3 I z v2 h;unfold a6r at h;refine AZ<|Aa<|Df h (λh=>?_) λh=>?_
 ·refine F9<|Aa<|Aj ?_;obtain⟨Y,J,h⟩:=Du h;refine BM<|.Z (BD (BP Ad) J)<|AP 2<|.Z (BJ Ad Y)<|AZ<|Df h (λh=>?_) λh=>?_
  ·cases h
  refine F9<|CU<|.a 2<|.nil ?_;exact I _ _ _ (Ae []) h
 refine CZ ?_;obtain⟨x7,L,h⟩:=Du h;refine AP 1<|.Y (x:=.aS 0) (Jt [.d (.lit (.slice none 0 0)),AX z] (agX L))<|Aa<|AP 1<|.Z (BJ (BP Ad) nD)<|Aj ?_;refine DV (λM O=>⟨Az 36 [(6,.aS 0),(25,.d ((BP (BP Ad)) nD)),(26,AX (nD.length:Int)),(27,AX O)],[(Cb M)],0⟩) _ _ _ _ (Ae [AU 0]) h ?_;clear h;intro Z k10 j M O h;unfold a3Y at h;refine AZ<|Aa<|Df h (λh=>?_) λh=>?_
 ·refine F9<|Aa<|Aj ?_;obtain⟨x12,q,h⟩:=Du h;refine BM<|.p (BD (BP Ad) q)<|.aM 2 ?_;obtain⟨x13,u,h⟩:=Du h;refine CU<|.a 2<|.f (Dk (k:=0) Ad u Dy A8 (λ_=>rfl) Bl)<|.aN<|CU<|.a 2<|.nil ?_;exact j _ _ _ (Ae [AU 1]) h
 refine CZ<|BM<|.aM 2 ?_;rw[←CM h];exact .ret (Ez [AU 0])
def aA7 (j:AQ)(q:F5):AL AY:=some (j.Id==q.Id)
def ac4 :=DW func173 rfl aA7 DL (λj=>.d (.ref (En j).cells 0)) Ag λq j r h=>dF
def aKf (z:AV)(q:(AA (Int×Int)))(j:F5)(I:Int)(x7:AV)(M:Int)(O:(Int->Bj->(AA (Int×Int))->AL AY))(v9:Bj)(U:(Int->AL AY)):Int->AL AY:=λu=>(bif u<(z.length:Int) then(Ak z u).bind λJ=>(cond (!((DF (EM q j.Id I) J).isSome)) (some true) (some (decide (((DF (EM q j.Id I) J).getD 0)>=I)))).bind λY=>(cond Y (some false) (U (Au (u+1))))else(Ak x7 M).bind λL=>(cond (!((L==2)==(j.Status==2))) (some true) ((cond (!(L==2)) (some (j.Status != 3)) (some false)).bind λZ=>(cond Z (some (j.Status != 4)) (some false)).bind λx37=>some x37)).bind λx33=>(cond x33 (some false) (O (Au (I+1)) v9 (EM q j.Id I))))
def aQI (j:AV)(q:(AA (Int×Int)))(u:F5)(J:Int)(L:AV)(z:Int)(I:(Int->Bj->(AA (Int×Int))->AL AY))(M:Bj):Int->AL AY:=bn (aKf j q u J L z I M) Am
def dY (u:Bj)(x7:AV)(L:(Int->Bj->(AA (Int×Int))->AL AY)):Int->Bj->(AA (Int×Int))->AL AY:=λI J z=>(cond (I<(u.Rows.length:Int)) ((Ak u.Rows I).bind λq=>(WH J.Events (λa0=>aA7 a0 q)).bind λj=>(cond (j<0) (some true) (some ((DF z q.Id).isSome))).bind λM=>(cond M (some true) (some (q.Pos != I))).bind λO=>(cond O (some true) (some (decide (j>=(x7.length:Int))))).bind λU=>(cond U (some false) ((Ak J.Events j).bind λY=>(Ak J.Events j).bind λZ=>(a1X [Y.bG,Z.bI]).bind λx24=>aQI x24 z q I x7 j L J 0))) (some true))
def anE (j:Bj)(q:AV):Int->Bj->(AA (Int×Int))->AL AY:=iG (dY j q) Am
def vK (j:Bj):AL AY:=(cond ((j.Rows.length:Int) != (j.Events.length:Int)) (some true) (some (j.Next != (j.Rows.length:Int)))).bind λq=>(cond q (some true) ((iT j.Events).bind λu=>some (decide (u>1)))).bind λz=>(cond z (some false) ((qW j.Events).bind λI=>anE j I 0 j []))
def alJ :=Dc func92 rfl vK Fb Ag λq r h=>AZ<|Aa<|AP 2<|.p (BJ En q.Rows)<|.a 2<|.p (BJ Ap q.Events)<|.a 1<|AO h λu j h=>.mg 22 7 (Ag u) (.bi j (k2:=λh=>.a 4<|.Z (BJ En q.Rows)<|Cc))<|.a 1<|AO h λu j h=>.mg 31 4 (Ag u) (DC j (k2:=λe i=>by subst e;have h:=i;exact AO h λu j h=>.a 2<|.X (aHL j)<|Cc))<|.aY<|BA h CB λh=>AO h λu j h=>AP 2<|.X (aVd j).view<|BM<|.Y (x:=.mp 1) pI<|Aa<|AP 2<|.Z (BJ En q.Rows)<|Aj<|QY (λj z L=>⟨Az 138 [(1,.ptr 0 0),(3,Bf u),(4,.mp 1),(41,WU q.Rows),(42,AX (q.Rows.length:Int)),(43,AX j)],[.box (Ar (CJ z)),.map (List.map (CS D7 Ad) L)],0⟩) _ _ _ _ _ (Ae [AU 0,AU 1]) h<|λj z L M Y J h=>AZ<|Aa<|Bo h (λh=>Aa<|Aj<|AO h λj z h=>AP 1<|.Z (BD En z)<|AO h λz I h=>AP 2<|.conv _ (TK (cs:=Ar (En j)) 2 A8 A8)<|.p (x:=.d (.fn (.func 173) [] [(.ref (En j).cells 0)])) (Po [(.ref (En j).cells 0)] rfl)<|.X (xU Y.Events (λu=>aA7 u j) (.fn (.func 173) [] [(.ref (En j).cells 0)]) ⟨173,[(.ref (En j).cells 0)],rfl,aYF,λu z L=>ac4 L⟩ z I)<|Aa<|AP 3<|.Z (x:=.eP [AX ((DF J j.Id).getD 0),Ag ((DF J j.Id).isSome)]) (sB (k:=1) (key:=j.Id) (m:=J) Ad 0 Py IE zero3 A8 A8 A8)<|AP 2<|AO h λI O h=>.mg 61 2 (Ag I) (.bi O)<|.a 1<|AO h λI O h=>.mg 65 4 (Ag I) (DC O)<|.a 1<|AO h λI O h=>.mg 71 4 (Ag I) (DC O (k2:=λe i=>by subst e;have h:=i;exact .a 2<|.Z (BJ Ad u)<|Cc))<|.aY<|BA h CB λh=>AP 4<|.f (YB (k:=1) (key:=j.Id) (val:=M) (m:=J) Ad Py IE A8)<|.aY<|Aa<|Hq h λI O Z x11 U x13 h=>F6 A8 A8 A8 (.a 3<|.p (BD Ap O)<|.a 5<|.p (BD Ap x11)<|.a 2<|.p (EG a4K pz [(BP Ad) I.bG,(BP Ad) Z.bI])<|.ca (aho x13).view<|.p (BJ Ad U)<|.a 1<|.nil _)<|Aj<|Dp (λL=>⟨Az 138 [(1,.ptr 0 0),(3,Bf u),(4,.mp 1),(5,AX M),(6,.d (.ref (En j).cells 0)),(7,AX z),(41,WU q.Rows),(42,AX (q.Rows.length:Int)),(43,AX M),(93,Bf U),(94,AX (U.length:Int)),(95,AX L)],[.box (Ar (CJ Y)),.map (List.map (CS D7 Ad) (EM J j.Id M))],0⟩) _ _ _ (Ae [AU 0,AU 1]) h<|λu z Y I h=>AZ<|Aa<|Bo h (λh=>Aa<|Aj<|AO h λu z h=>BM<|.Z (BD Ad z)<|AP 2<|.Z (x:=.eP [AX ((DF (EM J j.Id M) u).getD 0),Ag ((DF (EM J j.Id M) u).isSome)]) (sB (k:=1) (key:=u) (m:=(EM J j.Id M)) Ad 0 Py IE zero3 A8 A8 A8)<|AP 2<|AO h λu j h=>.mg 107 4 (Ag u) (.bi j)<|.aY<|BA h CB λh=>Cx<|Y _ _ (Ae [AU 0,AU 1]) h) λh=>CZ<|AO h λu j h=>AP 2<|.Z (BD Ad j)<|AP 5<|AO h λu j h=>.mg 123 13 (Ag u) (.bi j (k2:=λh=>.a 2<|AO h λu j h=>.mg 126 4 (Ag u) (.bi j)<|.a 1<|AO h λu j h=>.mg 132 3 (Ag u) (DC j)<|.aW<|Cc))<|.aY<|BA h CB λh=>Cx<|L _ _ _ _ (Ae [AU 0,AU 1]) h) λh=>El
def a3o (j:AQ)(q:Bj):AL AY:=(ND q.Events j.Id).bind λu=>some u.2
def aiH :=DW func93 rfl a3o DL (λj=>.d (.ref (CJ j).cells 0)) Ag λq j r h=>AZ<|AO h λz u h=>AP 4<|.X (PU u)<|AZ<|CY
def a0b (j:Ah)(q:(AQ->AL AY)):AL AY:=(WH j q).bind λu=>some (decide (u>=0))
def aL3 q u j(z:U0 Aq Ap E9 j u)r(h:a0b q u=some r):E8 95 [BI q,.d j] [] (Ag r) []:=Ec func95 rfl<|AZ<|AO h λI J h=>AP 2<|.X (xU q u j z I J)<|CY
def rD (q:Bj)(j:Bj):AL AY:=(a0b q.Waiting (λa0=>a3o a0 j)).bind λu=>some u
def akI :=DW func94 rfl rD (λu=>.d (.ref (CJ u).cells 0)) (λj=>.d (.ref [(.fn (.func 93) [] [(.ref (CJ j).cells 0)])] 0)) Ag λu j r h=>AZ<|AO h λq z h=>AP 3<|.X (aL3 u.Waiting (λq=>a3o q j) (.fn (.func 93) [] [(.ref (CJ j).cells 0)]) ⟨93,[(.ref (CJ j).cells 0)],rfl,aeT,λq z I=>aiH I⟩ q z)<|CY
def a6v (j:AQ)(q:Bj):AL AY:=(jP q.Events j).bind λu=>some u
def ahx :=DW func97 rfl a6v DL (λj=>.d (.ref (CJ j).cells 0)) Ag λq j r h=>AZ<|AO h λz u h=>AP 3<|.X (aIz u)<|CY
def vW (j:Bj):AL AY:=(a0b j.Waiting (λa0=>a6v a0 j)).bind λq=>some q
def aZj :=Dc func96 rfl vW (λj=>.d (.ref (CJ j).cells 0)) Ag λj r h=>AZ<|AO h λq u h=>AP 2<|.p (x:=.d (.fn (.func 97) [] [(.ref (CJ j).cells 0)])) (Po [(.ref (CJ j).cells 0)] rfl)<|.X (aL3 j.Waiting (λq=>a6v q j) (.fn (.func 97) [] [(.ref (CJ j).cells 0)]) ⟨97,[(.ref (CJ j).cells 0)],rfl,aZE,λq u z=>ahx z⟩ q u)<|CY
def vS (j:Bj):AL AY:=some (decide ((j.Waiting.length:Int)>200))
def aYc :=Dc func98 rfl vS (λj=>.d (.ref (CJ j).cells 0)) Ag λj r h=>AZ<|AP 2<|.Z (BJ Ap j.Waiting)<|CY
def aXD (j:AV)(q:AV)(k3:(Int->AL AY)):Int->AL AY:=λv2=>(cond (v2<(j.length:Int)) ((Ak j v2).bind λu=>(Ak q v2).bind λz=>(cond (u != z) (some false) (k3 (Au (v2+1))))) (some true))
def aj6 (j:AV)(q:AV):Int->AL AY:=bn (aXD j q) Am
def aGt (j:AV)(q:AV):AL AY:=(cond ((j.length:Int) != (q.length:Int)) (some false) (aj6 j q 0))
def aQE :=DW func100 rfl aGt Bf Bf Ag λj q r h=>AZ<|Aa<|AP 1<|.p (BJ Ad j)<|.a 1<|.Z (BJ Ad q)<|BA h CB λh=>Aa<|AP 1<|.Z (BJ Ad j)<|Aj<|Dp (λu=>⟨Az 26 [(0,Bf j),(1,Bf q),(12,AX (j.length:Int)),(13,AX u)],[],0⟩) _ _ _ (Ae []) h<|λu z I J h=>AZ<|Aa<|Bo h (λh=>Aa<|Aj<|AZ<|Bv h λu z J L h=>F6 A8 A8 A8 (.a 2<|.p (BD Ad z)<|.a 3<|.p (BD Ad L)<|.a 2<|.nil _)<|BA h CB λh=>SQ) λh=>El
def aEN (j:BR)(q:BR)(k3:(Int->AL AY)):Int->AL AY:=λv2=>(cond (v2<(j.length:Int)) ((Ak j v2).bind λu=>(Ak q v2).bind λz=>(cond (!aAj u z) (some false) (k3 (Au (v2+1))))) (some true))
def aQu (j:BR)(q:BR):Int->AL AY:=bn (aEN j q) Am
def a9G (j:BR)(q:BR):AL AY:=(cond ((j.length:Int) != (q.length:Int)) (some false) (aQu j q 0))
def ac2 :=DW func102 rfl a9G Dh Dh Ag λj q r h=>AZ<|Aa<|AP 1<|.p (BJ BO j)<|.a 1<|.Z (BJ BO q)<|BA h CB λh=>Aa<|AP 1<|.Z (BJ BO j)<|Aj<|Dp (λu=>⟨Az 26 [(1,Dh q),(12,Dh j),(13,AX (j.length:Int)),(14,AX u)],[],0⟩) _ _ _ (Ae []) h<|λu z J I h=>AZ<|Aa<|Bo h (λh=>Aa<|Aj<|AO h λu z h=>AP 1<|.Z (BD BO z)<|AO h λz I h=>F6 A8 A8 A8 (.a 3<|.p (BD BO I)<|.a 1<|.p (x:=(Ag (!aAj u z))) (jw [.int .i64 u.Kind,.string u.Key,.int .i64 u.Id] [.int .i64 z.Kind,.string z.Key,.int .i64 z.Id] (al9 u z) Bl aZm)<|.nil _)<|BA h CB λh=>XD) λh=>El
def aIE (j:AY):AL AY:=some j
def a1a (j:Bj):AL AY:=(nV j.Events).bind λq=>(aGt j.uP q).bind λu=>(cond (!u) (aIE true) ((ny j.Events).bind λz=>(a9G j.State z).bind λI=>aIE (!I)))
def amA :=Dc func99 rfl a1a (λz=>.d (.ref (CJ z).cells 0)) Ag λz r h=>AZ<|Cm (λs=>∃(j:AY),CO s ⟨Az 18 [(1,Ag j)],[],0⟩/\aIE j=some r) (by rintro s ⟨j,hs,h⟩;exact D6 hs<|CY)<|λI=>Bv h λU J Y L h=>EX h (λq h=>DN A8 A8 A8 (.a 4<|.ca (aKX J).view<|.ca (aQE L)<|.a 1<|.c (BF some q)<|.a 9<|.nil _)<|I _ ⟨true,Ae [],h⟩) λq h=>Bv h λZ M O u h=>DN A8 A8 A8 (.a 4<|.ca (aKX J).view<|.ca (aQE L)<|.a 1<|.c (BF some q)<|.a 4<|.ca (aWR M)<|.ca (ac2 u)<|.a 3<|.nil _)<|I _ ⟨(!O),Ae [],h⟩
def wF (j:Bj):AL Int:=(gJ j.Id).bind λO=>(cond (O != 0) (some 3) ((fG j j.Events).bind λJ=>(cond (J != 0) (some J) ((Zq j.Events).bind λL=>(cond (L != 0) (some L) ((vK j).bind λU=>(cond (!U) (some 6) ((fG j j.Waiting).bind λM=>(cond (M != 0) (some M) (((rD j j)).bind λq=>(cond q (some 4) (((vW j)).bind λu=>(cond u (some 26) (((vS j)).bind λz=>(cond z (some 29) (((a1a j)).bind λI=>(cond I (some 6) (some 0))))))))))))))))))
def aBG :=Dc func28 rfl wF Fb AX λj r h=>AZ<|Aa<|AO h λu q h=>AP 2<|.X (aAp q)<|BA h CB λh=>Aa<|AO h λu q h=>AP 3<|.X (aL6 q)<|AZ<|BA h CB λh=>Aa<|AO h λu q h=>AP 2<|.X (aCf q)<|AZ<|BA h CB λh=>Aa<|AO h λu q h=>AP 1<|.X (alJ q)<|BA h CB λh=>Aa<|AO h λu q h=>AP 3<|.X (aL6 q)<|AZ<|BA h CB λh=>BM<|.conv _ (TK (cs:=Ar (CJ j)) 0 A8 A8)<|.Z (x:=.d (.fn (.func 93) [] [(.ref (CJ j).cells 0)])) (Po [(.ref (CJ j).cells 0)] rfl)<|Aa<|BM<|.conv _ (TK (cs:=[.d (.fn (.func 93) [] [(.ref (CJ j).cells 0)])]) 1 A8 A8)<|.p (x:=.d (.fn (.func 94) [] [(.ref (CJ j).cells 0),(.ref [(.fn (.func 93) [] [(.ref (CJ j).cells 0)])] 0)])) (Po [(.ref (CJ j).cells 0),(.ref [(.fn (.func 93) [] [(.ref (CJ j).cells 0)])] 0)] rfl)<|.a 1<|.p (x:=.d (.fn (.func 96) [] [(.ref (CJ j).cells 0)])) (Po [(.ref (CJ j).cells 0)] rfl)<|.a 1<|.p (x:=.d (.fn (.func 98) [] [(.ref (CJ j).cells 0)])) (Po [(.ref (CJ j).cells 0)] rfl)<|.a 1<|.p (x:=.d (.fn (.func 99) [] [(.ref (CJ j).cells 0)])) (Po [(.ref (CJ j).cells 0)] rfl)<|.a 1<|.p (EG ajC aG5 [(.agg [(Ad 4),(.fn (.func 94) [] [(.ref (CJ j).cells 0),(.ref [(.fn (.func 93) [] [(.ref (CJ j).cells 0)])] 0)])]),(.agg [(Ad 26),(.fn (.func 96) [] [(.ref (CJ j).cells 0)])]),(.agg [(Ad 29),(.fn (.func 98) [] [(.ref (CJ j).cells 0)])]),(.agg [(Ad 6),(.fn (.func 99) [] [(.ref (CJ j).cells 0)])])])<|.Z (x:=(AX 4)) (aPI (xs:=[(.agg [(Ad 4),(.fn (.func 94) [] [(.ref (CJ j).cells 0),(.ref [(.fn (.func 93) [] [(.ref (CJ j).cells 0)])] 0)])]),(.agg [(Ad 26),(.fn (.func 96) [] [(.ref (CJ j).cells 0)])]),(.agg [(Ad 29),(.fn (.func 98) [] [(.ref (CJ j).cells 0)])]),(.agg [(Ad 6),(.fn (.func 99) [] [(.ref (CJ j).cells 0)])])]) nI)<|Aj<|Bq.rounds 5<|Bq.round<|AZ<|Aa<|OG A8<|F9<|Aa<|Aj<|BM<|.Z (x:=.d (.ref [(Ad 4),(.fn (.func 94) [] [(.ref (CJ j).cells 0),(.ref [(.fn (.func 93) [] [(.ref (CJ j).cells 0)])] 0)])] 0)) (yh (k:=.i64) (i:=0) (xs:=[(.agg [(Ad 4),(.fn (.func 94) [] [(.ref (CJ j).cells 0),(.ref [(.fn (.func 93) [] [(.ref (CJ j).cells 0)])] 0)])]),(.agg [(Ad 26),(.fn (.func 96) [] [(.ref (CJ j).cells 0)])]),(.agg [(Ad 29),(.fn (.func 98) [] [(.ref (CJ j).cells 0)])]),(.agg [(Ad 6),(.fn (.func 99) [] [(.ref (CJ j).cells 0)])])]) (el:=(.agg [(Ad 4),(.fn (.func 94) [] [(.ref (CJ j).cells 0),(.ref [(.fn (.func 93) [] [(.ref (CJ j).cells 0)])] 0)])])) (size:=2) nI zf Bl rfl rfl)<|AO h λu q h=>AP 2<|.p (a3p (d:=(.fn (.func 94) [] [(.ref (CJ j).cells 0),(.ref [(.fn (.func 93) [] [(.ref (CJ j).cells 0)])] 0)])) (⟨94,[(.ref (CJ j).cells 0),(.ref [(.fn (.func 93) [] [(.ref (CJ j).cells 0)])] 0)],rfl,aXC,fun  u q=>akI q⟩:Res Aq E9 (.fn (.func 94) [] [(.ref (CJ j).cells 0),(.ref [(.fn (.func 93) [] [(.ref (CJ j).cells 0)])] 0)]) (rD j j)) q)<|.aY<|BA h CB λh=>Cx<|Bq.round<|AZ<|Aa<|OG A8<|F9<|Aa<|Aj<|BM<|.Z (x:=.d (.ref [(Ad 26),(.fn (.func 96) [] [(.ref (CJ j).cells 0)])] 0)) (yh (k:=.i64) (i:=1) (xs:=[(.agg [(Ad 4),(.fn (.func 94) [] [(.ref (CJ j).cells 0),(.ref [(.fn (.func 93) [] [(.ref (CJ j).cells 0)])] 0)])]),(.agg [(Ad 26),(.fn (.func 96) [] [(.ref (CJ j).cells 0)])]),(.agg [(Ad 29),(.fn (.func 98) [] [(.ref (CJ j).cells 0)])]),(.agg [(Ad 6),(.fn (.func 99) [] [(.ref (CJ j).cells 0)])])]) (el:=(.agg [(Ad 26),(.fn (.func 96) [] [(.ref (CJ j).cells 0)])])) (size:=2) nI zf Bl rfl rfl)<|AO h λu q h=>AP 2<|.p (a3p (d:=(.fn (.func 96) [] [(.ref (CJ j).cells 0)])) (⟨96,[(.ref (CJ j).cells 0)],rfl,aXy,fun  u q=>aZj q⟩:Res Aq E9 (.fn (.func 96) [] [(.ref (CJ j).cells 0)]) (vW j)) q)<|.aY<|BA h CB λh=>Cx<|Bq.round<|AZ<|Aa<|OG A8<|F9<|Aa<|Aj<|BM<|.Z (x:=.d (.ref [(Ad 29),(.fn (.func 98) [] [(.ref (CJ j).cells 0)])] 0)) (yh (k:=.i64) (i:=2) (xs:=[(.agg [(Ad 4),(.fn (.func 94) [] [(.ref (CJ j).cells 0),(.ref [(.fn (.func 93) [] [(.ref (CJ j).cells 0)])] 0)])]),(.agg [(Ad 26),(.fn (.func 96) [] [(.ref (CJ j).cells 0)])]),(.agg [(Ad 29),(.fn (.func 98) [] [(.ref (CJ j).cells 0)])]),(.agg [(Ad 6),(.fn (.func 99) [] [(.ref (CJ j).cells 0)])])]) (el:=(.agg [(Ad 29),(.fn (.func 98) [] [(.ref (CJ j).cells 0)])])) (size:=2) nI zf Bl rfl rfl)<|AO h λu q h=>AP 2<|.p (a3p (d:=(.fn (.func 98) [] [(.ref (CJ j).cells 0)])) (⟨98,[(.ref (CJ j).cells 0)],rfl,amv,fun  u q=>aYc q⟩:Res Aq E9 (.fn (.func 98) [] [(.ref (CJ j).cells 0)]) (vS j)) q)<|.aY<|BA h CB λh=>Cx<|Bq.round<|AZ<|Aa<|OG A8<|F9<|Aa<|Aj<|BM<|.Z (x:=.d (.ref [(Ad 6),(.fn (.func 99) [] [(.ref (CJ j).cells 0)])] 0)) (yh (k:=.i64) (i:=3) (xs:=[(.agg [(Ad 4),(.fn (.func 94) [] [(.ref (CJ j).cells 0),(.ref [(.fn (.func 93) [] [(.ref (CJ j).cells 0)])] 0)])]),(.agg [(Ad 26),(.fn (.func 96) [] [(.ref (CJ j).cells 0)])]),(.agg [(Ad 29),(.fn (.func 98) [] [(.ref (CJ j).cells 0)])]),(.agg [(Ad 6),(.fn (.func 99) [] [(.ref (CJ j).cells 0)])])]) (el:=(.agg [(Ad 6),(.fn (.func 99) [] [(.ref (CJ j).cells 0)])])) (size:=2) nI zf Bl rfl rfl)<|AO h λu q h=>AP 2<|.p (a3p (d:=(.fn (.func 99) [] [(.ref (CJ j).cells 0)])) (⟨99,[(.ref (CJ j).cells 0)],rfl,aik,fun  u q=>amA q⟩:Res Aq E9 (.fn (.func 99) [] [(.ref (CJ j).cells 0)]) (a1a j)) q)<|.aY<|BA h CB λh=>Cx<|Bq.round<|AZ<|Aa<|Nu A8<|El
def aiT :AQ:={ Eo with Room:=aDZ,bU:=aHo,Kind:=1,State:=true,Time:=1,Depth:=1 }
def Qb (j:AY):AL AY:=some j
def a6X  :AL AY:=(aKd aiT aQZ).bind λq=>(aKd ({ Eo with Room:=aDZ,bU:=aHo,Kind:=2,State:=true,Key:=aHo,Time:=2,Depth:=2,bG:=[q.Id],bI:=[q.Id],Content:={ Ew with N:=3 } }) aQZ).bind λO=>(aVG aDZ).bind λU=>(Wh U.1 O).bind λu=>(Wh u.1 q).bind λj=>(Wh j.1 Eo).bind λY=>(cond ((j.1.Rows.length:Int) != 2) (some true) ((aK5 u.1).bind λZ=>some ((Z.length:Int) != 1))).bind λx7=>(cond x7 (some false) ((Yc j.1 O.Id).bind λz=>(cond (U.2==0) (cond (u.2.2==0) (cond (j.2.2==0) (cond (Y.2.2 != 0) (cond (u.2.1==1) (cond (j.2.1==4) (cond (Y.2.1==0) ((Ak j.1.Rows 0).bind λI=>(cond (I.Id==q.Id) (cond z.2 (cond (z.1.Pos==1) (cond ((j.1.State.length:Int)==2) (cond ((j.1.Waiting.length:Int)==0) ((wF j.1).bind λJ=>(cond (J==0) ((aK5 u.1).bind λL=>(Ak L 0).bind λM=>Qb (M==q.Id)) (Qb false))) (Qb false)) (Qb false)) (Qb false)) (Qb false)) (Qb false))) (Qb false)) (Qb false)) (Qb false)) (Qb false)) (Qb false)) (Qb false)) (Qb false))))
def aLq r(h:a6X=some r):E8 26 [] [] (Ag r) []:=Ec func26 rfl<|AZ<|AO h λj u h=>AP 1<|.X (aPx u)<|AO h λu O h=>AP 2<|.p (EG Dy zero3 [Ad j.Id])<|.a 2<|.p (EG Dy zero3 [Ad j.Id])<|.a 2<|.X (aPx O)<|AO h λO x4 h=>BM<|.X (agl x4)<|AO h λx4 q h=>AP 2<|.X (a6d q)<|AO h λO q h=>AP 2<|.X (a6d q)<|AO h λq z h=>AP 2<|.X (a6d z)<|Aa<|AP 2<|.p (BJ En O.1.Rows)<|.a 1<|AO h λq z h=>.mg 56 5 (Ag q) (.bi z (k2:=λh=>AO h λj u h=>.a 1<|.ca (aUg u)<|.Z (BJ Ad j)<|Cc))<|.aY<|BA h CB λh=>AO h λq z h=>AP 3<|.X (aBx z)<|Cm (λs=>∃(v12:AY),CO s ⟨Az 139 [(0,Ag v12)],[],0⟩/\Qb v12=some r) (by rintro s ⟨v12,hs,h⟩;exact D6 hs<|CY)<|λu=>EX h (λq h=>EX h (λz h=>EX h (λU h=>EX h (λZ h=>EX h (λx9 h=>EX h (λI h=>EX h (λJ h=>AO h λL M h=>EX h (λL h=>EX h (λY h=>EX h (λx15 h=>EX h (λx16 h=>EX h (λx17 h=>AO h λx18 x19 h=>EX h (λx20 h=>Bv h λx21 x22 x23 x24 h=>DN A8 A8 A8 (.a 2<|.c (BF some q)<|.a 3<|.c (BF some z)<|.a 3<|.c (BF some U)<|.a 3<|.c (BF some Z)<|.a 3<|.c (BF some x9)<|.a 3<|.c (BF some I)<|.a 3<|.c (BF some J)<|.a 2<|.p (BD En M)<|.a 6<|.c (BF some L)<|.a 2<|.c (BF some Y)<|.a 4<|.c (BF some x15)<|.a 2<|.p (BJ BO O.1.State)<|.a 2<|.c (BF some x16)<|.a 2<|.p (BJ Ap O.1.Waiting)<|.a 2<|.c (BF some x17)<|.a 1<|.ca (aBG x19)<|.a 2<|.c (BF some x20)<|.a 1<|.ca (aUg x22)<|.p (BD Ad x24)<|.a 6<|.nil _)<|u _ ⟨(x23==j.Id),Ae [],h⟩) λj h=>DN A8 A8 A8 (.a 2<|.c (BF some q)<|.a 3<|.c (BF some z)<|.a 3<|.c (BF some U)<|.a 3<|.c (BF some Z)<|.a 3<|.c (BF some x9)<|.a 3<|.c (BF some I)<|.a 3<|.c (BF some J)<|.a 2<|.p (BD En M)<|.a 6<|.c (BF some L)<|.a 2<|.c (BF some Y)<|.a 4<|.c (BF some x15)<|.a 2<|.p (BJ BO O.1.State)<|.a 2<|.c (BF some x16)<|.a 2<|.p (BJ Ap O.1.Waiting)<|.a 2<|.c (BF some x17)<|.a 1<|.ca (aBG x19)<|.a 2<|.c (BF some j)<|.a 9<|.nil _)<|u _ ⟨false,Ae [],h⟩) λj h=>DN A8 A8 A8 (.a 2<|.c (BF some q)<|.a 3<|.c (BF some z)<|.a 3<|.c (BF some U)<|.a 3<|.c (BF some Z)<|.a 3<|.c (BF some x9)<|.a 3<|.c (BF some I)<|.a 3<|.c (BF some J)<|.a 2<|.p (BD En M)<|.a 6<|.c (BF some L)<|.a 2<|.c (BF some Y)<|.a 4<|.c (BF some x15)<|.a 2<|.p (BJ BO O.1.State)<|.a 2<|.c (BF some x16)<|.a 2<|.p (BJ Ap O.1.Waiting)<|.a 2<|.c (BF some j)<|.a 14<|.nil _)<|u _ ⟨false,Ae [],h⟩) λj h=>DN A8 A8 A8 (.a 2<|.c (BF some q)<|.a 3<|.c (BF some z)<|.a 3<|.c (BF some U)<|.a 3<|.c (BF some Z)<|.a 3<|.c (BF some x9)<|.a 3<|.c (BF some I)<|.a 3<|.c (BF some J)<|.a 2<|.p (BD En M)<|.a 6<|.c (BF some L)<|.a 2<|.c (BF some Y)<|.a 4<|.c (BF some x15)<|.a 2<|.p (BJ BO O.1.State)<|.a 2<|.c (BF some j)<|.a 20<|.nil _)<|u _ ⟨false,Ae [],h⟩) λj h=>DN A8 A8 A8 (.a 2<|.c (BF some q)<|.a 3<|.c (BF some z)<|.a 3<|.c (BF some U)<|.a 3<|.c (BF some Z)<|.a 3<|.c (BF some x9)<|.a 3<|.c (BF some I)<|.a 3<|.c (BF some J)<|.a 2<|.p (BD En M)<|.a 6<|.c (BF some L)<|.a 2<|.c (BF some Y)<|.a 4<|.c (BF some j)<|.a 26<|.nil _)<|u _ ⟨false,Ae [],h⟩) λj h=>DN A8 A8 A8 (.a 2<|.c (BF some q)<|.a 3<|.c (BF some z)<|.a 3<|.c (BF some U)<|.a 3<|.c (BF some Z)<|.a 3<|.c (BF some x9)<|.a 3<|.c (BF some I)<|.a 3<|.c (BF some J)<|.a 2<|.p (BD En M)<|.a 6<|.c (BF some L)<|.a 2<|.c (BF some j)<|.a 31<|.nil _)<|u _ ⟨false,Ae [],h⟩) λj h=>DN A8 A8 A8 (.a 2<|.c (BF some q)<|.a 3<|.c (BF some z)<|.a 3<|.c (BF some U)<|.a 3<|.c (BF some Z)<|.a 3<|.c (BF some x9)<|.a 3<|.c (BF some I)<|.a 3<|.c (BF some J)<|.a 2<|.p (BD En M)<|.a 6<|.c (BF some j)<|.a 34<|.nil _)<|u _ ⟨false,Ae [],h⟩) λj h=>DN A8 A8 A8 (.a 2<|.c (BF some q)<|.a 3<|.c (BF some z)<|.a 3<|.c (BF some U)<|.a 3<|.c (BF some Z)<|.a 3<|.c (BF some x9)<|.a 3<|.c (BF some I)<|.a 3<|.c (BF some j)<|.a 44<|.nil _)<|u _ ⟨false,Ae [],h⟩) λj h=>DN A8 A8 A8 (.a 2<|.c (BF some q)<|.a 3<|.c (BF some z)<|.a 3<|.c (BF some U)<|.a 3<|.c (BF some Z)<|.a 3<|.c (BF some x9)<|.a 3<|.c (BF some j)<|.a 48<|.nil _)<|u _ ⟨false,Ae [],h⟩) λj h=>DN A8 A8 A8 (.a 2<|.c (BF some q)<|.a 3<|.c (BF some z)<|.a 3<|.c (BF some U)<|.a 3<|.c (BF some Z)<|.a 3<|.c (BF some j)<|.a 52<|.nil _)<|u _ ⟨false,Ae [],h⟩) λj h=>DN A8 A8 A8 (.a 2<|.c (BF some q)<|.a 3<|.c (BF some z)<|.a 3<|.c (BF some U)<|.a 3<|.c (BF some j)<|.a 56<|.nil _)<|u _ ⟨false,Ae [],h⟩) λj h=>DN A8 A8 A8 (.a 2<|.c (BF some q)<|.a 3<|.c (BF some z)<|.a 3<|.c (BF some j)<|.a 60<|.nil _)<|u _ ⟨false,Ae [],h⟩) λj h=>DN A8 A8 A8 (.a 2<|.c (BF some q)<|.a 3<|.c (BF some j)<|.a 64<|.nil _)<|u _ ⟨false,Ae [],h⟩) λj h=>DN A8 A8 A8 (.a 2<|.c (BF some j)<|.a 68<|.nil _)<|u _ ⟨false,Ae [],h⟩
def uZ (j:AQ):AL (AQ×Int):=(KY j).bind λq=>(cond (q != 0) (some (Eo,q)) (some (j,0)))
def fO (j:AQ):AL (AQ×Int):=(Rz j).bind λq=>(cond (!q) ((Y5 j).bind λu=>uZ u) (uZ j))
def aXG :=Dc func83 rfl fO DL (λr=>.eP [DL r.1,AX r.2]) λj r h=>AZ<|AZ<|Cm (λs=>∃(q:AQ),CO s ⟨Az 19 [(2,.ptr 0 0),(4,.ptr 1 0)],[.box (Ar (Ap Eo)),.box (Ar (Ap q))],0⟩/\uZ q=some r) (by rintro s ⟨q,hs,h⟩;exact D6 hs<|Aa<|AO h λz u h=>AP 1<|.X (aLJ u)<|AZ<|BA h (λh=>AZ<|Eb<|by rw[←CM h];exact⟨[DL Eo,AX z],[],⟨⟨0,Ar (Ap Eo),true,29,A8,A8,A8,Gg,DT A8,Ls,A8⟩,FU A8,trivial⟩,A8,A8,A8⟩) λh=>AZ<|Eb<|by rw[←CM h];exact⟨[DL q,AX 0],[],⟨⟨0,Ar (Ap q),true,29,A8,A8,A8,Gg,DT A8,Ls,A8⟩,FU A8,trivial⟩,A8,A8,A8⟩)<|λK4=>AO h λz u h=>AP 1<|.X (X4 u)<|BA h (λh=>AO h λz u h=>CU<|.a 1<|.ca (Vp u)<|.aN<|K4 _ ⟨z,Ae [AU 1,AU 2],h⟩) λh=>K4 _ ⟨j,Ae [AU 1,AU 2],h⟩
def a2o (j:Ah):AL (Ah×Int):=some (j,0)
def Vm (u:Int)(z:AQ)(I:(Int->Ah->AL (Ah×Int))):Int->Ah->AL (Ah×Int):=λj q=>(bif j>u then(Ak q (Au (j-1))).bind λJ=>(Ak q j).bind λL=>I (Au (j-1)) (q.set (j).toNat J)else(Ak q u).bind λM=>some (q.set (u).toNat z,0))
def aHF (q:Int)(j:AQ):Int->Ah->AL (Ah×Int):=aQ (Vm q j) Am
def vN (z:(Int->AL (Ah×Int)))(q:Int)(J:Ah)(j:AQ)(I:AY):AL (Ah×Int):=(cond I (z (Au (q+1))) ((D5 376 J [j]).bind λu=>aHF q j (Au ((u.length:Int)-1)) u))
def aEL (u:Ah)(J:Ah)(j:AQ)(z:(Int->AL (Ah×Int))):Int->AL (Ah×Int):=λq=>(cond (q<(u.length:Int)) ((Ak u q).bind λI=>vN z q J j (decide (I.Id<=j.Id))) (vN z q J j false))
def aJl (j:Ah)(u:Ah)(q:AQ):Int->AL (Ah×Int):=bn (aEL j u q) Am
def a0z (j:Ah)(q:AQ)(k2:(Int->AL (Ah×Int))):Int->AL (Ah×Int):=λI=>(bif I<(j.length:Int) then(Ak j I).bind λU=>(cond (!(U.Room.toList==q.Room.toList)) (some ([],13)) (k2 (Au (I+1))))else(D5 376 [] j).bind λu=>(ZB j q.Id).bind λz=>(cond (z>=0) ((Rz q).bind λJ=>(cond J ((Ak j z).bind λL=>(Rz L).bind λM=>some (!M)) (some false)).bind λO=>(cond O ((Ak u z).bind λY=>a2o (u.set (z).toNat q)) (a2o u))) (cond ((j.length:Int)>=2000) (some ([],29)) (aJl j u q 0))))
def aHC (j:Ah)(q:AQ):Int->AL (Ah×Int):=bn (a0z j q) Am
def VI (j:Ah)(q:AQ):AL (Ah×Int):=aHC j q 0
def aKW {cZ je r}(h:VI cZ je=some r):E8 85 [BI cZ,DL je] [] (.eP [.aS 0,AX r.2]) [(F8 r.1)]:=Ec func85 rfl<|AP 1<|.Y (CV 38 29)<|Aa<|AZ<|Aj<|Dp (λq=>⟨Az 93 [(0,BI cZ),(3,.ptr 0 0),(6,AX q)],[.box (Ar (Ap je))],0⟩) _ _ _ (Ae [AU 0]) h<|λq j u z h=>Aa<|AP 2<|.Z (BJ Ap cZ)<|Bo h (λh=>Aa<|Aj<|AO h λq j h=>F6 A8 A8 A8 (.a 2<|.p (BD Ap j)<|.a 5<|.nil _)<|BA h (λh=>BM<|.Y (CV 38 29)<|Jm) λh=>Cx<|u _ _ (Ae [AU 0]) h) λh=>CZ<|AO h λq j h=>BM<|.f (Ht IJ Md [])<|.a 1<|.Y (Dk (k:=1) Ap j IJ A8 (λ_=>rfl) Bl)<|Aa<|AO h λj u h=>AP 3<|.X (aD5 u)<|AZ<|BA h (λh=>Cm (λs=>∃(L:(AA AQ)),CO s ⟨Az 93 [(7,.aS 0)],[(F8 L)],0⟩/\a2o L=some r) (by rintro s ⟨L,hs,h⟩;exact D6 hs<|AZ<|UA)<|λu=>AO h λz I h=>AP 1<|.ca (X4 I)<|.a 1<|AO h λz I h=>.mg 37 6 (Ag z) (DC I (λe i=>by subst e;have h:=i;exact Bv h λq j u z h=>.a 2<|.p (BD Ap j)<|.a 1<|.X (X4 z)<|Cc))<|.aY<|BA h (λh=>AO h λz I h=>CU<|.a 3<|.p (IC (e':=38) (kd:=.i64) Ap I (k:=2) A8 Kv Gg)<|.f (V5 (e:=38) (size:=29) (v:=(DL je)) (k:=2) (i:=(j).toNat) (off:=0) (a':=je) Ap A8 (Gl I).2 A8 (Gg).size A8 (DT A8) A8 (λ_=>rfl))<|.nil<|u _ ⟨(q.set (j).toNat je),Ae [AU 2],h⟩) λh=>u _ ⟨q,Ae [AU 2],h⟩) λh=>Aa<|AP 1<|.Z (BJ Ap cZ)<|BA h (λh=>BM<|.Y (CV 38 29)<|iP) λh=>AZ<|Aa<|Aj<|Dp (λj=>⟨Az 93 [(0,BI cZ),(3,.ptr 0 0),(7,.aS 1),(9,AX j)],[.box (Ar (Ap je)),(F8 q)],0⟩) _ _ _ (Ae [AU 0,AU 2]) h<|λj u z I h=>Aa<|Cm (λs=>∃(J:AY),CO s ⟨Az 93 [(0,BI cZ),(3,.ptr 0 0),(7,.aS 1),(9,AX I),(65,Ag J)],[.box (Ar (Ap je)),(F8 q)],0⟩/\vN u I q je J=some r) (by rintro s ⟨J,hs,h⟩;exact D6 hs<|Bo h (λh=>Aj<|Cx<|z _ _ (Ae [AU 0,AU 1]) h) λh=>CZ<|AO h λq j h=>AP 2<|.p (EG IJ Md [Ap je])<|.Y (Dk (k:=1) Ap j IJ A8 (λ_=>rfl) Bl)<|Aa<|AP 1<|.Z (Kt (k:=2) (e':=38) (s:=29) Ap q A8 Kv)<|Aj<|DV (λq j=>⟨Az 93 [(3,.ptr 0 0),(7,.aS 1),(9,AX I),(10,AX q)],[.box (Ar (Ap je)),(F8 j)],0⟩) _ _ _ _ (Ae [AU 0,AU 2]) h<|λq j u z M h=>Aa<|AZ<|Bo h (λh=>Aa<|Aj<|Bv h λq j I M h=>CU<|.a 5<|.p (IC (e':=38) (kd:=.i64) Ap j (k:=1) A8 Kv Gg)<|.p (x:=(DL q)) (KC (e:=38) (size:=29) (k:=1) (i:=(Au (z-1)).toNat) (off:=0) Ap A8 A8 (Gl j).2 Gg (DT A8) aD1 rfl)<|.p (IC (e':=38) (kd:=.i64) Ap M (k:=1) A8 Kv Gg)<|.f (V5 (e:=38) (size:=29) (v:=(DL q)) (k:=1) (i:=(z).toNat) (off:=0) (a':=q) Ap A8 (Gl M).2 A8 (Gg).size A8 (DT A8) A8 (λ_=>rfl))<|.nil<|Cx<|u _ _ _ (Ae [AU 0,AU 1]) h) λh=>CZ<|AO h λq j h=>AP 3<|.p (IC (e':=38) (kd:=.i64) Ap j (k:=1) A8 Kv Gg)<|.f (V5 (e:=38) (size:=29) (v:=(DL je)) (k:=1) (i:=(I).toNat) (off:=0) (a':=je) Ap A8 (Gl j).2 A8 (Gg).size A8 (DT A8) A8 (λ_=>rfl))<|.aY<|AZ<|Jm)<|λq=>EX h (λj h=>AO h λu z h=>DN A8 A8 A8 (.a 2<|.p (BJ Ap cZ)<|.a 1<|.c (BF some j)<|.a 2<|.p (BD Ap z)<|.a 6<|.nil _)<|q _ ⟨(decide (u.Id<=je.Id)),Ae [AU 0,AU 1],h⟩) λj h=>DN A8 A8 A8 (.a 2<|.p (BJ Ap cZ)<|.a 1<|.c (BF some j)<|.a 9<|.nil _)<|q _ ⟨false,Ae [AU 0,AU 1],h⟩
def XB (j:Bj)(u:(Ah×Int))(M:G8)(z:F5):AL (Bj×Int):=(D5 32 [] j.Rows).bind λI=>(D5 32 I [z]).bind λq=>(XC u.1 M).bind λJ=>(qc u.1 M).bind λL=>some ({ { { { { j with Rows:=q }with Next:=Au ((({ j with Rows:=q }).Next)+1) }with Events:=u.1 }with uP:=J }with State:=L },0)
def eK (j:Bj)(q:AQ):AL (Bj×Int):=(cond ((j.Events.length:Int)>=2000) (some (j,29)) ((VI j.Events q).bind λu=>(cond (u.2 != 0) (some (j,u.2)) ((iQ u.1).bind λU=>(cond (U != 0) (some (j,15)) ((jC u.1).bind λz=>(XJ z q.Id).bind λO=>(cond (q.Kind==1) (some (O.1.Err==0)) (some false)).bind λY=>(cond Y ((tN j.Events).bind λI=>some (decide (I>0))) (some false)).bind λJ=>(cond J (some (j,17)) (cond (O.1.Err != 0) (XB j u z ({ (⟨j.Next,q.Id,4,false⟩:F5)with Status:=2 })) ((nZ u.1 j.State).bind λL=>(gW q L).bind λM=>(cond (M != 0) (XB j u z ({ (⟨j.Next,q.Id,4,false⟩:F5)with Status:=3 })) (XB j u z (⟨j.Next,q.Id,4,false⟩:F5))))))))))))
def aQe :=DW func87 rfl eK Fb DL (λr=>.eP [Fb r.1,AX r.2]) λj z r h=>AZ<|Aa<|AP 2<|.Z (BJ Ap j.Events)<|BA h (λh=>AZ<|Eb<|aSc) λh=>AO h λL I h=>AP 3<|.f (x:=.eP [.aS 3,AX L.2]) (EK [] [BI j.Events,DL z] (aKW I))<|.a 2<|.conv _ (JI (e:=38) (s:=29) 3 (xs:=List.map Ap L.1) A8)<|.aW<|Aa<|AZ<|BA h (λh=>AZ<|Eb<|by rw[←CM h];exact⟨[Fb j,AX L.2],[],⟨⟨2,Ar (CJ j),true,9,A8,A8,A8,LH,DT A8,Yk,A8⟩,FU A8,trivial⟩,A8,A8,A8⟩) λh=>Aa<|AO h λI u h=>AP 1<|.X (aIe u)<|BA h (λh=>AZ<|Eb<|aQl) λh=>AZ<|AO h λI u h=>AP 1<|.X (aDa u).view<|AO h λu J h=>AP 3<|.X (Opn J)<|Aa<|AP 3<|AO h λu J h=>.mg 50 4 (Ag u) (.bi J)<|.a 1<|AO h λu J h=>.mg 56 4 (Ag u) (DC J (λe i=>by subst e;have h:=i;exact AO h λL I h=>.a 2<|.X (aV9 I)<|Cc))<|.aY<|BA h (λh=>AZ<|Eb<|aTp) λh=>Cm (λs=>∃(q:F5),CO s ⟨Az 99 [(2,.ptr 0 0),(4,.ptr 1 0),(6,BI L.1),(8,.ptr 2 0),(9,Rk I)],[.box (Ar (CJ j)),.box (Ar (CJ Jl)),.box (Ar (En q))],0⟩/\XB j L I q=some r) (by rintro s ⟨q,hs,h⟩;exact D6 hs<|BM<|.f (CV 79 4)<|.aY<|Bv h λu J O Y h=>Yl [RG 3 (Go.Op.call { callee:=(Go.Callee.builtin Go.Builtin.append),args:= #[(Go.Operand.tmp 76),(Go.Operand.tmp 78)],argTypes:= #[39,39] }) [.box (Ar (CJ j)),.box (Ar (CJ Jl)),.box (Ar (En q)),(WC [])] [.box (Ar (CJ j)),.box (Ar (CJ Jl)),.box (Ar (En q)),.dead,(WC u)] (λL I=>Dk (k:=3) En J jo A8 (λ_=>rfl) Bl I),SL 5 (Go.Op.buildSlice 39 1 #[(0,(Go.Operand.tmp 80))]) (λL es I=>a4U jo a0W A8 A8 (DT A8) [Zx q] [En q] A8 A8 A8 A8 I),RG 6 (Go.Op.call { callee:=(Go.Callee.builtin Go.Builtin.append),args:= #[(Go.Operand.tmp 79),(Go.Operand.tmp 81)],argTypes:= #[39,39] }) [.box (Ar (CJ j)),.box (Ar (CJ Jl)),.box (Ar (En q)),.dead,(WC u)] [.box (Ar (CJ j)),.box (Ar (CJ Jl)),.box (Ar (En q)),.dead,.dead,.dead] (λL I=>CG.thaw (k:=5) (e:=79) (s:=4) (xs:=List.map En O) (es:=[.box (Ar (CJ j)),.box (Ar (CJ Jl)),.box (Ar (En q)),.dead,(WC u)]) (es':=[.box (Ar (CJ j)),.box (Ar (CJ Jl)),.box (Ar (En q)),.dead,.dead,(WC O)]) (Dk (k:=4) En Y jo A8 (λ_=>rfl) Bl I) A8)] 23<|AZ<|AZ<|AO h λu J h=>AP 2<|.X (aD0 J).view<|AO h λJ Y h=>AP 2<|.X (aU2 Y)<|AZ<|Eb<|by rw[←CM h];exact⟨[Fb ({ { { { { j with Rows:=O }with Next:=Au ((({ j with Rows:=O }).Next)+1) }with Events:=L.1 }with uP:=u }with State:=J }),AX 0],[],⟨⟨1,Ar (CJ ({ { { { { j with Rows:=O }with Next:=Au ((({ j with Rows:=O }).Next)+1) }with Events:=L.1 }with uP:=u }with State:=J })),true,9,A8,A8,A8,LH,DT A8,Yk,A8⟩,FU A8,trivial⟩,A8,A8,A8⟩)<|λU=>Aj<|AZ<|Df h (λh=>Cx<|U _ ⟨({ (⟨j.Next,z.Id,4,false⟩:F5)with Status:=2 }),Ae [AU 0,AU 2,AU 4],h⟩) λh=>Bv h λI u J O h=>F6 A8 A8 A8 (.a 4<|.ca (aOA u).view<|.ca (a9A O)<|.a 2<|.nil _)<|BA h (λh=>Cx<|U _ ⟨({ (⟨j.Next,z.Id,4,false⟩:F5)with Status:=3 }),Ae [AU 0,AU 2,AU 4],h⟩) λh=>U _ ⟨(⟨j.Next,z.Id,4,false⟩:F5),Ae [AU 0,AU 2,AU 4],h⟩
def gB (j:(AY->Int->AQ->AL (AQ×AY)))(v2:Int)(q:AY)(u:AQ):AL (AQ×AY):=j q (Au (v2+1)) u
def aAM (j:Bj)(U:(AY->Int->AQ->AL (AQ×AY))):AY->Int->AQ->AL (AQ×AY):=λz v2 q=>(cond (v2<(j.Waiting.length:Int)) ((Ak j.Waiting v2).bind λu=>(kD j.Events u).bind λI=>(cond I ((cond (!z) (some true) (some (decide (u.Depth<q.Depth)))).bind λJ=>(cond J (some true) ((cond (u.Depth==q.Depth) (some (decide (u.Id<q.Id))) (some false)).bind λL=>some L)).bind λM=>some M) (some false)).bind λO=>(cond O (gB U v2 true u) (gB U v2 z q))) (some (q,z)))
def aUj (j:Bj):AY->Int->AQ->AL (AQ×AY):=iG (aAM j) Am
def aAQ (j:Bj):AL (AQ×AY):=aUj j false 0 Eo
def anI :=Dc func164 rfl aAQ Fb (λr=>.eP [DL r.1,Ag r.2]) λj r h=>AZ<|AZ<|Aa<|AZ<|Aj<|QY (λq u z=>⟨Az 53 [(1,.ptr 0 0),(2,.ptr 1 0),(4,.ptr 2 0),(5,Ag q),(6,AX u)],[.box (Ar (CJ j)),.box (Ar (Ap Eo)),.box (Ar (Ap z))],0⟩) _ _ _ _ _ (Ae [AU 0,AU 1,AU 2]) h<|λq u z O I J h=>Aa<|AP 3<|.Z (BJ Ap j.Waiting)<|Bo h (λh=>Cm (λs=>∃(L:AY) (M:AQ),CO s ⟨Az 53 [(1,.ptr 0 0),(2,.ptr 1 0),(4,.ptr 2 0),(5,Ag L),(6,AX I)],[.box (Ar (CJ j)),.box (Ar (Ap Eo)),.box (Ar (Ap M))],0⟩/\gB u I L M=some r) (by rintro s ⟨L,M,hs,h⟩;exact D6 hs<|Cx<|z _ _ _ _ (Ae [AU 0,AU 1,AU 2]) h)<|λq=>Aj<|AO h λu z h=>AP 3<|.Z (BD Ap z)<|AO h λz I h=>AP 3<|.ca (aBw I)<|.a 1<|AO h λz I h=>.mg 26 23 (Ag z) (DC I (λe i=>by subst e;have h:=i;exact .a 2<|AO h λq u h=>.mg 28 6 (Ag q) (.bi u)<|.a 1<|AO h λq u h=>.mg 36 12 (Ag q) (DC u (k2:=λe i=>by subst e;have h:=i;exact .a 5<|AO h λq u h=>.mg 41 6 (Ag q) (.bi u)<|.aW<|Cc))<|.aW<|Cc))<|.aY<|BA h (λh=>Cx<|q _ ⟨true,u,Ae [AU 0,AU 1,AU 2],h⟩) λh=>q _ ⟨O,J,Ae [AU 0,AU 1,AU 2],h⟩) λh=>CZ<|AZ<|Eb<|by rw[←CM h];exact⟨[DL J,Ag O],[],⟨⟨1,Ar (Ap J),true,29,A8,A8,A8,Gg,DT A8,aAo,A8⟩,FU A8,trivial⟩,A8,A8,A8⟩
def a9w (k3:(Ah->Int->AL Ah))(v2:Int)(j:Ah):AL Ah:=k3 j (Au (v2+1))
def aHx (j:Ah)(q:Int)(k3:(Ah->Int->AL Ah)):Ah->Int->AL Ah:=λu v2=>(cond (v2<(j.length:Int)) ((Ak j v2).bind λI=>(cond (I.Id != q) ((Ak j v2).bind λJ=>(D5 376 u [J]).bind λz=>a9w k3 v2 z) (a9w k3 v2 u))) (some u))
def aOm (q:Ah)(j:Int):Ah->Int->AL Ah:=aQ (aHx q j) Am
def a0O (q:Ah)(j:Int):AL Ah:=aOm q j [] 0
def ahl :=Gj func165 rfl a0O BI AX F8 λj q r h=>BM<|.f (CV 38 29)<|.aY<|BM<|.f (CV 38 29)<|.aY<|Aa<|AZ<|Aj<|DV (λz u=>⟨Az 28 [(0,BI j),(1,AX q),(5,.aS 0),(6,AX u)],[(F8 z)],0⟩) _ _ _ _ (Ae [AU 1]) h<|λz u I L J h=>Aa<|AP 2<|.Z (BJ Ap j)<|Bo h (λh=>Cm (λs=>∃(M:(AA AQ)),CO s ⟨Az 28 [(0,BI j),(1,AX q),(5,.aS 0),(6,AX J)],[(F8 M)],0⟩/\a9w u J M=some r) aHq<|λz=>Aj<|AO h λu I h=>AP 2<|.Z (BD Ap I)<|BA h (λh=>Bv h λu I L J h=>CU<|.a 3<|.p (BD Ap I)<|.a 1<|.p (EG IJ Md [Ap u])<|.f (Dk (k:=0) Ap J IJ A8 (λ_=>rfl) Bl)<|.aN<|z _ ⟨L,Ae [AU 1],h⟩) λh=>z _ ⟨L,Ae [AU 0],h⟩) λh=>JC
def a2w (k3:(Bj->Bj->AL Bj)):Bj->Bj->AL Bj:=λj v2=>(aAQ j).bind λq=>(cond (!q.2) (some j) ((a0O j.Waiting q.1.Id).bind λu=>(eK ({ j with Waiting:=u }) q.1).bind λz=>k3 z.1 v2))
def aUI  :Bj->Bj->AL Bj:=aQ (a2w) Am
def a0l (j:Bj):AL Bj:=aUI j Jl
def anQ :=Dc func88 rfl a0l Fb Fb λz r h=>AZ<|Aj<|DV (λu j=>⟨Az 25 [(1,.ptr 0 0),(2,.ptr 1 0)],[.box (Ar (CJ u)),.box (Ar (CJ j))],0⟩) _ _ _ _ (Ae [AU 0,AU 1]) h<|λu j J q I h=>Aj<|AO h λu j h=>AP 1<|.X (anI j)<|Aa<|AZ<|BA h (λh=>AZ<|Eb<|by rw[←CM h];exact⟨[Fb q],[],⟨⟨1,Ar (CJ q),true,9,A8,A8,A8,LH,DT A8,a2X,A8⟩,trivial⟩,A8,A8,A8⟩) λh=>AO h λj I h=>AP 4<|.X (ahl I).view<|AO h λj q h=>CU<|.a 2<|.ca (aQe q)<|.aN<|J _ _ _ (Ae [AU 0,AU 1]) h
def iK (j:Bj)(z:AQ):AL (Bj×Int×Int):=(fO z).bind λq=>(cond (q.2 != 0) (some (j,0,q.2)) (cond (!(q.1.Room.toList==j.Id.toList)) (some (j,0,13)) ((Ju j.Events q.1.Id).bind λY=>(cond Y.2 ((YK j q.1.Id).bind λZ=>(VI j.Events q.1).bind λx7=>some ({ j with Events:=x7.1 },Z.1.Status,0)) ((Ju j.Waiting q.1.Id).bind λU=>(cond (!U.2) ((kD j.Events q.1).bind λJ=>some J) (some false)).bind λx9=>(cond x9 ((eK j q.1).bind λu=>(cond (u.2 != 0) (some (j,0,u.2)) ((a0l u.1).bind λI=>(YK I q.1.Id).bind λL=>some (I,L.1.Status,0)))) ((cond (!U.2) (some (decide ((j.Waiting.length:Int)>=200))) (some false)).bind λM=>(cond M (some (j,0,29)) ((VI j.Waiting q.1).bind λO=>some ({ j with Waiting:=O.1 },1,0))))))))))
def acu :=DW func27 rfl iK Fb DL (λr=>.eP [Fb r.1,AX r.2.1,AX r.2.2]) λj L r h=>AZ<|AO h λJ u h=>AP 1<|.X (aXG u)<|Aa<|AZ<|BA h (λh=>AZ<|Eb<|by rw[←CM h];exact⟨[Fb j,AX 0,AX J.2],[],⟨⟨2,Ar (CJ j),true,9,A8,A8,A8,LH,DT A8,Px,A8⟩,FU A8,FU A8,trivial⟩,A8,A8,A8⟩) λh=>Aa<|AZ<|BA h (λh=>AZ<|Eb<|aWD) λh=>AO h λu q h=>AP 4<|.X (MK q)<|Aa<|AZ<|BA h (λh=>AO h λu q h=>AP 3<|.X (a7V q)<|AO h λq I h=>AP 3<|.f (x:=.eP [.aS 6,AX q.2]) (EK [] [BI j.Events,DL J.1] (aKW I))<|.a 2<|.conv _ (JI (e:=38) (s:=29) 6 (xs:=List.map Ap q.1) A8)<|.aW<|nC [1,2] (.a 6<|.nil _)<|Eb<|by rw[←CM h];exact⟨[Fb ({ j with Events:=q.1 }),AX u.1.Status,AX 0],[],⟨⟨2,Ar (CJ ({ j with Events:=q.1 })),true,9,A8,A8,A8,LH,DT A8,Px,A8⟩,FU A8,FU A8,trivial⟩,A8,A8,A8⟩) λh=>AO h λu q h=>AP 4<|.X (MK q)<|Aa<|AP 2<|AO h λu q h=>.mg 71 5 (Ag u) (.bi q (λh=>AO h λu q h=>.a 3<|.X (aBw q)<|Cc))<|.aY<|BA h (λh=>AO h λu q h=>AP 2<|.X (aQe q)<|Aa<|AZ<|BA h (λh=>AZ<|Eb<|by rw[←CM h];exact⟨[Fb j,AX 0,AX u.2],[],⟨⟨2,Ar (CJ j),true,9,A8,A8,A8,LH,DT A8,Px,A8⟩,FU A8,FU A8,trivial⟩,A8,A8,A8⟩) λh=>AO h λq I h=>AP 1<|.X (anQ I)<|AO h λu I h=>AP 3<|.X (a7V I)<|nC [1,2] (.a 6<|.nil _)<|Eb<|by rw[←CM h];exact⟨[Fb q,AX u.1.Status,AX 0],[],⟨⟨2,Ar (CJ q),true,9,A8,A8,A8,LH,DT A8,Px,A8⟩,FU A8,FU A8,trivial⟩,A8,A8,A8⟩) λh=>Aa<|AP 2<|AO h λu q h=>.mg 101 5 (Ag u) (.bi q (λh=>.a 2<|.Z (BJ Ap j.Waiting)<|Cc))<|.aY<|BA h (λh=>AZ<|Eb<|aRK) λh=>AO h λu q h=>AP 3<|.f (x:=.eP [.aS 6,AX u.2]) (EK [] [BI j.Waiting,DL J.1] (aKW q))<|.a 2<|.conv _ (JI (e:=38) (s:=29) 6 (xs:=List.map Ap u.1) A8)<|.aW<|AZ<|Eb<|by rw[←CM h];exact⟨[Fb ({ j with Waiting:=u.1 }),AX 1,AX 0],[],⟨⟨2,Ar (CJ ({ j with Waiting:=u.1 })),true,9,A8,A8,A8,LH,DT A8,Px,A8⟩,FU A8,FU A8,trivial⟩,A8,A8,A8⟩
def aJy (j:Ah)(q:Ah)(k3:(Int->AL AY)):Int->AL AY:=λv2=>(cond (v2<(j.length:Int)) ((Ak j v2).bind λu=>(Ak q v2).bind λz=>(Vt u z).bind λI=>(cond (!I) (some false) (k3 (Au (v2+1))))) (some true))
def aVz (j:Ah)(q:Ah):Int->AL AY:=bn (aJy j q) Am
def a1Q (j:Ah)(q:Ah):AL AY:=(cond ((j.length:Int) != (q.length:Int)) (some false) (aVz j q 0))
def alN :=DW func69 rfl a1Q BI BI Ag λj q r h=>AZ<|Aa<|AP 1<|.p (BJ Ap j)<|.a 1<|.Z (BJ Ap q)<|BA h CB λh=>Aa<|AZ<|Aj<|Dp (λu=>⟨Az 27 [(0,BI j),(1,BI q),(5,AX u)],[],0⟩) _ _ _ (Ae []) h<|λu z I J h=>Aa<|AP 2<|.Z (BJ Ap j)<|Bo h (λh=>Aa<|Aj<|Hq h λu z J L O M h=>F6 A8 A8 A8 (.a 2<|.p (BD Ap z)<|.a 3<|.p (BD Ap L)<|.a 1<|.ca (qo M)<|.a 1<|.nil _)<|BA h CB λh=>SQ) λh=>El
def aFv (j:Yz)(q:Yz)(k3:(Int->AL AY)):Int->AL AY:=λv2=>(cond (v2<(j.length:Int)) ((Ak j v2).bind λu=>(Ak q v2).bind λz=>(cond (!aB4 u z) (some false) (k3 (Au (v2+1))))) (some true))
def aRy (j:Yz)(q:Yz):Int->AL AY:=bn (aFv j q) Am
def a6H (j:Yz)(q:Yz):AL AY:=(cond ((j.length:Int) != (q.length:Int)) (some false) (aRy j q 0))
def aZb :=DW func70 rfl a6H WU WU Ag λj u r h=>AZ<|Aa<|AP 1<|.p (BJ En j)<|.a 1<|.Z (BJ En u)<|BA h CB λh=>Aa<|AZ<|Aj<|Dp (λq=>⟨Az 26 [(0,WU j),(1,WU u),(5,AX q)],[],0⟩) _ _ _ (Ae []) h<|λq I J z h=>Aa<|AP 2<|.Z (BJ En j)<|Bo h (λh=>Aa<|Aj<|Bv h λq I z L h=>F6 A8 A8 A8 (.a 2<|.p (BD En I)<|.a 3<|.p (BD En L)<|.a 1<|.p (x:=(Ag (!aB4 q z))) (jw [.int .i64 q.Pos,.int .i64 q.Id,.int .i64 q.Status,.bool q.Gone] [.int .i64 z.Pos,.int .i64 z.Id,.int .i64 z.Status,.bool z.Gone] (agF q z) Bl aY3)<|.nil _)<|BA h CB λh=>XD) λh=>El
def aJf (q:Bj)(u:Bj)(z:(Int->AL AY)):Int->AL AY:=λj=>(cond (j<(q.nU.length:Int)) ((Ak q.nU j).bind λI=>(Ak u.nU j).bind λJ=>(cond (!a8O I J) (some false) (z (Au (j+1))))) (some true))
def aCU (j:Bj)(q:Bj):Int->AL AY:=bn (aJf j q) Am
def aFo (j:Bj)(q:Bj)(z:(Int->AL AY)):Int->AL AY:=λu=>(cond (u<(j.jK.length:Int)) ((Ak j.jK u).bind λI=>(Ak q.jK u).bind λJ=>(cond (!a7g I J) (some false) (z (Au (u+1))))) (aCU j q 0))
def aPo (j:Bj)(q:Bj):Int->AL AY:=bn (aFo j q) Am
def a8L (j:Bj)(q:Bj):AL AY:=(cond ((j.jK.length:Int) != (q.jK.length:Int)) (some true) (some ((j.nU.length:Int) != (q.nU.length:Int)))).bind λu=>(cond u (some false) (aPo j q 0))
def afM :=DW func72 rfl a8L Fb Fb Ag λj u r h=>AZ<|Aa<|AP 2<|.p (BJ ak j.jK)<|.a 2<|.p (BJ ak u.jK)<|.a 1<|AO h λq I h=>.mg 14 8 (Ag q) (.bi I (k2:=λh=>.a 2<|.p (BJ Zy j.nU)<|.a 2<|.Z (BJ Zy u.nU)<|Cc))<|.aY<|BA h CB λh=>Aa<|AZ<|Aj<|Dp (λq=>⟨Az 59 [(2,.ptr 0 0),(3,.ptr 1 0),(5,AX q)],[.box (Ar (CJ j)),.box (Ar (CJ u))],0⟩) _ _ _ (Ae [AU 0,AU 1]) h<|λq I J z h=>Aa<|AP 3<|.Z (BJ ak j.jK)<|Bo h (λh=>Aa<|Aj<|Bv h λq I z L h=>F6 A8 A8 A8 (.a 3<|.p (BD ak I)<|.a 4<|.p (BD ak L)<|.a 1<|.p (x:=(Ag (!a7g q z))) (jw [.string q.User,.int .i64 q.Thread,.int .i64 q.Id,.int .i64 q.Time] [.string z.User,.int .i64 z.Thread,.int .i64 z.Id,.int .i64 z.Time] (abp q z) Bl akG)<|.nil _)<|BA h CB λh=>a2s) λh=>CZ<|Aa<|AZ<|Aj<|Dp (λq=>⟨Az 59 [(2,.ptr 0 0),(3,.ptr 1 0),(6,AX q)],[.box (Ar (CJ j)),.box (Ar (CJ u))],0⟩) _ _ _ (Ae [AU 0,AU 1]) h<|λq I J z h=>Aa<|AP 3<|.Z (BJ Zy j.nU)<|Bo h (λh=>Aa<|Aj<|Bv h λq I z L h=>F6 A8 A8 A8 (.a 3<|.p (BD Zy I)<|.a 4<|.p (BD Zy L)<|.a 1<|.p (x:=(Ag (!a8O q z))) (jw [.string q.User,.int .i64 q.Until] [.string z.User,.int .i64 z.Until] (aeW q z) Bl akL)<|.nil _)<|BA h CB λh=>a2s) λh=>El
def a3L (j:Bj)(q:Bj):AL AY:=(cond (j.Id.toList==q.Id.toList) (some (j.Next==q.Next)) (some false)).bind λU=>(cond U ((a1Q j.Events q.Events).bind λY=>some Y) (some false)).bind λZ=>(cond Z ((a1Q j.Waiting q.Waiting).bind λx8=>some x8) (some false)).bind λx6=>(cond x6 ((a6H j.Rows q.Rows).bind λu=>some u) (some false)).bind λx9=>(cond x9 ((Zl j.uP q.uP).bind λz=>some z) (some false)).bind λI=>(cond I ((Xu j.State q.State).bind λJ=>some J) (some false)).bind λL=>(cond L ((a8L j q).bind λM=>some M) (some false)).bind λO=>some O
def aXl :=DW func21 rfl a3L Fb Fb Ag λu z r h=>AZ<|AP 5<|AO h λq j h=>.mg 10 6 (Ag q) (.bi j)<|.a 1<|AO h λq j h=>.mg 18 5 (Ag q) (DC j (λe i=>aV6))<|.a 1<|AO h λq j h=>.mg 25 5 (Ag q) (DC j (λe i=>aV6))<|.a 1<|AO h λq j h=>.mg 32 5 (Ag q) (DC j (λe i=>by subst e;have h:=i;exact AO h λq j h=>.a 4<|.X (aZb j)<|Cc))<|.a 1<|AO h λq j h=>.mg 39 5 (Ag q) (DC j (λe i=>by subst e;have h:=i;exact AO h λq j h=>.a 4<|.X (aEM j)<|Cc))<|.a 1<|AO h λq j h=>.mg 46 5 (Ag q) (DC j (λe i=>by subst e;have h:=i;exact AO h λq j h=>.a 4<|.X (aQr j)<|Cc))<|.a 1<|AO h λq j h=>.mg 53 3 (Ag q) (DC j (λe i=>by subst e;have h:=i;exact AO h λq j h=>.a 2<|.X (afM j)<|Cc))<|.aW<|CY
def bZ (j:Bj)(q:AQ)(U:AY):AL AY:=(cond U ((a6X).bind λY=>some Y) ((Wh j q).bind λu=>(iK j q).bind λz=>(cond (u.2.2==z.2.2) (some (u.2.1==z.2.1)) (some false)).bind λZ=>(cond Z ((a3L u.1 z.1).bind λI=>some I) (some false)).bind λx8=>(cond x8 ((wF u.1).bind λJ=>some (J==0)) (some false)).bind λL=>(cond L ((a6X).bind λM=>some M) (some false)).bind λO=>some O))
def aDC (j:Bj)(q:AQ):AL AY:=(mM j).bind λu=>(cond (!u) (bZ j q true) ((lF j).bind λz=>(cond (z != 0) (bZ j q true) ((D5 376 [q] j.Events).bind λI=>(D5 376 I j.Waiting).bind λJ=>(rP J).bind λL=>bZ j q (!L)))))
def ajl (Xg je r)(h:aDC Xg je=some r):E8 5 [Fb Xg,DL je] [] (Ag r) []:=Ec func5 rfl<|AZ<|Aa<|Cm (λs=>∃(J:AY),CO s ⟨Az 67 [(2,.ptr 0 0),(3,.ptr 1 0),(30,Ag J)],[.box (Ar (CJ Xg)),.box (Ar (Ap je))],0⟩/\bZ Xg je J=some r) (by rintro s ⟨J,hs,h⟩;exact D6 hs<|BA h (λh=>AO h λu j h=>BM<|.X (aLq  u j)<|CY) λh=>AO h λu j h=>AP 2<|.X (a6d j)<|AO h λj q h=>AP 2<|.X (acu q)<|AP 3<|AO h λq z h=>.mg 49 4 (Ag q) (.bi z)<|.a 1<|AO h λq z h=>.mg 55 3 (Ag q) (DC z (λe i=>by subst e;have h:=i;exact AO h λq z h=>.a 2<|.X (aXl z)<|Cc))<|.a 1<|AO h λj q h=>.mg 60 3 (Ag j) (DC q (λe i=>by subst e;have h:=i;exact AO h λj q h=>.a 1<|.X (aBG q)<|Cc))<|.a 1<|AO h λu j h=>.mg 65 1 (Ag u) (DC j (λe i=>by subst e;have h:=i;exact AO h λu j h=>.ca (aLq  u j)<|.aW<|Cc))<|.aW<|CY)<|λu=>AO h λj q h=>EX h (λz h=>DN A8 A8 A8 (.a 1<|.ca (aHZ q)<|.a 1<|.c (BF some z)<|.a 16<|.nil _)<|u _ ⟨true,Ae [AU 0,AU 1],h⟩) λz h=>AO h λx5 Z h=>EX h (λL h=>DN A8 A8 A8 (.a 1<|.ca (aHZ q)<|.a 1<|.c (BF some z)<|.a 1<|.ca (aRj Z)<|.a 2<|.c (BF some L)<|.a 11<|.nil _)<|u _ ⟨true,Ae [AU 0,AU 1],h⟩) λL h=>Hq h λM x9 I O U Y h=>Bq.aEt [ZA 1 (aHZ q) anH,SL 3 (Go.Op.move (Go.Operand.tmp 13)) (λu es q=>(aGN (v:=(Ag (!j))) q).cast (aPM (BF some z))),ZA 5 (aRj Z) amV,SL 8 (Go.Op.move (Go.Operand.tmp 18)) (λu es j=>(aGN (v:=(Ag (x5 != 0))) j).cast (aPM (BF some L))),RG 10 (Go.Op.buildSlice 22 1 #[(0,(Go.Operand.tmp 20))]) [.box (Ar (CJ Xg)),.box (Ar (Ap je))] [.box (Ar (CJ Xg)),.box (Ar (Ap je)),(F8 [je])] (λu j=>a7L IJ Md A8 A8 (DT A8) [DL je] [Ap je] A8 A8 A8 A8 j),RG 13 (Go.Op.call { callee:=(Go.Callee.builtin Go.Builtin.append),args:= #[(Go.Operand.tmp 21),(Go.Operand.tmp 23)],argTypes:= #[22,22] }) [.box (Ar (CJ Xg)),.box (Ar (Ap je)),(F8 [je])] [.box (Ar (CJ Xg)),.box (Ar (Ap je)),.dead,(F8 M)] (λu j=>Dk (k:=2) Ap x9 IJ A8 (λ_=>rfl) Bl j),RG 16 (Go.Op.call { callee:=(Go.Callee.builtin Go.Builtin.append),args:= #[(Go.Operand.tmp 24),(Go.Operand.tmp 26)],argTypes:= #[22,22] }) [.box (Ar (CJ Xg)),.box (Ar (Ap je)),.dead,(F8 M)] [.box (Ar (CJ Xg)),.box (Ar (Ap je)),.dead,.dead,.dead] (λu j=>CG.thaw (k:=4) (e:=38) (s:=29) (xs:=List.map Ap I) (es:=[.box (Ar (CJ Xg)),.box (Ar (Ap je)),.dead,(F8 M)]) (es':=[.box (Ar (CJ Xg)),.box (Ar (Ap je)),.dead,.dead,(F8 I)]) (Dk (k:=3) Ap O IJ A8 (λ_=>rfl) Bl j) A8),ZA 17 (ah2 Y) ahI] 42<|u _ ⟨(!U),Ae [AU 0,AU 1],h⟩
end
def kJ l(h:l.length<=1099511627776):Un l=some (FY l):=by
 unfold Un wX PS Xa;rw[Dw Ei];have h2:(O9 l).length<=1099511627776:=by rw[(VG l).length_eq];exact h
 simp[h,aJm,aEk]
def OE l:(FY l).length<=l.length:=by
 rw[←aEk];exact EC (Lib.compact_length_le _) BU
def aHu a b:(PY a b).length<=a.length:=by
 unfold PY;exact EC (MS _ _) (OE a)
def aFt a b:(JL a b).length<=a.length+b.length:=by
 rw[tZ];exact EC (OE _) BU
def aZV a b:cmp_Less_int a b=some (decide (a<b)):=by
 simp[cmp_Less_int,cmp_isNaN_int]
def an6 l x(hi:Inc l)(hn:l.length<=1099511627776):dK (a6O l x) (λr=>r.2=EP l x):=by
 unfold a6O aSU;refine ZX (λ(m:Nat) (a b:Int)=>∃i j:Nat,a=i/\b=j/\i<=j/\j<=l.length/\m=j-i/\(∀q,(u:q<i)->(hl:q<l.length)->l[q]<x)/\(∀q,(u:j<=q)->(hl:q<l.length)->x<=l[q])) ?_ Am l.length 0 (l.length:Int) jA ⟨0,l.length,rfl,rfl,FQ _,ER _,rfl,λq u=>AB,λq u hl=>AB⟩;rintro m a b k ⟨i,j,rfl,rfl,hij,hj,rfl,h1,h2⟩ Z;unfold aTO;refine dK.bif (λe=>?_) λe=>?_
 ·have O:i<j:=U6
  have w1:Au ((i:Int)+(j:Int))=((i+j:Nat):Int):=OW
  have w2:IntKind.u64.wrap ((i+j:Nat):Int)=((i+j:Nat):Int):=by rw[sH];omega
  have w3:Qc .shr .u64 ((i+j:Nat):Int) 1=some (((i+j)/2:Nat):Int):=by
   have e0:((i+j:Nat):Int).fdiv (2^(min (1:Int).toNat IntKind.u64.bits))=(((i+j)/2:Nat):Int):=by
    have :(2:Int)^(min (1:Int).toNat IntKind.u64.bits)=2:=rfl;rw[this,Int.fdiv_eq_ediv_of_nonneg _ AB];omega
   unfold Qc;rw[Ee AB];exact BF some e0
  have w4:Au (((i+j)/2:Nat):Int)=(((i+j)/2:Nat):Int):=OW
  have hm:(i+j)/2<l.length:=AB
  rw[w1,w2,w3];simp only[Ac];rw[w4,CQ hm];simp only[Ac];rw[aZV,wrap_succ _ AB];simp only[Ac];have mono:∀p q,(hp:p<l.length)->(u:q<l.length)->p<q->l[p]<l[q]:=λp q hp u z=>JU.1 hi p q hp u z;refine dK.bif (λU=>?_) λU=>?_
  ·have I:l[(i+j)/2]<x:=by simpa using U
   refine Z (j-((i+j)/2+1)) _ _ AB ⟨(i+j)/2+1,j,rfl,rfl,AB,hj,rfl,λq u hl=>?_,h2⟩;by_cases eq:q=(i+j)/2
   ·subst eq;exact I
   have :=mono q ((i+j)/2) hl hm AB;omega
  have I:¬l[(i+j)/2]<x:=by simpa using U
  refine Z ((i+j)/2-i) _ _ AB ⟨i,(i+j)/2,rfl,rfl,AB,AB,rfl,h1,λq u hl=>?_⟩;by_cases eq:q=(i+j)/2
  ·subst eq;omega
  have :=mono ((i+j)/2) q hm hl AB;omega
 have O:¬i<j:=U6
 have J:i=j:=AB
 subst J;have mono:∀p q,(hp:p<l.length)->(u:q<l.length)->p<q->l[p]<l[q]:=λp q hp u z=>JU.1 hi p q hp u z;by_cases hl:i<l.length
 ·rw[show decide ((i:Int)<(l.length:Int))=true by simpa using hl,CQ hl];simp only[BZ,Ac];by_cases I:l[i]=x
  ·have M:(l[i]==x)=true:=qh
   rw[M];refine .ret ?_;exact(La.2 (I▸EU hl)).symm
  have M:(l[i]==x)=false:=qh
  rw[M]
  have Y:EP l x=false:=Pz.2 λhm=>by
   obtain⟨q,u,e5⟩:=GY hm;rcases a0m q i with L|L|L
   ·have :=h1 q L u;omega
   ·subst L;exact I e5
   have :=mono i q hl u L;have :=h2 i (ER _) hl;omega
  simp[a4d,Y,dK]
 rw[show decide ((i:Int)<(l.length:Int))=false by simpa using hl];refine .ret ?_;refine(Pz.2 λhm=>?_).symm;obtain⟨q,u,M⟩:=GY hm;have :=h1 q AB u;omega
variable {i:Nat}{l:AA Int}
theorem ajb {b}(h:i<l.length):(l.take (i+1)).filter (λx=> !EP b x)=(l.take i).filter (λx=> !EP b x)++(if EP b l[i]then[]else[l[i]]):=by
 rw[MX h,RZ]
 grind
def ajq a b(h:a.length<=274877906944)(h2:b.length<=274877906944):aA4 a b=some (PY a b):=by
 unfold aA4;rw[kJ b AB,kJ a AB];simp only[Ac];have ha:=OE a;have O:=OE b;have q:=Nz b
 have J:PY a b=((FY a).take (FY a).length).filter (λx=> !EP (FY b) x):=by
  rw[Gw];unfold PY;congr 1;funext x;congr 1;by_cases j:x∈b
  ·rw[La.2 j,La.2 (MR.2 j)]
  rw[Pz.2 j,Pz.2 (λh=>j (MR.1 h))]
 rw[J];generalize FY a=S at *;generalize FY b=S2 at *;refine dK.eq ?_;unfold aRk;refine JJ S.length jA (λi v=>v=(S.take i).filter (λx=> !EP S2 x)) BU ?_ ?_
 ·rintro i v k hi rfl u;have z:=wrap_succ i AB;have L:((S.take i).filter (λx=> !EP S2 x)).length<=i:=EC (MS _ _) Ei;have hst:=ajb (b:=S2) hi;unfold aGA a3g;rw[show decide ((i:Int)<(S.length:Int))=true by simpa using hi,CQ hi];simp only[BZ,Ac];refine(an6 S2 S[i] q AB).bind ?_;rintro r M;rw[M];cases I:EP S2 S[i]with
  |true=>
   simp only[Eu,BH,z];exact u _ (by rw[hst];simp[I])
  |false=>
   simp only[JZ,BZ,z];rw[Dw G7];exact u _ (by rw[hst];simp[I])
 rintro v k rfl;unfold aGA;rw[show decide ((S.length:Int)<(S.length:Int))=false by simp];exact .ret rfl
theorem Xw l x(h:l.length<=1099511627776):UQ l x=some (EP l x):=by
 refine dK.eq ?_;unfold UQ aOQ;refine ay l.length jA (λi=>∀j,(q:j<i)->(hl:j<l.length)->l[j]≠x) (λj q=>AB) ?_ ?_
 ·intro i k hi u z;unfold aJK;rw[show decide ((i:Int)<(l.length:Int))=true by simpa using hi,CQ hi,wrap_succ i AB];simp only[BZ,Ac];refine dK.bif (λe=>?_) λe=>?_
  ·refine .ret ?_;have :l[i]=x:=U6
   rw[La.2 (this▸EU hi)]
  grind
 intro k u;unfold aJK;rw[show decide ((l.length:Int)<(l.length:Int))=false by simp];refine .ret ?_;rw[Pz.2];intro hm;obtain⟨j,q,e⟩:=GY hm;exact u j q q e
def aHm p:∀(l:AA Int) (i:Nat),i<=l.length->(∀j,(h:j<i)->(hl:j<l.length)->p l[j]=true)->(∀h:i<l.length,p l[i]=false)->l.takeWhile p=l.take i/\l.dropWhile p=l.drop i
 | [],i,h,_,_=>by simp at h;subst h;simp
 |a::l,0,_,_,h2=>by
  have :=h2 BU;simp at this;simp[this]
 |a::l,i+1,h,h1,h2=>by
  have q:=h1 0 AB BU;simp at q;have :=aHm p l i Oa (λj u hl=>by have :=h1 (j+1) AB Ny;simpa using this) (λhl=>by have :=h2 Ny;simpa using this);simp[q,this.1,this.2]
def mP l x(h:l.length<=1099511627776):XF l x=some (put l x):=by
 unfold XF;rw[Xw l x h];simp only[Ac];unfold put;cases hh:EP l x with
 |true=>simp
 |false=>
  simp only[BH,UW,Lc];refine dK.eq ?_;unfold aPJ
  have q:∀i,i<=l.length->(∀j,(u:j<i)->(hl:j<l.length)->l[j]<x)->(∀h:i<l.length,¬l[i]<x)->
   dK ((I8 l 0 (i:Int)).bind λL=>(D5 8 [] L).bind λM=>(D5 8 M [x]).bind λO=>(I8 l (i:Int) ((l.length))).bind λI=>(D5 8 O I).bind λJ=>some J) (· =l.takeWhile (decide<| · <x)++x::l.dropWhile (decide<| · <x)):=by
   intro i hi h1 h2;obtain⟨U,Y⟩:=aHm (decide<| · <x) l i hi (λj u hl=>by simpa using h1 j u hl) (λhl=>by simpa using h2 hl)
   have Z:I8 l 0 (i:Int)=some (l.take i):=by
    have :=bF (l:=l) (lo:=0) (hi:=i) AB hi;simpa using this
   have e4:I8 l (i:Int) (l.length:Int)=some (l.drop i):=by
    rw[bF (l:=l) (lo:=i) (hi:=l.length) hi AB];congr 1;exact RU BU
   rw[Z];simp only[Ac];rw[Dw Ei];simp only[Ac,Ir];rw[Dw Ei];simp only[Ac];rw[e4];simp only[Ac];rw[Dw Ei];refine .ret ?_;rw[U,Y];simp
  refine ay l.length jA (λi=>∀j,(u:j<i)->(hl:j<l.length)->l[j]<x) (λj u=>AB) ?_ ?_
  ·intro i k hi z hk;unfold aDR;rw[show decide ((i:Int)<(l.length:Int))=true by simpa using hi,CQ hi,wrap_succ i AB];simp only[BZ,Ac];refine dK.bif (λe=>?_) λe=>?_
   ·refine hk λj u hl=>?_;by_cases ej:j=i
    ·subst ej;simpa using e
    exact z j AB hl
   exact q i AB z (λ_=>U6)
  intro k z;unfold aDR;rw[show decide ((l.length:Int)<(l.length:Int))=false by simp];exact q l.length AB z (λh=>AB)
theorem oN l x:(put l x).length<=l.length+1:=by
 unfold put;split
 ·omega
 rw[Ef,Gh];have :=BF List.length (yL (p:=(decide<| · <x)) (l:=l))
 grind
theorem sV :∀(l a:AA Int),(l.foldl put a).length<=a.length+l.length
 | [],a=>BU
 |x::l,a=>by
  have h1:=sV l (put a x);have h2:=oN a x
  grind
def aRJ {a}(h:i<l.length):(l.take (i+1)).foldl put a=put ((l.take i).foldl put a) l[i]:=by
 rw[MX h,Uw];rfl
def aJt l(h:l.length<=274877906944):nG l=some (FY l):=by
 refine dK.eq ?_;unfold nG aSV;refine JJ l.length jA (λi v=>v=(l.take i).foldl put []) BU ?_ ?_
 ·rintro i v k hi rfl j;have hl:=sV (l.take i) [];simp only[Qp,Hl]at hl;unfold aBl;rw[show decide ((i:Int)<(l.length:Int))=true by simpa using hi,CQ hi,wrap_succ i AB];simp only[BZ,Ac];rw[mP _ _ AB];exact j _ (aRJ hi).symm
 rintro v k rfl;unfold aBl;rw[show decide ((l.length:Int)<(l.length:Int))=false by simp];exact .ret (by rw[Gw];rfl)
def a5J a b(h:a.length<=274877906944)(h2:b.length<=274877906944):aH a b=some (JL a b):=by
 unfold aH;rw[aJt a h];have hs:=OE a;refine dK.eq ?_;simp only[Ac];unfold aS1;refine JJ b.length jA (λi v=>v=(b.take i).foldl put (FY a)) BU ?_ ?_
 ·rintro i v k hi rfl j;have hl:=sV (b.take i) (FY a);simp only[Hl]at hl;unfold aDe;rw[show decide ((i:Int)<(b.length:Int))=true by simpa using hi,CQ hi,wrap_succ i AB];simp only[BZ,Ac];rw[mP _ _ AB];exact j _ (aRJ hi).symm
 rintro v k rfl;unfold aDe;rw[show decide ((b.length:Int)<(b.length:Int))=false by simp];exact .ret (by rw[Gw];rfl)
def qP (a b:AA Int):AY:=decide (a=b)
theorem a2r a b(h:a.length<=1099511627776):kZ a b=some (qP a b):=by
 unfold kZ;refine dK.eq (dK.bif (λe=>?_) λe=>?_)
 ·refine .ret ?_;have :a≠b:=λe'=>by subst e';simp at e
  simp[qP,this]
 have hl:a.length=b.length:=by
   have :(a.length:Int)=b.length:=U6
   omega
 unfold aCh;refine ay a.length jA (λi=>∀j,(z:j<i)->(h1:j<a.length)->(h2:j<b.length)->a[j]=b[j]) (λj z=>AB) ?_ ?_
 ·intro i k hi I J;have q:i<b.length:=AB
  unfold a0C;rw[show decide ((i:Int)<(a.length:Int))=true by simpa using hi,CQ hi,CQ q,wrap_succ i AB];simp only[BZ,Ac];refine dK.bif (λe=>.ret ?_) λe=>J λj z h1 h2=>?_
  ·have u:a[i]≠b[i]:=U6
   have :a≠b:=λe'=>by subst e';exact u rfl
   simp[qP,this]
  grind
 intro k I;unfold a0C;rw[show decide ((a.length:Int)<(a.length:Int))=false by simp];refine .ret ?_;have :a=b:=Y4 hl λj h1 h2=>I j h1 h1 h2;simp[qP,this]
variable {A α:Type}{s t:BL}
def Mc {R}c(x y:R):(cond c (some x) (some y))=some (cond c x y):=by cases c<;>rfl
def a5p {R}c(x y:AL A)(f:A->AL R):(cond c x y).bind f=bif c then x.bind f else y.bind f:=by cases c<;>rfl
def tJ a b:(cond a true b)=(a||b):=by cases a<;>rfl
def U3 a b:(cond a b false)=(a&&b):=by cases a<;>rfl
def WO (h:i<(DI s).length):Ic s (i:Int)=some (DI s)[i]:=by
 unfold Ic;rw[ET (aDO i)];have h':i<s.size:=Xr
 have e:s[i]? =some s[i]:=by simp[h']
 simp only[Uu,e,Kr,DI,P9];rfl
def aZY (h:0<(DI s).length):Ic s 0=some (DI s)[0]:=WO (i:=0) h
theorem H7 {R α}{body}(l:AA α)(hl:l.length<Am)p(bad:R)rest(u:∀k (i:Nat) (h:i<l.length),body k (i:Int)=bif p l[i]then some bad else k (Au ((i:Int)+1)))(z:∀k,body k (l.length:Int)=rest):
 bn body Am 0=bif l.any p then some bad else rest:=by
 have J:Am=9223372036854775808:=rfl
 have key:∀n (i:Nat),i+n=l.length->∀m,n<m->bn body m (i:Int)=bif (l.drop i).any p then some bad else rest:=by
  intro n
  induction n with
  |zero=>
   intro i hi m hm;obtain⟨m,rfl⟩:∃q,m=q+1:=⟨m-1,AB⟩
   have :i=l.length:=AB
   subst this;show body (bn body m) _=_;rw[z,PN];rfl
  |succ n I=>
   intro i hi m hm;obtain⟨m,rfl⟩:∃q,m=q+1:=⟨m-1,AB⟩
   have j:i<l.length:=AB
   show body (bn body m) _=_;rw[u _ i j,wrap_succ i AB,I (i+1) AB m AB,Nc j,List.any_cons];cases p l[i]<;>rfl
 grind
def bytes_inj (h:DI s=DI t):s=t:=by
 have hd:s.data.toList=t.data.toList:=by
  unfold DI at h;refine List.map_inj_right (f:=λc:UInt8=>(c.toNat:Int)) (λa b j=>?_) |>.1 h;exact UInt8.toNat_inj.1 AB
 obtain⟨⟨a⟩⟩:=s;obtain⟨⟨b⟩⟩:=t;simp only at hd;rw[hd]
def toList_inj (h:s.toList=t.toList):s=t:=by
 rw[ByteArray.toList_eq,ByteArray.toList_eq]at h;obtain⟨⟨a⟩⟩:=s;obtain⟨⟨b⟩⟩:=t;simp only at h;rw[h]
def JM:(s.toList==t.toList)=decide (s=t):=by
 by_cases h:s=t
 ·subst h;simp
 have :s.toList≠t.toList:=λe=>h (toList_inj e);simp[h,this]
theorem Jh {R α}{body}(l:AA α)(hl:l.length<Am)q(g:Nat->AL R)rest(z:∀k (i:Nat) (h:i<l.length),body k (i:Int)=bif q l[i]then g i else k (Au ((i:Int)+1)))(I:∀k,body k (l.length:Int)=rest):
 bn body Am 0=if l.findIdx q<l.length then g (l.findIdx q)else rest:=by
 have L:Am=9223372036854775808:=rfl
 have key:∀n (i:Nat),i+n=l.length->∀m,n<m->bn body m (i:Int)=if(l.drop i).findIdx q+i<l.length then g ((l.drop i).findIdx q+i)else rest:=by
  intro n
  induction n with
  |zero=>
   intro i hi m hm;obtain⟨m,rfl⟩:∃u,m=u+1:=⟨m-1,AB⟩
   have :i=l.length:=AB
   subst this;show body (bn body m) _=_;rw[I,PN,Ee AB]
  |succ n J=>
   intro i hi m hm;obtain⟨m,rfl⟩:∃u,m=u+1:=⟨m-1,AB⟩
   have j:i<l.length:=AB
   show body (bn body m) _=_;rw[z _ i j,wrap_succ i AB,J (i+1) AB m AB,Nc j,V3];cases q l[i]with
   |true=>
    simp[j]
   |false=>
    grind
 grind
def lC {lo hi}(h1:lo<=hi)(h2:hi<=s.size):Oi s (lo:Int) (hi:Int)=some (s.extract lo hi):=by
 unfold Oi;rw[ET ⟨AB,AB,AB⟩];simp
def aX0 s a b:DI (s.extract a b)=((DI s).take b).drop a:=by
 simp[DI,ByteArray.data_extract,iU,Yw,List.extract_eq_drop_take']
theorem aCz (l:AA α)q:(bif l.any (λc=> !q c)then false else true)=l.all q:=by
 grind
def aC8 :∀(l:AA UInt8) (c:UInt8),Lib.indexByte l c=if l.findIdx (· ==c)<l.length then((l.findIdx (· ==c):Nat):Int)else -1
 | [],c=>rfl
 |b::l,c=>by
  unfold Lib.indexByte;rw[V3];cases h:b==c with
  |true=>simp
  |false=>
   rw[aC8 l c];simp only[UW,Lc,BH,Gh];by_cases hl:l.findIdx (· ==c)<l.length
   ·simp only[hl,KT,show l.findIdx (· ==c)+1<l.length+1 by omega];have :(((l.findIdx (· ==c):Nat):Int)== -1)=false:=BU
    simp[this]
   simp[hl,show ¬l.findIdx (· ==c)+1<l.length+1 by omega]
structure Et (e:AQ):Prop where
 prev:e.bG.length<=40
 auth:e.bI.length<=40
 allow:e.Content.Allow.length<=100
 deny:e.Content.iD.length<=100
 users:e.Content.Levels.Users.length<=100
 kinds:e.Content.Levels.Kinds.length<=100
 room:e.Room.size<=2000
 sender:e.bU.size<=2000
 key:e.Key.size<=2000
 text:e.Content.Text.size<=2000
 via:e.Content.Via.size<=2000
 server:e.sF.Server.size<=2000
 allows:∀x∈e.Content.Allow,x.size<=2000
 denies:∀x∈e.Content.iD,x.size<=2000
 names:∀x∈e.Content.Levels.Users,x.User.size<=2000
variable {l:AA α}
def aiy {P:α->Prop}(h:∀j,(hl:j<l.length)->P l[j]):∀x∈l,P x:=λx q=>by
 obtain⟨j,u,rfl⟩:=GY q;exact h j u
def Ch {R}(h:i<l.length)f(z:AL R):(cond ((i:Int)<(l.length:Int)) ((Ak l (i:Int)).bind f) z)=f l[i]:=by
 rw[show decide ((i:Int)<(l.length:Int))=true by simpa using h,CQ h];rfl
def EJ {R}(y z:AL R):(cond ((l.length:Int)<(l.length:Int)) y z)=z:=by
 rw[show decide ((l.length:Int)<(l.length:Int))=false by simp];rfl
variable {n:Nat}
def fuel_lt (h:n<=1099511627776):n<Am:=oO
def dec_lt (h:i<n):decide ((i:Int)<(n:Int))=true:=Oa
def DR (n:Nat):decide ((n:Int)<(n:Int))=false:=BU
variable {a0:A}
def Iy {R}{body}(l:AA α)(hl:l.length<=1099511627776)step(I:Nat->A->Prop)(j:A->AL R)(z:I 0 a0)(J:∀k a (i:Nat) (h:i<l.length),I i a->I (i+1) (step a l[i])/\body k a (i:Int)=k (step a l[i]) (Au ((i:Int)+1)))(L:∀k a,I l.length a->body k a (l.length:Int)=j a):aQ body Am a0 0=j (l.foldl step a0):=by
 have key:∀n (i:Nat) (a:A),i+n=l.length->I i a->∀m,n<m->aQ body m a (i:Int)=j ((l.drop i).foldl step a):=by
  intro n
  induction n with
  |zero=>
   intro i a hi ha m hm;obtain⟨m,rfl⟩:∃u,m=u+1:=⟨m-1,AB⟩
   have :i=l.length:=AB
   subst this;show body (aQ body m) _ _=_;rw[L _ _ ha,PN];rfl
  |succ n M=>
   intro i a hi ha m hm;obtain⟨m,rfl⟩:∃u,m=u+1:=⟨m-1,AB⟩
   have q:i<l.length:=AB
   obtain⟨h1,h2⟩:=J (aQ body m) a i q ha;show body (aQ body m) _ _=_;rw[h2,wrap_succ i AB,M (i+1) _ AB h1 m AB,Nc q,Gf]
 have :=key l.length 0 a0 AB z Am (fuel_lt hl);simpa using this
def o8 {R}{body}(l:AA α)(hl:l.length<=1099511627776)step(I:Nat->A->Prop)(j:A->AL R)(z:I 0 a0)(J:∀k a (i:Nat) (h:i<l.length),I i a->I (i+1) (step a l[i])/\body k (i:Int) a=k (Au ((i:Int)+1)) (step a l[i]))(L:∀k a,I l.length a->body k (l.length:Int) a=j a):aQ body Am 0 a0=j (l.foldl step a0):=by
 have key:∀n (i:Nat) (a:A),i+n=l.length->I i a->∀m,n<m->aQ body m (i:Int) a=j ((l.drop i).foldl step a):=by
  intro n
  induction n with
  |zero=>
   intro i a hi ha m hm;obtain⟨m,rfl⟩:∃u,m=u+1:=⟨m-1,AB⟩
   have :i=l.length:=AB
   subst this;show body (aQ body m) _ _=_;rw[L _ _ ha,PN];rfl
  |succ n M=>
   intro i a hi ha m hm;obtain⟨m,rfl⟩:∃u,m=u+1:=⟨m-1,AB⟩
   have q:i<l.length:=AB
   obtain⟨h1,h2⟩:=J (aQ body m) a i q ha;show body (aQ body m) _ _=_;rw[h2,wrap_succ i AB,M (i+1) _ AB h1 m AB,Nc q,Gf]
 have :=key l.length 0 a0 AB z Am (fuel_lt hl);simpa using this
def Kw {α}p:∀l:AA α,l.find? p=l[l.findIdx p]?
 | []=>rfl
 |x::l=>by
  rw[YA,V3];cases h:p x with
  |true=>rfl
  |false=>simp[Kw p l]
def Eh (l:AA AQ)(id:Int):Option AQ:=l.find? λe=>e.Id==id
def Ii (l:AA AQ)(id:Int):AQ×AY:=match Eh l id with
 |some e=>(e,true)
 |none=>(Eo,false)
variable {e:AQ}{l:AA AQ}
def a5B {id}(h:Eh l id=some e):e.Id=id:=by
 have :=aAN h;simpa using this
def Jf {id}(h:Eh l id=some e):e∈l:=YH h
def MF l id:(Ii l id).2=(Eh l id).isSome:=by
 unfold Ii;cases Eh l id<;>rfl
def yj l(hl:l.length<=1099511627776)f p(j:∀e,f e=some (p e)):
 WH l f=some (if l.findIdx p<l.length then((l.findIdx p:Nat):Int)else -1):=by
 unfold WH aEf;rw[Jh l (fuel_lt hl) p (λi=>some (i:Int)) (some (-1))]
 ·split<;>rfl
 ·intro k i h;unfold wY;rw[Ch h,j];rfl
 intro k;unfold wY;rw[EJ]
variable {n:Int}
theorem found_eq l p(j:n=if l.findIdx p<l.length then((l.findIdx p:Nat):Int)else -1):
 (cond (n<0) (some (Eo,false)) ((Ak l n).bind λq=>some (q,true)))=some (match l.find? p with |some e=>(e,true)|none=>(Eo,false)):=by
 subst j;rw[Kw];by_cases h:l.findIdx p<l.length
 ·rw[ET h,ES h,show decide (((l.findIdx p:Nat):Int)<0)=false by simp,CQ h];rfl
 grind
def OD l id(hl:l.length<=1099511627776):ND l id=some (Ii l id):=by
 unfold ND sU a1b;rw[yj l hl _ (λe=>e.Id==id) λ_=>rfl];exact found_eq l _ rfl
def a4w l id(hl:l.length<=1099511627776):ZB l id=some (if l.findIdx (λe=>e.Id==id)<l.length then((l.findIdx (λe=>e.Id==id):Nat):Int)else -1):=by
 unfold ZB aVl;rw[Jh l (fuel_lt hl) (λe=>e.Id==id) (λi=>some (i:Int)) (some (-1))]
 ·split<;>rfl
 ·intro k i h;unfold aFw;rw[Ch h]
 intro k;unfold aFw;rw[EJ]
def MI l id(hl:l.length<=1099511627776):Ju l id=some (Ii l id):=by
 unfold Ju;rw[a4w l id hl];exact found_eq l _ rfl
def ofIds (l:AA AQ)(ids:AA Int):AA AQ:=ids.filterMap (Eh l)
def foldl_append {α β}f:∀(l:AA α) (a:AA β),l.foldl (λr x=>r++f x) a=a++l.flatMap f
 | [],a=>BU
 |x::l,a=>by rw[Gf,foldl_append f l,Oj,JK]
def aTY l:∀ids,ofIds l ids=ids.flatMap λid=>(Eh l id).toList
 | []=>rfl
 |id::ids=>by
  unfold ofIds;rw[SK,Oj,←aTY l ids];cases Eh l id<;>rfl
def toList_le (o:AL α):o.toList.length<=1:=by cases o<;>simp
def Ou {id}(h:Eh l id=some e):Ii l id=(e,true):=by unfold Ii;rw[h]
def SC {id}(h:Eh l id=none):Ii l id=(Eo,false):=by unfold Ii;rw[h]
def iy l ids:(ofIds l ids).length<=ids.length:=List.length_filterMap_le ..
def aPy l ids:ids.foldl (λr id=>r++(Eh l id).toList) []=ofIds l ids:=by
 rw[foldl_append (λid=>(Eh l id).toList),aTY];rfl
def ahD l ids(hl:l.length<=1000)(hi:ids.length<=1000000):a6w l ids=some (ofIds l ids):=by
 unfold a6w
 have hm:Jg 376 Eo 0 (ids.length:Int)=some []:=by
  unfold Jg;rw[ET a6M];rfl
 rw[hm];simp only[Ac];unfold aWK;rw[Iy ids AB (λr id=>r++(Eh l id).toList) (λi r=>r.length<=i) (λr=>some r) BU]
 ·rw[aPy]
 ·intro k a i h q;have u:=toList_le (Eh l ids[i]);refine⟨LV,?_⟩;unfold aGV a7Y;rw[Ch h,OD l _ AB];cases j:Eh l ids[i]with
  |none=>simp[SC j]
  |some e=>
   rw[Ou j];simp only[Ac,BZ,SN];rw[Dw G7];rfl
 intro k a q;unfold aGV;rw[EJ]
def aBj l ids(hl:l.length<=1000)(hi:ids.length<=1000000):o7 l ids=some (ofIds l ids):=by
 unfold o7 aTw;rw[Iy ids AB (λr id=>r++(Eh l id).toList) (λi r=>r.length<=i) (λr=>some r) BU]
 ·rw[aPy]
 ·intro k a i h q;have u:=toList_le (Eh l ids[i]);refine⟨LV,?_⟩;unfold aG6 a7P;rw[Ch h,MI l _ AB];cases j:Eh l ids[i]with
  |none=>simp[SC j]
  |some e=>
   rw[Ou j];simp only[Ac,BZ,SN];rw[Dw G7];rfl
 intro k a q;unfold aG6;rw[EJ]
def a5w (l:AA α)i x(h:i<l.length):l.set i x=l.take i++x::l.drop (i+1):=aFr▸by simp[h]
def a3w A(g:α)D{n}(h:A.length=n):(A++g::D).take n=A/\(A++g::D).drop (n+1)=D:=by
 subst h;simp
def aHK l x(hi:Inc l)(hl:l.length<=1000000):nE l x=some (put l x):=by
 refine dK.eq ?_;unfold nE aVw
 have L:∀i,i<=l.length->(∀j,(U:j<i)->(hl:j<l.length)->l[j]<x)->(∀h:i<l.length,x<l[i])->put l x=l.take i++x::l.drop i:=by
  intro i hi' h1 h2;obtain⟨e1,O⟩:=aHm (decide<| · <x) l i hi' (λj U hl=>by simpa using h1 j U hl) (λhl=>by have :=h2 hl;simp;omega)
  have hno:EP l x=false:=Pz.2 λhm=>by
   obtain⟨q,hq,e4⟩:=GY hm;rcases rJ q i with h5|h5
   ·have :=h1 q h5 hq;omega
   have h6:=h2 AB;rcases rJ i q with h7|h7
   ·have :=JU.1 hi i q AB hq h7;omega
   have :q=i:=AB
   subst this;omega
  unfold put;rw[hno,e1,O];rfl
 have z:∀i,i<=l.length->∀d,d<=l.length-i->∀m,d<m->dK (aQ (Vr (i:Int) x) m ((i+d:Nat):Int) (l.take (i+d)++(l++[x]).getD (i+d) 0::l.drop (i+d))) (· =l.take i++x::l.drop i):=by
  intro i I d
  induction d with
  |zero=>
   intro _ m hm;obtain⟨m,rfl⟩:∃m',m=m'+1:=⟨m-1,AB⟩
   show dK (Vr (i:Int) x (aQ (Vr (i:Int) x) m) _ _) _;generalize aQ (Vr (i:Int) x) m=k;unfold Vr;rw[show decide (((i+0:Nat):Int)>(i:Int))=false by simp];simp only[BH,QB];have hlen:i<(l.take i++(l++[x]).getD i 0::l.drop i).length:=Ei
   rw[CQ hlen];refine .ret ?_;rw[Uu,a5w _ _ _ hlen];simp[aIS,aBo,lI I]
  |succ d ih=>
   intro hd m hm;obtain⟨m,rfl⟩:∃m',m=m'+1:=⟨m-1,AB⟩
   have Y:=ih AB m AB;show dK (Vr (i:Int) x (aQ (Vr (i:Int) x) m) _ _) _;generalize aQ (Vr (i:Int) x) m=k at Y ⊢;unfold Vr;rw[show decide (((i+(d+1):Nat):Int)>(i:Int))=true by simp;omega];simp only[BZ];have w:Au (((i+(d+1):Nat):Int)-1)=((i+d:Nat):Int):=OW
   have J:i+d<l.length:=AB
   have hL:(l.take (i+(d+1))++(l++[x]).getD (i+(d+1)) 0::l.drop (i+(d+1))).length=l.length+1:=Ei
   have h1:i+d<(l.take (i+(d+1))++(l++[x]).getD (i+(d+1)) 0::l.drop (i+(d+1))).length:=AB
   have h2:i+(d+1)<(l.take (i+(d+1))++(l++[x]).getD (i+(d+1)) 0::l.drop (i+(d+1))).length:=AB
   rw[w,CQ h1];simp only[Ac];rw[CQ h2];simp only[Ac]
   have hg:(l.take (i+(d+1))++(l++[x]).getD (i+(d+1)) 0::l.drop (i+(d+1)))[i+d]=l[i+d]:=by
    rw[a2d Ei];simp
   rw[hg,Uu,a5w _ _ _ h2]
   have e:(l.take (i+(d+1))++(l++[x]).getD (i+(d+1)) 0::l.drop (i+(d+1))).take (i+(d+1))++l[i+d]::(l.take (i+(d+1))++(l++[x]).getD (i+(d+1)) 0::l.drop (i+(d+1))).drop (i+(d+1)+1)=l.take (i+d)++(l++[x]).getD (i+d) 0::l.drop (i+d):=by
    have ht:(l.take (i+(d+1))).length=i+(d+1):=Ei
    rw[(a3w _ _ _ ht).1,(a3w _ _ _ ht).2];have h3:(l++[x]).getD (i+d) 0=l[i+d]:=by simp[List.getD,KH J,J]
    rw[h3,show i+(d+1)=i+d+1 by omega,MX J,Nc J,JK];rfl
   rw[e];exact Y
 have u:l++[x]=l.take l.length++(l++[x]).getD l.length 0::l.drop l.length:=BU
 refine ay l.length (fuel_lt AB) (λi=>∀j,(U:j<i)->(hl:j<l.length)->l[j]<x) (λj U=>AB) ?_ ?_
 ·intro i k I Z hk;unfold aIl;rw[show decide ((i:Int)<(l.length:Int))=true by simpa using I,CQ I];simp only[BZ,Ac];refine dK.bif (λe=>?_) λe=>?_
  ·rw[wrap_succ i AB];refine hk λj U hl'=>?_;by_cases ej:j=i
   ·subst ej;simpa using e
   exact Z j AB hl'
  have hge:¬l[i]<x:=U6
  refine dK.bif (λO=>?_) λO=>?_
  ·have hx:l[i]=x:=dB
   refine .ret ?_;unfold put;rw[La.2 (hx▸EU I)];rfl
  have hx:l[i]≠x:=dB
  rw[Dw G7];simp only[Ac];rw[L i AB Z (λ_=>AB)];have w:Au (((l++[x]).length:Int)-1)=((i+(l.length-i):Nat):Int):=aFI
  rw[w];have M:=z i AB (l.length-i) (ER _) Am (fuel_lt AB);rw[show i+(l.length-i)=l.length by omega]at M ⊢;rw[←u]at M;exact M
 intro k Z;unfold aIl;rw[show decide ((l.length:Int)<(l.length:Int))=false by simp];simp only[BH,Ac];rw[Dw G7];simp only[Ac];rw[L l.length (ER _) Z (λh=>AB)];have w:Au (((l++[x]).length:Int)-1)=((l.length+0:Nat):Int):=aFI
 rw[w];have M:=z l.length (ER _) 0 AB Am (fuel_lt AB);rw[QB]at M ⊢;rw[←u]at M;exact M
def bP (l:AA AQ)(id:Int):AY:=(Eh l id).isSome
def RP (l:AA AQ)(ids:AA Int):AA Int:=ids.foldl (λr id=>bif bP l id then r else put r id) []
def gU (l:AA AQ)(ids:AA Int):AA Int:=(FY ids).filter (bP l)
variable {ids:AA Int}{x:Int}
def O6:x∈gU l ids↔x∈ids/\bP l x=true:=by unfold gU;rw[Hg,MR]
def kW l ids:Inc (gU l ids):=(Nz ids).sublist Vd
def acN l ids:(gU l ids).length<=ids.length:=EC (MS _ _) (OE ids)
def a6J l:∀(ids r:AA Int),Inc r->Inc (ids.foldl (λr id=>bif bP l id then r else put r id) r)/\∀x,x∈ids.foldl (λr id=>bif bP l id then r else put r id) r↔x∈r\/x∈ids/\bP l x=false
 | [],r,h=>⟨h,λx=>BU⟩
 |id::ids,r,h=>by
  rw[Gf];cases j:bP l id with
  |true=>
   obtain⟨h1,h2⟩:=a6J l ids r h;refine⟨h1,λx=>(h2 x).trans ⟨λh=>?_,λh=>?_⟩⟩
   ·rcases h with h|h
    ·exact .inl h
    exact .inr ⟨I7 _ h.1,h.2⟩
   rcases h with h|⟨h,h3⟩
   ·exact .inl h
   rcases FP.1 h with rfl|h
   ·rw[j]at h3;cases h3
   exact .inr ⟨h,h3⟩
  |false=>
   obtain⟨h1,h2⟩:=a6J l ids (put r id) (TP h);refine⟨h1,λx=>(h2 x).trans ?_⟩;rw[Xc,FP];constructor
   ·rintro((h|rfl)|h)
    ·exact .inl h
    ·exact .inr ⟨.inl rfl,j⟩
    exact .inr ⟨.inr h.1,h.2⟩
   rintro(h|⟨rfl|h,h3⟩)
   ·exact .inl (.inl h)
   ·exact .inl (.inr rfl)
   exact .inr ⟨h,h3⟩
def pR:x∈RP l ids↔x∈ids/\bP l x=false:=by
 unfold RP;rw[(a6J l ids [] .nil).2 x];simp
def aYJ l ids:Inc (RP l ids):=(a6J l ids [] .nil).1
def aOP l ids:(RP l ids).length<=ids.length:=by
 have key:∀(ids r:AA Int),(ids.foldl (λr id=>bif bP l id then r else put r id) r).length<=r.length+ids.length:=by
  intro ids
  induction ids with
  |nil=>intro r;simp
  |cons id ids j=>
   intro r;rw[Gf];have h1:=j (cond (bP l id) r (put r id))
   have h2:(cond (bP l id) r (put r id)).length<=r.length+1:=by
    cases bP l id with
    |true=>exact Nat.le_succ _
    |false=>exact oN r id
   simp only[Gh];omega
 have :=key ids [];simpa[RP]using this
def a07 l ids(hl:l.length<=1000)(hi:ids.length<=100000):dG l ids=some (RP l ids):=by
 unfold dG aQv;rw[Iy ids AB (λr id=>bif bP l id then r else put r id) (λi r=>Inc r/\r.length<=i) (λr=>some r) ⟨.nil,ER _⟩]
 ·rfl
 ·intro k a i h j;have hp:=a4w l ids[i] AB
  have u:bP l ids[i]=decide (l.findIdx (λe=>e.Id==ids[i])<l.length):=by
   unfold bP Eh;rw[Kw];by_cases h:l.findIdx (λe=>e.Id==ids[i])<l.length
   ·rw[ES h,IX h];rfl
   rw[Oe AB,G6 h];rfl
  refine⟨?_,?_⟩
  ·cases bP l ids[i]with
   |true=>exact⟨j.1,by have :=j.2;show a.length<=i+1;omega⟩
   |false=>exact⟨TP j.1,by have :=oN a ids[i];have :=j.2;show(put a ids[i]).length<=i+1;omega⟩
  unfold aEh aAB;rw[Ch h,hp];simp only[Ac];by_cases q:l.findIdx (λe=>e.Id==ids[i])<l.length
  ·rw[ET q,u,IX q,show decide (((l.findIdx (λe=>e.Id==ids[i]):Nat):Int)<0)=false by simp];rfl
  rw[Ee q,u,G6 q,CQ h];simp only[show decide ((-1:Int)<0)=true by decide,BZ,BH,Ac];rw[aHK a _ j.1 (by have :=j.2;omega)];rfl
 intro k a j;unfold aEh;rw[EJ]
theorem a3B a b(h:a.length<=274877906944)(h2:b.length<=274877906944):fB a b=some (PY a b):=by
 unfold fB;rw[aJt a h];simp only[Ac];have ha:=OE a;unfold aW9;rw[Iy (FY a) AB (λr x=>bif EP b x then r else r++[x]) (λi r=>r.length<=i) (λr=>some r) (ER _)]
 ·congr 1;unfold PY;generalize FY a=S
  have key:∀(S r:AA Int),S.foldl (λr x=>bif EP b x then r else r++[x]) r=r++S.filter (λx=> !EP b x):=by
   intro S
   induction S with
   |nil=>
    intro r;simp
   |cons x S j=>
    intro r;rw[Gf,j,UY];cases EP b x<;>simp
  simpa using key S []
 ·intro k r i h q;have u:=Xw b (FY a)[i] AB;refine⟨?_,?_⟩
  ·cases EP b (FY a)[i]with
   |true=>
    grind
   |false=>
    show(r++[(FY a)[i]]).length<=i+1;simp;omega
  unfold aD7 a2H;rw[Ch h,u];simp only[Ac];cases EP b (FY a)[i]with
  |true=>
   rfl
  |false=>
   simp only[JZ,BZ,BH];rw[CQ h];simp only[Ac];rw[Dw G7];rfl
 intro k r q;unfold aD7;rw[EJ]
theorem aT5 l ids:PY ids (RP l ids)=gU l ids:=
 DU (aHn _ _) (kW _ _) λx=>by
  rw[aDV,pR,O6]
  grind
def aYH l ids(hl:l.length<=1000)(hi:ids.length<=100000):a3S l ids=some (gU l ids):=by
 unfold a3S;rw[a07 l ids hl hi];simp only[Ac];have :=aOP l ids;rw[a3B _ _ AB AB,aT5];rfl
def aOH l ids(hl:l.length<=1000)(hi:ids.length<=100000):zO l ids=some (gU l ids):=by
 unfold zO;rw[a07 l ids hl hi];simp only[Ac];have :=aOP l ids;rw[a3B _ _ AB AB,aT5];rfl
def jq (l:AA AQ)(id:Int):AA Int:=(Ii l id).1.bI
def Ut (l:AA AQ)(r:AA Int)(x:Int):AA Int:=bif bP l x then put r x else r
def MQ (l:AA AQ)(ids:AA Int):AA Int:=ids.foldl (λr id=>(jq l id).foldl (Ut l) r) []
def a7y l:∀(xs r:AA Int),Inc r->Inc (xs.foldl (Ut l) r)/\(∀x,x∈xs.foldl (Ut l) r↔x∈r\/x∈xs/\bP l x=true)/\(xs.foldl (Ut l) r).length<=r.length+xs.length
 | [],r,h=>⟨h,λx=>BU,BU⟩
 |y::xs,r,h=>by
  rw[Gf];unfold Ut;cases q:bP l y with
  |true=>
   obtain⟨h1,h2,h3⟩:=a7y l xs (put r y) (TP h);refine⟨h1,λx=>(h2 x).trans ?_,?_⟩
   ·rw[Xc,FP];constructor
    ·rintro((h|rfl)|h)
     ·exact .inl h
     ·exact .inr ⟨.inl rfl,q⟩
     exact .inr ⟨.inr h.1,h.2⟩
    rintro(h|⟨rfl|h,j⟩)
    ·exact .inl (.inl h)
    ·exact .inl (.inr rfl)
    exact .inr ⟨h,j⟩
   have :=oN r y;simp only[Gh,BZ]at h3 ⊢;exact EC h3 AB
  |false=>
   obtain⟨h1,h2,h3⟩:=a7y l xs r h;refine⟨h1,λx=>(h2 x).trans ⟨λh=>?_,λh=>?_⟩,?_⟩
   ·rcases h with h|h
    ·exact .inl h
    exact .inr ⟨I7 _ h.1,h.2⟩
   ·rcases h with h|⟨h,j⟩
    ·exact .inl h
    rcases FP.1 h with rfl|h
    ·rw[q]at j;cases j
    exact .inr ⟨h,j⟩
   simp only[Gh,BH]at h3 ⊢;exact EC h3 AB
theorem aEI l:∀(ids r:AA Int),Inc r->Inc (ids.foldl (λr id=>(jq l id).foldl (Ut l) r) r)/\∀x,x∈ids.foldl (λr id=>(jq l id).foldl (Ut l) r) r↔x∈r\/bP l x=true/\∃id∈ids,x∈jq l id
 | [],r,h=>⟨h,λx=>BU⟩
 |id::ids,r,h=>by
  rw[Gf];obtain⟨j,q,_⟩:=a7y l (jq l id) r h;obtain⟨h1,h2⟩:=aEI l ids _ j
  grind
def zX l ids:Inc (MQ l ids):=(aEI l ids [] .nil).1
def TL:x∈MQ l ids↔bP l x=true/\∃id∈ids,x∈jq l id:=by
 unfold MQ;rw[(aEI l ids [] .nil).2 x];simp
def chainOf (l:AA AQ)(ids:AA Int):AA Int:=l.foldl (λs _=>JL s (MQ l s)) (MQ l (gU l ids))
inductive NJ (l:List AQ) (ids:List Int):Int->Prop
 |one {i x:Int} (h:i∈ids) (hx:x∈jq l i) (hk:bP l x=true):NJ l ids x
 |more {y x:Int} (h:NJ l ids y) (hx:x∈jq l y) (hk:bP l x=true):NJ l ids x
def ag2 {i}(h:x∈jq l i):bP l i=true:=by
 unfold jq at h;unfold bP;cases j:Eh l i with
 |none=>rw[SC j]at h;cases h
 |some e=>rfl
theorem zo {s t}(hs:Inc s)(j:Inc t)(h:∀x∈s,x∈t):s.length<=t.length/\(t.length<=s.length->s=t):=by
 have e:s=t.filter (λx=>EP s x):=DU hs (j.sublist Vd) λx=>by
  rw[Hg,La]
  grind
 have hl:=MS (λx=>EP s x) t;refine⟨by rw[e];exact hl,λq=>?_⟩;have h3:(t.filter (λx=>EP s x)).length=t.length:=by have :=BF List.length e;omega
 rw[e];exact pU.2 (List.length_filter_eq_length_iff.1 h3)
def U9 (l:AA AQ):AA Int:=FY (l.map (·.Id))
def vO (h:bP l x=true):x∈U9 l:=by
 unfold bP at h;obtain⟨e,j⟩:=SB.1 h;exact MR.2 (FB.2 ⟨e,Jf j,a5B j⟩)
theorem a8m l:∀(l':AA AQ) (s:AA Int),Inc s->(∀x∈s,bP l x=true)->
 Inc (l'.foldl (λs _=>JL s (MQ l s)) s)/\(∀x∈l'.foldl (λs _=>JL s (MQ l s)) s,bP l x=true)/\(∀x∈s,x∈l'.foldl (λs _=>JL s (MQ l s)) s)/\
 ((U9 l).length<=s.length+l'.length->∀x∈MQ l (l'.foldl (λs _=>JL s (MQ l s)) s),x∈l'.foldl (λs _=>JL s (MQ l s)) s)
 | [],s,hs,u=>⟨hs,u,λ_ h=>h,λhlen x j=>by
     have h1:=(zo hs (Nz _) (λx j=>vO (u x j))).2 (by show(U9 l).length<=s.length;simpa using hlen);have h2:=vO (TL.1 j).1;unfold U9 at h2
     rw[←h1]at h2;exact h2⟩
 |e::l',s,hs,u=>by
  rw[Gf]
  have z:∀x∈JL s (MQ l s),bP l x=true:=λx j=>by
   rcases XK.1 j with h|h
   ·exact u x h
   exact(TL.1 h).1
  obtain⟨h1,h2,h3,J⟩:=a8m l l' (JL s (MQ l s)) (a0B _ _) z;refine⟨h1,h2,λx j=>h3 x (XK.2 (.inl j)),λhlen=>?_⟩;have I:=zo hs (a0B s (MQ l s)) λx j=>XK.2 (.inl j);by_cases q:s=JL s (MQ l s)
  ·
   have hst:∀(l':AA AQ),l'.foldl (λs _=>JL s (MQ l s)) s=s:=by
    intro l'
    induction l' with
    |nil=>
     rfl
    |cons e l' L=>
     grind
   rw[←q,hst];intro x j;rw[q];exact XK.2 (.inr j)
  grind
def aAu l ids:Inc (chainOf l ids):=(a8m l l _ (zX _ _) λ_ j=>(TL.1 j).1).1
def aY9 (h:x∈chainOf l ids):bP l x=true:=(a8m l l _ (zX _ _) λ_ j=>(TL.1 j).1).2.1 x h
def aL7 l ids:∀(l':AA AQ) (s:AA Int),(∀x∈s,NJ l ids x)->∀x∈l'.foldl (λs _=>JL s (MQ l s)) s,NJ l ids x
 | [],s,h=>h
 |e::l',s,h=>by
  rw[Gf];refine aL7 l ids l' _ λx j=>?_;rcases XK.1 j with j|j
  ·exact h x j
  obtain⟨h1,y,h2,h3⟩:=TL.1 j;exact .more (h y h2) h3 h1
theorem lq:x∈chainOf l ids↔NJ l ids x:=by
 constructor
 ·refine aL7 l ids l _ (λx j=>?_) x;obtain⟨h1,y,h2,h3⟩:=TL.1 j;exact .one (O6.1 h2).1 h3 h1
 obtain⟨h1,h2,h3,u⟩:=a8m l l _ (zX l (gU l ids)) λ_ j=>(TL.1 j).1
 have hlen:(U9 l).length<=(MQ l (gU l ids)).length+l.length:=by
  have :=OE (l.map (·.Id));unfold U9
  grind
 have z:=u hlen;intro h
 induction h with
 |one h j q=>
  exact h3 _ (TL.2 ⟨q,_,O6.2 ⟨h,ag2 j⟩,j⟩)
 |more h j q I=>
  exact z _ (TL.2 ⟨q,_,I,j⟩)
theorem jH l ids:(chainOf l ids).length<=l.length:=by
 have h1:=(zo (t:=U9 l) (aAu l ids) (Nz _) λx j=>vO (aY9 j)).1;have h2:=OE (l.map λe:AQ=>e.Id);unfold U9 at h1
 grind
def SS (l:AA AQ):Prop:=∀e∈l,e.bI.length<=40
def a2n (h:SS l)id:(jq l id).length<=40:=by
 unfold jq;cases j:Eh l id with
 |none=>rw[SC j];exact FQ _
 |some e=>rw[Ou j];exact h e (Jf j)
theorem aen l ids:(MQ l ids).length<=l.length:=by
 have h1:=(zo (t:=U9 l) (zX l ids) (Nz _) λx j=>vO (TL.1 j).1).1;have h2:=OE (l.map λe:AQ=>e.Id);unfold U9 at h1
 grind
variable {r:AA Int}
theorem lT (hi:Inc r)(h:∀x∈r,bP l x=true):r.length<=l.length:=by
 have h1:=(zo (t:=U9 l) hi (Nz _) λx j=>vO (h x j)).1;have h2:=OE (l.map λe:AQ=>e.Id);unfold U9 at h1
 grind
theorem aPz l ids(hl:l.length<=1000)(ha:SS l)(hi:ids.length<=100000):a0V l ids true=some (MQ l ids):=by
 unfold a0V aTD;rw[Iy ids AB (λr id=>(jq l id).foldl (Ut l) r) (λi r=>Inc r/\∀x∈r,bP l x=true) (λr=>some r) ⟨.nil,λx u=>by cases u⟩]
 ·rfl
 ·intro k r i h z;obtain⟨L,U,_⟩:=a7y l (jq l ids[i]) r z.1;refine⟨⟨L,λx u=>?_⟩,?_⟩
  ·grind
  unfold aKM a7x;rw[Ch h,MI l _ AB];simp only[Ac,BZ];show aBq (jq l ids[i]) l k (i:Int) r 0=_;have M:=a2n ha ids[i];unfold aBq;rw[Iy (jq l ids[i]) AB (Ut l) (λ_ r=>Inc r/\∀x∈r,bP l x=true) (λr=>k r (Au ((i:Int)+1))) z]
  ·intro k2 O j I q;refine⟨?_,?_⟩
   ·unfold Ut;cases J:bP l (jq l ids[i])[j]with
    |true=>
     exact⟨TP q.1,λx u=>(Xc.1 u).elim (q.2 x) λe=>e▸J⟩
    |false=>
     exact q
   unfold aBK a3r;rw[Ch I,MI l _ AB];simp only[Ac,MF];show(cond (bP l (jq l ids[i])[j]) _ _)=_;unfold Ut;cases J:bP l (jq l ids[i])[j]with
   |true=>
    simp only[BZ];rw[CQ I];simp only[Ac];have :=lT q.1 q.2;rw[mP _ _ AB];rfl
   |false=>
    rfl
  intro k2 O _;unfold aBK;rw[EJ]
 intro k r z;unfold aKM;rw[EJ]
def aaU l ids(hl:l.length<=1000)(ha:SS l)(h1:Inc ids)(h2:∀x∈ids,bP l x=true):a6b l ids true=some (l.foldl (λs _=>JL s (MQ l s)) ids):=by
 unfold a6b aRC;rw[Iy l AB (λs _=>JL s (MQ l s)) (λ_ r=>Inc r/\∀x∈r,bP l x=true) (λr=>some r) ⟨h1,h2⟩]
 ·intro k r i h j;refine⟨⟨a0B _ _,λx q=>(XK.1 q).elim (j.2 x) λh=>(TL.1 h).1⟩,?_⟩;have u:=lT j.1 j.2;have z:=aen l r;unfold aHe;rw[dec_lt h];simp only[BZ];rw[aPz l r hl ha AB];simp only[Ac];rw[a5J _ _ AB AB];rfl
 intro k r j;unfold aHe;rw[DR];rfl
def aDg l ids(hl:l.length<=1000)(ha:SS l)(hi:ids.length<=100000):dO l ids=some (chainOf l ids):=by
 unfold dO;have q:=acN l ids;rw[aYH l ids hl hi];simp only[Ac];rw[aPz l _ hl ha AB];simp only[Ac];rw[aaU l _ hl ha (zX _ _) λx j=>(TL.1 j).1];rfl
variable {B:Type}
section
variable {R C D E F G:Type}{Q:R->Prop}
def Sm {body}(I:Nat->A->B->C->Prop)(hs:∀m a b c k,I m a b c->(∀j a' q u,j<m->I j a' q u->dK (k a' q u) Q)->dK (body k a b c) Q):
 ∀n m a b c,m<n->I m a b c->dK (iG body n a b c) Q
 |0,m,_,_,_,h,_=>AB
 |n+1,m,a,b,c,h,hi=>hs m a b c _ hi λj a' q u h' z=>Sm I hs n j a' q u AB z
def a9c {body}(I:Nat->A->B->C->D->E->Prop)(hs:∀m a b c d e k,I m a b c d e->(∀j a' q u z e',j<m->I j a' q u z e'->dK (k a' q u z e') Q)->dK (body k a b c d e) Q):
 ∀n m a b c d e,m<n->I m a b c d e->dK (Ed body n a b c d e) Q
 |0,m,_,_,_,_,_,h,_=>AB
 |n+1,m,a,b,c,d,e,h,hi=>hs m a b c d e _ hi λj a' q u z e' h' J=>a9c I hs n j a' q u z e' AB J
def aIv {body}(I:Nat->A->B->C->D->E->F->Prop)(hs:∀m a b c d e f k,I m a b c d e f->(∀j a' q u z e' J,j<m->I j a' q u z e' J->dK (k a' q u z e' J) Q)->dK (body k a b c d e f) Q):
 ∀n m a b c d e f,m<n->I m a b c d e f->dK (HY body n a b c d e f) Q
 |0,m,_,_,_,_,_,_,h,_=>AB
 |n+1,m,a,b,c,d,e,f,h,hi=>hs m a b c d e f _ hi λj a' q u z e' J h' L=>aIv I hs n j a' q u z e' J AB L
def aTK {body}(I:Nat->A->B->C->D->E->F->G->Prop)(hs:∀m a b c d e f g k,I m a b c d e f g->(∀j a' q u z e' J L,j<m->I j a' q u z e' J L->dK (k a' q u z e' J L) Q)->dK (body k a b c d e f g) Q):
 ∀n m a b c d e f g,m<n->I m a b c d e f g->dK (aeg body n a b c d e f g) Q
 |0,m,_,_,_,_,_,_,_,h,_=>AB
 |n+1,m,a,b,c,d,e,f,g,h,hi=>hs m a b c d e f g _ hi λj a' q u z e' J L h' M=>aTK I hs n j a' q u z e' J L AB M
end
def Qe {V}:∀(m:AA (Int×V)) (k k':Int) (v:V),DF (EM m k v) k'=bif k'==k then some v else DF m k'
 | [],k,k',v=>by
   unfold EM DF;rfl
 |p::m,k,k',v=>by
  unfold EM;cases h:k==p.1 with
  |true=>
   have h1:k=p.1:=Oa
   subst h1;simp only[BZ,DF];cases k'==p.1<;>rfl
  |false=>
   have h1:k≠p.1:=Oa
   simp only[BH,DF,Qe m k k' v];cases h2:k'==p.1 with
   |true=>
    have h3:k'=p.1:=LP
    subst h3;have :(p.1==k)=false:=by simpa using λe:p.1=k=>h1 e.symm
    rw[this];rfl
   |false=>rfl
def cD (l:AA AQ)(m:AA (Int×Int)):Prop:=∀id,(DF m id=none/\Eh l id=none)\/∃(n:Nat) (e:AQ),DF m id=some (n:Int)/\Eh l id=some e/\l[n]? =some e
variable {m:AA (Int×Int)}
def cD.isSome (h:cD l m)id:(DF m id).isSome=bP l id:=by
 unfold bP;rcases h id with⟨h1,h2⟩|⟨n,e,h1,h2,_⟩<;>rw[h1,h2]<;>rfl
theorem cD.get (h:cD l m){id}(j:Eh l id=some e):Ak l ((DF m id).getD 0)=some e:=by
 rcases h id with⟨_,h2⟩|⟨n,e',h1,h2,h3⟩
 ·grind
 rw[j]at h2;cases h2;rw[h1];show Ak l (n:Int)=_;rw[a2N,h3]
theorem vJ l(hl:l.length<=1000):dK (ZK l) (cD l):=by
 unfold ZK aWy
 refine ZX (λm a b=>∃i:Nat,a=(i:Int)-1/\m=i/\i<=l.length/\∀id,(DF b id=none/\(l.drop i).find? (λe=>e.Id==id)=none)\/∃(n:Nat) (e:AQ),DF b id=some (n:Int)/\(l.drop i).find? (λe=>e.Id==id)=some e/\l[n]? =some e) ?_ Am l.length _ _ (fuel_lt AB)
  ⟨l.length,OW,rfl,ER _,λid=>.inl ⟨rfl,BU⟩⟩
 rintro m a b k ⟨i,rfl,hm,hi,h⟩ u;unfold aT4;refine dK.bif (λe=>?_) λe=>?_
 ·have q:0<i:=by have :=Ov e;omega
  have j:i-1<l.length:=AB
  have z:(i:Int)-1=((i-1:Nat):Int):=AB
  rw[z,CQ j];simp only[Ac];refine u (i-1) _ _ AB ⟨i-1,OW,rfl,AB,λid=>?_⟩;rw[Qe,Nc j,show i-1+1=i by omega,YA]
  grind
 have I:i=0:=by have :=Nj e;omega
 subst I;refine .ret λid=>?_;have :=h id;rw[a5t]at this;exact this
inductive WZ (l:List AQ) (from_:List Int):Int->Prop
 |one {x:Int} (h:x∈from_) (hk:bP l x=true):WZ l from_ x
 |more {y x:Int} (h:WZ l from_ y) (hx:x∈jq l y) (hk:bP l x=true):WZ l from_ x
def WZ.bP {f}(h:WZ l f x):bP l x=true:=by cases h<;>assumption
theorem abZ (h:x∉r):(put r x).length=r.length+1:=by
 unfold put;rw[Ee (by rw[La];exact h),Ef,Gh];have :=BF List.length (yL (p:=(decide<| · <x)) (l:=r))
 grind
def aSX r x:FY (r++[x])=put (FY r) x:=by unfold FY;rw[Uw];rfl
structure acB (l:List AQ) (from_ next aCQ:List Int) (i:Nat) (out later:List Int) (found level:List (Int×Bool)):Prop where
 found:∀x,(DF found x).getD false=true↔x∈out
 level:∀x,(DF level x).getD false=true->x∈out
 nodup:(FY out).length=out.length
 rch:∀x∈out,WZ l from_ x
 seen:∀x∈next.take i,bP l x=true->x∈out
 sub:∀x∈aCQ,x∈out
 ref:∀y∈out,y∈aCQ\/∀x∈jq l y,x∈later
 back:∀x∈later,∃y∈out,x∈jq l y
 size:later.length+40*aCQ.length<=40*out.length
 same:out.length=aCQ.length->later=[]
def aFu {j}(h:(FY j).length=j.length)(q:∀x∈j,bP l x=true):j.length<=l.length:=by
 rw[←h];exact lT (Nz j) λx u=>q x (MR.1 u)
def aa3 l(h:Eh l x=some e):Za e=some (jq l x):=by
 unfold Za jq;rw[Ou h]
theorem acw l q(hl:l.length<=1000)(ha:SS l)(hf:q.length<=10000000):
 dK (wZ l q λa0=>Za a0) (λr=>Inc r/\∀x,x∈r↔WZ l q x):=by
 unfold wZ;refine(vJ l hl).bind λat_ Z=>?_;unfold aTi
 refine a9c (λm z next at' found level=>at'=at_/\m=2*(l.length-z.length)+(if next=[]then 0 else 1)/\next.length<=10000000/\(∀x,(DF found x).getD false=true↔x∈z)/\(FY z).length=z.length/\
  (∀x∈z,WZ l q x)/\(∀x∈next,bP l x=true->WZ l q x)/\(∀x∈q,bP l x=true->x∈z\/x∈next)/\(∀y∈z,∀x∈jq l y,bP l x=true->x∈z\/x∈next)) ?_ Am (2*(l.length-([]:AA Int).length)+(if q=[]then 0 else 1)) _ _ _ _ _ ?_ ?_
 ·rintro m z next at2 found level k ⟨aNc,rfl,hn,h1,h2,h3,h4,h5,h6⟩ M;subst aNc;unfold aX7;have hol:=aFu h2 λx j=>(h3 x j).bP;refine dK.bif (λe=>?_) λe=>?_
  ·have hne:next≠[]:=by
    rintro rfl;simp at e
   unfold aNz;refine aIv (body:=aKe next l (λa0=>Za a0) k) (λ(m:Nat) (o la:AA Int) (c:Int) (d:AA (Int×Int)) (fo le:AA (Int×AY))=>∃i:Nat,c=i/\i+m=next.length/\d=at2/\acB l q next z i o la fo le) ?_ Am next.length _ _ _ _ _ _ oO ?_
   ·rintro m o la c d fo le k2 ⟨i,rfl,hm,rfl,u⟩ U;unfold aKe;refine dK.bif (λe=>?_) λe=>?_
    ·have hi:i<next.length:=U6
     have w:=wrap_succ i AB;have aNd:=aFu u.nodup λx j=>(u.rch x j).bP;rw[CQ hi];simp only[Ac];rw[Z.isSome];unfold a9m;have J:next.take (i+1)=next.take i++[next[i]]:=by rw[MX hi]
     cases Y:bP l next[i]with
     |false=>
      simp only[JZ,BZ,Ac,w];refine U (m-1) _ _ _ _ _ _ AB ⟨i+1,rfl,AB,rfl,{ u with seen:=λx j M=>?_ }⟩;rw[J,Ia]at j;rcases j with j|j
      ·exact u.seen x j M
      rw[Je.1 j,Y]at M;cases M
     |true=>
      simp only[Eu,BH,Ac];by_cases O:next[i]∈o
      ·rw[(u.found next[i]).2 O];simp only[BZ,Ac,w];refine U (m-1) _ _ _ _ _ _ AB ⟨i+1,rfl,AB,rfl,{ u with seen:=λx j M=>?_ }⟩;rw[J,Ia]at j;rcases j with j|j
       ·exact u.seen x j M
       rw[Je.1 j];exact O
      have f1:(DF fo next[i]).getD false=false:=by
       cases h:(DF fo next[i]).getD false with
       |false=>
        rfl
       |true=>
        exact absurd ((u.found _).1 h) O
      have f2:(DF le next[i]).getD false=false:=by
       cases h:(DF le next[i]).getD false with
       |false=>
        rfl
       |true=>
        exact absurd (u.level _ h) O
      rw[f1,f2];simp only[BH,Ac];obtain⟨ev,hev⟩:=SB.1 (show(Eh l next[i]).isSome=true from Y);rw[Dw G7];simp only[Ac];rw[Z.get hev];simp only[Ac];rw[aa3 l hev];simp only[Ac];have hau:=a2n ha next[i];have hsz:=u.size;rw[Dw AB];simp only[Ac,w];refine U (m-1) _ _ _ _ _ _ AB ⟨i+1,rfl,AB,rfl,?_⟩;have hnx:WZ l q next[i]:=h4 _ (EU hi) Y;refine⟨λx=>?_,λx j=>?_,?_,λx j=>?_,λx j M=>?_,λx j=>uV _ (u.sub x j),λy L=>?_,λx j=>?_,?_,λh=>?_⟩
      ·rw[Qe,Ia,Je];cases j:x==next[i]with
       |true=>
        grind
       |false=>
        simp only[BH];rw[u.found x];exact⟨.inl,λh=>h.elim id λh=>by simp[h]at j⟩
      ·rw[Qe]at j;rw[Ia,Je];cases hxe:x==next[i]with
       |true=>
        grind
       |false=>
        rw[hxe]at j;exact .inl (u.level x j)
      ·rw[aSX,abZ (λh=>O (MR.1 h)),u.nodup];simp
      ·rcases Ia.1 j with j|j
       ·exact u.rch x j
       rw[Je.1 j];exact hnx
      ·rw[J,Ia]at j;rcases j with j|j
       ·exact uV _ (u.seen x j M)
       exact aA0 _ j
      ·rcases Ia.1 L with L|L
       ·exact(u.ref y L).imp id λh x j=>uV _ (h x j)
       rw[Je.1 L];exact .inr λx j=>aA0 _ j
      ·rcases Ia.1 j with j|j
       ·obtain⟨y,L,h⟩:=u.back x j;exact⟨y,uV _ L,h⟩
       exact⟨next[i],aA0 _ (Je.2 rfl),j⟩
      ·simp only[Ef,OC];omega
      have :=u.size;simp only[Ef,OC]at h;omega
    have hi:i=next.length:=by
      have :¬i<next.length:=U6
      omega
    subst hi;have aNd:=aFu u.nodup λx j=>(u.rch x j).bP;have hsz:=u.size;refine M (2*(l.length-o.length)+(if la=[]then 0 else 1)) _ _ _ _ _ ?_ ⟨rfl,rfl,AB,u.found,u.nodup,u.rch,λx j I=>?_,λx j I=>?_,λy L x j I=>?_⟩
    ·rw[Ee hne];have hle:z.length<=o.length:=AB
     rcases rJ z.length o.length with h|h
     ·split<;>omega
     have :=u.same AB
     grind
    ·obtain⟨y,L,h⟩:=u.back x j;exact .more (u.rch y L) h I
    ·rcases h5 x j I with h|h
     ·exact .inl (u.sub x h)
     exact .inl (u.seen x (by rw[Gw];exact h) I)
    rcases u.ref y L with h|h
    ·rcases h6 y h x j I with h|h
     ·exact .inl (u.sub x h)
     exact .inl (u.seen x (by rw[Gw];exact h) I)
    grind
   exact⟨0,rfl,AB,rfl,⟨h1,λx j=>by simp[DF]at j,h2,h3,λx j=>uj,λ_ h=>h,λy L=>.inl L,λx j=>(H9 j).elim,BU,λ_=>rfl⟩⟩
  have hz:next=[]:=by
   cases next with
   |nil=>
    rfl
   |cons a b=>
    simp at e
  subst hz;rw[kJ z AB];refine .ret ⟨Nz _,λx=>?_⟩;rw[MR];refine⟨h3 x,λh=>?_⟩
  induction h with
  |one h I=>
   grind
  |more h j I ih=>
   grind
 ·have :Am=9223372036854775808:=rfl
  grind
 exact⟨rfl,rfl,hf,λx=>by simp[DF],rfl,λx j=>(H9 j).elim,λx j M=>.one j M,λx j _=>.inr j,λy L=>(H9 L).elim⟩
def aFR l ids(hl:l.length<=1000)(ha:SS l)(hi:ids.length<=100000):ZQ l ids=some (chainOf l ids):=by
 refine dK.eq ?_;unfold ZQ;refine(vJ l hl).bind λat_ q=>?_;unfold aV8;rw[Iy ids AB (λr id=>r++jq l id) (λi r=>r.length<=40*i) (λr=>(wZ l r λa0=>Za a0).bind λJ=>some J) BU]
 ·rw[foldl_append (jq l),Ir]
  have hlen:(ids.flatMap (jq l)).length<=40*ids.length:=by
   have key:∀ids:AA Int,(ids.flatMap (jq l)).length<=40*ids.length:=by
    intro ids
    induction ids with
    |nil=>simp
    |cons x ids I=>have :=a2n ha x;rw[Oj,Ef,Gh];omega
   exact key ids
  refine(acw l _ hl ha AB).bind λr L=>.ret ?_;refine DU L.1 (aAu l ids) λx=>(L.2 x).trans (Iff.trans ?_ lq.symm);constructor
  ·intro h
   induction h with
   |one h j=>
    obtain⟨i,hi,h⟩:=WL.1 h;exact .one hi h j
   |more h u j I=>exact .more I u j
  intro h
  induction h with
  |one h u j=>exact .one (WL.2 ⟨_,h,u⟩) j
  |more h u j I=>exact .more I u j
 ·intro k r i h O;have M:=a2n ha ids[i];refine⟨by simp only[Ef];omega,?_⟩;unfold aD8 a2m;rw[Ch h,q.isSome];cases j:bP l ids[i]with
  |false=>
   have :jq l ids[i]=[]:=by
    unfold jq;rw[SC (by unfold bP at j;simpa using j)];rfl
   rw[this,Tv];rfl
  |true=>
   obtain⟨ev,z⟩:=SB.1 (show(Eh l ids[i]).isSome=true from j);simp only[BZ];rw[q.get z];simp only[Ac];have :jq l ids[i]=ev.bI:=by unfold jq;rw[Ou z]
   rw[←this,Dw AB];rfl
 intro k r _;unfold aD8;rw[EJ]
def aG8 :∀x:AA UInt8,Op.bytesLess x x=false
 | []=>rfl
 |a::x=>by
  unfold Op.bytesLess;rw[aG8 x];simp
theorem aNO :∀{x y z:AA UInt8},Op.bytesLess x y=true->Op.bytesLess y z=true->Op.bytesLess x z=true
 |_,_,[],_,h=>a3h
 | [],_,_::_,_,_=>
     rfl
 |_::_,[],_::_,h,_=>a3h
 |a::x,b::y,c::z,h,k=>by
  simp only[Op.bytesLess,ZE,Di,Io,NP]at h k ⊢;rcases h with h|⟨rfl,h⟩<;>rcases k with k|⟨rfl,k⟩
  ·grind
  ·exact .inl h
  ·exact .inl k
  exact .inr ⟨rfl,aNO h k⟩
def aNq :∀{x y:AA UInt8},Op.bytesLess x y=false->Op.bytesLess y x=false->x=y
 | [],[],_,_=>rfl
 | [],_::_,h,_=>a3h
 |_::_,[],_,h=>a3h
 |a::x,b::y,h,k=>by
  simp only[Op.bytesLess,a6m,Bool.and_eq_false_iff,sO,beq_eq_false_iff_ne]at h k;have e:a=b:=UInt8.le_antisymm (UInt8.not_lt.1 k.1) (UInt8.not_lt.1 h.1);subst e;have h2:=h.2.resolve_left (λh=>h rfl);have k2:=k.2.resolve_left (λh=>h rfl);rw[aNq h2 k2]
def GN (a b:BK):AY:=decide (a.Kind<b.Kind)||(a.Kind==b.Kind&&Op.bytesLess a.Key.toList b.Key.toList)
def Jv (a b:BK):AY:=a.Kind==b.Kind&&(a.Key=b.Key)
def adI a:GN a a=false:=by unfold GN;rw[aG8];simp
variable {a b c:BK}
theorem aMJ (h:GN a b=true)(k:GN b c=true):GN a c=true:=by
 unfold GN at *;simp only[ZE,Di,Io,NP]at *;rcases h with h|⟨h1,h2⟩<;>rcases k with k|⟨j,k2⟩
 ·grind
 ·grind
 ·grind
 exact .inr ⟨AB,aNO h2 k2⟩
def XI:Jv a b=true↔a.Kind=b.Kind/\a.Key=b.Key:=by unfold Jv;simp
def aLo (h:GN a b=false)(k:GN b a=false):Jv a b=true:=by
 unfold GN at *;simp only[a6m,Bool.and_eq_false_iff,sO,beq_eq_false_iff_ne]at *;have e:a.Kind=b.Kind:=AB
 rw[XI];exact⟨e,toList_inj (aNq (h.2.resolve_left λn=>n e) (k.2.resolve_left λn=>n e.symm))⟩
def a1k (h:Jv a b=true):GN a b=false:=by
 obtain⟨h1,h2⟩:=XI.1 h;unfold GN;rw[h1,h2,aG8];simp
theorem yX (h:Jv a b=true):GN a c=GN b c/\GN c a=GN c b:=by
 obtain⟨h1,h2⟩:=XI.1 h;unfold GN
 grind
theorem aa7 a b:uy a b=some (GN a b):=by
 unfold uy GN
 grind
theorem ach k key m o i j:a6o k key m o=some (GN ⟨k,key,i⟩ ⟨m,o,j⟩):=by
 unfold a6o GN
 grind
def Fl (s:AA BK)(e:BK):Nat:=s.findIdx λx=> !GN x e
def MH (s:AA BK)(e:BK):AY:=match s[Fl s e]? with
 |some x=>Jv x e
 |none=>false
def a1B s e:Fl s e<=s.length:=a8w
variable {e:BK}{s:AA BK}
def aPp (h:Fl s e<s.length):GN s[Fl s e] e=false:=by
 have :=List.findIdx_getElem (w:=h);unfold Fl;simpa using this
theorem aLY s k key(hs:s.length<=1000000):zC s k key=some (((Fl s ⟨k,key,0⟩:Nat):Int),MH s ⟨k,key,0⟩):=by
 unfold zC aHT aPm;generalize j:(⟨k,key,0⟩:BK)=e
 have hp:bn (a81 s (λa0=>a1A a0 e) (λa0=>uY a0 e)) Am 0=some (((Fl s e:Nat):Int),MH s e):=by
  rw[Jh s (fuel_lt AB) (λx=> !GN x e) (λi=>some (((i:Nat):Int),match s[i]? with |some x=> !GN e x|none=>false)) (some (((s.length:Nat):Int),false))]
  ·split
   ·rename_i h;congr 2;unfold MH Fl;rw[ES h];have h1:GN s[s.findIdx λx=> !GN x e] e=false:=aPp h;show(!GN e s[s.findIdx λx=> !GN x e])=Jv s[s.findIdx λx=> !GN x e] e;cases h2:GN e s[s.findIdx λx=> !GN x e]with
    |false=>
     rw[aLo h1 h2];rfl
    |true=>
     cases h3:Jv s[s.findIdx λx=> !GN x e] e with
     |false=>
      rfl
     |true=>
      rw[(yX h3).2,adI]at h2;cases h2
   rename_i h;have h':Fl s e=s.length:=by have :=a1B s e;unfold Fl at *;omega
   have h2:MH s e=false:=by unfold MH;rw[h',Oe (ER _)]
   rw[h',h2]
  ·intro k2 i h;unfold a81;rw[Ch h,Ch h];simp only[a1A,uY,aa7,Ac]
   grind
  intro k2;unfold a81;rw[EJ,EJ];rfl
 rw[hp];rfl
def LD (s:AA BK):Prop:=s.Pairwise λa b=>GN a b=true
def Ih (s:AA BK)(k:Int)(key:BL):Int×AY:=match s.find? λx=>Jv x ⟨k,key,0⟩with
 |some x=>(x.Id,true)
 |none=>(0,false)
def aJD s k key(hs:s.length<=1000000):lS s k key=some (Ih s k key):=by
 unfold lS aT1;rw[Jh s (fuel_lt AB) (λx=>Jv x ⟨k,key,0⟩) (λi=>(Ak s (i:Int)).bind λj=>some (j.Id,true)) (some (0,false))]
 ·unfold Ih;rw[Kw];split
  ·rename_i h;rw[CQ h,ES h];rfl
  rename_i h;rw[Oe AB]
 ·intro k2 i h;unfold aJs;rw[Ch h,CQ h];simp only[Ac];unfold Jv;rw[JM];cases s[i].Kind==k<;>rfl
 intro k2;unfold aJs;rw[EJ]
def am9 (h:LD s)e:s.find? (λx=>Jv x e)=match s[Fl s e]? with |some x=>if Jv x e then some x else none|none=>none:=by
 induction s with
 |nil=>rfl
 |cons a s j=>
  have h':=QZ.1 h;unfold Fl;rw[YA,V3];cases hp:GN a e with
  |true=>
   have hs:Jv a e=false:=by
    cases hs:Jv a e with
    |false=>rfl
    |true=>rw[a1k hs]at hp;cases hp
   rw[hs];simp only[Eu,BH,lW];exact j h'.2
  |false=>
   simp only[JZ,BZ,gQ];cases hs:Jv a e with
   |true=>rfl
   |false=>
    simp only[UW,Lc];refine a4b.2 λx q u=>?_;have h1:=h'.1 x q;rw[(yX u).2,hp]at h1;cases h1
theorem aIa s k key(hs:s.length<=1000000)(h:LD s):oI s k key=some (Ih s k key):=by
 unfold oI;rw[aLY s k key hs];simp only[Ac];unfold Ih MH;rw[am9 h];by_cases hl:Fl s ⟨k,key,0⟩<s.length
 ·rw[ES hl];simp only;cases j:Jv s[Fl s ⟨k,key,0⟩] ⟨k,key,0⟩with
  |true=>
   simp only[BZ,KT];rw[CQ hl];rfl
  |false=>
   rfl
 grind
def Gy (s:AA BK)(k:Int)(key:BL)(id:Int):AA BK:=
 s.take (Fl s ⟨k,key,0⟩)++⟨k,key,id⟩::s.drop (Fl s ⟨k,key,0⟩+bif MH s ⟨k,key,0⟩then 1 else 0)
theorem afK (h:MH s e=true):Fl s e<s.length:=by
 unfold MH at h
 grind
variable {l:AA α}
def xK (hi:i<=l.length):I8 l 0 (i:Int)=some (l.take i):=by
 have :=bF (l:=l) (lo:=0) (hi:=i) AB hi;simpa using this
def YD (hi:i<=l.length):I8 l (i:Int) (l.length:Int)=some (l.drop i):=by
 rw[bF (l:=l) (lo:=i) (hi:=l.length) hi AB];congr 1;exact RU BU
def aU s k key id(hs:s.length<=1000000):UO s k key id=some (Gy s k key id):=by
 unfold UO;rw[aLY s k key hs];simp only[Ac];have hp:=a1B s ⟨k,key,0⟩;unfold a5I Gy;rw[xK hp];simp only[Ac];rw[Dw Ei];simp only[Ac,Ir];rw[Dw Ei];simp only[Ac];cases j:MH s ⟨k,key,0⟩with
 |true=>
  have hl:=afK j;simp only[BZ];rw[wrap_succ _ AB,YD hl];simp only[Ac];rw[Dw Ei];simp
 |false=>
  simp only[BH];rw[YD hp];simp only[Ac];rw[Dw Ei];simp
def aBI s k key id(hs:s.length<=1000000):iO s k key id=some (Gy s k key id):=by
 unfold iO aR0
 have j:∀(k2:Int->AL (AA BK)),bJ k2 ((Fl s ⟨k,key,0⟩:Nat):Int) s k key id false=some (Gy s k key id):=by
  intro k2;have hp:=a1B s ⟨k,key,0⟩;unfold bJ a9g Gy;simp only[BH];rw[xK hp];simp only[Ac];rw[Dw Ei];simp only[Ac,Ir];rw[Dw Ei];simp only[Ac];by_cases hl:Fl s ⟨k,key,0⟩<s.length
  ·rw[dec_lt hl,CQ hl];simp only[BZ,Ac]
   have u:MH s ⟨k,key,0⟩=(s[Fl s ⟨k,key,0⟩].Kind==k&&(s[Fl s ⟨k,key,0⟩].Key=key)):=by
    unfold MH;rw[ES hl];rfl
   rw[u,JM,←U3];cases z:s[Fl s ⟨k,key,0⟩].Kind==k with
   |false=>
    simp only[BH,Ac];rw[YD hp];simp only[Ac];rw[Dw Ei];simp
   |true=>
    simp only[BZ,Ac];cases decide (s[Fl s ⟨k,key,0⟩].Key=key)with
    |true=>
     simp only[BZ];rw[wrap_succ _ AB,YD hl];simp only[Ac];rw[Dw Ei];simp
    |false=>
     simp only[BH];rw[YD hp];simp only[Ac];rw[Dw Ei];simp
  have q:Fl s ⟨k,key,0⟩=s.length:=AB
  have u:MH s ⟨k,key,0⟩=false:=by unfold MH;rw[q,Oe (ER _)]
  rw[u,q,DR];simp only[BH,Ac];rw[YD (ER _)];simp only[Ac];rw[Dw Ei];simp
 rw[Jh s (fuel_lt AB) (λx=> !GN x ⟨k,key,0⟩) (λi=>bJ (λ_=>none) (i:Int) s k key id false) (bJ (λ_=>none) (s.length:Int) s k key id false)]
 ·split
  ·exact j _
  rename_i h;have q:Fl s ⟨k,key,0⟩=s.length:=aVn
  have :=j λ_=>none;rw[q]at this;exact this
 ·intro k2 i h;unfold aED;rw[dec_lt h,CQ h];simp only[BZ,Ac];rw[ach _ _ _ _ s[i].Id 0];simp only[Ac];show bJ k2 _ s k key id (GN s[i] ⟨k,key,0⟩)=_;cases GN s[i] ⟨k,key,0⟩<;>rfl
 intro k2;unfold aED;rw[DR];rfl
theorem RX s k key id:(Gy s k key id).length<=s.length+1:=by
 unfold Gy
 grind
theorem ahu {x}(h:x∈s.take (Fl s e)):GN x e=true:=by
 obtain⟨i,hi,rfl⟩:=GY h;have j:i<Fl s e:=by simp at hi;omega
 have :=aHH j
 grind
def aUV (hs:LD s){x}(h:x∈s.drop (Fl s e+bif MH s e then 1 else 0)):GN e x=true:=by
 generalize q:(Fl s e+bif MH s e then 1 else 0)=n at h;obtain⟨i,hi,rfl⟩:=GY h;rw[aKR];rw[Lh]at hi;by_cases hl:Fl s e<s.length
 ·have h1:=aPp hl;cases j:MH s e with
  |true=>
   rw[j]at q;simp only[BZ]at q;have h2:Jv s[Fl s e] e=true:=aMV
   rw[←(yX h2).1];exact JU.1 hs _ _ hl AB AB
  |false=>
   rw[j]at q;simp only[BH,QB]at q;subst q;have h2:Jv s[Fl s e] e=false:=aMV
   have h3:GN e s[Fl s e]=true:=by
    cases h:GN e s[Fl s e]with
    |true=>rfl
    |false=>rw[aLo h1 h]at h2;cases h2
   rcases V8 i with u|u
   ·subst u;simpa using h3
   exact aMJ h3 (JU.1 hs _ _ hl AB AB)
 omega
def YJ (h:LD s)k key id:LD (Gy s k key id):=by
 have u:Jv ⟨k,key,id⟩ ⟨k,key,0⟩=true:=XI.2 ⟨rfl,rfl⟩;unfold Gy LD;refine Zd.2 ⟨h.sublist (List.take_sublist ..),QZ.2 ⟨λx j=>?_,h.sublist (List.drop_sublist ..)⟩,λx j y q=>?_⟩
 ·rw[(yX u).1];exact aUV h j
 have h1:GN x ⟨k,key,0⟩=true:=ahu j;rcases FP.1 q with rfl|q
 ·rw[(yX u).2];exact h1
 exact aMJ h1 (aUV h q)
structure PL (l:List (List BK)):Prop where
 len:l.length<=100
 each:∀s∈l,s.length<=100/\LD s
def KJ (l:AA (AA BK))(x:BK):AY:=l.all λs=>(Ih s x.Kind x.Key).2&&(Ih s x.Kind x.Key).1==x.Id
theorem acn l x(h:PL l):a5e l x=some (KJ l x):=by
 unfold a5e aUZ;rw[H7 l (fuel_lt aIq) (λs=> !((Ih s x.Kind x.Key).2&&(Ih s x.Kind x.Key).1==x.Id)) false (some true)]
 ·unfold KJ
  grind
 ·intro k i hi;obtain⟨h1,h2⟩:=h.each l[i] (EU hi);unfold aGB;rw[Ch hi,aIa _ _ _ AB h2]
  grind
 intro k;unfold aGB;rw[EJ]
theorem aja l x(h:PL l):a1n l x=some (KJ l x):=by
 unfold a1n aQw;rw[H7 l (fuel_lt aIq) (λs=> !((Ih s x.Kind x.Key).2&&(Ih s x.Kind x.Key).1==x.Id)) false (some true)]
 ·unfold KJ
  grind
 ·intro k i hi;obtain⟨h1,h2⟩:=h.each l[i] (EU hi);unfold aIi;rw[Ch hi,aJD _ _ _ AB]
  grind
 intro k;unfold aIi;rw[EJ]
def Il (l:AA (AA BK)):AA BK:=match l with
 | []=>[]
 |s::_=>s.filter (KJ l)
def Sv (l:AA (AA BK)):AA Int:=(l.flatMap λs=>s.filter λx=> !KJ l x).map (·.Id)
def Rw (l:AA (AA BK))(i:Nat):AA BK:=if i=0 then[]else Il l
def P7 (l:AA (AA BK))(i:Nat):AA Int:=((l.take i).flatMap λs=>s.filter λx=> !KJ l x).map (·.Id)
variable {l:AA (AA BK)}
theorem aRQ (h:i<l.length):Rw l (i+1)=Rw l i++(if i=0 then l[i].filter (KJ l)else[]):=by
 unfold Rw Il
 grind
def aEp (h:i<l.length):P7 l (i+1)=P7 l i++(l[i].filter λx=> !KJ l x).map (·.Id):=by
 unfold P7;rw[MX h,List.flatMap_append,JY];simp
def aEm l:P7 l l.length=Sv l:=by unfold P7 Sv;rw[Gw]
def aOu l:Rw l l.length=Il l:=by
 unfold Rw;cases l with
 |nil=>rfl
 |cons s l=>simp
def aIQ (h:PL l)i:(P7 l i).length<=100*i:=by
 induction i with
 |zero=>simp[P7]
 |succ i j=>
  by_cases hi:i<l.length
  ·rw[aEp hi,Ef,DY];have :=(h.each _ (EU hi)).1;have :=MS (λx=> !KJ l x) l[i];omega
  have :P7 l (i+1)=P7 l i:=by unfold P7;rw[RU AB,RU AB]
  rw[this];omega
def a7Z (h:PL l):(Sv l).length<=10000:=by
 have :=aIQ h l.length;rw[aEm]at this;have :=h.len;omega
def fP (h:PL l):(Il l).length<=100:=by
 unfold Il;cases l with
 |nil=>exact FQ _
 |cons s l=>exact EC (MS _ _) (h.each s (Gv ..)).1
def aNu (h:PL l):LD (Il l):=by
 unfold Il;cases l with
 |nil=>exact .nil
 |cons s l=>exact(h.each s (Gv ..)).2.sublist Vd
def aSZ l(h:PL l):zu l=some (Il l,FY (Sv l)):=by
 have hlen:=h.len;refine dK.eq ?_;unfold zu aUq;refine aIv (body:=aKh l) (λ(m:Nat) (a:AA BK) (b:AA Int) (c:Int) (d:AA (AA BK)) (_:AA BK) (_:AA Int)=>∃i:Nat,c=i/\i+m=l.length/\d=l/\a=Rw l i/\b=P7 l i) ?_ Am l.length [] [] 0 l [] [] (fuel_lt AB) ⟨0,rfl,AB,rfl,rfl,by simp[P7]⟩;rintro m a b c d e f k ⟨i,rfl,hm,rfl,rfl,rfl⟩ U;unfold aKh;refine dK.bif (λhi=>?_) λhi=>?_
 ·have hi:i<d.length:=IZ
  have hs:=(h.each d[i] (EU hi)).1;have Y:=aIQ h i;rw[CQ hi];simp only[Ac,xA];unfold aLp
  refine aTK (body:=aDl d[i] k (i:Int)) (λ(J:Nat) (a:AA BK) (b:AA Int) (c:Int) (u:AA (AA BK)) (_:AA BK) (_:AA Int) (g:Int)=>
   ∃j:Nat,c=j/\j+J=d[i].length/\u=d/\g=i/\a=Rw d i++(if i=0 then(d[i].take j).filter (KJ d)else[])/\b=P7 d i++((d[i].take j).filter λx=> !KJ d x).map (·.Id)) ?_ Am d[i].length _ _ _ _ _ _ _ (fuel_lt AB) ⟨0,rfl,AB,rfl,rfl,BU,BU⟩
  rintro J a b c u e2 f2 g k2 ⟨j,rfl,Z,rfl,rfl,rfl,rfl⟩ I;unfold aDl;refine dK.bif (λz=>?_) λz=>?_
  ·have z:j<u[i].length:=aI
   have q:u[i].take (j+1)=u[i].take j++[u[i][j]]:=by rw[MX z]
   rw[CQ z];simp only[Ac];rw[acn u _ h];simp only[Ac];have w:=wrap_succ j AB;have L:=MS (λx=> !KJ u x) (u[i].take j);have M:=MS (KJ u) (u[i].take j)
   have hst:(Rw u i).length<=100:=by
     unfold Rw;split; ·exact FQ _
     ·exact fP h
   rw[Hl]at L M;cases ha:KJ u u[i][j]with
   |false=>
    simp only[JZ,BZ];rw[Dw (by simp only[Ef,DY,OC];omega)];simp only[Ac,w];refine I (J-1) _ _ _ _ _ _ _ AB ⟨j+1,rfl,AB,rfl,rfl,?_,?_⟩
    ·rw[q,RZ];simp[ha]
    rw[q,RZ];simp[ha]
   |true=>
    simp only[Eu,BH];by_cases O:i=0
    ·subst O;simp only[show(((0:Nat):Int)==0)=true from rfl,BZ,KT];rw[Dw VH];simp only[Ac,w];refine I (J-1) _ _ _ _ _ _ _ AB ⟨j+1,rfl,AB,rfl,rfl,?_,?_⟩
     ·rw[q,RZ];simp[ha]
     rw[q,RZ];simp[ha]
    have :((i:Int)==0)=false:=dB
    rw[this];simp only[BH,w];refine I (J-1) _ _ _ _ _ _ _ AB ⟨j+1,rfl,AB,rfl,rfl,?_,?_⟩
    ·simp[O]
    rw[q,RZ];simp[ha]
  have z:j=u[i].length:=by
    have :¬j<u[i].length:=aI
    omega
  subst z;rw[wrap_succ i AB,Gw];exact U (m-1) _ _ _ _ _ _ AB ⟨i+1,rfl,AB,rfl,(aRQ hi).symm,(aEp hi).symm⟩
 have hi:i=d.length:=by
   have :¬i<d.length:=IZ
   omega
 subst hi;have :=a7Z h;rw[aEm,aOu,kJ _ AB];exact .ret rfl
def aWU l(h:PL l):tV l=some (Il l,FY (Sv l)):=by
 have hlen:=h.len;refine dK.eq ?_;unfold tV aVY;refine Sm (body:=aKt l) (λ(m:Nat) (a:AA BK) (b:AA Int) (c:Int)=>∃i:Nat,c=i/\i+m=l.length/\a=Rw l i/\b=FY (P7 l i)) ?_ Am l.length [] [] 0 (fuel_lt AB) ⟨0,rfl,AB,rfl,by simp[P7,FY]⟩;rintro m a b c k ⟨i,rfl,hm,rfl,rfl⟩ U;unfold aKt;refine dK.bif (λhi=>?_) λhi=>?_
 ·have hi:i<l.length:=IZ
  have hs:=(h.each l[i] (EU hi)).1;have Y:=aIQ h i;unfold aX2
  refine Sm (body:=aFL l (i:Int) k) (λ(I:Nat) (a:AA BK) (b:AA Int) (c:Int)=>
   ∃j:Nat,c=j/\j+I=l[i].length/\a=Rw l i++(if i=0 then(l[i].take j).filter (KJ l)else[])/\b=FY (P7 l i++((l[i].take j).filter λx=> !KJ l x).map (·.Id))) ?_ Am l[i].length _ _ _ (fuel_lt AB) ⟨0,rfl,AB,BU,BU⟩
  rintro I a b c k2 ⟨j,rfl,Z,rfl,rfl⟩ z;unfold aFL;rw[CQ hi];simp only[Ac];refine dK.bif (λu=>?_) λu=>?_
  ·have u:j<l[i].length:=SY
   have q:l[i].take (j+1)=l[i].take j++[l[i][j]]:=by rw[MX u]
   rw[CQ u];simp only[Ac];rw[aja l _ h];simp only[Ac];have w:=wrap_succ j AB;have J:=MS (λx=> !KJ l x) (l[i].take j);have L:=MS (KJ l) (l[i].take j)
   have hst:(Rw l i).length<=100:=by
     unfold Rw;split; ·exact FQ _
     ·exact fP h
   have M:=OE (P7 l i++((l[i].take j).filter λx=> !KJ l x).map λe:BK=>e.Id);rw[Ef,DY]at M;rw[Hl]at J L;cases ha:KJ l l[i][j]with
   |false=>
    simp only[JZ,BZ];rw[mP _ _ AB];unfold qA;simp only[Ac,w];refine z (I-1) _ _ _ AB ⟨j+1,rfl,AB,?_,?_⟩
    ·rw[q,RZ];simp[ha]
    rw[q,RZ,JY,←JK];simp only[ha,UY,JZ,KT,List.filter_nil,Gz,List.map_nil];rw[aSX]
   |true=>
    simp only[Eu,BH];unfold qA;by_cases O:i=0
    ·subst O;simp only[show(((0:Nat):Int)==0)=true from rfl,BZ,KT,Ac];rw[Dw VH];simp only[Ac,w];refine z (I-1) _ _ _ AB ⟨j+1,rfl,AB,?_,?_⟩
     ·rw[q,RZ];simp[ha]
     rw[q,RZ];simp[ha]
    have :((i:Int)==0)=false:=dB
    rw[this];simp only[BH,w];refine z (I-1) _ _ _ AB ⟨j+1,rfl,AB,?_,?_⟩
    ·simp[O]
    rw[q,RZ];simp[ha]
  have u:j=l[i].length:=by
    have :¬j<l[i].length:=SY
    omega
  subst u;rw[wrap_succ i AB,Gw];exact U (m-1) _ _ _ AB ⟨i+1,rfl,AB,(aRQ hi).symm,by rw[←aEp hi]⟩
 have hi:i=l.length:=by
   have :¬i<l.length:=IZ
   omega
 subst hi;rw[aEm,aOu];exact .ret rfl
def Ve (s:AA BK):AA Int:=s.map (·.Id)
def Fh (l:AA AQ)(s:AA BK):AA Int:=JL (Ve s) (chainOf l (Ve s))
def allOf (l:AA AQ)(bg:AA (AA BK)):AA Int:=bg.foldl (λa s=>JL a (Fh l s)) []
def Jo (l:AA AQ)(bg:AA (AA BK))(x:Int):Nat:=bg.countP λs=>EP (Fh l s) x
def PK (l:AA AQ)(bg:AA (AA BK)):AA Int:=(allOf l bg).filter λx=>Jo l bg x<bg.length
def KQ (l:AA AQ)(bg:AA (AA BK)):AA Int:=JL (FY (Sv bg)) (PK l bg)
def aQ5 l s:Inc (Fh l s):=a0B _ _
def aJn s:(Ve s).length=s.length:=DY _
def tu l s:(Fh l s).length<=s.length+l.length:=by
 have h1:=aFt (Ve s) (chainOf l (Ve s));have h2:=jH l (Ve s);rw[aJn]at h1;unfold Fh;omega
theorem aK9 l:∀(bg:AA (AA BK)) (a:AA Int),Inc a->Inc (bg.foldl (λa s=>JL a (Fh l s)) a)/\∀x,x∈bg.foldl (λa s=>JL a (Fh l s)) a↔x∈a\/∃s∈bg,x∈Fh l s
 | [],a,h=>⟨h,λx=>BU⟩
 |s::bg,a,h=>by
  rw[Gf];obtain⟨h1,h2⟩:=aK9 l bg (JL a (Fh l s)) (a0B _ _);refine⟨h1,λx=>(h2 x).trans ?_⟩;rw[XK]
  grind
def amG l bg:Inc (allOf l bg):=(aK9 l bg [] .nil).1
variable {bg:AA (AA BK)}{l:AA AQ}
def aN9:x∈allOf l bg↔∃s∈bg,x∈Fh l s:=by
 unfold allOf;rw[(aK9 l bg [] .nil).2 x];simp
def adb l bg:Inc (PK l bg):=(amG l bg).sublist Vd
theorem cnt_lt:Jo l bg x<bg.length↔∃s∈bg,x∉Fh l s:=by
 unfold Jo;have h:=List.countP_le_length (p:=λs=>EP (Fh l s) x) (l:=bg);have h2:=List.countP_eq_length (p:=λs=>EP (Fh l s) x) (l:=bg);constructor
 ·intro u;by_cases q:∀s∈bg,EP (Fh l s) x=true
  ·grind
  simp only[Classical.not_forall]at q;obtain⟨s,hs,j⟩:=q;exact⟨s,hs,λhm=>j (La.2 hm)⟩
 rintro⟨s,hs,j⟩;rcases rJ (bg.countP λs=>EP (Fh l s) x) bg.length with h3|h3
 ·exact h3
 exact absurd (La.1 (h2.1 AB s hs)) j
def agZ:x∈PK l bg↔(∃s∈bg,x∈Fh l s)/\∃s∈bg,x∉Fh l s:=by
 unfold PK;rw[Hg,aN9,Io,cnt_lt]
variable {x:BK}
theorem aPE:KJ bg x=true↔∀s∈bg,(Ih s x.Kind x.Key).2=true/\(Ih s x.Kind x.Key).1=x.Id:=by
 unfold KJ
 grind
def a9H l:∀(bg:AA (AA BK)) (a:AA Int),(∀s∈bg,s.length<=100)->(bg.foldl (λa s=>JL a (Fh l s)) a).length<=a.length+bg.length*(100+l.length)
 | [],a,_=>BU
 |s::bg,a,h=>by
  rw[Gf];have h1:=a9H l bg (JL a (Fh l s)) λt j=>h t (I7 _ j);have h2:=aFt a (Fh l s);have h3:=tu l s;have q:=h s (Gv ..);rw[Gh,ig];omega
theorem aOJ (hs:PL bg)(hl:l.length<=1000):(PK l bg).length<=110000:=by
 have h1:=a9H l bg [] λs h=>(hs.2 s h).1;have h2:=hs.1;have h3:=MS (λx=>Jo l bg x<bg.length) (allOf l bg);have j:bg.length*(100+l.length)<=100*1100:=aAK h2 AB;unfold PK;unfold allOf at h3 ⊢
 grind
def alr (h:LD s)(z:x∈s):Ih s x.Kind x.Key=(x.Id,true):=by
 unfold Ih;cases u:s.find? (λy=>Jv y ⟨x.Kind,x.Key,0⟩)with
 |none=>
  have :=a4b.1 u x z;unfold Jv at this;simp at this
 |some y=>
  have h1:=aAN u;have J:=YH u;have h2:Jv y x=true:=by unfold Jv at h1 ⊢;exact h1
  have :y=x:=by
   obtain⟨i,hi,rfl⟩:=GY z;obtain⟨j,I,rfl⟩:=GY J;rcases a0m i j with h3|h3|h3
   ·have q:=JU.1 h i j hi I h3;have L:Jv s[i] s[j]=true:=by obtain⟨a,b⟩:=XI.1 h2;exact XI.2 ⟨a.symm,b.symm⟩
    rw[a1k L]at q;cases q
   ·subst h3;rfl
   have q:=JU.1 h j i I hi h3;rw[a1k h2]at q;cases q
  rw[this]
variable {k:Int}
theorem aKN {key}(h:Ih s k key=(n,true)):(⟨k,key,n⟩:BK)∈s:=by
 unfold Ih at h;cases j:s.find? (λy=>Jv y ⟨k,key,0⟩)with
 |none=>
  grind
 |some y=>
  rw[j]at h;have q:Jv y ⟨k,key,0⟩=true:=by have :=aAN j;exact this
  have h1:=XI.1 q;have u:=YH j;obtain⟨a,b,c⟩:=y;cases h;simp only at h1;rw[←h1.1,←h1.2];exact u
def aYl (j:KJ bg x=true)(hs:s∈bg):x∈s:=by
 obtain⟨h1,h2⟩:=aPE.1 j s hs;exact aKN (s:=s) (k:=x.Kind) (key:=x.Key) (n:=x.Id) (by rw[←h1,←h2])
def afO (h:PL bg)(j:∀s∈bg,x∈s):KJ bg x=true:=
 aPE.2 λs hs=>by rw[alr (h.2 s hs).2 (j s hs)];exact⟨rfl,rfl⟩
def abn (h:PL bg)(q:bg≠[]):x∈Il bg↔∀s∈bg,x∈s:=by
 cases bg with
 |nil=>exact absurd rfl q
 |cons s bg=>
  show x∈s.filter (KJ (s::bg))↔_;rw[Hg];exact⟨λj t u=>aYl j.2 u,λj=>⟨j s (Gv ..),afO h j⟩⟩
def aMG l(h:l.length<=1099511627776):((PS l).bind λx=>(Xa x).bind λy=>some y)=some (FY l):=by
 unfold PS Xa;have h2:(O9 l).length<=1099511627776:=by rw[(VG l).length_eq];exact h
 simp[h,aJm,aEk]
def aVa s:s.foldl (λr x=>r++[x.Id]) []=Ve s:=by
 rw[foldl_append (λx:BK=>[x.Id])];unfold Ve;rw[Ir]
 induction s with
 |nil=>rfl
 |cons x s j=>rw[Oj,j];rfl
def ah8 l s(hl:l.length<=1000)(ha:SS l)(hs:s.length<=100):a8a l s=some (Fh l s):=by
 unfold a8a
 have hm:Jg 8 (0:Int) 0 (s.length:Int)=some []:=by
  unfold Jg;rw[ET a6M];rfl
 rw[hm];simp only[Ac];unfold aPa;rw[Iy s AB (λr x=>r++[x.Id]) (λi r=>r.length<=i) (λr=>(ZQ l r).bind λu=>(D5 8 r u).bind λz=>(PS z).bind λj=>(Xa j).bind λq=>some q) BU]
 ·have h1:=jH l (Ve s);have h2:=aJn s;rw[aVa,aFR l _ hl ha AB];simp only[Ac];rw[Dw AB];simp only[Ac];rw[aMG _ LV];unfold Fh;rw[tZ]
 ·intro k a i h I;refine⟨a3U,?_⟩;unfold aBS;rw[Ch h,Dw G7];rfl
 intro k a I;unfold aBS;rw[EJ]
def acv l s(hl:l.length<=1000)(ha:SS l)(hs:s.length<=100):a6c l s=some (Fh l s):=by
 unfold a6c aTd;rw[Iy s AB (λr x=>r++[x.Id]) (λi r=>r.length<=i) (λr=>(dO l r).bind λj=>(aH r j).bind λq=>some q) BU]
 ·have h1:=jH l (Ve s);have h2:=aJn s;rw[aVa,aDg l _ hl ha AB];simp only[Ac];rw[a5J _ _ AB AB];rfl
 ·intro k a i h u;refine⟨a3U,?_⟩;unfold aIT;rw[dec_lt h,CQ h];simp only[BZ,Ac];rw[Dw G7];rfl
 intro k a u;unfold aIT;rw[DR];rfl
def stepM (m:AA (Int×Int))(x:Int):AA (Int×Int):=EM m x (Au (((DF m x).getD 0)+1))
structure O4 (m:List (Int×Int)) (f:Int->Nat):Prop where
 nodup:(m.map (·.1)).Nodup
 find:∀x,DF m x=if f x=0 then none else some (f x:Int)
variable {v:Int}
def anF {y}:y∈(EM m k v).map (·.1)↔y=k\/y∈m.map (·.1):=by
 induction m with
 |nil=>simp[EM]
 |cons p m j=>
  unfold EM;cases h:k==p.1 with
  |true=>
   have h1:k=p.1:=Oa
   simp only[BZ,Gz,FP];rw[h1];simp
  |false=>
   simp only[BH,Gz,FP,j];exact⟨λh=>h.elim (λe=>.inr (.inl e)) λh=>h.elim .inl λh=>.inr (.inr h),λh=>h.elim (λe=>.inr (.inl e)) λh=>h.elim .inl λh=>.inr (.inr h)⟩
def aa8 (h:(m.map (·.1)).Nodup):((EM m k v).map (·.1)).Nodup:=by
 induction m with
 |nil=>simp[EM]
 |cons p m q=>
  have h':=KX.1 h;unfold EM;cases j:k==p.1 with
  |true=>
   have h1:k=p.1:=Vj
   simp only[BZ,Gz];rw[h1];exact h
  |false=>
   have h1:k≠p.1:=Vj
   simp only[BH,Gz];refine KX.2 ⟨λhm=>?_,q h'.2⟩;rcases anF.1 hm with e|hm
   ·exact h1 e.symm
   exact h'.1 hm
def akl m(k v:Int):(EM m k v).length<=m.length+1:=by
 induction m with
 |nil=>simp[EM]
 |cons p m j=>
  unfold EM;cases k==p.1 with
  |true=>simp
  |false=>simp only[BH,Gh];omega
variable {f:Int->Nat}
def O4.step (h:O4 m f)x(u:f x<=1000000):O4 (stepM m x) (λy=>f y+if y=x then 1 else 0):=by
 refine⟨aa8 h.nodup,λy=>?_⟩;unfold stepM;rw[Qe,h.find x]
 have e:Au (((if f x=0 then none else some (f x:Int)).getD 0)+1)=((f x+1:Nat):Int):=by
  by_cases j:f x=0
  ·rw[ET j,j];rfl
  rw[Ee j];show Au ((f x:Int)+1)=_;exact wrap_succ _ AB
 by_cases q:y=x
 ·subst q;simp only[MC,BZ,KT];rw[e,Ee AB]
 have :(y==x)=false:=Xj
 rw[this];simp only[BH,Ee q,QB];exact h.find y
def O4.fold:∀(c:AA Int) {m:AA (Int×Int)} {f:Int->Nat},c.Nodup->O4 m f->(∀x,f x<=1000)->O4 (c.foldl stepM m) (λy=>f y+if y∈c then 1 else 0)
 | [],m,f,_,h,_=>by
   refine⟨h.nodup,λx=>?_⟩;simp only[List.foldl_nil,H9,Lc,QB];exact h.find x
 |x::c,m,f,q,h,L=>by
  have j:=KX.1 q
  have key:∀(c:AA Int) (m:AA (Int×Int)) (g:Int->Nat),c.Nodup->O4 m g->(∀x∈c,g x<=1000)->O4 (c.foldl stepM m) (λy=>g y+if y∈c then 1 else 0):=by
   intro c
   induction c with
   |nil=>intro m g _ h _;refine⟨h.nodup,λx=>?_⟩;simp only[List.foldl_nil,H9,Lc,QB];exact h.find x
   |cons z c M=>
    intro m g q h I;have j:=KX.1 q
    have h1:=M (stepM m z) (λy=>g y+if y=z then 1 else 0) j.2 (h.step z (by have :=I z (Gv ..);omega)) λy J=>by
     have u:y≠z:=λe=>j.1 (e▸J);simp only[Ee u,QB];exact I y (I7 _ J)
    refine⟨h1.nodup,λy=>?_⟩;rw[Gf,h1.find y]
    have :(g y+if y=z then 1 else 0)+(if y∈c then 1 else 0)=g y+if y∈z::c then 1 else 0:=by
     by_cases e:y=z
     ·subst e;simp[j.1]
     simp[e]
    simp only[this]
  exact key (x::c) m f q h λy _=>L y
def aGD :∀(c:AA Int) (m:AA (Int×Int)),(c.foldl stepM m).length<=m.length+c.length
 | [],m=>BU
 |x::c,m=>by
  have h1:=aGD c (stepM m x);have h2:=akl m x (Au (((DF m x).getD 0)+1));rw[Gf,Gh];unfold stepM at h1 ⊢;omega
variable {l:AA Int}
def UD (h:Inc l):l.Nodup:=h.imp λh=>AB
def O4.mem (h:O4 m f){x}:(x,n)∈m↔f x≠0/\n=f x:=by
 have key:∀m:AA (Int×Int),(m.map (·.1)).Nodup->((x,n)∈m↔DF m x=some n):=by
  intro m
  induction m with
  |nil=>intro _;simp[DF]
  |cons p m z=>
   intro I;have j:=KX.1 I;unfold DF;rw[FP];cases u:x==p.1 with
   |true=>
    have h1:x=p.1:=SY
    simp only[BZ,OX];constructor
    ·rintro(e|hm)
     ·rw[←e]
     exact absurd (FB.2 ⟨_,hm,h1⟩) j.1
    intro e;left;rw[h1,←e]
   |false=>
    have h1:x≠p.1:=SY
    simp only[BH];rw[←z j.2];exact⟨λh=>h.elim (λe=>absurd (by rw[←e]) h1) id,.inr⟩
 rw[key m h.nodup,h.find x];by_cases q:f x=0
 ·simp[q]
 rw[Ee q];simp only[OX,ne_eq,q,not_false_eq_true,true_and];exact eq_comm
def aSb (h:l.Nodup):O9 l=FY l:=by
 refine DU ?_ (Nz l) λx=>by rw[MR];exact(VG l).mem_iff
 have h1:=a1d l;have h2:(O9 l).Nodup:=(VG l).nodup_iff.2 h;exact(h1.and h2).imp λh=>AB
def aI3 n:∀(m:AA (Int×Int)) (r:AA Int) (bg:AA (AA BK)),(bg.length:Int)=n->r.length+m.length<=1000000->List.foldlM (Xq bg) r m=some (r++(m.filter λp=>p.2<n).map (·.1))
 | [],r,bg,_,_=>BU
 |p::m,r,bg,hs,q=>by
  simp only[Gh]at q;have e:Xq bg r p=(cond (p.2<n) ((D5 8 r [p.1]).bind λj=>some j) (some r)):=by unfold Xq;rw[hs]
  rw[VZ,e];cases hd:decide (p.2<n)with
  |true=>
   simp only[BZ];rw[Dw G7];simp only[Ac];show List.foldlM (Xq bg) (r++[p.1]) m=_;rw[aI3 n m (r++[p.1]) bg hs VH,UY,ET hd];simp
  |false=>
   simp only[BH];show List.foldlM (Xq bg) r m=_;rw[aI3 n m r bg hs AB,UY,Ee (by simp[hd])]
def aWO l bg x:Jo l bg x<=bg.length:=List.countP_le_length
def O4.of_eq {g}(h:O4 m f)(e:∀x,f x=g x):O4 m g:=⟨h.nodup,λx=>by rw[h.find,e]⟩
def aie l bg(hl:l.length<=1000)(ha:SS l)(hs:PL bg):a1M l bg=some (PK l bg):=by
 unfold a1M aNp;have hsl:=hs.len;rw[o8 (a0:=[]) bg AB (λm s=>(Fh l s).foldl stepM m) (λi m=>O4 m (Jo l (bg.take i))/\m.length<=1100*i) (λv2=>(Jg 8 (0:Int) 0 (v2.length:Int)).bind λI=>(List.foldlM (Xq bg) I v2).bind ng) ⟨⟨aZ,λx=>rfl⟩,FQ _⟩]
 ·obtain⟨z,hlen⟩:O4 (bg.foldl (λm s=>(Fh l s).foldl stepM m) []) (Jo l bg)/\(bg.foldl (λm s=>(Fh l s).foldl stepM m) []).length<=1100*bg.length:=by
   have key:∀(b a:AA (AA BK)) (m:AA (Int×Int)),(∀s∈b,s.length<=100)->a.length+b.length<=100->O4 m (Jo l a)->m.length<=1100*a.length->O4 (b.foldl (λm s=>(Fh l s).foldl stepM m) m) (Jo l (a++b))/\(b.foldl (λm s=>(Fh l s).foldl stepM m) m).length<=1100*(a.length+b.length):=by
    intro b
    induction b with
    |nil=>intro a m _ _ h1 h2;simpa using⟨h1,h2⟩
    |cons s b Z=>
     intro a m Y J h1 h2;rw[Gf,List.append_cons];have hc:=tu l s;have q:=Y s (Gv ..);have h3:=aGD (Fh l s) m;simp only[Gh]at J ⊢;have :=Z (a++[s]) ((Fh l s).foldl stepM m) (λt ht=>Y t (I7 _ ht)) VH ?_ VH
     ·simpa[VT,Vy 1]using this
     refine(O4.fold (Fh l s) (UD (aQ5 l s)) h1 λx=>by have :=aWO l a x;omega).of_eq λx=>?_;unfold Jo;rw[List.countP_append,List.countP_singleton];by_cases u:x∈Fh l s
     ·rw[ET u,ET (La.2 u)]
     rw[Ee u,Ee (by rw[Pz.2 u];simp)]
   have :=key bg [] [] (λs h=>(hs.each s h).1) (by simpa using hs.len) ⟨aZ,λx=>rfl⟩ (FQ _);simpa using this
  generalize bg.foldl (λm s=>(Fh l s).foldl stepM m) []=m at z hlen
  have hm:Jg 8 (0:Int) 0 (m.length:Int)=some []:=by
   unfold Jg;rw[ET a6M];rfl
  rw[hm];simp only[Ac];rw[aI3 (bg.length:Int) m [] bg rfl QD];simp only[Ac,Ir];have L:((m.filter λp=>p.2<(bg.length:Int)).map (·.1)).Nodup:=z.nodup.sublist (Vd.map _);have hle:((m.filter λp=>p.2<(bg.length:Int)).map (·.1)).length<=m.length:=by rw[DY];exact MS _ _
  unfold ng PS;rw[ET AB];simp only[Ac];congr 1;rw[aSb L];refine DU (Nz _) (adb _ _) λx=>?_;rw[MR,FB];unfold PK;rw[Hg,aN9];constructor
  ·rintro⟨⟨y,n⟩,hp,rfl⟩;rw[Hg]at hp;obtain⟨h1,h2⟩:=z.mem.1 hp.1;have h3:n<(bg.length:Int):=by simpa using hp.2
   subst h2;refine⟨?_,Ei⟩;have :0<Jo l bg y:=AB
   obtain⟨s,M,O⟩:=List.countP_pos_iff.1 this;exact⟨s,M,La.1 O⟩
  rintro⟨⟨s,h1,h2⟩,h3⟩;have h4:0<Jo l bg x:=List.countP_pos_iff.2 ⟨s,h1,La.2 h2⟩;refine⟨(x,(Jo l bg x:Int)),Hg.2 ⟨z.mem.2 ⟨AB,rfl⟩,?_⟩,rfl⟩;have h5:Jo l bg x<bg.length:=YL
  simp;omega
 ·intro k m i h U;have hc:=tu l bg[i];have q:=(hs.each bg[i] (EU h)).1;refine⟨⟨?_,?_⟩,?_⟩
  ·refine(O4.fold (Fh l bg[i]) (UD (aQ5 l bg[i])) U.1 λx=>by have :=aWO l (bg.take i) x;rw[Hl]at this;omega).of_eq λx=>?_;rw[MX h];unfold Jo;rw[List.countP_append,List.countP_singleton];by_cases u:x∈Fh l bg[i]
   ·rw[ET u,ET (La.2 u)]
   rw[Ee u,Ee (by rw[Pz.2 u];simp)]
  ·have :=aGD (Fh l bg[i]) m;have :=U.2;omega
  unfold a6e;rw[Ch h,ah8 l _ hl ha q];simp only[Ac];unfold aOr;rw[o8 (Fh l bg[i]) AB stepM (λ_ _=>True) (λv8=>k (Au ((i:Int)+1)) v8) trivial]
  ·intro k2 a j hj _;refine⟨trivial,?_⟩;unfold a9I;rw[Ch hj];rfl
  intro k2 a _;unfold a9I;rw[EJ]
 intro k m U;unfold a6e;rw[EJ]
def aZW {R}{body}(l:AA α)(hl:l.length<=1099511627776)(f:A->B->α->A)(g:A->B->α->B)(I:Nat->A->B->Prop)(j:A->B->AL R){Q}{q}(u:I 0 a0 q)(z:∀k a b (i:Nat) (h:i<l.length),I i a b->I (i+1) (f a b l[i]) (g a b l[i])/\body k a b (i:Int)=k (f a b l[i]) (g a b l[i]) (Au ((i:Int)+1)))(J:∀k a b,I l.length a b->body k a b (l.length:Int)=j a b)(L:∀a b,I l.length a b->dK (j a b) Q):dK (iG body Am a0 q 0) Q:=by
 refine Sm (body:=body) (Q:=Q) (λm a b c=>∃i:Nat,c=i/\i+m=l.length/\I i a b) ?_ Am l.length a0 q 0 (fuel_lt hl) ⟨0,rfl,AB,u⟩;rintro m a b c k ⟨i,rfl,hm,hi⟩ M;by_cases e:i<l.length
 ·obtain⟨h1,h2⟩:=z k a b i e hi;rw[h2,wrap_succ i AB];exact M (m-1) _ _ _ AB ⟨i+1,rfl,AB,h1⟩
 have :i=l.length:=AB
 subst this;rw[J _ _ _ hi];exact L a b hi
def aEx x:∀(cs:AA (AA Int)) (n:Nat),n+cs.length<=1000000->cs.foldl (λ(n:Int) c=>bif EP c x then Au (n+1)else n) (n:Int)=((n+cs.countP (λc=>EP c x):Nat):Int)
 | [],n,_=>BU
 |c::cs,n,h=>by
  rw[Gh]at h;rw[Gf,List.countP_cons];cases j:EP c x with
  |true=>
   simp only[BZ,KT];rw[wrap_succ n AB,aEx x cs (n+1) AB];congr 1;omega
  |false=>
   simp only[BH,UW,Lc,QB];exact aEx x cs n AB
def an9 l bg(hl:l.length<=1000)(ha:SS l)(hs:PL bg):a2j l bg=some (PK l bg):=by
 refine dK.eq ?_;unfold a2j aQK;have hsl:=hs.len
 have z:∀i,(allOf l (bg.take i)).length<=1100*i:=by
  intro i;have h1:=a9H l (bg.take i) [] λs h=>(hs.each s (dZ h)).1;rw[Hl,Qp]at h1;have h2:min i bg.length*(100+l.length)<=i*1100:=aAK (aGC _ _) AB;unfold allOf;omega
 refine aZW bg AB (λa _ s=>a++[Fh l s]) (λ_ b s=>JL b (Fh l s)) (λi a b=>a=(bg.take i).map (Fh l)/\b=allOf l (bg.take i)) (λa b=>aJM b a [] 0) ⟨rfl,rfl⟩ ?_ ?_ ?_
 ·rintro k a b i h ⟨rfl,rfl⟩;have M:=tu l bg[i];have q:=(hs.each bg[i] (EU h)).1;have u:bg.take (i+1)=bg.take i++[bg[i]]:=MX h;refine⟨⟨by rw[u,JY];rfl,by rw[u];unfold allOf;rw[Uw];rfl⟩,?_⟩;unfold aKV;rw[dec_lt h,CQ h];simp only[BZ,Ac];rw[acv l _ hl ha q];simp only[Ac];rw[Dw (by simp only[DY,Hl,OC];omega)];simp only[Ac];have :=z i;rw[a5J _ _ AB AB];rfl
 ·rintro k a b ⟨rfl,rfl⟩;unfold aKV;rw[DR];rfl
 rintro a b ⟨rfl,rfl⟩;rw[Gw];refine dK.of ?_;have O:=z bg.length;rw[Gw]at O;unfold aJM;rw[Iy (allOf l bg) AB (λr x=>bif Jo l bg x<bg.length then r++[x]else r) (λi r=>r.length<=i) (λr=>some r) (ER _)]
 ·congr 1;unfold PK
  have key:∀(S r:AA Int),S.foldl (λr x=>bif Jo l bg x<bg.length then r++[x]else r) r=r++S.filter (λx=>Jo l bg x<bg.length):=by
   intro S
   induction S with
   |nil=>intro r;simp
   |cons x S U=>
    intro r;rw[Gf,U,UY];cases decide (Jo l bg x<bg.length)<;>simp
  simpa using key (allOf l bg) []
 ·intro k r i h Y;refine⟨?_,?_⟩
  ·cases decide (Jo l bg (allOf l bg)[i]<bg.length)with
   |false=>show r.length<=i+1;omega
   |true=>show(r++[(allOf l bg)[i]]).length<=i+1;simp;omega
  unfold aHM;rw[dec_lt h];simp only[BZ];unfold aWI
  rw[Iy (bg.map (Fh l)) Z4 (λ(n:Int) c=>bif EP c (allOf l bg)[i]then Au (n+1)else n) (λ_ _=>True)
   (λn=>bif n<((bg.map (Fh l)).length:Int) then k (r++[(allOf l bg)[i]]) (Au ((i:Int)+1))else k r (Au ((i:Int)+1))) trivial]
  ·have I:=aEx (allOf l bg)[i] (bg.map (Fh l)) 0 Z4;rw[show((0:Nat):Int)=0 from rfl]at I;rw[I,List.countP_map,DY,LC]
   have e:decide (((bg.countP ((λc=>EP c (allOf l bg)[i])∘Fh l):Nat):Int)<(bg.length:Int))=decide (Jo l bg (allOf l bg)[i]<bg.length):=by
    unfold Jo;rw[aG3];exact Int.ofNat_lt
   rw[e];cases decide (Jo l bg (allOf l bg)[i]<bg.length)<;>rfl
  ·intro k2 n j J _;refine⟨trivial,?_⟩;have L:j<bg.length:=by rw[DY]at J;exact J
   have M:=tu l bg[j];have q:=(hs.each bg[j] (EU L)).1;unfold aGu;rw[dec_lt J,CQ J,CQ h];simp only[BZ,Ac];rw[Xw _ _ (by rw[P9];omega)];simp only[Ac];cases EP (bg.map (Fh l))[j] (allOf l bg)[i]<;>rfl
  intro k2 n _;unfold aGu;rw[DR];simp only[BH];rw[CQ h];simp only[Ac];rw[Dw G7];cases decide (n<((bg.map (Fh l)).length:Int))<;>rfl
 intro k r _;unfold aHM;rw[DR];rfl
def afs l bg(hl:l.length<=1000)(ha:SS l)(hs:PL bg):a5s l bg=some (KQ l bg):=by
 have h1:=a7Z hs;have h2:=OE (Sv bg);have h3:=aOJ hs hl;unfold a5s;rw[aSZ bg hs,aie l bg hl ha hs];simp only[Ac];rw[Dw AB];simp only[Ac];rw[aMG _ LV];unfold KQ;rw[tZ]
def ak4 l bg(hl:l.length<=1000)(ha:SS l)(hs:PL bg):aAn l bg=some (KQ l bg):=by
 have h1:=a7Z hs;have h2:=OE (Sv bg);have h3:=aOJ hs hl;unfold aAn;rw[aWU bg hs,an9 l bg hl ha hs];simp only[Ac];rw[a5J _ _ AB AB];rfl
end Go.Proofs.YtfmoknlmaldmlaaGreat
