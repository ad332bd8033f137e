/- Part 5 of the laws' proofs (short forms by wip/shrink2.py). -/
import Derived.Test.YteiakhlfaaifnaaGreatTb4
set_option linter.defProp false
set_option linter.unnecessarySimpa false
set_option linter.unusedSectionVars false
set_option linter.unusedVariables false
set_option linter.unusedSimpArgs false
namespace Go.Proofs.YteiakhlfaaifnaaGreat
open Go.RowKit Go.Proofs.Tryz
section
set_option maxRecDepth 20000
set_option maxHeartbeats 4000000
def vO (j:(Aj->Int->AB Aj))(q:Int)(I:Aj):AB Aj:=j I (Ar (q+1))
def aK2 (j:Ad)(J:Aj)(x8:RN)(k4:(Aj->Int->AB Aj))(v3:Int)(L:(Aj->Int->AB Aj)):Aj->Int->AB Aj:=λM q=>(cond (q<(j.bQ.length:Int)) ((Aq j.bQ q).bind λO=>(JO J O).bind λI=>(cond I.2 (((λa0 a1=>Y0 a0 a1) x8 I.1).bind λU=>some U) (some false)).bind λY=>(cond Y ((CZ 376 M [I.1]).bind λZ=>vO k4 v3 Z) (L M (Ar (q+1))))) (vO k4 v3 M))
def aR4 (j:Ad)(q:Aj)(I:RN)(J:(Aj->Int->AB Aj))(L:Int):Aj->Int->AB Aj:=aS (aK2 j q I J L) Aw
def aDP (J:OZ)(j:Ad)(q:Aj)(L:(Aj->Int->AB Aj)):Aj->Int->AB Aj:=λv2 I=>(cond (I<(J.length:Int)) ((Aq J I).bind λM=>aR4 j q M L I v2 0) (some v2))
def aRR (I:OZ)(j:Ad)(q:Aj):Aj->Int->AB Aj:=aS (aDP I j q) Aw
def vk (q:Aj)(j:Ad):AB Aj:=(sB j).bind λI=>aRR I j q [] 0
def aTj :=FZ func337 rfl vk BI Cm Et λI j r h=>AP 1<|.f (C9 56 29)<|.aT<|AZ<|BL<|.f (C9 56 29)<|.aT<|Aa<|AO h λq J h=>AP 1<|.ca (aEh J).view<|.Z (BK MK q)<|Ak<|DJ (λJ L=>⟨Az 47 [(0,BI I),(3,.ptr 0 0),(5,.d (.fn (.func 406) [] [])),(6,.aQ 1),(14,XG q),(15,AU (q.length:Int)),(16,AU L)],[.box (BD (Au j)),(Et J)],0⟩) _ _ _ _ (Ag [AQ 0,AQ 2]) h<|λJ L M O Y h=>AZ<|Aa<|Bg h (λh=>D9 (λ(U:(AA Ad))=>(λI q J j U=>⟨Az 47 [(0,BI I),(3,.ptr 0 0),(5,.d (.fn (.func 406) [] [])),(6,.aQ 1),(14,XG q),(15,AU (q.length:Int)),(16,AU J)],[.box (BD (Au j)),(Et U)],0⟩) I q Y j U) (λU=>vO L Y U) r (λU h=>aGA)<|λJ=>Ak<|AO h λL M h=>BL<|.Z (BG MK M)<|AP 2<|.Z (BK Ah j.bQ)<|Ak<|DJ (λJ M=>⟨Az 47 [(0,BI I),(3,.ptr 0 0),(5,.d (.fn (.func 406) [] [])),(6,.aQ 1),(8,.ptr 2 0),(14,XG q),(15,AU (q.length:Int)),(16,AU Y),(21,BZ j.bQ),(22,AU (j.bQ.length:Int)),(23,AU M)],[.box (BD (Au j)),(Et J),.box (BD (MK L))],0⟩) _ _ _ _ (Ag [AQ 0,AQ 1,AQ 2]) h<|λq L M O Y h=>AZ<|Aa<|Bg h (λh=>Aa<|Ak<|AO h λq L h=>BL<|.Z (BG Ah L)<|AO h λL O h=>AP 2<|.X (KU O)<|AP 1<|AO h λq O h=>.mg 34 5 (Ai q) (.bi O (λh=>AO h λq J h=>.a 3<|.Z (ZY (d:=(.fn (.func 406) [] [])) (⟨406,[],rfl,aMA,λq J L M=>aRU M⟩:YJ Ap MK Au EH (.fn (.func 406) [] []) (λq J=>Y0 q J)) J)<|CU))<|.aT<|BF h (λh=>AO h λq M h=>AP 2<|.p (Dj Gl Jv [Au L.1])<|.Y (DX (k:=1) Au M Gl A8 (λ_=>rfl) Ba)<|CW<|J q (Ag [AQ 0,AQ 4]) h) λh=>Cc<|M _ _ _ (Ag [AQ 0,AQ 1,AQ 2]) h) λh=>CW<|J O (Ag [AQ 0,AQ 1]) h) λh=>jI
def a4g (q:Aj)(j:Ad):AB Int:=(vk q j).bind λI=>(jV I).bind λJ=>(SA J.1 j.bG).bind λL=>some L
def ahv :=Dc func485 rfl a4g BI Cm AU λq I r h=>AZ<|Bj h λJ j M L h=>AP 2<|.ca (aTj j).view<|.X (aBv L)<|AO h λJ j h=>AP 3<|.X (XT j)<|CV
abbrev NC:=AA Rx
def a7y (j:(NC->Int->AB NC))(q:Int)(I:NC):AB NC:=j I (Ar (q+1))
def aFs (U:AV)(j:Aj)(Y:(NC->Int->AB NC)):NC->Int->AB NC:=λv2 q=>(cond (q<(U.length:Int)) ((Aq U q).bind λI=>(JO j I).bind λJ=>(cond J.2 ((a4g j J.1).bind λL=>(bJ j [I]).bind λM=>(CZ 48 v2 [(⟨I,L,J.1.Time,M⟩:Rx)]).bind λO=>a7y Y q O) (a7y Y q v2))) (some v2))
def aY3 (q:AV)(j:Aj):NC->Int->AB NC:=aS (aFs q j) Aw
def a6v (q:Aj)(j:AV):AB NC:=(VK j).bind λI=>aY3 I q [] 0
def aYt :=FZ func483 rfl a6v BI BZ (λr=>.arr 410 4 (List.map MQ r)) λj O r h=>BL<|.f (C9 410 4)<|.aT<|BL<|.f (C9 410 4)<|.aT<|Aa<|AO h λq I h=>AP 1<|.ca (aZ I).view<|.Z (BK Ah q)<|Ak<|DJ (λI J=>⟨Az 40 [(0,BI j),(5,.aQ 0),(11,BZ q),(12,AU (q.length:Int)),(13,AU J)],[.arr 410 4 (List.map MQ I)],0⟩) _ _ _ _ (Ag [AQ 1]) h<|λI J M Y U h=>AZ<|Aa<|Bg h (λh=>D9 (λ(L:(AA Rx))=>(λj q I L=>⟨Az 40 [(0,BI j),(5,.aQ 0),(11,BZ q),(12,AU (q.length:Int)),(13,AU I)],[.arr 410 4 (List.map MQ L)],0⟩) j q U L) (λL=>a7y J U L) r (λL h=>Oc)<|λq=>Ak<|AO h λI J h=>BL<|.Z (BG Ah J)<|AO h λJ M h=>AP 2<|.X (KU M)<|AZ<|BF h (λh=>Hr h λM Y U Z x8 x9 h=>DR A8 A8 A8 (.a 4<|.ca (ahv Y)<|.a 4<|.p (Dj DL zero3 [Ah I])<|.ca (aI8 Z).view<|.a 1<|.p (Dj aIJ aEH [MQ (⟨I,M,J.1.Time,U⟩:Rx)])<|.f (DX (k:=0) MQ x9 aIJ A8 (λ_=>rfl) Ba)<|.a 1<|.nil _)<|q x8 (Ag [AQ 2]) h) λh=>q Y (Ag [AQ 0]) h) λh=>Hf
def gU (j:Rx)(q:Rx):AB Ac:=(cond (j.Um != q.Um) (some (decide (j.Um>q.Um))) (some (decide (j.Df<q.Df))))
def af0 :=Dc func484 rfl gU (λj=>.d (MQ j)) (λq=>.d (MQ q)) Ai λj q r h=>AZ<|a1d
def gB (I:(Int->Int->AV->AB AV))(J:Int)(j:Int)(q:AV):AB AV:=I j (Ar (J+1)) q
def Yr (J:(Int->Int->AV->AB AV))(q:Int)(L:Int)(I:Ac)(j:AV):AB AV:=(cond I (gB J q q j) (gB J q L j))
def bD (v2:NC)(I:Rx)(L:(Int->Int->AV->AB AV))(M:Int)(J:Int)(O:(Int->AV->AB AV)):Int->AV->AB AV:=λq j=>(cond (q<(v2.length:Int)) ((Aq v2 q).bind λU=>(dW I.aGM U.ny).bind λY=>(cond Y (gB L M J j) (O (Ar (q+1)) j))) (cond (J<0) (Yr L M J true j) ((Aq v2 J).bind λZ=>((λa0 a1=>gU a0 a1) I Z).bind λx28=>Yr L M J x28 j)))
def aVu (v2:NC)(j:Rx)(q:(Int->Int->AV->AB AV))(I:Int)(J:Int):Int->AV->AB AV:=aS (bD v2 j q I J) Aw
def aCG (v2:NC)(Z:(NC->AV->AB AV))(k9:(Int->Int->AV->AB AV)):Int->Int->AV->AB AV:=λj q I=>(cond (q<(v2.length:Int)) ((Aq v2 q).bind λJ=>aVu v2 J k9 q j 0 I) (cond (j<0) (some I) ((Aq v2 j).bind λL=>(CZ 8 I [L.ny]).bind λM=>(Gx v2 0 j).bind λO=>(Gx v2 (Ar (j+1)) ((v2).length)).bind λU=>(CZ 48 O U).bind λY=>Z Y M)))
def aUi (v2:NC)(j:(NC->AV->AB AV)):Int->Int->AV->AB AV:=iM (aCG v2 j) Aw
def ZP (q:(NC->AV->AB AV)):NC->AV->AB AV:=λv2 j=>(cond ((v2.length:Int)>0) (aUi v2 q (-1) 0 j) (some j))
def aTa  :NC->AV->AB AV:=aS (ZP) Aw
def a8k (q:Aj)(j:AV):AB AV:=(a6v q j).bind λI=>aTa I []
def akx :=FZ func482 rfl a8k BI BZ CO λeU atl r h=>BL<|.f (C9 3 1)<|.aT<|AO h λj q h=>AP 2<|.X (aYt q).view<|BL<|.f (C9 3 1)<|.aT<|AZ<|Aa<|Ak<|DJ (λj q=>⟨Az 72 [(5,X7 j),(6,.aQ 0),(7,.d (.fn (.func 484) [] []))],[(CO q)],0⟩) _ _ _ _ (Ag [AQ 1]) h<|λj q Y I L h=>Aa<|AP 1<|.Z (BK MQ I)<|Bg h (λh=>Ak<|Bl.scope<|AZ<|Aa<|Bl.label<|Aa<|AP 1<|.Z (BK MQ I)<|Ak<|PO (λj q Y=>⟨Az 72 [(5,X7 I),(6,.aQ 0),(7,.d (.fn (.func 484) [] [])),(8,AU j),(19,X7 I),(20,AU (I.length:Int)),(21,AU q)],[(CO Y)],0⟩) _ _ _ _ _ (Ag [AQ 0]) h<|λj q L x6 Z x8 h=>AZ<|Aa<|Bg h (λh=>Si (λ(M:Int) (O:(AA Int))=>(λj q M O=>⟨Az 72 [(5,X7 j),(6,.aQ 0),(7,.d (.fn (.func 484) [] [])),(8,AU M),(19,X7 j),(20,AU (j.length:Int)),(21,AU q)],[(CO O)],0⟩) I Z M O) (λM O=>gB q Z M O) r (λM O h=>Cc<|L _ _ _ _ (Ag [AQ 0]) h)<|λj=>Ak<|AO h λY L h=>AP 1<|.Z (BG MQ L)<|Aa<|AP 1<|.Z (BK MQ I)<|Ak<|DJ (λj q=>⟨Az 72 [(5,X7 I),(6,.aQ 0),(7,.d (.fn (.func 484) [] [])),(8,AU x6),(9,AU Z),(10,.ptr 1 0),(19,X7 I),(20,AU (I.length:Int)),(21,AU Z),(26,X7 I),(27,AU (I.length:Int)),(28,AU j)],[(CO q),.box (BD (MQ Y))],0⟩) _ _ _ _ (Ag [AQ 0,AQ 1]) h<|λL x8 x9 x10 x11 h=>AZ<|Aa<|Bg h (λh=>Aa<|Ak<|AO h λq I h=>BL<|.Z (BG MQ I)<|AO h λI L h=>AP 4<|.ca (aFC L)<|.aT<|BF h (λh=>CW<|j x6 x11 (Ag [AQ 0]) h) λh=>Cc<|x9 _ _ _ (Ag [AQ 0,AQ 1]) h) λh=>CW<|Si (λ(U:Ac) (J:(AA Int))=>(λj q Y U J=>⟨Az 72 [(5,X7 j),(6,.aQ 0),(7,.d (.fn (.func 484) [] [])),(8,AU q),(9,AU Y),(19,X7 j),(20,AU (j.length:Int)),(21,AU Y),(48,Ai U)],[(CO J)],0⟩) I x6 Z U J) (λU J=>Yr q Z x6 U J) r (λU J h=>BF h (λh=>Cc<|j Z J (Ag [AQ 0]) h) λh=>j x6 J (Ag [AQ 0]) h)<|λj=>Ed h (λq h=>DR A8 A8 A8 (.a 2<|.c (BM some q)<|.a 8<|.nil _)<|j true x11 (Ag [AQ 0]) h) λq h=>Bj h λY I L x6 h=>DR A8 A8 A8 (.a 2<|.c (BM some q)<|.a 4<|.p (BG MQ I)<|.a 1<|.p (ZY (d:=(.fn (.func 484) [] [])) (⟨484,[],rfl,ak6,λj q Y I=>af0 I⟩:YJ Ap MQ MQ EH (.fn (.func 484) [] []) (λj q=>gU j q)) x6)<|.a 1<|.nil _)<|j L x11 (Ag [AQ 0]) h) λh=>CW<|Aa<|AZ<|BF h mX λh=>Bj h λj q I L h=>AP 3<|.p (BG MQ q)<|.a 2<|.p (Dj DL zero3 [Ah j.ny])<|.Y (DX (k:=0) Ah L DL A8 (λ_=>rfl) Ba)<|Hr h λj q I L x6 Z h=>DR A8 A8 A8 (.a 3<|.p (aG0 MQ q aCt aCh (λ_=>rfl) rfl)<|.a 3<|.p (Ou MQ L O5 (λ_=>rfl) aCt aCh (λ_=>rfl) rfl)<|.p (aPX MQ Z aIJ (λ_=>rfl) Ba)<|.a 1<|.nil _)<|Y _ _ _ (Ag [AQ 1]) h) λh=>Hf
def aCp (I:Z9)(q:Aj)(j:AV):AB AV:=(a8k q j).bind λJ=>some J
def aZ5 {aNn jh CJ r}(h:aCp aNn jh CJ=some r):Dh 481 [.d (a0e aNn),BI jh,BZ CJ] [] (.aQ 0) [(CO r)]:=Dy func481 rfl<|AP 1<|.f (C9 3 1)<|.aT<|AO h λq j h=>AP 2<|.Y (x:=.aQ 2) (JR [BI jh,BZ CJ] (akx j))<|Jt
def aKr (q:Aj)(J:BX)(j:AV)(I:Z9):AB (BX×AV):=(aCp I q j).bind λL=>(dV q J L).bind λM=>some (M,L)
def ale {eU L6 CJ akC r}(h:aKr eU L6 CJ akC=some r):Dh 394 [BI eU,DU L6,BZ CJ,.d (.TW 349 (a0e akC))] [] (.eu [DU r.1,BZ r.2]) []:=Dy func394 rfl<|AZ<|AO h λq j h=>AP 3<|.Z (x:=(BZ q)) (aSF (t:=349) (a0e akC) [(BR Au) eU,(BR Ah) CJ] (aZ5 j).view akB aqI rfl rfl)<|AO h λj I h=>AP 3<|.X (aXn I)<|CV
abbrev Pv:=AA MF
def aBU (j:AA MF):AB Pv:=a9Q (λx:MF=>(x.ny,x.Ae,x.Df)) j
def ap8 {p0 r}(h:aBU p0=some r):Dh 489 [.aQ 0,.d (.fn (.func 490) [] [])] [(iR p0)] (.eu []) [(iR r)]:=
 azp (λx:MF=>(x.ny,x.Ae,x.Df)) (λx y h=>by cases x;cases y;simp at h;simp[h]) Pz (λ_=>rfl) p0 r h
noncomputable def aOx:Bh Tmp×Code×Code:=yQ Tryz.f488.body [1,0,1,0]
def Xk (j:(AA Int))(q:(Int×(AA Ad))):BP:=⟨Az 21 [(4,.ptr 0 0),(6,.ptr 1 0),(11,.fn (.func 455) [] [.ptr 2 0,.ptr 3 0])],[.box (BD ((BR Ah) j)),.box (BD (Ah 0)),.box (BD (Ah q.1)),.box (BD ((BR Au) q.2))],0⟩
noncomputable def ail (q:Bh BJ)(j:(AA Int))(J:(Int×(AA Ad)))(L:(AA Int))(M:(AA Int))(O:Int)(U:Int)(I:(AA Ad)):BP:=⟨Az 39 [(0,.mp 4),(1,.ptr 2 0),(2,.ptr 3 0),(4,.aQ 5)],[.box (BD ((BR Ah) M)),.box (BD (Ah O)),.box (BD (Ah U)),.box (BD ((BR Au) I)),.loop q (Xk j J).slots aOx .ready none,(CO L)],5⟩
def uy (j:AV)(v2:Int):AB Int:=some (j.length:Int)
def dB (U:(AV->AV->Int->Int->Aj->AB Int)):AV->AV->Int->Int->Aj->AB Int:=λv6 q M O j=>(V7 v6 O).bind λY=>(cond (!Y) ((JO j O).bind λI=>(cond (!I.2) (uy q M) ((uo q O).bind λJ=>(cond (J>=0) (some J) ((CZ 8 v6 [O]).bind λZ=>(xG j I.1).bind λL=>(cond (!L.2) (uy q M) (U Z q M L.1 j))))))) (uy q M))
def aMv  :AV->AV->Int->Int->Aj->AB Int:=DW (dB) Aw
def a3J (I:Aj)(j:AV)(q:Int):AB Int:=(wE I q).bind λJ=>aMv [] j 0 J.1 J.2
def aqH :=JF func488 rfl a3J BI BZ AU AU λU j O r h=>AZ<|Si (λ(L:(AA Int)) (v2:Int)=>(λL v2=>⟨Az 21 [(4,.ptr 0 0),(6,.ptr 1 0)],[.box (BD ((BR Ah) L)),.box (BD (Ah v2))],0⟩) L v2) (λL v2=>uy L v2) r (λL v2 h=>AP 1<|.Z (BK Ah L)<|ES<|by rw[←CM h];exact⟨[AU (L.length:Int)],[],⟨⟨1,BD (Ah (L.length:Int)),false,1,A8,A8,A8,Fl,DZ A8,(λ_=>rfl),A8⟩,trivial⟩,A8,A8,A8⟩)<|λY=>AO h λJ I h=>AP 2<|.f (x:=.fn (.func 455) [] [.ptr 2 0,.ptr 3 0]) (E5 [] [BI U,AU O] (aMU I))<|.aT<|Ak<|Nu (S:=Xk j J) (Ag [AQ 0,AQ 1,AQ 2,AQ 3])<|Bl.rangeFunc [.ptr 2 0,.ptr 3 0] A8 func455 aRK rfl rfl λI=>BL<|.f (C9 3 1)<|.aT<|Ak<|a4x (ail I j J) _ _ _ _ _ _ _ (Ag [AQ 0,AQ 1,AQ 2,AQ 3,AQ 4,AQ 5]) h<|λZ q x6 x7 x8 x9 M x11 h=>Aa<|AO h λZ q h=>AP 2<|.Z (x:=(Ai Z)) (dw (eY:=[.aQ 5,AU M]) (fF:=[.d (.sl (List.map Ah x7)),AU M]) (cV q) aR6 rfl ⟨⟨3,1,_,A8,rfl⟩,rfl,trivial⟩ rfl)<|Bg h (λh=>Ak<|AO h λZ q h=>AP 2<|.X (KU q)<|Aa<|AP 2<|Ed h (λI h=>.c (BM some I)<|.aW<|QG A8<|aQJ) λq h=>.c (BM some q)<|.a 2<|Dp.yield (tm:=I) (slots:=(Xk j J).slots) (rc:=aOx) 4 [AU M] rfl A8 A8 A8 A8 A8 A8<|Cc<|⟨rfl,(Xk j J).slots,A8,(Ak<|AO h λI q h=>AP 2<|.X (aQz q)<|AZ<|BF h (λh=>AZ<|ES<|⟨(Xk j J).slots,(.done,some .ret),A8,rfl,(.aW<|QG A8<|ES<|⟨.inr rfl,(Xk j J).slots,(.done,some .ret),.ret,A8,rfl,(by rw[←CM h];exact⟨[AU I],[],⟨⟨1,BD (Ah I),false,1,A8,A8,A8,Fl,DZ A8,(λ_=>rfl),A8⟩,trivial⟩,A8,A8,A8⟩)⟩)⟩) λh=>⟨(Xk j J).slots,(.ready,none),A8,rfl,(.aW<|NJ A8<|FM<|AO h λI q h=>AP 2<|.p (Dj DL zero3 [Ah M])<|.Y (DX (k:=5) Ah q DL A8 (λ_=>rfl) Ba)<|AO h λI q h=>AP 2<|.X (aVh q)<|Aa<|AZ<|BF h (λh=>aQJ) λh=>Cc<|x6 _ _ _ _ _ _ (Ag [AQ 0,AQ 1,AQ 2,AQ 3,AQ 4,AQ 7]) h)⟩)⟩) λh=>CW<|⟨.inl rfl,(Xk j J).slots,(.ready,none),.normal,A8,rfl,(Y x8 x9 (Ag [AQ 0,AQ 1]) h)⟩
def a5R (q:(Int->Pv->AB Pv)):Int->Pv->AB Pv:=λv2 j=>(cond (v2<(j.length:Int)) ((Aq j v2).bind λI=>(Aq j (Ar (v2-1))).bind λJ=>(cond (xJ I J) none (q (Ar (v2+1)) j))) (some j))
def aVm  :Int->Pv->AB Pv:=aS (a5R) Aw
def nZ (j:Pv):AB Pv:=(cond ((j.length:Int)<2) (some j) (aVm 1 j))
def amM {uO r}(h:nZ uO=some r):Dh 492 [.aQ 0] [(iR uO)] (.aQ 1) [.dead,(iR r)]:=by
 refine Dy func492 rfl ?_;unfold nZ at h;refine BL<|.f (C9 414 3)<|.aT<|Aa<|AP 1<|.Z (Iy (k:=0) (e':=414) (s:=3) Pz uO A8 wz)<|Di h (λh=>?_) λh=>?_
 ·refine BL<|.aM 2 ?_;rw[←CM h];exact .ret (Ew [(0,false),AQ 0])
 refine FM<|Aa<|AZ<|Ak ?_;refine DJ (λv2 L=>⟨Az 61 [(0,.aQ 1),(3,AU v2)],[.dead,(iR L)],1⟩) _ _ _ _ (Ag [(0,false),AQ 0]) h ?_;clear h;intro U Y M v2 L h;unfold a5R at h;refine Aa<|AP 2<|.Z (Iy (k:=1) (e':=414) (s:=3) Pz L A8 wz)<|Di h (λh=>?_) λh=>?_
 ·refine FM<|Aa<|Ak ?_;obtain⟨j,I,q,J,h⟩:=jo h;refine Ee A8 A8 A8 (.a 2<|.p (Ht (e':=414) (kd:=.i64) Pz I (k:=1) A8 wz wB)<|.p (x:=.d (Pz j)) (Jg (e:=414) (size:=3) (k:=1) (i:=(v2).toNat) (off:=0) Pz A8 A8 (GV I).2 wB (DZ A8) a5J rfl)<|.a 3<|.p (Ht (e':=414) (kd:=.i64) Pz J (k:=1) A8 wz wB)<|.p (x:=.d (Pz q)) (Jg (e:=414) (size:=3) (k:=1) (i:=(Ar (v2-1)).toNat) (off:=0) Pz A8 A8 (GV J).2 wB (DZ A8) a5J rfl)<|.p (x:=(Ai (xJ j q))) (an9 [.int .i64 j.ny,.int .i64 j.Ae,.int .i64 j.Df] [.int .i64 q.ny,.int .i64 q.Ae,.int .i64 q.Df] (ad4 j q) Ba ajB)<|.nil _)<|Di h (λh=>?_) λh=>?_
  ·cases h
  refine FM<|CQ<|.a 3<|.nil ?_;exact M _ _ _ (Ag [(0,false),AQ 1]) h
 refine CW<|BL<|.aM 2 ?_;rw[←CM h];exact .ret (Ew [(0,false),AQ 1])
def a6p (k3:(Pv->Int->AB AV))(v2:Int)(j:Pv):AB AV:=k3 j (Ar (v2+1))
def aHN (q:Pv)(J:(AV->Int->AB AV)):AV->Int->AB AV:=λI j=>(cond (j<(q.length:Int)) ((Aq q j).bind λL=>(CZ 8 I [L.ny]).bind λM=>J M (Ar (j+1))) (some I))
def aHf (j:Pv):AV->Int->AB AV:=aS (aHN j) Aw
def aJc (j:AV)(I:Aj)(q:AV)(k3:(Pv->Int->AB AV)):Pv->Int->AB AV:=λJ v2=>(bif v2<(j.length:Int) then(Aq j v2).bind λL=>(JO I L).bind λZ=>(cond Z.2 ((a3J I q L).bind λM=>(CZ 24 J [(⟨L,M,Z.1.Time⟩:MF)]).bind λO=>a6p k3 v2 O) (a6p k3 v2 J))else(aBU J).bind λU=>(nZ U).bind λY=>aHf Y [] 0)
def aTb (q:AV)(I:Aj)(j:AV):Pv->Int->AB AV:=aS (aJc q I j) Aw
def a9r (I:Aj)(j:AV)(q:AV):AB AV:=aTb q I j [] 0
def al9 {I q j r}(h:a9r I q j=some r):Dh 487 [BI I,BZ q,BZ j] [] (.aQ 0) [(CO r)]:=Dy func487 rfl<|BL<|.f (C9 3 1)<|.aT<|BL<|.f (C9 414 3)<|.aT<|Aa<|AP 1<|.Z (BK Ah j)<|Ak<|DJ (λL J=>⟨Az 56 [(0,BI I),(1,BZ q),(7,.aQ 0),(15,BZ j),(16,AU (j.length:Int)),(17,AU J)],[(iR L)],0⟩) _ _ _ _ (Ag [AQ 1]) h<|λL J M U O h=>AZ<|Aa<|Bg h (λh=>D9 (λ(Y:(AA MF))=>(λI q j L Y=>⟨Az 56 [(0,BI I),(1,BZ q),(7,.aQ 0),(15,BZ j),(16,AU (j.length:Int)),(17,AU L)],[(iR Y)],0⟩) I q j O Y) (λY=>a6p J O Y) r (λY h=>Oc)<|λL=>Ak<|AO h λJ M h=>BL<|.Z (BG Ah M)<|AO h λM O h=>AP 2<|.X (KU O)<|AZ<|BF h (λh=>Bj h λU O Z x7 h=>DR A8 A8 A8 (.a 5<|.ca (aqH O)<|.a 3<|.p (Dj aTo aHI [Pz (⟨J,U,M.1.Time⟩:MF)])<|.f (DX (k:=0) Pz x7 aTo A8 (λ_=>rfl) Ba)<|.a 1<|.nil _)<|L Z (Ag [AQ 2]) h) λh=>L U (Ag [AQ 0]) h) λh=>CW<|AO h λL J h=>AP 1<|.f (x:=.eu []) (E5 [.ent 0] [.aQ 0,.d (.fn (.func 490) [] [])] (ap8 J))<|.aT<|BL<|.f (C9 3 1)<|.aT<|Aa<|AO h λJ M h=>AP 1<|.f (x:=.aQ 2) (E5 [.ent 0] [.aQ 0] (amM M))<|.conv _ (IW (e:=414) (s:=3) 2 (xs:=List.map Pz J) A8)<|.Z (BK Pz J)<|Ak<|DJ (λL M=>⟨Az 56 [(12,.aQ 0),(43,.d ((BR Pz) J)),(44,AU (J.length:Int)),(45,AU M)],[(CO L)],0⟩) _ _ _ _ (Ag [AQ 1]) h<|λL J M U O h=>AZ<|Aa<|Bg h (λh=>Aa<|Ak<|AO h λL J h=>BL<|.Z (BG Pz J)<|AO h λJ U h=>CQ<|.a 3<|.p (Dj DL zero3 [Ah L.ny])<|.f (DX (k:=0) Ah U DL A8 (λ_=>rfl) Ba)<|.aN<|Cc<|M _ _ _ (Ag [AQ 2]) h) λh=>Hf
def aGm (q:ZG)(I:Aj)(j:AV):AB AV:=(a9r I q.aEO j).bind λJ=>some J
def ana {aJl jh CJ r}(h:aGm aJl jh CJ=some r):Dh 486 [.d (yV aJl),BI jh,BZ CJ] [] (.aQ 0) [(CO r)]:=Dy func486 rfl<|AP 1<|.f (C9 3 1)<|.aT<|AO h λq j h=>AP 4<|.Y (x:=.aQ 2) (JR [BI jh,BZ aJl.aEO,BZ CJ] (al9 j))<|Jt
def aJa (q:Aj)(J:BX)(j:AV)(I:ZG):AB (BX×AV):=(aGm I q j).bind λL=>(dV q J L).bind λM=>some (M,L)
def amP {eU L6 CJ akC r}(h:aJa eU L6 CJ akC=some r):Dh 394 [BI eU,DU L6,BZ CJ,.d (.TW 351 (yV akC))] [] (.eu [DU r.1,BZ r.2]) []:=Dy func394 rfl<|AZ<|AO h λq j h=>AP 3<|.Z (x:=(BZ q)) (aSF (t:=351) (yV akC) [(BR Au) eU,(BR Ah) CJ] (ana j).view ajz aqc rfl rfl)<|AO h λj I h=>AP 3<|.X (aXn I)<|CV
def aKl (M:(BX×AV))(q:(Int->Po->AB Po)):Int->Po->AB Po:=λI J=>(cond (I<(M.1.length:Int)) ((Aq M.1 I).bind λj=>(Tv J.Jf j.Kind j.Key j.Id).bind λL=>q (Ar (I+1)) ({ J with Jf:=L })) (some J))
def aWD (j:(BX×AV)):Int->Po->AB Po:=aS (aKl j) Aw
def Mem (J:AV)(L:AV)(j:Aj)(q:(BX×AV))(M:(BX×AV))(O:AV):AB Po:=(aB0 J L).bind λU=>(aJa j q.1 U (⟨O⟩:ZG)).bind λI=>aWD M 0 ({ Jf:=I.1,apb:=q.2,azB:=I.2 }:Po)
def a5T (q:Aj)(j:G9):AB Po:=(yJ j).bind λJ=>(a6e q j).bind λL=>(aAL q L).bind λM=>(aKr q J.1 M (⟨⟩:Z9)).bind λO=>(aB O.1 3 CS).bind λI=>(cond I.2 ((a6F q I.1).bind λU=>Mem L M q O J U) (Mem L M q O J []))
def ak1 :=Dc func323 rfl a5T BI JL (λr=>.d (eA r)) λj I r h=>AZ<|AO h λJ q h=>AP 1<|.f (x:=.eu [.aQ 1,.aQ 2]) (E5 [] [JL I] (aLv q))<|.a 2<|.conv _ (IW (e:=147) (s:=3) 1 (xs:=List.map BQ J.1) A8)<|.a 1<|.conv _ (IW (e:=3) (s:=1) 2 (xs:=List.map Ah J.2) A8)<|.aW<|AO h λq L h=>AP 2<|.X (agN L).view<|AO h λL M h=>AP 2<|.X (aq2 M).view<|AZ<|AZ<|AO h λM U h=>AP 4<|.p (x:=.d (.TW 349 (a0e (⟨⟩:Z9)))) (aX0 ad3)<|.Y (x:=.eu [DU M.1,BZ M.2]) (E5 [] [BI j,DU J.1,BZ L,.d (.TW 349 (a0e (⟨⟩:Z9)))] (ale U))<|AZ<|D9 (λ(O:(AA Int))=>(λj J q L M O=>⟨Az 78 [(0,BI j),(4,.ptr 0 0),(5,DU J.1),(7,BZ q),(8,BZ L),(9,.ptr 1 0),(10,DU M.1),(11,BZ O)],[.box (BD (eA a6B)),.box (BD (eA ({ a6B with apb:=M.2 })))],0⟩) j J q L M O) (λO=>Mem q L j M J O) r (λO h=>Bj h λU x6 Z x8 h=>AP 4<|.ca (akt x6).view<|.a 2<|.p (x:=.d (.TW 351 (yV (⟨O⟩:ZG)))) (aX0 aay)<|.Y (x:=.eu [DU Z.1,BZ Z.2]) (E5 [] [BI j,DU M.1,BZ U,.d (.TW 351 (yV (⟨O⟩:ZG)))] (amP x8))<|Aa<|AP 1<|.Z (BK BQ J.1)<|Ak<|DJ (λq L=>⟨Az 78 [(4,.ptr 0 0),(9,.ptr 1 0),(60,DU J.1),(61,AU (J.1.length:Int)),(62,AU q)],[.box (BD (eA a6B)),.box (BD (eA L))],0⟩) _ _ _ _ (Ag [AQ 0,AQ 1]) h<|λJ q L M U h=>AZ<|Aa<|Bg h (λh=>Aa<|Ak<|AO h λJ q h=>BL<|.Z (BG BQ q)<|AO h λq M h=>CQ<|.a 8<|.ca (cZ M).view<|.aN<|uU) λh=>CW<|AZ<|ES<|by rw[←CM h];exact⟨[.d (eA U)],[],⟨⟨0,BD (eA U),true,3,A8,A8,A8,aY5,DZ A8,O5,A8⟩,trivial⟩,A8,A8,A8⟩)<|λY=>AO h λJ q h=>AP 1<|.X (a7R q)<|AZ<|BF h (λh=>AO h λq L h=>CQ<|.a 2<|.ca (adt L).view<|.aN<|Y q (Ag [AQ 0,AQ 3]) h) λh=>Y [] (Ag [AQ 0,AQ 3]) h
def oQ (q:Aj)(j:G9):AB BX:=(cond ((j.length:Int)==0) (some []) (cond ((j.length:Int)==1) ((Aq j 0).bind λI=>(CZ 32 [] I).bind λJ=>some J) ((a5T q j).bind λL=>some L.Jf)))
def aXc :=Dc func246 rfl oQ BI JL DU λI j r h=>AZ<|Aa<|AP 1<|.p (BK (BR BQ) j)<|.aT<|Ak<|AZ<|Di h Bo λh=>AZ<|BF h (λh=>Bj h λJ q L M h=>AP 1<|.p (BG (BR BQ) q)<|.a 1<|.f (a9g 147 3 (DX (k:=_) BQ M Mc A8 (λ_=>rfl) Ba))<|.conv _ (IW (e:=147) (s:=3) 1 (xs:=List.map BQ L) A8)<|.aW<|CV) λh=>AO h λJ q h=>AP 2<|.X (ak1 q)<|CV
def a6Y (j:OZ)(q:Ad)(k2:(Int->AB Int)):Int->AB Int:=λI=>(cond (I<(j.length:Int)) ((Aq j I).bind λJ=>((λa0 L=>Y0 a0 L) J q).bind λM=>(cond M (some I) (k2 (Ar (I+1))))) (some (-1)))
def aP9 (j:OZ)(q:Ad):Int->AB Int:=bg (a6Y j q) Aw
def a6j (j:OZ)(q:Ad):AB Int:=aP9 j q 0
def alX :=Dc func405 rfl a6j XG Cm AU λj J r h=>AZ<|AZ<|Aa<|AP 1<|.Z (BK MK j)<|Ak<|Dq (λq=>⟨Az 21 [(3,.ptr 0 0),(5,.d (.fn (.func 406) [] [])),(8,XG j),(9,AU (j.length:Int)),(10,AU q)],[.box (BD (Au J))],0⟩) _ _ _ (Ag [AQ 0]) h<|λq I L M h=>AZ<|Aa<|Bg h (λh=>Aa<|Ak<|AO h λq I h=>AP 1<|.Z (BG MK I)<|AO h λq I h=>AP 3<|.p (ZY (d:=(.fn (.func 406) [] [])) (⟨406,[],rfl,aMA,λq I L M=>aRU M⟩:YJ Ap MK Au EH (.fn (.func 406) [] []) (λq I=>Y0 q I)) I)<|aIG) λh=>Ei
def a8d (L:Aj)(M:(Ac->OZ->Int->AB Int)):Ac->OZ->Int->AB Int:=λJ j q=>(cond (q<(L.length:Int)) ((Aq L q).bind λO=>(a6j j O).bind λI=>(cond (I<0) (some 16) ((Gx j 0 I).bind λU=>(Gx j (Ar (I+1)) ((j).length)).bind λY=>(CZ 24 U Y).bind λZ=>(cond J (some true) ((Aq L q).bind λx28=>some (x28.Kind==1))).bind λD6=>M D6 Z (Ar (q+1))))) (cond (!J) (some 16) (some 0)))
def aLb (j:Aj):Ac->OZ->Int->AB Int:=iM (a8d j) Aw
def aA2 (q:Aj)(j:Ad)(I:(Int->AB Int)):Int->AB Int:=λJ=>(bif J<(q.length:Int) then(Aq q J).bind λL=>(cond (!(L.Room.toList==j.Room.toList)) (some 13) (I (Ar (J+1))))else(sB j).bind λM=>aLb q (j.Kind==1) M 0)
def aM8 (q:Aj)(j:Ad):Int->AB Int:=bg (aA2 q j) Aw
def a6I (j:Ad)(q:Aj)(k3:(Aj->Int->AB Int)):Aj->Int->AB Int:=λI v2=>(cond (v2<(j.bQ.length:Int)) ((Aq j.bQ v2).bind λL=>(JO q L).bind λJ=>(cond (!J.2) (some 14) ((CZ 376 I [J.1]).bind λM=>k3 M (Ar (v2+1))))) (aM8 I j 0))
def aY4 (j:Ad)(q:Aj):Aj->Int->AB Int:=aS (a6I j q) Aw
def a1z (j:Aj)(q:Ad):AB Int:=aY4 q j [] 0
def ad7 {eU FV r}(h:a1z eU FV=some r):Dh 336 [BI eU,Cm FV] [] (AU r) []:=by
 refine Dy func336 rfl ?_;unfold a1z at h;refine AZ<|BL<|.f (C9 56 29)<|.aT<|Aa<|AP 2<|.Z (BK Ah FV.bQ)<|Ak ?_;refine DJ (λq v2=>⟨Az 88 [(0,BI eU),(3,.ptr 0 0),(5,.aQ 1),(16,BZ FV.bQ),(17,AU (FV.bQ.length:Int)),(18,AU v2)],[.box (BD (Au FV)),(Et q)],0⟩) _ _ _ _ (Ag [AQ 0,AQ 1]) h ?_;clear h;intro J32 k3 hk3 q v2 h;unfold a6I at h;refine AZ<|Aa<|Di h (λh=>?_) λh=>?_
 ·refine FM<|Aa<|Ak ?_;obtain⟨x5,hx5,h⟩:=Du h;refine BL<|.p (BG Ah hx5)<|.aM 2 ?_;obtain⟨x6,hx6,h⟩:=Du h;refine AP 2<|.X (KU hx6)<|Aa<|AZ<|Di h (λh=>?_) λh=>?_
  ·refine BL<|.aM 1 ?_;rw[←CM h];exact .ret (Ew [])
  refine FM ?_;obtain⟨x8,hx8,h⟩:=Du h;refine CQ<|.a 2<|.p (Dj Gl Jv [Au x6.1])<|.f (DX (k:=1) Au hx8 Gl A8 (λ_=>rfl) Ba)<|.aN<|CQ<|.a 2<|.nil ?_;exact hk3 _ _ _ (Ag [AQ 0,AQ 3]) h
 refine CW<|Aa<|AP 1<|.Z (Iy (k:=1) (e':=56) (s:=29) Au q A8 Kv)<|Ak ?_;refine Dq (λv9=>⟨Az 88 [(3,.ptr 0 0),(5,.aQ 1),(36,AU (q.length:Int)),(37,AU v9)],[.box (BD (Au FV)),(Et q)],0⟩) _ _ _ (Ag [AQ 0,AQ 1]) h ?_;clear h;intro J31 k10 O v9 h;unfold aA2 at h;refine AZ<|Aa<|Di h (λh=>?_) λh=>?_
 ·refine FM<|Aa<|Ak<|BL<|.aM 2 ?_;obtain⟨x12,I,h⟩:=Du h;refine Ee A8 A8 A8 (.a 2<|.p (Ht (e':=56) (kd:=.i64) Au I (k:=1) A8 Kv Fg)<|.a 1<|.p (x:=(CP x12.Room)) (Jg (e:=56) (size:=29) (k:=1) (i:=(v9).toNat) (off:=1) Au A8 A8 (GV I).2 Zv (DZ A8) (λ_=>rfl))<|.a 3<|.nil _)<|Di h (λh=>?_) λh=>?_
  ·refine BL<|.aM 1 ?_;rw[←CM h];exact .ret (Ew [])
  refine FM<|CQ<|.a 2<|.nil ?_;exact O _ _ (Ag [AQ 0,AQ 1]) h
 refine CW<|BL<|.aM 4 ?_;obtain⟨x14,U,h⟩:=Du h;refine AP 1<|.X (aEh U).view<|Aa<|AP 1<|.Z (Iy (k:=1) (e':=56) (s:=29) Au q A8 Kv)<|Ak ?_;refine PO (λM Y j=>⟨Az 88 [(5,.aQ 0),(11,Ai M),(12,XG Y),(55,AU (q.length:Int)),(56,AU j)],[(Et q)],0⟩) _ _ _ _ _ (Ag [AQ 1]) h ?_;clear h;intro J30 k18 Z M Y j h;unfold a8d at h;refine AZ<|Aa<|Di h (λh=>?_) λh=>?_
 ·refine FM<|Aa<|Ak<|BL<|.aM 2 ?_;obtain⟨O6,J,x21,aJk,h⟩:=jo h;refine AP 3<|.p (Ht (e':=56) (kd:=.i64) Au J (k:=0) A8 Kv Fg)<|.p (x:=(Cm O6)) (Jg (e:=56) (size:=29) (k:=0) (i:=(j).toNat) (off:=0) Au A8 A8 (GV J).2 Fg (DZ A8) O5 rfl)<|.X (alX aJk)<|Aa<|AZ<|Di h (λh=>?_) λh=>?_
  ·refine BL<|.aM 1 ?_;rw[←CM h];exact .ret (Ew [])
  refine FM ?_;obtain⟨x23,aPR,x24,hx24,x25,hx25,h⟩:=a5g h;refine Ee A8 A8 A8 (.a 3<|.p (aG0 MK aPR aIB aKz (λ_=>rfl) rfl)<|.a 3<|.p (Ou MK hx24 O5 (λ_=>rfl) aIB aKz (λ_=>rfl) rfl)<|.p (aPX MK hx25 aEN (λ_=>rfl) Ba)<|.a 1<|.nil _)<|CQ<|.a 2<|?_;obtain⟨D6,az1,h⟩:=Du h;refine .mg 78 6 (Ai D6) ?_ ?_
  ·replace h:=az1;cases M with
   |true=>
    replace h:=Qu rfl h;refine .aM 7 ?_;obtain rfl:=CM h;kernel_rfl
   |false=>
    replace h:=RD rfl h;obtain⟨x28,L,h⟩:=Du h;refine .a 2<|.p (Ht (e':=56) (kd:=.i64) Au L (k:=0) A8 Kv Fg)<|.a 1<|.p (x:=(AU x28.Kind)) (Jg (e:=56) (size:=29) (k:=0) (i:=(j).toNat) (off:=3) Au A8 A8 (GV L).2 iU (DZ A8) (λ_=>rfl))<|.aM 2 ?_;obtain rfl:=CM h;kernel_rfl
  refine .aN<|CQ<|.a 2<|.nil ?_;exact Z _ _ _ _ (Ag [AQ 0]) h
 refine CW<|Aa<|AZ<|Di h (λh=>?_) λh=>?_
 ·refine BL<|.aM 1 ?_;rw[←CM h];exact .ret (Ew [])
 refine FM<|BL<|.aM 1 ?_;rw[←CM h];exact .ret (Ew [])
noncomputable def aXX:Bh Tmp×Code×Code:=yQ Tryz.f134.body [1,1,0,1,0]
def fJ (q:(AA BN))(j:(AA Ad)):BP:=⟨Az 25 [(2,.ptr 0 0),(5,.ptr 3 0),(10,.d (.fn (.func 272) [] [(.ref ((BR BQ) q).cells 0)]))],[.box (BD ((BR Au) j)),(Et []),(Et []),.box (setAt (BD ((BR Au) [])) 0 [.aQ 2])],0⟩
noncomputable def agh (q:(AA BN))(I:Bh BJ)(j:(AA Ad))(J:(AA Ad))(L:Int)(M:(AA Ad))(O:(AA Ad))(U:(AA Ad)):BP:=⟨Az 16 [(0,.mp 4),(5,DU q),(6,AU (q.length:Int)),(7,AU L)],[.box (BD ((BR Au) M)),(Et O),.dead,.box (setAt (BD ((BR Au) U)) 0 [.aQ 5]),.loop I (fJ q j).slots aXX .ready none,(Et J)],5⟩
def aGD (O:BX)(U:(Aj->Int->Aj->Aj->Aj->AB Aj)):Aj->Int->Aj->Aj->Aj->AB Aj:=λI q J Y Z=>(cond (q<(O.length:Int)) ((Aq O q).bind λL=>(JO J L.Id).bind λj=>(cond j.2 ((CZ 376 I [j.1]).bind λM=>U M (Ar (q+1)) J Y Z) (U I (Ar (q+1)) J Y Z))) (some I))
def aMk (j:BX):Aj->Int->Aj->Aj->Aj->AB Aj:=DW (aGD j) Aw
def Zj (j:Aj)(q:BX):AB Aj:=(yG q).bind λI=>aMk I [] 0 j [] []
def a6W :=FZ func134 rfl Zj BI DU Et λj L r h=>AP 1<|.f (C9 56 29)<|.aT<|BL<|.f (xU 56 29 zero22)<|.aT<|Aa<|AO h λq I h=>AP 1<|.f (x:=.d (.fn (.func 272) [] [(.ref ((BR BQ) q).cells 0)])) (E5 [] [DU L] (aSs I))<|.aT<|Ak<|Nu (S:=fJ q j) (Ag [AQ 0,AQ 1,AQ 2,AQ 3])<|Bl.ajN [(.ref ((BR BQ) q).cells 0)] A8 func272 aMR rfl rfl λI=>AP 1<|.Z (BK BQ q)<|Ak<|a4x (agh q I j) _ _ _ _ _ _ _ (Ag [AQ 0,AQ 1,(2,false),AQ 3,AQ 4,AQ 2]) h<|λM J O Y Z x8 x9 U h=>AZ<|Aa<|Bg h (λh=>Aa<|Ak<|AO h λM J h=>BL<|.Z (BG BQ J)<|AP 2<|Dp.yield (tm:=I) (slots:=(fJ q j).slots) (rc:=aXX) 4 [VY M] rfl A8 A8 A8 A8 A8 A8<|Cc<|⟨rfl,(fJ q j).slots,A8,(Ak<|AO h λI J h=>AP 3<|.X (KU J)<|AZ<|BF h (λh=>AO h λM J h=>CQ<|.a 2<|.p (Dj Gl Jv [Au I.1])<|.f (DX (k:=5) Au J Gl A8 (λ_=>rfl) Ba)<|.aN<|⟨(fJ q j).slots,(.ready,none),A8,rfl,(.aW<|NJ A8<|FM<|Cc<|O _ _ _ _ _ _ (Ag [AQ 0,AQ 1,(2,false),AQ 3,AQ 4,AQ 9]) h)⟩) λh=>⟨(fJ q j).slots,(.ready,none),A8,rfl,(.aW<|NJ A8<|FM<|Cc<|O _ _ _ _ _ _ (Ag [AQ 0,AQ 1,(2,false),AQ 3,AQ 4,AQ 5]) h)⟩)⟩) λh=>CW<|⟨.inl rfl,(fJ q j).slots,(.ready,none),.normal,A8,rfl,(AZ<|aFG)⟩
def aCk (j:Ad)(q:(AA (Int×Int)))(I:Aj)(J:BX)(U:(Int->AB Int)):Int->AB Int:=λL=>(bif L<(j.bQ.length:Int) then(Aq j.bQ L).bind λY=>(cond (((DT q Y).getD 0) != 0) (some 16) (U (Ar (L+1))))else(Zj I J).bind λM=>(Y7 j M).bind λO=>some O)
def aOD (q:Ad)(j:(AA (Int×Int)))(I:Aj)(J:BX):Int->AB Int:=bg (aCk q j I J) Aw
def aA6 (J:(AA (Int×BX)))(L:(AA (Int×BX)))(q:(AA (Int×Int)))(I:Aj)(j:Ad)(M:BX):AB Int:=(a1z I j).bind λO=>(cond (O != 0) (some O) ((vk I j).bind λY=>(Y7 j Y).bind λU=>(cond (U != 0) (some U) (aOD j q I M 0))))
def afQ {lY kL jO jh kY aJm r}(h:aA6 lY kL jO jh kY aJm=some r):Dh 269 [.ptr 0 0,BI jh,Cm kY,DU aJm] [.box [.mp 1,.mp 2,.mp 3],.fK (List.map (CY D8 (BR BQ)) lY),.fK (List.map (CY D8 (BR BQ)) kL),.fK (List.map (CY D8 Ah) jO)] (AU r) [.box [.mp 1,.mp 2,.mp 3],.fK (List.map (CY D8 (BR BQ)) lY),.fK (List.map (CY D8 (BR BQ)) kL),.fK (List.map (CY D8 Ah) jO)]:=Dy func269 rfl<|AZ<|Aa<|AO h λj q h=>AP 2<|.X (ad7 q)<|AZ<|BF h (λh=>AZ<|Zu) λh=>Aa<|Bj h λj q J I h=>Ee A8 A8 A8 (.a 3<|.ca (aTj q).view<|.ca (pR I)<|.a 1<|.nil _)<|AZ<|BF h (λh=>AZ<|Zu) λh=>Aa<|AP 2<|.Z (BK Ah kY.bQ)<|Ak<|Dq (λj=>⟨Az 47 [(0,.ptr 0 0),(1,BI jh),(3,DU aJm),(6,.ptr 4 0),(28,BZ kY.bQ),(29,AU (kY.bQ.length:Int)),(30,AU j)],[.box [.mp 1,.mp 2,.mp 3],.fK (List.map (CY D8 (BR BQ)) lY),.fK (List.map (CY D8 (BR BQ)) kL),.fK (List.map (CY D8 Ah) jO),.box (BD (Au kY))],4⟩) _ _ _ (Ag [AQ 0,AQ 1,AQ 2,AQ 3,AQ 4]) h<|λj q J I h=>AZ<|Aa<|Bg h (λh=>Aa<|Ak<|AO h λj q h=>BL<|.Z (BG Ah q)<|AP 5<|.Z (x:=(AU ((DT jO j).getD 0))) (eF (k:=3) (key:=j) (m:=jO) Ah 0 a1A IY nC A8 A8 A8)<|BF h (λh=>AZ<|Zu) λh=>Cc<|J _ _ (Ag [AQ 0,AQ 1,AQ 2,AQ 3,AQ 4]) h) λh=>CW<|Bj h λj q J I h=>Ee A8 A8 A8 (.a 3<|.ca (a6W q).view<|.ca (pR I)<|.a 1<|.nil _)<|Zu
def aFA (j:Ad)(q:(AA (Int×BX)))(L:Aj)(I:(AA (Int×BX)))(J:(AA (Int×Int)))(k3:(G9->Int->AB ((AA (Int×BX))×(AA (Int×BX))×(AA (Int×Int))))):G9->Int->AB ((AA (Int×BX))×(AA (Int×BX))×(AA (Int×Int))):=λZ v2=>(bif v2<(j.bP.length:Int) then(Aq j.bP v2).bind λx5=>(CZ 24 Z ([(DT q x5).getD []])).bind λx6=>k3 x6 (Ar (v2+1))else(oQ L Z).bind λM=>(aA6 I q J L j M).bind λO=>(cond (O==0) (some (decide (j.Kind>=1))) (some false)).bind λx9=>(cond x9 (some (decide (j.Kind<=10))) (some false)).bind λU=>(cond U ((Tv M j.Kind j.Key j.Id).bind λY=>some (FU I j.Id M,FU (FU q j.Id M) j.Id Y,FU J j.Id O)) (some (FU I j.Id M,FU q j.Id M,FU J j.Id O))))
def aQ0 (J:Ad)(j:(AA (Int×BX)))(L:Aj)(q:(AA (Int×BX)))(I:(AA (Int×Int))):G9->Int->AB ((AA (Int×BX))×(AA (Int×BX))×(AA (Int×Int))):=aS (aFA J j L q I) Aw
def a6P (j:(AA (Int×BX)))(q:(AA (Int×BX)))(I:(AA (Int×Int)))(J:Aj)(L:Ad):AB ((AA (Int×BX))×(AA (Int×BX))×(AA (Int×Int))):=aQ0 L q J j I [] 0
def ahc {lY kL jO jh kY r}(h:a6P lY kL jO jh kY=some r):Dh 193 [.ptr 0 0,BI jh,Cm kY] [.box [.mp 1,.mp 2,.mp 3],.fK (List.map (CY D8 (BR BQ)) lY),.fK (List.map (CY D8 (BR BQ)) kL),.fK (List.map (CY D8 Ah) jO)] (.eu []) [.box [.mp 1,.mp 2,.mp 3],.fK (List.map (CY D8 (BR BQ)) r.1),.fK (List.map (CY D8 (BR BQ)) r.2.1),.fK (List.map (CY D8 Ah) r.2.2)]:=Dy func193 rfl<|AZ<|BL<|.f (C9 26 1)<|.aT<|Aa<|AP 2<|.Z (BK Ah kY.bP)<|Ak<|DJ (λq j=>⟨Az 89 [(0,.ptr 0 0),(1,BI jh),(5,.ptr 4 0),(6,.aQ 5),(12,BZ kY.bP),(13,AU (kY.bP.length:Int)),(14,AU j)],[.box [.mp 1,.mp 2,.mp 3],.fK (List.map (CY D8 (BR BQ)) lY),.fK (List.map (CY D8 (BR BQ)) kL),.fK (List.map (CY D8 Ah) jO),.box (BD (Au kY)),.arr 26 1 (List.map (BR BQ) q)],4⟩) _ _ _ _ (Ag [AQ 0,AQ 1,AQ 2,AQ 3,AQ 4,AQ 5]) h<|λq j I J L h=>AZ<|Aa<|Bg h (λh=>Aa<|Ak<|AO h λq j h=>BL<|.Z (BG Ah j)<|AO h λj J h=>CQ<|.a 6<|.p (x:=(DU ((DT kL q).getD []))) (eF (k:=2) (key:=q) (m:=kL) (BR BQ) [] ig IY zero26 A8 A8 A8)<|.p (Dj Zl zero26 [(BR BQ) ((DT kL q).getD [])])<|.f (DX (k:=5) (BR BQ) J Zl A8 (λ_=>rfl) Ba)<|.aN<|Cc<|I _ _ _ (Ag [AQ 0,AQ 1,AQ 2,AQ 3,AQ 4,AQ 6]) h) λh=>CW<|AO h λq j h=>AP 2<|.conv _ (IW (e:=26) (s:=1) 5 (xs:=List.map (BR BQ) J) A8)<|.X (aXc j)<|AO h λj I h=>AP 4<|.Y (x:=(AU j)) (E5 [.ent 0,.ent 1,.ent 2,.ent 3] [.ptr 0 0,BI jh,Cm kY,DU q] (afQ I) (hE:=Y6))<|a8Q [10,11,16,17,18,19,20] (.a 21<|.f (x:=.eu [DU ((DT lY kY.Id).getD []),AU (Gp lY kY.Id:Int)]) (aCW (k:=1) (key:=kY.Id) (m:=lY) (BR BQ) [] ig IY zero26 A8 A8 A8)<|.a 1<|.f (aGE (k:=1) (key:=kY.Id) (z0:=((DT lY kY.Id).getD [])) (val:=q) (m:=lY) (BR BQ) IY A8)<|.f (x:=.eu [DU ((DT kL kY.Id).getD []),AU (Gp kL kY.Id:Int)]) (aCW (k:=2) (key:=kY.Id) (m:=kL) (BR BQ) [] ig IY zero26 A8 A8 A8)<|.a 1<|.f (aGE (k:=2) (key:=kY.Id) (z0:=((DT kL kY.Id).getD [])) (val:=q) (m:=kL) (BR BQ) IY A8)<|.f (x:=.eu [AU ((DT jO kY.Id).getD 0),AU (Gp jO kY.Id:Int)]) (aCW (k:=3) (key:=kY.Id) (m:=jO) Ah 0 a1A IY nC A8 A8 A8)<|.a 1<|.f (aGE (k:=3) (key:=kY.Id) (z0:=((DT jO kY.Id).getD 0)) (val:=j) (m:=jO) Ah IY A8)<|.nil _)<|AP 2<|AO h λj I h=>.mg 65 4 (Ai j) (.bi I)<|.a 1<|AO h λj I h=>.mg 71 3 (Ai j) (Cb I)<|.aT<|BF h (λh=>AO h λj I h=>DR A8 A8 A8 (.a 13<|.ca (cZ I).view<|.f (afj (k:=2) (key:=kY.Id) (val:=j) (m:=(FU kL kY.Id q)) (BR BQ) ig IY A8)<|.nil _)<|aOO) λh=>aOO
def aIu (U:AV)(j:Aj)(J:(Int->(AA (Int×BX))->(AA (Int×BX))->(AA (Int×Int))->AB (AB ((AA (Int×BX))×(AA (Int×BX))×(AA (Int×Int)))))):Int->(AA (Int×BX))->(AA (Int×BX))->(AA (Int×Int))->AB (AB ((AA (Int×BX))×(AA (Int×BX))×(AA (Int×Int)))):=λL Y Z I=>(cond (L<(U.length:Int)) ((Aq U L).bind λM=>(JO j M).bind λO=>(a6P Y Z I j O.1).bind λq=>J (Ar (L+1)) q.1 q.2.1 q.2.2) (some (some (Y,Z,I))))
def aHR (q:AV)(j:Aj):Int->(AA (Int×BX))->(AA (Int×BX))->(AA (Int×Int))->AB (AB ((AA (Int×BX))×(AA (Int×BX))×(AA (Int×Int)))):=X8 (aIu q j) Aw
def bY (j:Aj):AB (AB ((AA (Int×BX))×(AA (Int×BX))×(AA (Int×Int)))):=(Qb j).bind λq=>(cond (q != 0) (some true) ((a1t j).bind λI=>some (I != 0))).bind λJ=>(cond J (some none) ((a1e j).bind λL=>aHR L j 0 [] [] []))
def XB {eU r}(h:bY eU=some r):Dh 131 [BI eU] [] (aaJ r (λ_=>.ptr 0 0)) (agD r λj=>[.box [.mp 1,.mp 2,.mp 3],.fK (List.map (CY D8 (BR BQ)) j.1),.fK (List.map (CY D8 (BR BQ)) j.2.1),.fK (List.map (CY D8 Ah) j.2.2)]):=Dy func131 rfl<|AZ<|Aa<|AO h λj q h=>AP 1<|.ca (ag9 q)<|.a 1<|AO h λj q h=>.mg 11 4 (Ai j) (.bi q (k2:=λh=>AO h λj q h=>.a 1<|.X (aRr q)<|CU))<|.aT<|BF h Bo λh=>BL<|.f (x:=.mp 0) aG3<|.f (x:=.mp 1) aG3<|.f (x:=.mp 2) aG3<|.Z (x:=.ag [.mp 0,.mp 1,.mp 2]) (aip (cs:=[.mp 0,.mp 1,.mp 2]) aVI [.mp 0,.mp 1,.mp 2] A8 A8)<|Aa<|AO h λj q h=>AP 1<|.ca (aTx q).view<|.Z (BK Ah j)<|Ak<|Bl.X8 (λq J I L=>⟨Az 40 [(0,BI eU),(3,.ptr 0 0),(22,BZ j),(23,AU (j.length:Int)),(24,AU q)],[.box [.mp 1,.mp 2,.mp 3],.fK (List.map (CY D8 (BR BQ)) J),.fK (List.map (CY D8 (BR BQ)) I),.fK (List.map (CY D8 Ah) L)],0⟩) _ _ _ _ _ _ (Ag [AQ 3,AQ 0,AQ 1,AQ 2]) h<|λj q J I L M O h=>AZ<|Aa<|Bg h (λh=>Aa<|Ak<|AO h λj q h=>BL<|.Z (BG Ah q)<|AO h λq I h=>AP 2<|.X (KU I)<|AO h λj I h=>CQ<|.a 3<|.f (x:=.eu []) (E5 [.ent 0,.ent 1,.ent 2,.ent 3] [.ptr 0 0,BI eU,Cm q.1] (ahc I) (hE:=Y6))<|.nil<|Cc<|J _ _ _ _ _ (Ag [AQ 0,AQ 1,AQ 2,AQ 3]) h) λh=>CW<|AZ<|Zu
def aFj (q:Int)(I:(AA (Int×BX)))(J:(AA (Int×BX)))(j:(AA (Int×Int))):AB Ac:=some (((DT j q).getD 0)==0)
def aoG {ayI arP arQ aed r}(h:aFj ayI arP arQ aed=some r):Dh 195 [AU ayI,.ptr 0 0] [.box [.ptr 1 0],.box [.mp 2,.mp 3,.mp 4],.fK (List.map (CY D8 (BR BQ)) arP),.fK (List.map (CY D8 (BR BQ)) arQ),.fK (List.map (CY D8 Ah) aed)] (Ai r) [.box [.ptr 1 0],.box [.mp 2,.mp 3,.mp 4],.fK (List.map (CY D8 (BR BQ)) arP),.fK (List.map (CY D8 (BR BQ)) arQ),.fK (List.map (CY D8 Ah) aed)]:=Dy func195 rfl<|AZ<|AP 5<|.Z (x:=(AU ((DT aed ayI).getD 0))) (eF (k:=4) (key:=ayI) (m:=aed) Ah 0 a1A IY nC A8 A8 A8)<|by cases h;exact .ret (Ew [AQ 0,AQ 1,AQ 2,AQ 3,AQ 4])
def aBQ (k3:(AV->Int->AB AV))(v2:Int)(j:AV):AB AV:=k3 j (Ar (v2+1))
def aKG (J:Aj)(j:(AA (Int×BX)))(q:(AA (Int×BX)))(I:(AA (Int×Int)))(k3:(AV->Int->AB AV)):AV->Int->AB AV:=λL v2=>(cond (v2<(J.length:Int)) ((Aq J v2).bind λU=>(aFj U.Id j q I).bind λY=>(cond Y ((Aq J v2).bind λM=>(CZ 8 L [M.Id]).bind λO=>aBQ k3 v2 O) (aBQ k3 v2 L))) (some L))
def aWE (J:Aj)(j:(AA (Int×BX)))(q:(AA (Int×BX)))(I:(AA (Int×Int))):AV->Int->AB AV:=aS (aKG J j q I) Aw
def a5c (J:Aj)(j:(AA (Int×BX)))(q:(AA (Int×BX)))(I:(AA (Int×Int))):AB AV:=aWE J j q I [] 0
def an5 {J j q I r}(h:a5c J j q I=some r):Dh 194 [BI J,.fn (.func 195) [] [.ptr 0 0]] [.box [.ptr 1 0],.box [.mp 2,.mp 3,.mp 4],.fK (List.map (CY D8 (BR BQ)) j),.fK (List.map (CY D8 (BR BQ)) q),.fK (List.map (CY D8 Ah) I)] (.aQ 5) [.box [.ptr 1 0],.box [.mp 2,.mp 3,.mp 4],.fK (List.map (CY D8 (BR BQ)) j),.fK (List.map (CY D8 (BR BQ)) q),.fK (List.map (CY D8 Ah) I),(CO r)]:=Dy func194 rfl<|BL<|.f (C9 3 1)<|.aT<|BL<|.f (C9 3 1)<|.aT<|Aa<|AP 1<|.Z (BK Au J)<|Ak<|DJ (λL M=>⟨Az 29 [(0,BI J),(1,.fn (.func 195) [] [.ptr 0 0]),(5,.aQ 5),(8,AU (J.length:Int)),(9,AU M)],[.box [.ptr 1 0],.box [.mp 2,.mp 3,.mp 4],.fK (List.map (CY D8 (BR BQ)) j),.fK (List.map (CY D8 (BR BQ)) q),.fK (List.map (CY D8 Ah) I),(CO L)],5⟩) _ _ _ _ (Ag [AQ 0,AQ 1,AQ 2,AQ 3,AQ 4,AQ 6]) h<|λL M Y Z O h=>AZ<|Aa<|Bg h (λh=>D9 (λ(U:(AA Int))=>(λJ L j q I U=>⟨Az 29 [(0,BI J),(1,.fn (.func 195) [] [.ptr 0 0]),(5,.aQ 5),(8,AU (J.length:Int)),(9,AU L)],[.box [.ptr 1 0],.box [.mp 2,.mp 3,.mp 4],.fK (List.map (CY D8 (BR BQ)) j),.fK (List.map (CY D8 (BR BQ)) q),.fK (List.map (CY D8 Ah) I),(CO U)],5⟩) J O j q I U) (λU=>aBQ M O U) r (λU h=>Cc<|Y _ _ _ (Ag [AQ 0,AQ 1,AQ 2,AQ 3,AQ 4,AQ 5]) h)<|λL=>Ak<|AZ<|Bj h λM Y O x6 h=>AP 3<|.p (BG Au Y)<|.a 2<|.f (x:=(Ai O)) (iH [.ent 0,.ent 1,.ent 2,.ent 3,.ent 4] [] [.ptr 0 0] [AU M.Id] (aoG x6) (hE:=(Nj A8<|Y6)))<|.aT<|BF h (λh=>Bj h λM Y Z O h=>CQ<|.a 3<|.p (BG Au Y)<|.a 2<|.p (Dj DL zero3 [Ah M.Id])<|.f (DX (k:=5) Ah O DL A8 (λ_=>rfl) Ba)<|.aN<|L Z (Ag [AQ 0,AQ 1,AQ 2,AQ 3,AQ 4,AQ 6]) h) λh=>L Z (Ag [AQ 0,AQ 1,AQ 2,AQ 3,AQ 4,AQ 5]) h) λh=>CW<|AZ<|by cases h;exact .ret (Ew [AQ 0,AQ 1,AQ 2,AQ 3,AQ 4,AQ 5])
def qm (j:(AA (Int×BX)))(q:(AA (Int×BX)))(I:(AA (Int×Int)))(J:Aj):AB AV:=(a5c J j q I).bind λL=>some L
def aRD {lY kL jO jh r}(h:qm lY kL jO jh=some r):Dh 132 [.ptr 0 0,BI jh] [.box [.mp 1,.mp 2,.mp 3],.fK (List.map (CY D8 (BR BQ)) lY),.fK (List.map (CY D8 (BR BQ)) kL),.fK (List.map (CY D8 Ah) jO)] (.aQ 4) [.box [.mp 1,.mp 2,.mp 3],.fK (List.map (CY D8 (BR BQ)) lY),.fK (List.map (CY D8 (BR BQ)) kL),.fK (List.map (CY D8 Ah) jO),(CO r)]:=Dy func132 rfl<|AP 1<|.f (C9 3 1)<|.aT<|AO h λq j h=>AP 1<|.p (x:=.fn (.func 195) [] [.ptr 4 0]) (RG (fi:=[]) (ca:=[.ptr 4 0]) rfl rfl)<|.Y (x:=.aQ 6) (E5 [.ent 4,.ent 0,.ent 1,.ent 2,.ent 3] [BI jh,.fn (.func 195) [] [.ptr 4 0]] (an5 j) (hE:=(Nj A8<|Y6)) (ha:=⟨.inl rfl,⟨_,_,rfl,trivial,⟨⟨0,rfl,rfl⟩,trivial⟩⟩,trivial⟩))<|by cases h;exact .ret (Ew [AQ 0,AQ 1,AQ 2,AQ 3,AQ 6])
def eP (j:Aj):AB AV:=(bY j).bind λI=>Xl I (some []) λq=>(qm q.1 q.2.1 q.2.2 j).bind λJ=>some J
def aDt :=JM func85 rfl eP BI CO λj r h=>BL<|.f (C9 3 1)<|.aT<|AO h λI q h=>by cases I with |none=>exact(have h:=a1U h;AP 1<|.X (XB q)<|Aa<|AP 1<|.p (x:=(Ai true)) (a2T A8)<|.aT<|QG A8<|BL<|.f (C9 3 1)<|.aT<|JQ)|some L=>exact(have h:=wP h;AP 1<|.Y (x:=.ptr 1 0) (E5 [] [BI j] (XB q))<|Aa<|AP 1<|.p (x:=(Ai false)) (a7A (k:=1) (off:=0) A8)<|.aT<|NJ A8<|FM<|AO h λq J h=>AP 2<|.Y (x:=.aQ 5) (E5 [.ent 1,.ent 2,.ent 3,.ent 4] [.ptr 1 0,BI j] (aRD J) (hE:=Y6))<|aFG)
def aCU (j:(Int->(AA (Int×Int))->(AA (Int×Ac))->AB AV))(v2:Int)(q:(AA (Int×Int)))(I:(AA (Int×Ac))):AB AV:=j (Ar (v2+1)) q I
def aHn (j:(Int->(AA (Int×Int))->(AA (Int×Ac))->AB AV))(q:Int)(I:(AA (Int×Int)))(J:(AA (Int×Ac))):AB AV:=j (Ar (q+1)) I J
def amq (J:Ad)(O:Int)(U:(Int->(AA (Int×Int))->(AA (Int×Ac))->AB AV))(v2:Int)(L:(Int->(AA (Int×Int))->(AA (Int×Ac))->AB AV)):Int->(AA (Int×Int))->(AA (Int×Ac))->AB AV:=λj q I=>(cond (j<(J.bP.length:Int)) ((Aq J.bP j).bind λM=>(cond (M != O) (aHn L j q (FU I M true)) (aHn L j q I))) (aCU U v2 q I))
def ahn (j:Ad)(q:Int)(I:(Int->(AA (Int×Int))->(AA (Int×Ac))->AB AV))(v2:Int):Int->(AA (Int×Int))->(AA (Int×Ac))->AB AV:=iM (amq j q I v2) Aw
def aIr (j:(AV->Int->AB AV))(q:Int)(I:AV):AB AV:=j I (Ar (q+1))
def ape (j:AV)(U:(AA (Int×Ac)))(J:(AV->Int->AB AV)):AV->Int->AB AV:=λI q=>(bif q<(j.length:Int) then(Aq j q).bind λL=>(cond (!((DT U L).getD false)) ((CZ 8 I [L]).bind λM=>aIr J q M) (aIr J q I))else(VK I).bind λO=>some O)
def aa0 (j:AV)(q:(AA (Int×Ac))):AV->Int->AB AV:=aS (ape j q) Aw
def ap3 (j:AV)(I:Aj)(O:(Int->(AA (Int×Int))->(AA (Int×Ac))->AB AV)):Int->(AA (Int×Int))->(AA (Int×Ac))->AB AV:=λv2 J L=>(cond (v2<(j.length:Int)) ((Aq j v2).bind λq=>(cond (!((DT J q).isSome)) (aCU O v2 J L) ((Aq I ((DT J q).getD 0)).bind λM=>ahn M q O v2 0 J L))) (aa0 j L [] 0))
def ak0 (j:AV)(q:Aj):Int->(AA (Int×Int))->(AA (Int×Ac))->AB AV:=iM (ap3 j q) Aw
def aAd (q:Aj)(j:AV):AB AV:=(VB q).bind λI=>ak0 j q 0 I []
def aHw :=FZ func233 rfl aAd BI BZ CO λq j r h=>BL<|.f (C9 3 1)<|.aT<|AO h λJ I h=>AP 1<|.Y (x:=.mp 1) (E5 [] [BI q] (yw I))<|BL<|.Y (x:=.mp 2) a7g<|Aa<|AP 1<|.Z (BK Ah j)<|Ak<|PO (λJ I L=>⟨Az 67 [(0,BI q),(1,BZ j),(5,.mp 0),(6,.mp 1),(19,BZ j),(20,AU (j.length:Int)),(21,AU J)],[.map (List.map (CY D8 Ah) I),.map (List.map (CY D8 EH) L)],0⟩) _ _ _ _ _ (Ag [AQ 1,AQ 2]) h<|λJ I L Y Z x6 h=>AZ<|Aa<|Bg h (λh=>Si (λ(v7:(AA (Int×Int))) (v8:(AA (Int×Ac)))=>(λq j J v7 v8=>⟨Az 67 [(0,BI q),(1,BZ j),(5,.mp 0),(6,.mp 1),(19,BZ j),(20,AU (j.length:Int)),(21,AU J)],[.map (List.map (CY D8 Ah) v7),.map (List.map (CY D8 EH) v8)],0⟩) q j Y v7 v8) (λv7 v8=>aCU I Y v7 v8) r (λv7 v8 h=>Cc<|L _ _ _ _ (Ag [AQ 0,AQ 1]) h)<|λJ=>Ak<|AO h λI L h=>BL<|.Z (BG Ah L)<|AP 2<|.Z (x:=.eu [AU ((DT Z I).getD 0),Ai ((DT Z I).isSome)]) (aBO (k:=0) (key:=I) (m:=Z) Ah 0 Rq IY zero3 A8 A8 A8)<|Aa<|AZ<|BF h (λh=>CW<|J Z x6 (Ag [AQ 0,AQ 1]) h) λh=>AO h λL Z h=>AP 2<|.p (BG Au Z)<|.a 2<|.Z (BK Ah L.bP)<|Ak<|PO (λJ Z x6=>⟨Az 67 [(0,BI q),(1,BZ j),(5,.mp 0),(6,.mp 1),(8,AU I),(19,BZ j),(20,AU (j.length:Int)),(21,AU Y),(37,BZ L.bP),(38,AU (L.bP.length:Int)),(39,AU J)],[.map (List.map (CY D8 Ah) Z),.map (List.map (CY D8 EH) x6)],0⟩) _ _ _ _ _ (Ag [AQ 0,AQ 1]) h<|λZ x6 x7 x8 x9 x10 h=>AZ<|Aa<|Bg h (λh=>Si (λ(M:(AA (Int×Int))) (O:(AA (Int×Ac)))=>(λq j J I L Y M O=>⟨Az 67 [(0,BI q),(1,BZ j),(5,.mp 0),(6,.mp 1),(8,AU J),(19,BZ j),(20,AU (j.length:Int)),(21,AU I),(37,BZ L.bP),(38,AU (L.bP.length:Int)),(39,AU Y)],[.map (List.map (CY D8 Ah) M),.map (List.map (CY D8 EH) O)],0⟩) q j I Y L x8 M O) (λM O=>aHn x6 x8 M O) r (λM O h=>Cc<|x7 _ _ _ _ (Ag [AQ 0,AQ 1]) h)<|λJ=>Ak<|AO h λI L h=>BL<|.Z (BG Ah L)<|AZ<|BF h (λh=>CQ<|.a 2<|.f (lT (k:=1) (key:=I) (val:=true) (m:=x10) EH Tn IY A8)<|.nil<|J x9 (FU x10 I true) (Ag [AQ 0,AQ 1]) h) λh=>J x9 x10 (Ag [AQ 0,AQ 1]) h) λh=>CW<|J x9 x10 (Ag [AQ 0,AQ 1]) h) λh=>CW<|BL<|.f (C9 3 1)<|.aT<|Aa<|AP 1<|.Z (BK Ah j)<|Ak<|DJ (λJ I=>⟨Az 67 [(6,.mp 0),(13,.aQ 1),(50,BZ j),(51,AU (j.length:Int)),(52,AU I)],[.map (List.map (CY D8 EH) x6),(CO J)],0⟩) _ _ _ _ (Ag [AQ 1,AQ 2]) h<|λJ I L Y Z h=>AZ<|Aa<|Bg h (λh=>D9 (λ(U:(AA Int))=>(λj J I U=>⟨Az 67 [(6,.mp 0),(13,.aQ 1),(50,BZ j),(51,AU (j.length:Int)),(52,AU J)],[.map (List.map (CY D8 EH) I),(CO U)],0⟩) j Z x6 U) (λU=>aIr I Z U) r (λU h=>uU)<|λJ=>Ak<|AO h λI L h=>BL<|.Z (BG Ah L)<|AP 2<|.Z (x:=(Ai ((DT x6 I).getD false))) (eL (k:=0) (key:=I) (m:=x6) EH false Tn IY y8 A8 A8 A8)<|BF h (λh=>AO h λL Y h=>CQ<|.a 2<|.p (Dj DL zero3 [Ah I])<|.f (DX (k:=1) Ah Y DL A8 (λ_=>rfl) Ba)<|.aN<|J L (Ag [AQ 0,AQ 2]) h) λh=>J Y (Ag [AQ 0,AQ 1]) h) λh=>CW<|AO h λJ I h=>AP 1<|.Y (JY (eY:=[.aQ 1]) (fF:=[.d (.sl (List.map Ah Y))]) (aZ I) (λx J=>by obtain⟨a,_,rfl⟩:=GH.1 J;rfl) wR ⟨⟨3,1,List.map Ah Y,A8,rfl⟩,trivial⟩ rfl)<|Jt
def aMw (j:AA Ad):AB Aj:=a5Z j
def amT {p0 r}(h:aMw p0=some r):Dh 307 [.aQ 0,.d (.fn (.func 308) [] [])] [(Et p0)] (.eu []) [(Et r)]:=alK p0 r h
def aRd (I:Aj)(j:AV):AB Aj:=(xK I j).bind λJ=>(aMw J).bind λq=>(J4 376 EI (Hl (q.length:Int) 10) (Hl (q.length:Int) 10)).bind λL=>(Gx q (Ar ((q.length:Int)-(Hl (q.length:Int) 10))) ((q).length)).bind λM=>some (gCopy L M)
def ade :=FZ func232 rfl aRd BI BZ Et λI j r h=>BL<|.f (C9 56 29)<|.aT<|AO h λL q h=>AP 2<|.Y (x:=.aQ 1) (JR [BI I,BZ j] (aPd q))<|AO h λq J h=>AP 1<|.f (x:=.eu []) (E5 [.ent 1] [.aQ 1,.d (.fn (.func 308) [] [])] (amT J))<|.aT<|AP 1<|.p (Iy (k:=1) (e':=56) (s:=29) Au q A8 Kv)<|.Z (x:=(AU (Hl (q.length:Int) 10))) oV<|AO h λL J h=>AP 1<|.Y (Ub Au EI J Gl Jv A8 A8 A8 Ba)<|AO h λJ M h=>AP 3<|.p (Iy (k:=1) (e':=56) (s:=29) Au q A8 Kv)<|.a 2<|.conv _ (IW (e:=56) (s:=29) 1 (xs:=List.map Au q) A8)<|.p (Ou Au M a5J (λ_=>rfl) Kv Fg (λ_=>rfl) rfl)<|.f (aVT (k:=2) Au L J Gl A8 (λ_=>rfl))<|.aT<|AZ<|Jt
def aaZ (j:Aj)(I:(AV->Int->AB AV)):AV->Int->AB AV:=λv2 q=>(cond (q<(j.length:Int)) ((Aq j q).bind λJ=>(CZ 8 v2 [J.Id]).bind λL=>I L (Ar (q+1))) (some v2))
def ama (j:Aj):AV->Int->AB AV:=aS (aaZ j) Aw
def aWJ (j:Aj):AB AV:=(J4 8 0 0 (j.length:Int)).bind λq=>ama j q 0
def aYo :=JM func234 rfl aWJ BI CO λj r h=>BL<|.f (C9 3 1)<|.aT<|AO h λI q h=>AP 1<|.p (BK Au j)<|.Y (Ub Ah 0 q DL zero3 A8 A8 A8 Ba)<|Aa<|AP 1<|.Z (BK Au j)<|Ak<|DJ (λI q=>⟨Az 22 [(3,.aQ 0),(9,BI j),(10,AU (j.length:Int)),(11,AU q)],[(CO I)],0⟩) _ _ _ _ (Ag [AQ 1]) h<|λI q L J M h=>AZ<|Aa<|Bg h (λh=>Aa<|Ak<|AO h λI q h=>BL<|.Z (BG Au q)<|AO h λq J h=>CQ<|.a 3<|.p (Dj DL zero3 [Ah I.Id])<|.f (DX (k:=0) Ah J DL A8 (λ_=>rfl) Ba)<|.aN<|Cc<|L _ _ _ (Ag [AQ 2]) h) λh=>Hf
def abE (L:AV)(O:((AA (Int×BX))×(AA (Int×BX))×(AA (Int×Int))))(j:Aj)(U:(G9->Int->AB BX)):G9->Int->AB BX:=λM q=>(bif q<(L.length:Int) then(Aq L q).bind λY=>(CZ 24 M ([(DT O.2.1 Y).getD []])).bind λI=>U I (Ar (q+1))else(oQ j M).bind λJ=>some J)
def ae7 (q:AV)(I:((AA (Int×BX))×(AA (Int×BX))×(AA (Int×Int))))(j:Aj):G9->Int->AB BX:=aS (abE q I j) Aw
def aJ6 (j:Aj):AB BX:=(bY j).bind λI=>Xl I (some []) λq=>(qm q.1 q.2.1 q.2.2 j).bind λJ=>(aAd j J).bind λL=>ae7 L q j [] 0
def aNI :=Dk func175 rfl aJ6 BI DU λq r h=>AZ<|AO h λO j h=>by cases O with |none=>exact(have h:=a1U h;AP 1<|.X (XB j)<|Aa<|AP 1<|.p (x:=(Ai true)) (a2T A8)<|.aT<|QG A8<|AZ<|CV)|some J=>exact(have h:=wP h;AP 1<|.Y (x:=.ptr 0 0) (E5 [] [BI q] (XB j))<|Aa<|AP 1<|.p (x:=(Ai false)) (a7A (k:=0) (off:=0) A8)<|.aT<|NJ A8<|FM<|BL<|.f (C9 26 1)<|.aT<|Aa<|Bj h λj I L M h=>AP 3<|.f (x:=.aQ 5) (E5 [.ent 0,.ent 1,.ent 2,.ent 3] [.ptr 0 0,BI q] (aRD I) (hE:=Y6))<|.conv _ (IW (e:=3) (s:=1) 5 (xs:=List.map Ah j) A8)<|.ca (aHw M).view<|.Z (BK Ah L)<|Ak<|DJ (λj I=>⟨Az 34 [(0,BI q),(3,.ptr 0 0),(4,.aQ 4),(15,BZ L),(16,AU (L.length:Int)),(17,AU I)],[.box [.mp 1,.mp 2,.mp 3],.fK (List.map (CY D8 (BR BQ)) J.1),.fK (List.map (CY D8 (BR BQ)) J.2.1),.fK (List.map (CY D8 Ah) J.2.2),.arr 26 1 (List.map (BR BQ) j)],0⟩) _ _ _ _ (Ag [AQ 0,AQ 1,AQ 2,AQ 3,AQ 4]) h<|λj I L M U h=>AZ<|Aa<|Bg h (λh=>Aa<|Ak<|AO h λj I h=>BL<|.Z (BG Ah I)<|AO h λI M h=>CQ<|.a 6<|.p (x:=(DU ((DT J.2.1 j).getD []))) (eF (k:=2) (key:=j) (m:=J.2.1) (BR BQ) [] ig IY zero26 A8 A8 A8)<|.p (Dj Zl zero26 [(BR BQ) ((DT J.2.1 j).getD [])])<|.f (DX (k:=4) (BR BQ) M Zl A8 (λ_=>rfl) Ba)<|.aN<|Cc<|L _ _ _ (Ag [AQ 0,AQ 1,AQ 2,AQ 3,AQ 5]) h) λh=>CW<|AO h λj I h=>AP 2<|.conv _ (IW (e:=26) (s:=1) 4 (xs:=List.map (BR BQ) M) A8)<|.X (aXc I)<|CV)
def aID (j:RN)(q:BN):AB Ac:=(cond (q.Kind==j.abB) (some (q.Key.toList==j.abC.toList)) (some false)).bind λI=>some I
def aem :=Dc func311 rfl aID (λj=>.d (MK j)) VY Ai λj q r h=>AZ<|AP 5<|AO h λI J h=>.mg 10 6 (Ai I) (.bi J)<|.aW<|CV
def aHX (j:(AV->Int->AB AV))(q:Int)(I:AV):AB AV:=j I (Ar (q+1))
def abm (j:BX)(Z:RN)(U:(AV->Int->AB AV))(Y:Int)(J:(AV->Int->AB AV)):AV->Int->AB AV:=λL q=>(cond (q<(j.length:Int)) ((Aq j q).bind λI=>((λa0 a1=>aID a0 a1) Z I).bind λM=>(cond M ((CZ 8 L [I.Id]).bind λO=>aHX U Y O) (J L (Ar (q+1))))) (aHX U Y L))
def apn (j:BX)(q:RN)(I:(AV->Int->AB AV))(J:Int):AV->Int->AB AV:=aS (abm j q I J) Aw
def aq5 (J:OZ)(j:BX)(L:(AV->Int->AB AV)):AV->Int->AB AV:=λv2 q=>(cond (q<(J.length:Int)) ((Aq J q).bind λM=>apn j M L q v2 0) ((VK v2).bind λI=>some I))
def alH (q:OZ)(j:BX):AV->Int->AB AV:=aS (aq5 q j) Aw
def aTR (j:Ad)(q:BX):AB AV:=(sB j).bind λI=>alH I q [] 0
def ahu :=FZ func235 rfl aTR Cm DU CO λY j r h=>AP 1<|.f (C9 3 1)<|.aT<|AZ<|BL<|.f (C9 3 1)<|.aT<|Aa<|AO h λI q h=>AP 1<|.ca (aEh q).view<|.Z (BK MK I)<|Ak<|DJ (λq J=>⟨Az 37 [(1,DU j),(5,.d (.fn (.func 311) [] [])),(6,.aQ 0),(12,XG I),(13,AU (I.length:Int)),(14,AU J)],[(CO q)],0⟩) _ _ _ _ (Ag [AQ 2]) h<|λq J L M U h=>AZ<|Aa<|Bg h (λh=>D9 (λ(O:(AA Int))=>(λj I q O=>⟨Az 37 [(1,DU j),(5,.d (.fn (.func 311) [] [])),(6,.aQ 0),(12,XG I),(13,AU (I.length:Int)),(14,AU q)],[(CO O)],0⟩) j I U O) (λO=>aHX J U O) r (λO h=>WT)<|λq=>Ak<|AO h λJ L h=>BL<|.Z (BG MK L)<|AP 1<|.Z (BK BQ j)<|Ak<|DJ (λq L=>⟨Az 37 [(1,DU j),(5,.d (.fn (.func 311) [] [])),(6,.aQ 0),(8,.ptr 1 0),(12,XG I),(13,AU (I.length:Int)),(14,AU U),(18,DU j),(19,AU (j.length:Int)),(20,AU L)],[(CO q),.box (BD (MK J))],0⟩) _ _ _ _ (Ag [AQ 0,AQ 1]) h<|λI J L M U h=>AZ<|Aa<|Bg h (λh=>Aa<|Ak<|AO h λI J h=>BL<|.Z (BG BQ J)<|AO h λJ M h=>AP 3<|.p (ZY (d:=(.fn (.func 311) [] [])) (⟨311,[],rfl,aeh,λI q J L=>aem L⟩:YJ Ap MK BQ EH (.fn (.func 311) [] []) (λI q=>aID I q)) M)<|.aT<|BF h (λh=>AO h λJ L h=>AP 3<|.p (Dj DL zero3 [Ah I.Id])<|.Y (DX (k:=0) Ah L DL A8 (λ_=>rfl) Ba)<|CW<|q J (Ag [AQ 3]) h) λh=>uU) λh=>CW<|q M (Ag [AQ 0]) h) λh=>CW<|AO h λI q h=>AP 1<|.Y (JY (eY:=[.aQ 0]) (fF:=[.d (.sl (List.map Ah M))]) (aZ q) (λI q=>MZ) wR ⟨⟨3,1,List.map Ah M,A8,rfl⟩,trivial⟩ rfl)<|JQ
def ajX (L:Aj)(j:Aj)(Z:(Int->Ad->AB (Ad×BX×Int))):Int->Ad->AB (Ad×BX×Int):=λM q=>(cond (M<(L.length:Int)) ((Aq L M).bind λO=>Z (Ar (M+1)) ({ q with Depth:=EL q.Depth (Ar (O.Depth+1)) })) (cond (q.Depth>100000) (some (EI,[],29)) ((aWJ L).bind λU=>(O8 U).bind λI=>(aJ6 j).bind λJ=>(aTR ({ q with bP:=I }) J).bind λY=>some ({ { q with bP:=I }with bQ:=Y },J,0))))
def aqM (q:Aj)(j:Aj):Int->Ad->AB (Ad×BX×Int):=aS (ajX q j) Aw
def aRl (j:Aj)(q:Ad):AB (Ad×BX×Int):=(eP j).bind λI=>(cond ((I.length:Int)==0) (some (EI,[],26)) ((aAd j I).bind λJ=>(aRd j J).bind λL=>(Aq j 0).bind λM=>(ZR q.Kind).bind λO=>aqM L j 0 ({ { { q with Room:=M.Room }with State:=O }with Depth:=1 })))
def aoI :=Dc func165 rfl aRl BI Cm (λr=>.eu [Cm r.1,DU r.2.1,AU r.2.2]) λL Y r h=>AZ<|AO h λq j h=>AP 1<|.X (aDt j).view<|Aa<|AP 1<|.Z (BK Ah q)<|BF h (λh=>AZ<|ES<|by rw[←CM h];exact⟨[Cm EI,DU [],AU 26],[],⟨⟨1,BD (Au EI),true,29,A8,A8,A8,Fg,DZ A8,Ul,A8⟩,FY A8,FY A8,trivial⟩,A8,A8,A8⟩) λh=>Bj h λj I J O h=>AP 3<|.ca (aHw I).view<|.X (ade O).view<|Bj h λq j I O h=>Ee A8 A8 A8 (.a 1<|.p (BG Au j)<|.a 4<|.ca (jc O)<|.a 6<|.nil _)<|Aa<|AP 1<|.Z (BK Au J)<|Ak<|DJ (λq j=>⟨Az 65 [(0,BI L),(3,.ptr 0 0),(4,.ptr 1 0),(8,BI J),(33,BI J),(34,AU (J.length:Int)),(35,AU q)],[.box (BD (Au j)),.box (BD (Au EI))],0⟩) _ _ _ _ (Ag [AQ 0,AQ 1]) h<|λq j I O U h=>AZ<|Aa<|Bg h (λh=>Aa<|Ak<|AO h λq j h=>BL<|.Z (BG Au j)<|CQ<|.a 5<|.p (x:=(AU (EL U.Depth (Ar (q.Depth+1))))) bW<|.aN<|Cc<|I _ _ _ (Ag [AQ 0,AQ 1]) h) λh=>CW<|Aa<|AZ<|BF h (λh=>AZ<|ES<|by rw[←CM h];exact⟨[Cm EI,DU [],AU 29],[],⟨⟨1,BD (Au EI),true,29,A8,A8,A8,Fg,DZ A8,Ul,A8⟩,FY A8,FY A8,trivial⟩,A8,A8,A8⟩) λh=>AO h λq j h=>AP 1<|.Y (x:=.aQ 2) (JR [BI J] (aYo j))<|AO h λj I h=>AP 2<|.f (x:=.eu []) (E5 [.ent 2] [.aQ 2] (jJ q j I))<|.aT<|AO h λq I h=>AP 1<|.X (aNI I)<|AO h λI J h=>BL<|.conv _ (aNA (e:=3) (s:=1) 2 0 (xs:=List.map Ah j) (cs:=setAt (BD (Au U)) 8 [.aQ 2]) A8 A8 A8)<|.a 2<|.X (ahu J).view<|AZ<|ES<|by rw[←CM h];exact⟨[Cm ({ { U with bP:=j }with bQ:=I }),DU q,AU 0],[],⟨⟨1,BD (Au ({ { U with bP:=j }with bQ:=I })),true,29,A8,A8,A8,Fg,DZ A8,Ul,A8⟩,FY A8,FY A8,trivial⟩,A8,A8,A8⟩
def aQG (J:Aj)(j:BH)(M:Int)(I:BH)(O:Cx)(q:Int):AB (Ad×Int):=(aRl J ({ EI with bG:=j,Kind:=M,Key:=I,Time:=q,Content:=O })).bind λL=>(cond (L.2.2 != 0) (some (EI,L.2.2)) ((tN L.1).bind λU=>(cond (U != 0) (some (EI,U)) ((Zj J L.2.1).bind λZ=>(Y7 L.1 Z).bind λY=>(cond (Y != 0) (some (EI,Y)) ((aFo L.1).bind λx8=>some (x8,0)))))))
def ant {eU lZ aNo aHc aNp aDF r}(h:aQG eU lZ aNo aHc aNp aDF=some r):Dh 113 [BI eU,CP lZ,AU aNo,CP aHc,II aNp,AU aDF] [] (.eu [Cm r.1,AU r.2]) []:=Dy func113 rfl<|AZ<|AO h λJ j h=>AP 7<|.X (aoI j)<|Aa<|AZ<|BF h (λh=>AZ<|ES<|by rw[←CM h];exact⟨[Cm EI,AU J.2.2],[],⟨⟨1,BD (Au EI),true,29,A8,A8,A8,Fg,DZ A8,QU,A8⟩,FY A8,trivial⟩,A8,A8,A8⟩) λh=>Aa<|AO h λj I h=>AP 1<|.X (aHs I)<|AZ<|BF h (λh=>AZ<|ES<|by rw[←CM h];exact⟨[Cm EI,AU j],[],⟨⟨1,BD (Au EI),true,29,A8,A8,A8,Fg,DZ A8,QU,A8⟩,FY A8,trivial⟩,A8,A8,A8⟩) λh=>Aa<|Bj h λj I L M h=>Ee A8 A8 A8 (.a 3<|.ca (a6W I).view<|.ca (pR M)<|.a 1<|.nil _)<|AZ<|BF h (λh=>AZ<|ES<|by rw[←CM h];exact⟨[Cm EI,AU L],[],⟨⟨1,BD (Au EI),true,29,A8,A8,A8,Fg,DZ A8,QU,A8⟩,FY A8,trivial⟩,A8,A8,A8⟩) λh=>AO h λj I h=>AP 1<|.X (aYO I)<|ES<|by rw[←CM h];exact⟨[Cm j,AU 0],[],⟨⟨1,BD (Au j),true,29,A8,A8,A8,Fg,DZ A8,QU,A8⟩,FY A8,trivial⟩,A8,A8,A8⟩
def aKu (j:Aj):AB Aj:=(CZ 376 [] j).bind λq=>some q
def acV {uO r}(h:aKu uO=some r):Dh 166 [BI uO] [] (.aQ 0) [(Et r)]:=by
 refine Dy func166 rfl ?_;unfold aKu at h;refine BL<|.f (C9 56 29)<|.aT<|Aa<|pJ (x:=.tmp 3) (t':=22) (d:=4) (es:=List.map Au uO) 1 rfl (.a 1<|.nil _) A8 A8 A8 Kv A8 ?_;intro b j;cases b
 ·clear j;refine NJ A8<|FM ?_;obtain⟨I,q,h⟩:=Du h;refine BL<|.f (Gn Gl Jv [])<|.a 1<|.f (DX (k:=1) Au q Gl A8 (λ_=>rfl) Ba)<|.aM 1 ?_;rw[←CM h];exact .ret (Ew [AQ 2])
 replace j:=oH j;replace h:some []=some r:=rX
 refine QG A8<|BL<|.f (C9 56 29)<|.aT ?_;rw[←CM h];exact .ret (Ew [AQ 1])
def aSe (j:AA Ad)(q:Int)(I:AA Ad):AB Aj:=aLI j q I
def akE (j:AA Ad)(q:Int)(I r:AA Ad)(h:aSe j q I=some r):Dh 167 [.aQ 0,AU q,.aQ 1] [(Et j),(Et I)] (.aQ 2) [.dead,.dead,(Et r)]:=
 aBI (λ_=>rfl) j q I r h
def aK5 (j:Aj):AB (Aj×Int):=some (j,0)
def aK3 (I:(Int->AB (Aj×Int)))(j:Int)(J:Aj)(q:Ad)(L:Ac):AB (Aj×Int):=(cond L (I (Ar (j+1))) ((aSe J j [q]).bind λM=>some (M,0)))
def aq3 (I:Aj)(J:Aj)(j:Ad)(L:(Int->AB (Aj×Int))):Int->AB (Aj×Int):=λq=>(cond (q<(I.length:Int)) ((Aq I q).bind λM=>aK3 L q J j (decide (M.Id<j.Id))) (aK3 L q J j false))
def ac2 (j:Aj)(I:Aj)(q:Ad):Int->AB (Aj×Int):=bg (aq3 j I q) Aw
def akZ (j:Aj)(q:Ad)(k2:(Int->AB (Aj×Int))):Int->AB (Aj×Int):=λL=>(bif L<(j.length:Int) then(Aq j L).bind λZ=>(cond (!(Z.Room.toList==q.Room.toList)) (some ([],13)) (k2 (Ar (L+1))))else(a6E j q.Id).bind λJ=>(cond (J<0) (some (decide ((j.length:Int)>=2000))) (some false)).bind λx7=>(cond x7 (some ([],29)) ((aKu j).bind λI=>(cond (J>=0) ((Xg q).bind λM=>(cond M ((Aq j J).bind λO=>(Xg O).bind λU=>some (!U)) (some false)).bind λY=>(cond Y ((Aq I J).bind λO6=>aK5 (I.set (J).toNat q)) (aK5 I))) (ac2 j I q 0)))))
def aaL (j:Aj)(q:Ad):Int->AB (Aj×Int):=bg (akZ j q) Aw
def a1s (j:Aj)(q:Ad):AB (Aj×Int):=aaL j q 0
def a4F {j q r}(h:a1s j q=some r):Dh 114 [BI j,Cm q] [] (.eu [.aQ 0,AU r.2]) [(Et r.1)]:=Dy func114 rfl<|AP 1<|.Y (C9 56 29)<|Aa<|AP 1<|.Z (BK Au j)<|Ak<|Dq (λJ=>⟨Az 73 [(0,BI j),(3,.ptr 0 0),(10,BI j),(11,AU (j.length:Int)),(12,AU J)],[.box (BD (Au q))],0⟩) _ _ _ (Ag [AQ 0]) h<|λJ I L Y h=>AZ<|Aa<|Bg h (λh=>Aa<|Ak<|AO h λJ I h=>BL<|.Z (BG Au I)<|AZ<|BF h (λh=>BL<|.Y (C9 56 29)<|Jt) λh=>Xy) λh=>CW<|AO h λJ I h=>AP 3<|.X (aRz I)<|Aa<|AP 2<|AO h λI L h=>.mg 28 4 (Ai I) (.bi L (λh=>.a 1<|.Z (BK Au j)<|CU))<|.aT<|BF h (λh=>BL<|.Y (C9 56 29)<|JQ) λh=>AO h λI L h=>AP 1<|.Y (x:=.aQ 1) (JR [BI j] (acV L))<|Aa<|AZ<|BF h (λh=>D9 (λ(M:(AA Ad))=>(λM=>⟨Az 73 [(9,.aQ 0)],[(Et M)],0⟩) M) (λM=>aK5 M) r (λM h=>AZ<|Py)<|λL=>AO h λY U h=>AP 1<|.ca (nS U)<|.a 1<|AO h λY U h=>.mg 40 6 (Ai Y) (Cb U (λe i=>by subst e;have h:=i;exact Bj h λJ I L Y h=>.a 2<|.p (BG Au I)<|.a 1<|.X (nS Y)<|CU))<|.aT<|BF h (λh=>AO h λY U h=>CQ<|.a 3<|.p (Ht (e':=56) (kd:=.i64) Au U (k:=1) A8 Kv Fg)<|.f (Vb (e:=56) (size:=29) (v:=(Cm q)) (k:=1) (i:=(J).toNat) (off:=0) (a':=q) Au A8 (GV U).2 A8 (Fg).size A8 (DZ A8) A8 (λ_=>rfl))<|.nil<|L (I.set (J).toNat q) (Ag [AQ 1]) h) λh=>L I (Ag [AQ 1]) h) λh=>AZ<|Aa<|Ak<|Dq (λJ=>⟨Az 73 [(0,BI j),(3,.ptr 0 0),(8,AU J),(9,.aQ 1)],[.box (BD (Au q)),(Et I)],0⟩) _ _ _ (Ag [AQ 0,AQ 1]) h<|λJ L Y U h=>Aa<|D9 (λ(O:Ac)=>(λj J q I O=>⟨Az 73 [(0,BI j),(3,.ptr 0 0),(8,AU J),(9,.aQ 1),(65,Ai O)],[.box (BD (Au q)),(Et I)],0⟩) j U q I O) (λO=>aK3 L U I q O) r (λO h=>Bg h (λh=>Ak<|Cc<|Y _ _ (Ag [AQ 0,AQ 1]) h) λh=>CW<|AO h λJ L h=>AP 3<|.f (Gn Gl Jv [Au q])<|.Y (x:=.aQ 3) (E5 [.ent 1,.ent 2] [.aQ 1,AU U,.aQ 2] (akE I U [q] J L) (hE:=(Nj A8<|Nj A8<|trivial)))<|qh)<|λJ=>Ed h (λI h=>AO h λL Y h=>DR A8 A8 A8 (.a 2<|.p (BK Au j)<|.a 1<|.c (BM some I)<|.a 2<|.p (BG Au Y)<|.a 6<|.nil _)<|J (decide (L.Id<q.Id)) (Ag [AQ 0,AQ 1]) h) λI h=>DR A8 A8 A8 (.a 2<|.p (BK Au j)<|.a 1<|.c (BM some I)<|.a 9<|.nil _)<|J false (Ag [AQ 0,AQ 1]) h
def adp (q:BH)(x3:Ci)(I:Int)(j:Int)(J:Int)(k7:(Aj->Aj->Int->AB (Aj×Int))):Aj->Aj->Int->AB (Aj×Int):=λO v5 U=>(cond (U<4) ((Aq ([{ EI with Kind:=2,Key:=q,Content:={ El with N:=3 } },{ EI with Kind:=3,Content:={ El with Levels:=x3 } },{ EI with Kind:=4,Content:={ El with N:=I } },{ EI with Kind:=5,Content:={ El with N:=j } }]:Aj) U).bind λY=>(aQG O q Y.Kind Y.Key Y.Content J).bind λL=>(cond (L.2 != 0) (some ([],L.2)) ((JO O L.1.Id).bind λZ=>(cond Z.2 (some ([],11)) ((a1s O L.1).bind λM=>(cond (M.2 != 0) (some ([],M.2)) ((CZ 376 v5 [L.1]).bind λx16=>k7 M.1 x16 (Ar (U+1))))))))) (some (v5,0)))
def alj (q:BH)(L:Ci)(I:Int)(j:Int)(J:Int):Aj->Aj->Int->AB (Aj×Int):=iM (adp q L I j J) Aw
def aNK (J:BH)(j:BH)(I:Int)(L:Int)(q:Int):AB (Aj×Int):=(aWs J j I).bind λM=>(cond (M.2 != 0) (some ([],M.2)) ((a0J j).bind λO=>alj j O L q I [M.1] [M.1] 0))
def aad {aDG lZ avw avx aaG r}(h:aNK aDG lZ avw avx aaG=some r):Dh 66 [CP aDG,CP lZ,AU avw,AU avx,AU aaG] [] (.eu [.aQ 0,AU r.2]) [(Et r.1)]:=Dy func66 rfl<|BL<|.Y (C9 56 29)<|AO h λj q h=>AP 3<|.X (afZ q)<|Aa<|AZ<|BF h (λh=>AP 1<|.Y (C9 56 29)<|Jt) λh=>Uz [Qg 1 (Go.Op.buildSlice 22 1 #[(0,(Go.Operand.tmp 33))]) (λq J I=>aBa Gl Jv A8 A8 (DZ A8) [Cm j.1] [Au j.1] A8 A8 A8 A8 I),Wx 3 (Go.Op.buildSlice 22 1 #[(0,(Go.Operand.tmp 35))]) [(Et []),.box (BD (Au j.1))] [(Et []),.box (BD (Au j.1)),(Et [j.1])] (λq J=>a6x Gl Jv A8 A8 (DZ A8) [Cm j.1] [Au j.1] A8 A8 A8 A8 J)] 12<|AO h λj q h=>AP 4<|.X (aQR q)<|Aa<|AZ<|Ak<|PO (λq J I=>⟨Az 94 [(1,CP lZ),(2,AU avw),(14,BI q),(15,.aQ 0),(51,.d ((aTe Au) ([{ EI with Kind:=2,Key:=lZ,Content:={ El with N:=3 } },{ EI with Kind:=3,Content:={ El with Levels:=j } },{ EI with Kind:=4,Content:={ El with N:=avx } },{ EI with Kind:=5,Content:={ El with N:=aaG } }]:(AA Ad)))),(52,AU I)],[(Et J)],0⟩) _ _ _ _ _ (Ag [AQ 2]) h<|λj q J I L M h=>AZ<|Aa<|Bg h (λh=>Aa<|Ak<|AO h λj q h=>BL<|.Z (x:=(Cm j)) (adI (k:=.i64) Au q amk Fg A8 (λx=>⟨_,rfl,rfl⟩))<|AO h λq L h=>AP 9<|.X (ant L)<|Aa<|AZ<|BF h (λh=>AP 1<|.Y (C9 56 29)<|qh) λh=>Aa<|AO h λj L h=>AP 3<|.X (KU L)<|AZ<|BF h (λh=>BL<|.Y (C9 56 29)<|a1E) λh=>Aa<|AO h λj L h=>AP 2<|.f (x:=.eu [.aQ 4,AU j.2]) (E5 [] [BI I,Cm q.1] (a4F L))<|.a 2<|.conv _ (IW (e:=56) (s:=29) 4 (xs:=List.map Au j.1) A8)<|.aW<|AZ<|BF h (λh=>AP 1<|.Y (C9 56 29)<|aFG) λh=>AO h λj I h=>CQ<|.a 2<|.p (Dj Gl Jv [Au q.1])<|.f (DX (k:=0) Au I Gl A8 (λ_=>rfl) Ba)<|.aN<|Cc<|J _ _ _ _ (Ag [AQ 5]) h) λh=>Hf
def aMC (j:BH):AB (Bv×Int):=(o9 j).bind λq=>(cond (q != 0) (some (OH,3)) (some ({ OH with Id:=j },0)))
def ai2 :=Dk func67 rfl aMC CP (λr=>.eu [FC r.1,AU r.2]) λj r h=>AZ<|Aa<|AO h λJ I h=>AP 1<|.X (aFS I)<|BF h (λh=>AZ<|ES<|by rw[←CM h];exact⟨[FC OH,AU 3],[],⟨⟨0,BD (EG OH),true,9,A8,A8,A8,OW,DZ A8,QU,A8⟩,FY A8,trivial⟩,A8,A8,A8⟩) λh=>AZ<|ES<|by rw[←CM h];exact⟨[FC ({ OH with Id:=j }),AU 0],[],⟨⟨0,BD (EG ({ OH with Id:=j })),true,9,A8,A8,A8,OW,DZ A8,QU,A8⟩,FY A8,trivial⟩,A8,A8,A8⟩
def aER (j:Ad):AB (Ad×Int):=(vZ j).bind λq=>(cond (q != 0) (some (EI,q)) (some (j,0)))
def aXl (j:Ad):AB (Ad×Int):=(Xg j).bind λq=>(cond (!q) ((dO j).bind λI=>aER I) (aER j))
def aqW :=Dk func116 rfl aXl Cm (λr=>.eu [Cm r.1,AU r.2]) λq r h=>AZ<|D9 (λ(j:Ad)=>(λj=>⟨Az 17 [(1,.ptr 0 0),(2,.ptr 1 0)],[.box (BD (Au j)),.box (BD (Au EI))],0⟩) j) (λj=>aER j) r (λj h=>Aa<|AO h λJ I h=>AP 1<|.X (aQn I)<|AZ<|BF h (λh=>AZ<|ES<|by rw[←CM h];exact⟨[Cm EI,AU J],[],⟨⟨1,BD (Au EI),true,29,A8,A8,A8,Fg,DZ A8,JU,A8⟩,FY A8,trivial⟩,A8,A8,A8⟩) λh=>AZ<|ES<|by rw[←CM h];exact⟨[Cm j,AU 0],[],⟨⟨1,BD (Au j),true,29,A8,A8,A8,Fg,DZ A8,JU,A8⟩,FY A8,trivial⟩,A8,A8,A8⟩)<|λK4=>AO h λJ I h=>AP 1<|.X (nS I)<|BF h (λh=>AO h λJ I h=>CQ<|.a 1<|.ca (a2w I)<|.aN<|K4 J (Ag [AQ 0,AQ 1]) h) λh=>K4 q (Ag [AQ 0,AQ 1]) h
def UR (j:Bv)(q:Int)(k3:(Int->DN->AB (DN×Ac))):Int->DN->AB (DN×Ac):=λI v2=>(cond (I<(j.Rows.length:Int)) ((Aq j.Rows I).bind λJ=>(cond (J.Id==q) (some (J,true)) (k3 (Ar (I+1)) v2))) (some (LK,false)))
def aRF (q:Bv)(j:Int):Int->DN->AB (DN×Ac):=aS (UR q j) Aw
def kC (q:Bv)(j:Int):AB (DN×Ac):=aRF q j 0 LK
def a5X :=Dc func27 rfl kC FC AU (λr=>.eu [Rw r.1,Ai r.2]) λj q r h=>AZ<|Aa<|AP 2<|.Z (BK D5 j.Rows)<|Ak<|DJ (λI J=>⟨Az 22 [(1,AU q),(4,.ptr 0 0),(9,J8 j.Rows),(10,AU (j.Rows.length:Int)),(11,AU I)],[.box (BD (D5 J))],0⟩) _ _ _ _ (Ag [AQ 1]) h<|λI J M O U h=>AZ<|Aa<|Bg h (λh=>Aa<|Ak<|AO h λI J h=>BL<|.Z (BG D5 J)<|AZ<|BF h (λh=>AZ<|ES<|by rw[←CM h];exact⟨[Rw I,Ai true],[],⟨⟨0,BD (D5 I),true,4,A8,A8,A8,Oe,DZ A8,JU,A8⟩,FY A8,trivial⟩,A8,A8,A8⟩) λh=>Oc) λh=>CW<|AZ<|ES<|by rw[←CM h];exact⟨[Rw LK,Ai false],[],⟨⟨0,BD (D5 LK),true,4,A8,A8,A8,Oe,DZ A8,JU,A8⟩,FY A8,trivial⟩,A8,A8,A8⟩
def aGi (v2:AV)(j:(Int×Ac)):AB AV:=(CZ 8 v2 [j.1]).bind λq=>some q
def aBe (v2:AV):AB AV:=(O8 v2).bind λj=>some j
def aFz (j:(AA (Int×Ac))):AB AV:=(J4 8 0 0 (j.length:Int)).bind λq=>(List.foldlM aGi q j).bind aBe
def aiW {VD r}(h:aFz VD=some r):Dh 241 [.mp 0] [.map (List.map (CY D8 EH) VD)] (.aQ 1) [.dead,(CO r)]:=by
 refine Dy func241 rfl ?_;unfold aFz at h;refine BL<|.f (C9 3 1)<|.aT ?_;obtain⟨x1,M,h⟩:=Du h;refine AP 1<|.p (x:=(AU (VD.length:Int))) (aW9 (k:=0) (es0:=List.map (CY D8 EH) VD) (DK ..) Tn A8)<|.Y (Ub Ah 0 M DL zero3 A8 A8 A8 Ba)<|Aa<|AP 1<|.f (x:=.ptr 3 0) (aNJ (k:=0) (m:=List.map (CY D8 EH) VD) Tn A8)<|.aT<|Ak<|Bl.aDm (λj v2=>⟨Az 21 [(3,.aQ 1),(9,.ptr 2 0)],[.dead,(CO v2),.iter (List.map (CY D8 EH) VD) j],1⟩) VD aGi aBe r x1 (Ag [(0,false),AQ 2,AQ 3]) ?_ ?_
 ·intro vis O U;exact aXq (c:=λ_=>true) (aQi _ vis O U) (λx y Y=>by unfold aBe;rw[aWu Y]) h
 clear h;intro J j v2 I q;refine BL<|?_;refine Dp.next (ty:=false) (ek:=D8) (ev:=EH) 2 VD j A8 rfl A8 A8 ?_ ?_
 ·intro hc;have h:=I hc;unfold aBe at h;refine .aW<|Aa<|NJ A8<|CW ?_;obtain⟨x6,Z,h⟩:=Du h;refine AP 1<|.f (x:=.eu []) (E5 [.ent 1] [.aQ 1] (jJ v2 x6 Z))<|.aT<|BL<|.aM 2 ?_;rw[←CM h];exact .ret (Ew [(0,false),AQ 1])
 intro i5 L hp hi;obtain⟨r,h,hJ⟩:=q i5 L hp hi;unfold aGi at h;refine .aW<|Aa<|QG A8<|FM<|Ak<|BL<|.p (x:=.eu [AU L.1,Ai L.2]) (aNx (n:=2) (i:=i5) (ek:=D8) (ev:=EH) (m:=VD) (vis:=j) hp A8)<|.aM 2 ?_;obtain⟨x7,hx7,h⟩:=Du h;refine CQ<|.a 2<|.p (Dj DL zero3 [Ah L.1])<|.f (DX (k:=1) Ah hx7 DL A8 (λ_=>rfl) Ba)<|.a 1<|.nil ?_;obtain rfl:=CM h;exact hJ _ (Ag [(0,false),AQ 3,AQ 2])
def acY (j:Aj)(M:(Int->(AA (Int×Ac))->AB AV)):Int->(AA (Int×Ac))->AB AV:=λq L=>(bif q<(j.length:Int) then(Aq j q).bind λI=>M (Ar (q+1)) (Yy L I.Id)else(aFz L).bind λJ=>some J)
def aqA (j:Aj):Int->(AA (Int×Ac))->AB AV:=aS (acY j) Aw
def aZp (j:AV)(q:Aj)(k3:(Int->(AA (Int×Ac))->AB AV)):Int->(AA (Int×Ac))->AB AV:=λI v2=>(cond (I<(j.length:Int)) ((Aq j I).bind λJ=>k3 (Ar (I+1)) (FU v2 J true)) (aqA q 0 v2))
def aow (j:AV)(q:Aj):Int->(AA (Int×Ac))->AB AV:=aS (aZp j q) Aw
def aIT (q:Aj)(j:AV):AB AV:=aow j q 0 []
def aTP :=FZ func170 rfl aIT BI BZ CO λq j r h=>BL<|.f (C9 3 1)<|.aT<|AP 1<|.p (BK Ah j)<|.Y (x:=.mp 1) (aRy (kd:=.i64) (n:=(j.length:Int)) Tn)<|Aa<|AP 1<|.Z (BK Ah j)<|Ak<|DJ (λJ I=>⟨Az 34 [(0,BI q),(5,.mp 0),(13,BZ j),(14,AU (j.length:Int)),(15,AU J)],[.map (List.map (CY D8 EH) I)],0⟩) _ _ _ _ (Ag [AQ 1]) h<|λJ I L O M h=>AZ<|Aa<|Bg h (λh=>Aa<|Ak<|AO h λJ I h=>BL<|.Z (BG Ah I)<|CQ<|.a 2<|.f (lT (k:=0) (key:=J) (val:=true) (m:=M) EH Tn IY A8)<|.nil<|WT) λh=>CW<|Aa<|AP 1<|.Z (BK Au q)<|Ak<|DJ (λJ I=>⟨Az 34 [(5,.mp 0),(22,BI q),(23,AU (q.length:Int)),(24,AU J)],[.map (List.map (CY D8 EH) I)],0⟩) _ _ _ _ (Ag [AQ 0]) h<|λJ I L O M h=>AZ<|Aa<|Bg h (λh=>Aa<|Ak<|AO h λJ I h=>BL<|.Z (BG Au I)<|CQ<|.a 3<|.f (agZ (k:=0) (key:=J.Id) (m:=M) EH Tn IY A8)<|.nil<|WT) λh=>CW<|AO h λJ I h=>AP 1<|.Y (x:=.aQ 1) (E5 [.ent 0] [.mp 0] (aiW I))<|JQ
def aF4 (j:Aj)(q:Ad):AB Ac:=(aIT j q.bP).bind λI=>(cond ((I.length:Int)==0) ((aIT j q.bQ).bind λJ=>some ((J.length:Int)==0)) (some false)).bind λL=>some L
def aOQ :=Dc func117 rfl aF4 BI Cm Ai λI J r h=>AZ<|AO h λj q h=>AP 3<|.ca (aTP q).view<|.p (BK Ah j)<|.a 1<|AO h λj q h=>.mg 11 7 (Ai j) (.bi q (λh=>AO h λj q h=>.a 3<|.ca (aTP q).view<|.Z (BK Ah j)<|CU))<|.aW<|CV
def a2e (I:(AA (Int×BX)))(J:(AA (Int×BX)))(j:(AA (Int×Int)))(q:Int):AB Int:=(cond (((DT j q).getD 0) != 0) (some 2) (some 4))
def aQx {lY kL jO kZ r}(h:a2e lY kL jO kZ=some r):Dh 148 [.ptr 0 0,AU kZ] [.box [.mp 1,.mp 2,.mp 3],.fK (List.map (CY D8 (BR BQ)) lY),.fK (List.map (CY D8 (BR BQ)) kL),.fK (List.map (CY D8 Ah) jO)] (AU r) [.box [.mp 1,.mp 2,.mp 3],.fK (List.map (CY D8 (BR BQ)) lY),.fK (List.map (CY D8 (BR BQ)) kL),.fK (List.map (CY D8 Ah) jO)]:=Dy func148 rfl<|AZ<|Aa<|AP 5<|.Z (x:=(AU ((DT jO kZ).getD 0))) (eF (k:=3) (key:=kZ) (m:=jO) Ah 0 a1A IY nC A8 A8 A8)<|BF h (λh=>AZ<|Zu) λh=>AZ<|Zu
def aec (j:Aj)(Z:(AV->Int->(AA (Int×BX))->(AA (Int×BX))->(AA (Int×Int))->AB AV)):AV->Int->(AA (Int×BX))->(AA (Int×BX))->(AA (Int×Int))->AB AV:=λM q O U Y=>(cond (q<(j.length:Int)) ((Aq j q).bind λI=>(a2e O U Y I.Id).bind λJ=>(CZ 8 M [J]).bind λL=>Z L (Ar (q+1)) O U Y) (some M))
def adk (j:Aj):AV->Int->(AA (Int×BX))->(AA (Int×BX))->(AA (Int×Int))->AB AV:=DW (aec j) Aw
def aLn (j:Aj):AB AV:=(bY j).bind λI=>Xl I (some []) λq=>adk j [] 0 q.1 q.2.1 q.2.2
def aYg :=JM func245 rfl aLn BI (λr=>.arr 64 1 (List.map Ah r)) λj r h=>BL<|.f (C9 64 1)<|.aT<|AO h λU q h=>by cases U with |none=>exact(have h:=a1U h;AP 1<|.X (XB q)<|Aa<|AP 1<|.p (x:=(Ai true)) (a2T A8)<|.aT<|QG A8<|BL<|.f (C9 64 1)<|.aT<|JQ)|some Z=>exact(have h:=wP h;AP 1<|.Y (x:=.ptr 1 0) (E5 [] [BI j] (XB q))<|Aa<|AP 1<|.p (x:=(Ai false)) (a7A (k:=1) (off:=0) A8)<|.aT<|NJ A8<|FM<|BL<|.f (C9 64 1)<|.aT<|Aa<|AP 1<|.Z (BK Au j)<|Ak<|a4x (λq J M I L=>⟨Az 27 [(0,BI j),(3,.ptr 0 0),(4,.aQ 4),(11,AU (j.length:Int)),(12,AU J)],[.box [.mp 1,.mp 2,.mp 3],.fK (List.map (CY D8 (BR BQ)) M),.fK (List.map (CY D8 (BR BQ)) I),.fK (List.map (CY D8 Ah) L),.arr 64 1 (List.map Ah q)],0⟩) _ _ _ _ _ _ _ (Ag [AQ 1,AQ 2,AQ 3,AQ 4,AQ 5]) h<|λq J M I L x7 x8 x9 h=>AZ<|Aa<|Bg h (λh=>Aa<|Ak<|AZ<|Hr h λq J I L Y O h=>CQ<|.a 4<|.p (BG Au J)<|.a 2<|.f (x:=(AU I)) (E5 [.ent 0,.ent 1,.ent 2,.ent 3] [.ptr 0 0,AU q.Id] (aQx L) (hE:=Y6))<|.p (Dj aQv zero64 [Ah I])<|.f (DX (k:=4) Ah O aQv A8 (λ_=>rfl) Ba)<|.aN<|Cc<|M _ _ _ _ _ _ (Ag [AQ 0,AQ 1,AQ 2,AQ 3,AQ 5]) h) λh=>CW<|AZ<|a1E)
def aHL (j:(Int->Int->AB Int))(q:Int)(I:Int):AB Int:=j I (Ar (q+1))
def aYx (j:Aj)(L:AV)(M:(Int->Int->AB Int)):Int->Int->AB Int:=λv2 q=>(cond (q<(j.length:Int)) ((Aq j q).bind λO=>(cond (O.Kind==1) (some (decide (q<(L.length:Int)))) (some false)).bind λU=>(cond U ((Aq L q).bind λI=>some (I==4)) (some false)).bind λJ=>(cond J (aHL M q (Ar (v2+1))) (aHL M q v2))) (some v2))
def aaw (j:Aj)(q:AV):Int->Int->AB Int:=aS (aYx j q) Aw
def aJr (j:Aj):AB Int:=(aLn j).bind λq=>aaw j q 0 0
def aXr :=Dk func172 rfl aJr BI AU λj r h=>AZ<|AZ<|AO h λI q h=>AP 1<|.X (aYg q).view<|Aa<|AP 1<|.Z (BK Au j)<|Ak<|DJ (λq J=>⟨Az 36 [(3,AU q),(4,BZ I),(9,BI j),(10,AU (j.length:Int)),(11,AU J)],[],0⟩) _ _ _ _ (Ag []) h<|λq J M O U h=>AZ<|Aa<|Bg h (λh=>D9 (λ(L:Int)=>(λI j q L=>⟨Az 36 [(3,AU L),(4,BZ I),(9,BI j),(10,AU (j.length:Int)),(11,AU q)],[],0⟩) I j U L) (λL=>aHL J U L) r (λL h=>a8K)<|λq=>Ak<|AO h λJ M h=>AP 1<|.Z (BG Au M)<|AP 3<|AO h λJ M h=>.mg 19 5 (Ai J) (.bi M (λh=>.a 2<|.Z (BK Ah I)<|CU))<|.a 1<|AO h λI J h=>.mg 26 5 (Ai I) (Cb J (λe i=>by subst e;have h:=i;exact AO h λI q h=>.a 2<|.Z (BG Ah q)<|CU))<|.aT<|BF h (λh=>Cc<|q (Ar (O+1)) (Ag []) h) λh=>q O (Ag []) h) λh=>Ei
def a0p (I:(AA (Int×BX)))(J:(AA (Int×BX)))(j:(AA (Int×Int)))(q:Int):AB Ac:=some ((DT j q).isSome)
def aSU {lY kL jO kZ r}(h:a0p lY kL jO kZ=some r):Dh 147 [.ptr 0 0,AU kZ] [.box [.mp 1,.mp 2,.mp 3],.fK (List.map (CY D8 (BR BQ)) lY),.fK (List.map (CY D8 (BR BQ)) kL),.fK (List.map (CY D8 Ah) jO)] (Ai r) [.box [.mp 1,.mp 2,.mp 3],.fK (List.map (CY D8 (BR BQ)) lY),.fK (List.map (CY D8 (BR BQ)) kL),.fK (List.map (CY D8 Ah) jO)]:=Dy func147 rfl<|AZ<|Aa<|AP 1<|.p (x:=(Ai false)) (a7A (k:=0) (off:=0) A8)<|.aT<|NJ A8<|FM<|AP 5<|.Z (x:=.eu [AU ((DT jO kZ).getD 0),Ai ((DT jO kZ).isSome)]) (aaC (k:=3) (key:=kZ) (m:=jO) Ah 0 a1A IY nC A8 A8 A8)<|AZ<|Zu
def aGa (j:Int):AB Ac:=some false
def aWh {kZ r}(h:aGa kZ=some r):Dh 147 [.d (.lit (.pointer none)),AU kZ] [] (Ai r) []:=Dy func147 rfl<|AZ<|Aa<|AP 1<|.p (x:=(Ai true)) (a2T A8)<|.aT<|QG A8<|AZ<|CV
def Vz (I:Aj)(j:Int):AB (BX×Int):=(bY I).bind λJ=>Xl J ((aGa j).bind λL=>(cond (!L) (some ([],0)) none)) λq=>(a0p q.1 q.2.1 q.2.2 j).bind λM=>(cond (!M) (some ([],0)) ((a2e q.1 q.2.1 q.2.2 j).bind λO=>some ((DT q.1 j).getD [],O)))
def a7H {eU kZ r}(h:Vz eU kZ=some r):Dh 91 [BI eU,AU kZ] [] (.eu [DU r.1,AU r.2]) []:=by
 refine Dy func91 rfl ?_;unfold Vz at h;refine BL<|.aM 2 ?_;obtain⟨Y,q,h⟩:=Du h;cases Y with
 |none=>
  replace h:=a1U h;refine AP 1<|.X (XB q)<|Aa ?_;obtain⟨Z,I,h⟩:=Du h;refine AP 2<|.Y (x:=(Ai Z)) (E5 [] [.d (.lit (.pointer none)),AU kZ] (aWh I))<|Di h (λh=>?_) λh=>?_
  ·refine BL<|.aM 2 ?_;rw[←CM h];exact .ret (Ew [])
  refine FM ?_;cases h
 |some j=>
  replace h:=wP h;refine AP 1<|.Y (x:=.ptr 0 0) (E5 [] [BI eU] (XB q))<|Aa ?_;obtain⟨x5,J,h⟩:=Du h;refine AP 2<|.Y (x:=(Ai x5)) (E5 [.ent 0,.ent 1,.ent 2,.ent 3] [.ptr 0 0,AU kZ] (aSU J) (hE:=Y6))<|Di h (λh=>?_) λh=>?_
  ·refine BL<|.aM 2 ?_;rw[←CM h];exact .ret (Ew [])
  refine FM ?_;obtain⟨U,L,h⟩:=Du h;refine Uz [a1V (x:=(DU ((DT j.1 kZ).getD []))) 5 (Go.Op.lookup 187 (Go.Operand.tmp 16) (Go.Operand.tmp 17) false) 1 (.fK (List.map (CY D8 (BR BQ)) j.1)) (λo es M O=>eF (k:=1) (key:=kZ) (m:=j.1) (BR BQ) [] ig IY zero26 aJM aJM aJM O),Wx (x:=(AU U)) 8 (Go.Op.call { callee:=(Go.Callee.value (Go.Operand.func 148)),args:= #[(Go.Operand.tmp 19),(Go.Operand.tmp 20)],argTypes:= #[168,3] }) [.box [.mp 1,.mp 2,.mp 3],.fK (List.map (CY D8 (BR BQ)) j.1),.fK (List.map (CY D8 (BR BQ)) j.2.1),.fK (List.map (CY D8 Ah) j.2.2)] [.box [.mp 1,.mp 2,.mp 3],.fK (List.map (CY D8 (BR BQ)) j.1),.fK (List.map (CY D8 (BR BQ)) j.2.1),.fK (List.map (CY D8 Ah) j.2.2)] (λo O=>aNv [.ent 0,.ent 1,.ent 2,.ent 3] (eY:=[.ptr 0 0,AU kZ]) (fF:=[.ptr 0 0,AU kZ]) (res':=(AU U)) (aQx L) aom A8 (Nj A8<|Nj A8<|Nj A8<|Nj A8<|trivial) ⟨⟨0,rfl,rfl⟩,.inl rfl,trivial⟩ rfl A8 O)] 56 ?_;rw[←CM h];exact .ret (Ew [])
abbrev Eb:=AA DN
def aIX (j:Eb):AB Eb:=(CZ 32 [] j).bind λq=>some q
def ajG {uO r}(h:aIX uO=some r):Dh 173 [J8 uO] [] (.aQ 0) [(ND r)]:=by
 refine Dy func173 rfl ?_;unfold aIX at h;refine BL<|.f (C9 66 4)<|.aT<|Aa<|pJ (x:=.tmp 3) (t':=23) (d:=4) (es:=List.map D5 uO) 1 rfl (.a 1<|.nil _) A8 A8 A8 QJ A8 ?_;intro b j;cases b
 ·clear j;refine NJ A8<|FM ?_;obtain⟨I,q,h⟩:=Du h;refine BL<|.f (Gn UL ZH [])<|.a 1<|.f (DX (k:=1) D5 q UL A8 (λ_=>rfl) Ba)<|.aM 1 ?_;rw[←CM h];exact .ret (Ew [AQ 2])
 replace j:=oH j;replace h:some []=some r:=rX
 refine QG A8<|BL<|.f (C9 66 4)<|.aT ?_;rw[←CM h];exact .ret (Ew [AQ 1])
def aU1 (j:Aj):AB AV:=(eP j).bind λq=>(aAd j q).bind λI=>some I
def anc :=JM func174 rfl aU1 BI CO λj r h=>BL<|.f (C9 3 1)<|.aT<|Bj h λq I L J h=>AP 2<|.ca (aDt I).view<|.Y (x:=.aQ 1) (JR [BI j,BZ q] (aHw J))<|JQ
def a9C (j:Bv)(I:(Aj×Int))(J:DN):AB (Bv×Int):=(aIX j.Rows).bind λL=>(CZ 32 L [J]).bind λq=>(aU1 I.1).bind λM=>(aJ6 I.1).bind λO=>some ({ { { { { j with Rows:=q }with Next:=Ar ((({ j with Rows:=q }).Next)+1) }with Events:=I.1 }with QT:=M }with State:=O },0)
def aGr (j:Bv)(q:Ad):AB (Bv×Int):=(cond ((j.Events.length:Int)>=2000) (some (j,29)) ((a1s j.Events q).bind λI=>(cond (I.2 != 0) (some (j,I.2)) ((a1t I.1).bind λU=>(cond (U != 0) (some (j,15)) ((aJr j.Events).bind λO=>(cond (O>0) ((aJr I.1).bind λY=>some (decide (Y>O))) (some false)).bind λZ=>(cond Z (some (j,17)) ((Vz I.1 q.Id).bind λJ=>(cond (J.2 != 4) (a9C j I ({ (⟨j.Next,q.Id,4,false⟩:DN)with Status:=2 })) ((Zj j.Events j.State).bind λL=>(Y7 q L).bind λM=>(cond (M != 0) (a9C j I ({ (⟨j.Next,q.Id,4,false⟩:DN)with Status:=3 })) (a9C j I (⟨j.Next,q.Id,4,false⟩:DN)))))))))))))
def aTW :=Dc func118 rfl aGr FC Cm (λr=>.eu [FC r.1,AU r.2]) λj L r h=>AZ<|Aa<|AP 2<|.Z (BK Au j.Events)<|BF h (λh=>AZ<|ES<|by rw[←CM h];exact⟨[FC j,AU 29],[],⟨⟨2,BD (EG j),true,9,A8,A8,A8,OW,DZ A8,sN,A8⟩,FY A8,trivial⟩,A8,A8,A8⟩) λh=>AO h λM I h=>AP 3<|.f (x:=.eu [.aQ 3,AU M.2]) (E5 [] [BI j.Events,Cm L] (a4F I))<|.a 2<|.conv _ (IW (e:=56) (s:=29) 3 (xs:=List.map Au M.1) A8)<|.aW<|Aa<|AZ<|BF h (λh=>AZ<|ES<|by rw[←CM h];exact⟨[FC j,AU M.2],[],⟨⟨2,BD (EG j),true,9,A8,A8,A8,OW,DZ A8,sN,A8⟩,FY A8,trivial⟩,A8,A8,A8⟩) λh=>Aa<|AO h λI J h=>AP 1<|.X (aRr J)<|BF h (λh=>AZ<|ES<|by rw[←CM h];exact⟨[FC j,AU 15],[],⟨⟨2,BD (EG j),true,9,A8,A8,A8,OW,DZ A8,sN,A8⟩,FY A8,trivial⟩,A8,A8,A8⟩) λh=>Aa<|AO h λI J h=>AP 2<|.X (aXr J)<|AP 2<|AO h λI J h=>.mg 37 5 (Ai I) (.bi J (λh=>AO h λI J h=>.a 1<|.X (aXr J)<|CU))<|.aT<|BF h (λh=>AZ<|ES<|by rw[←CM h];exact⟨[FC j,AU 17],[],⟨⟨2,BD (EG j),true,9,A8,A8,A8,OW,DZ A8,sN,A8⟩,FY A8,trivial⟩,A8,A8,A8⟩) λh=>AZ<|D9 (λ(q:DN)=>(λM j q=>⟨Az 88 [(2,.ptr 0 0),(4,.ptr 1 0),(6,BI M.1),(9,.ptr 2 0)],[.box (BD (EG j)),.box (BD (EG OH)),.box (BD (D5 q))],0⟩) M j q) (λq=>a9C j M q) r (λq h=>Bj h λI J O Z h=>Uz [Wx (x:=.aQ 3) 2 (Go.Op.call { callee:=(Go.Callee.value (Go.Operand.func 173)),args:= #[(Go.Operand.tmp 69)],argTypes:= #[23] }) [.box (BD (EG j)),.box (BD (EG OH)),.box (BD (D5 q))] [.box (BD (EG j)),.box (BD (EG OH)),.box (BD (D5 q)),(ND I)] (λM O=>aFp (eY:=[J8 j.Rows]) (fF:=[J8 j.Rows]) (ajG J) akI A8 ⟨.inl rfl,trivial⟩ rfl A8 O),Qg 4 (Go.Op.buildSlice 23 1 #[(0,(Go.Operand.tmp 71))]) (λM es I=>aBa UL ZH A8 A8 (DZ A8) [Rw q] [D5 q] A8 A8 A8 A8 I),Wx 5 (Go.Op.call { callee:=(Go.Callee.builtin Go.Builtin.append),args:= #[(Go.Operand.tmp 70),(Go.Operand.tmp 72)],argTypes:= #[23,23] }) [.box (BD (EG j)),.box (BD (EG OH)),.box (BD (D5 q)),(ND I)] [.box (BD (EG j)),.box (BD (EG OH)),.box (BD (D5 q)),.dead,.dead] (λM J=>CG.thaw (k:=4) (e:=66) (s:=4) (xs:=List.map D5 O) (es:=[.box (BD (EG j)),.box (BD (EG OH)),.box (BD (D5 q)),(ND I)]) (es':=[.box (BD (EG j)),.box (BD (EG OH)),.box (BD (D5 q)),.dead,(ND O)]) (DX (k:=3) D5 Z UL A8 (λ_=>rfl) Ba J) A8)] 14<|AZ<|Bj h λI J Z x6 h=>AP 2<|.ca (anc J).view<|.a 1<|.X (aNI x6)<|AZ<|ES<|by rw[←CM h];exact⟨[FC ({ { { { { j with Rows:=O }with Next:=Ar ((({ j with Rows:=O }).Next)+1) }with Events:=M.1 }with QT:=I }with State:=Z }),AU 0],[],⟨⟨1,BD (EG ({ { { { { j with Rows:=O }with Next:=Ar ((({ j with Rows:=O }).Next)+1) }with Events:=M.1 }with QT:=I }with State:=Z })),true,9,A8,A8,A8,OW,DZ A8,sN,A8⟩,FY A8,trivial⟩,A8,A8,A8⟩)<|λY=>AO h λI J h=>AP 3<|.X (a7H J)<|AZ<|Di h (λh=>Cc<|Y ({ (⟨j.Next,L.Id,4,false⟩:DN)with Status:=2 }) (Ag [AQ 0,AQ 2,AQ 4]) h) λh=>Bj h λM I J O h=>Ee A8 A8 A8 (.a 5<|.ca (a6W I).view<|.ca (pR O)<|.a 1<|.nil _)<|BF h (λh=>Cc<|Y ({ (⟨j.Next,L.Id,4,false⟩:DN)with Status:=3 }) (Ag [AQ 0,AQ 2,AQ 4]) h) λh=>Y (⟨j.Next,L.Id,4,false⟩:DN) (Ag [AQ 0,AQ 2,AQ 4]) h
def aS7 (j:Int):AB Aj:=aKM 376 j
def am1 {p1 r}(h:aS7 p1=some r):Dh 247 [.d (.lit (.slice none 0 0)),AU p1] [] (.aQ 0) [(Et r)]:=
 afu Au p1 r h
abbrev a1c:=AA (AA Ad)
def aPV (j:a1c)(q:(Aj->Int->AB Aj)):Aj->Int->AB Aj:=λM I=>(cond (I<(j.length:Int)) ((Aq j I).bind λJ=>(CZ 376 M J).bind λL=>q L (Ar (I+1))) (some M))
def afc (j:a1c):Aj->Int->AB Aj:=aS (aPV j) Aw
def aLi (j:a1c)(k3:(Int->Int->AB Aj)):Int->Int->AB Aj:=λq v2=>(bif v2<(j.length:Int) then(Aq j v2).bind λI=>(cond ((Ar (q+(I.length:Int)))<0) none (k3 (Ar (q+(I.length:Int))) (Ar (v2+1))))else(aS7 q).bind λJ=>afc j J 0)
def afG (j:a1c):Int->Int->AB Aj:=aS (aLi j) Aw
def aIi (j:a1c):AB Aj:=afG j 0 0
def alF {En r}(h:aIi En=some r):Dh 176 [.d ((BR (BR Au)) En)] [] (.aQ 0) [(Et r)]:=by
 refine Dy func176 rfl ?_;unfold aIi at h;refine BL<|.f (C9 56 29)<|.aT<|AZ<|Aa<|AP 1<|.Z (BK (BR Au) En)<|Ak ?_;refine DJ (λJ v2=>⟨Az 36 [(0,.d ((BR (BR Au)) En)),(3,AU J),(9,.d ((BR (BR Au)) En)),(10,AU (En.length:Int)),(11,AU v2)],[],0⟩) _ _ _ _ (Ag []) h ?_;clear h;intro Z k3 L J v2 h;unfold aLi at h;refine AZ<|Aa<|Di h (λh=>?_) λh=>?_
 ·refine FM<|Aa<|Ak ?_;obtain⟨x5,M,h⟩:=Du h;refine BL<|.Z (BG (BR Au) M)<|AP 2<|.Z (BK Au x5)<|AZ<|Di h (λh=>?_) λh=>?_
  ·cases h
  refine FM<|CQ<|.a 2<|.nil ?_;exact L _ _ _ (Ag []) h
 refine CW ?_;obtain⟨x7,O,h⟩:=Du h;refine AP 1<|.Y (x:=.aQ 0) (JR [.d (.lit (.slice none 0 0)),AU J] (am1 O))<|Aa<|AP 1<|.Z (BK (BR Au) En)<|Ak ?_;refine DJ (λU Y=>⟨Az 36 [(6,.aQ 0),(25,.d ((BR (BR Au)) En)),(26,AU (En.length:Int)),(27,AU Y)],[(Et U)],0⟩) _ _ _ _ (Ag [AQ 0]) h ?_;clear h;intro J14 k10 j U Y h;unfold aPV at h;refine AZ<|Aa<|Di h (λh=>?_) λh=>?_
 ·refine FM<|Aa<|Ak ?_;obtain⟨x12,q,h⟩:=Du h;refine BL<|.p (BG (BR Au) q)<|.aM 2 ?_;obtain⟨x13,I,h⟩:=Du h;refine CQ<|.a 2<|.f (DX (k:=0) Au I Gl A8 (λ_=>rfl) Ba)<|.aN<|CQ<|.a 2<|.nil ?_;exact j _ _ _ (Ag [AQ 1]) h
 refine CW<|BL<|.aM 2 ?_;rw[←CM h];exact .ret (Ew [AQ 0])
def a9B (j:(Int->Int->AB Bv))(q:Int)(I:Int):AB Bv:=j I (Ar (q+1))
def zh (I:(Int->Int->AB Bv))(j:Int)(J:Int)(q:Ac):AB Bv:=(cond q (a9B I j j) (a9B I j J))
def aaV (q:Bv)(k3:(Bv->Bv->AB Bv))(v2:Bv)(L:(Int->Int->AB Bv)):Int->Int->AB Bv:=λj J=>(cond (J<(q.Waiting.length:Int)) ((Aq q.Waiting J).bind λI=>(aF4 q.Events I).bind λM=>(cond (!M) (a9B L J j) (cond (j<0) (zh L J j true) ((Aq q.Waiting j).bind λO=>(cond (I.Depth<O.Depth) (zh L J j true) ((Aq q.Waiting j).bind λU=>(cond (I.Depth==U.Depth) ((Aq q.Waiting j).bind λY=>zh L J j (decide (I.Id<Y.Id))) (zh L J j false)))))))) (cond (j<0) (some q) ((Aq q.Waiting j).bind λZ=>(Gx q.Waiting 0 j).bind λx24=>(Gx q.Waiting (Ar (j+1)) ((q.Waiting).length)).bind λx25=>(aIi [x24,x25]).bind λD6=>(aGr ({ q with Waiting:=D6 }) Z).bind λx27=>k3 x27.1 v2)))
def aYs (j:Bv)(k3:(Bv->Bv->AB Bv))(v2:Bv):Int->Int->AB Bv:=aS (aaV j k3 v2) Aw
def afK (k3:(Bv->Bv->AB Bv)):Bv->Bv->AB Bv:=λj v2=>aYs j k3 v2 (-1) 0
def ajh  :Bv->Bv->AB Bv:=aS (afK) Aw
def aRt (j:Bv):AB Bv:=ajh j OH
def adF :=Dk func119 rfl aRt FC FC λlC r h=>AZ<|Ak<|DJ (λq j=>⟨Az 83 [(1,.ptr 0 0),(2,.ptr 1 0)],[.box (BD (EG q)),.box (BD (EG j))],0⟩) _ _ _ _ (Ag [AQ 0,AQ 1]) h<|λq j J I M h=>Ak<|AZ<|Aa<|AP 2<|.Z (BK Au I.Waiting)<|Ak<|DJ (λq j=>⟨Az 83 [(1,.ptr 0 0),(2,.ptr 1 0),(3,AU q),(8,BI I.Waiting),(9,AU (I.Waiting.length:Int)),(10,AU j)],[.box (BD (EG I)),.box (BD (EG M))],0⟩) _ _ _ _ (Ag [AQ 0,AQ 1]) h<|λq j O Y U h=>AZ<|Aa<|Bg h (λh=>D9 (λ(Z:Int)=>(λq j J Z=>⟨Az 83 [(1,.ptr 0 0),(2,.ptr 1 0),(3,AU Z),(8,BI q.Waiting),(9,AU (q.Waiting.length:Int)),(10,AU j)],[.box (BD (EG q)),.box (BD (EG J))],0⟩) I U M Z) (λZ=>a9B j U Z) r (λZ h=>rW)<|λq=>Ak<|AO h λJ O h=>AP 1<|.Z (BG Au O)<|Aa<|AO h λO x9 h=>AP 3<|.X (aOQ x9)<|BF h (λh=>CW<|q Y (Ag [AQ 0,AQ 1]) h) λh=>D9 (λ(L:Ac)=>(λq j J I L=>⟨Az 83 [(1,.ptr 0 0),(2,.ptr 1 0),(3,AU q),(4,AU j),(8,BI J.Waiting),(9,AU (J.Waiting.length:Int)),(10,AU j),(54,Ai L)],[.box (BD (EG J)),.box (BD (EG I))],0⟩) Y U I M L) (λL=>zh j U Y L) r (λL h=>BF h (λh=>Cc<|q U (Ag [AQ 0,AQ 1]) h) λh=>q Y (Ag [AQ 0,AQ 1]) h)<|λq=>Ed h (λj h=>DR A8 A8 A8 (.a 2<|.c (BM some j)<|.a 32<|.nil _)<|q true (Ag [AQ 0,AQ 1]) h) λj h=>AO h λI M h=>Ed h (λJ h=>DR A8 A8 A8 (.a 2<|.c (BM some j)<|.a 5<|.p (BG Au M)<|.a 4<|.c (BM some J)<|.a 21<|.nil _)<|q true (Ag [AQ 0,AQ 1]) h) λI h=>AO h λO Y h=>Ed h (λO h=>AO h λU x9 h=>DR A8 A8 A8 (.a 2<|.c (BM some j)<|.a 5<|.p (BG Au M)<|.a 4<|.c (BM some I)<|.a 5<|.p (BG Au Y)<|.a 3<|.c (BM some O)<|.a 5<|.p (BG Au x9)<|.a 5<|.nil _)<|q (decide (J.Id<U.Id)) (Ag [AQ 0,AQ 1]) h) λJ h=>DR A8 A8 A8 (.a 2<|.c (BM some j)<|.a 5<|.p (BG Au M)<|.a 4<|.c (BM some I)<|.a 5<|.p (BG Au Y)<|.a 3<|.c (BM some J)<|.a 11<|.nil _)<|q false (Ag [AQ 0,AQ 1]) h) λh=>CW<|Aa<|AZ<|BF h (λh=>AZ<|ES<|by rw[←CM h];exact⟨[FC I],[],⟨⟨1,BD (EG I),true,9,A8,A8,A8,OW,DZ A8,O5,A8⟩,trivial⟩,A8,A8,A8⟩) λh=>AO h λq j h=>AP 3<|.Z (BG Au j)<|Hr h λj I M O Y U h=>Ee A8 A8 A8 (.a 3<|.p (Ou Au I (λ_=>rfl) O5 Kv Fg (λ_=>rfl) rfl)<|.a 4<|.p (Ou Au O O5 (λ_=>rfl) Kv Fg (λ_=>rfl) rfl)<|.p (Dj ace zero22 [(BR Au) j,(BR Au) M])<|.ca (alF U).view<|.a 2<|.nil _)<|AO h λj I h=>CQ<|.a 2<|.ca (aTW I)<|.aN<|J _ _ _ (Ag [AQ 0,AQ 1]) h
end
section
set_option maxRecDepth 20000
set_option maxHeartbeats 4000000
def aK1 (j:(DN×Ac))(q:Bv):AB (Bv×Int×Int):=some (q,j.1.Status,0)
def aCo (j:Bv):AB (Bv×Int×Int):=some (j,1,0)
def aUb (j:Bv)(J:Ad):AB (Bv×Int×Int):=(aXl J).bind λq=>(cond (q.2 != 0) (some (j,0,q.2)) (cond (!(q.1.Room.toList==j.Id.toList)) (some (j,0,13)) ((JO j.Events q.1.Id).bind λx4=>(cond x4.2 ((kC j q.1.Id).bind λx6=>(a1s j.Events q.1).bind λx9=>(cond (x9.2==0) (aK1 x6 ({ j with Events:=x9.1 })) (aK1 x6 j))) ((JO j.Waiting q.1.Id).bind λL=>(cond (!L.2) ((aF4 j.Events q.1).bind λU=>some U) (some false)).bind λY=>(cond Y ((aGr j q.1).bind λI=>(cond (I.2 != 0) (some (j,0,I.2)) ((aRt I.1).bind λM=>(kC M q.1.Id).bind λZ=>some (M,Z.1.Status,0)))) ((cond (!L.2) (some (decide ((j.Waiting.length:Int)>=200))) (some false)).bind λO6=>(cond O6 (some (j,0,29)) ((a1s j.Waiting q.1).bind λO=>(cond (O.2==0) (aCo ({ j with Waiting:=O.1 })) (aCo j)))))))))))
def aa6 :=Dc func69 rfl aUb FC Cm (λr=>.eu [FC r.1,AU r.2.1,AU r.2.2]) λj Z r h=>AZ<|AO h λO q h=>AP 1<|.X (aqW q)<|Aa<|AZ<|BF h (λh=>AZ<|ES<|by rw[←CM h];exact⟨[FC j,AU 0,AU O.2],[],⟨⟨2,BD (EG j),true,9,A8,A8,A8,OW,DZ A8,JU,A8⟩,FY A8,FY A8,trivial⟩,A8,A8,A8⟩) λh=>Aa<|AZ<|BF h (λh=>AZ<|ES<|by rw[←CM h];exact⟨[FC j,AU 0,AU 13],[],⟨⟨2,BD (EG j),true,9,A8,A8,A8,OW,DZ A8,JU,A8⟩,FY A8,FY A8,trivial⟩,A8,A8,A8⟩) λh=>Aa<|AO h λq I h=>AP 4<|.X (KU I)<|AZ<|BF h (λh=>AO h λq I h=>AP 3<|.X (a5X I)<|D9 (λ(M:Bv)=>(λO M=>⟨Az 129 [(2,.ptr 0 0),(4,.ptr 1 0),(11,.ptr 2 0)],[.box (BD (EG M)),.box (BD (EG OH)),.box (BD (D5 O.1))],0⟩) q M) (λM=>aK1 q M) r (λM h=>a8Q [1,2] (.a 6<|.nil _)<|ES<|by rw[←CM h];exact⟨[FC M,AU q.1.Status,AU 0],[],⟨⟨1,BD (EG M),true,9,A8,A8,A8,OW,DZ A8,JU,A8⟩,FY A8,FY A8,trivial⟩,A8,A8,A8⟩)<|λK8=>AO h λq I h=>AP 3<|.f (x:=.eu [.aQ 6,AU q.2]) (E5 [] [BI j.Events,Cm O.1] (a4F I))<|.a 2<|.conv _ (IW (e:=56) (s:=29) 6 (xs:=List.map Au q.1) A8)<|.aW<|AZ<|BF h (λh=>Cc<|K8 ({ j with Events:=q.1 }) (Ag [AQ 0,AQ 2,AQ 5]) h) λh=>K8 j (Ag [AQ 0,AQ 2,AQ 5]) h) λh=>AO h λq I h=>AP 4<|.X (KU I)<|Aa<|Ak<|AP 2<|AO h λq I h=>.mg 79 5 (Ai q) (.bi I (λh=>AO h λq I h=>.a 3<|.X (aOQ I)<|CU))<|.aW<|Di h (λh=>AO h λq I h=>AP 2<|.X (aTW I)<|Aa<|AZ<|BF h (λh=>AZ<|ES<|by rw[←CM h];exact⟨[FC j,AU 0,AU q.2],[],⟨⟨2,BD (EG j),true,9,A8,A8,A8,OW,DZ A8,JU,A8⟩,FY A8,FY A8,trivial⟩,A8,A8,A8⟩) λh=>AO h λI Y h=>AP 1<|.X (adF Y)<|AO h λq Y h=>AP 3<|.X (a5X Y)<|a8Q [1,2] (.a 6<|.nil _)<|ES<|by rw[←CM h];exact⟨[FC I,AU q.1.Status,AU 0],[],⟨⟨2,BD (EG I),true,9,A8,A8,A8,OW,DZ A8,JU,A8⟩,FY A8,FY A8,trivial⟩,A8,A8,A8⟩) λh=>AP 2<|AO h λq I h=>.mg 110 5 (Ai q) (.bi I (λh=>.a 2<|.Z (BK Au j.Waiting)<|CU))<|.aW<|BF h (λh=>AZ<|ES<|by rw[←CM h];exact⟨[FC j,AU 0,AU 29],[],⟨⟨2,BD (EG j),true,9,A8,A8,A8,OW,DZ A8,JU,A8⟩,FY A8,FY A8,trivial⟩,A8,A8,A8⟩) λh=>D9 (λ(J:Bv)=>(λJ=>⟨Az 129 [(2,.ptr 0 0),(4,.ptr 1 0)],[.box (BD (EG J)),.box (BD (EG OH))],0⟩) J) (λJ=>aCo J) r (λJ h=>AZ<|ES<|by rw[←CM h];exact⟨[FC J,AU 1,AU 0],[],⟨⟨1,BD (EG J),true,9,A8,A8,A8,OW,DZ A8,JU,A8⟩,FY A8,FY A8,trivial⟩,A8,A8,A8⟩)<|λU=>AO h λq I h=>AP 3<|.f (x:=.eu [.aQ 6,AU q.2]) (E5 [] [BI j.Waiting,Cm O.1] (a4F I))<|.a 2<|.conv _ (IW (e:=56) (s:=29) 6 (xs:=List.map Au q.1) A8)<|.aW<|AZ<|BF h (λh=>Cc<|U ({ j with Waiting:=q.1 }) (Ag [AQ 0,AQ 2]) h) λh=>U j (Ag [AQ 0,AQ 2]) h
def apl (I:AV)(L:(Aj×Int))(M:(Int->Bv->AB Bv)):Int->Bv->AB Bv:=λj J=>(cond (j<(I.length:Int)) ((Aq I j).bind λO=>(JO L.1 O).bind λU=>(aUb J U.1).bind λq=>M (Ar (j+1)) q.1) (some J))
def ao7 (j:AV)(q:(Aj×Int)):Int->Bv->AB Bv:=aS (apl j q) Aw
def aMX  :AB Bv:=(aNK aHr sD 1 1 0).bind λj=>(aMC aHr).bind λq=>(a1e j.1).bind λI=>ao7 I j 0 q.1
def ai6 (r:Bv)(h:aMX=some r):Dh 32 [] [] (FC r) []:=Dy func32 rfl<|AZ<|AO h λI j h=>BL<|.f (x:=.eu [.aQ 1,AU I.2]) (E5 [] [CP aHr,CP sD,AU 1,AU 1,AU 0] (aad j))<|.a 2<|.conv _ (IW (e:=56) (s:=29) 1 (xs:=List.map Au I.1) A8)<|.aW<|AO h λj q h=>BL<|.X (ai2 q)<|AO h λj q h=>AP 1<|.X (aTx q).view<|Aa<|AZ<|Ak<|DJ (λq J=>⟨Az 42 [(0,.ptr 0 0),(1,BI I.1),(3,.ptr 1 0),(5,BZ j),(6,AU q)],[.box (BD (EG OH)),.box (BD (EG J))],0⟩) _ _ _ _ (Ag [AQ 0,AQ 2]) h<|λq J O L M h=>Aa<|AP 2<|.Z (BK Ah j)<|Bg h (λh=>Aa<|Ak<|Bj h λj q J L h=>AP 3<|.p (BG Ah q)<|.a 1<|.X (KU L)<|AO h λI j h=>CQ<|.a 2<|.ca (aa6 j)<|.aN<|rW) λh=>CW<|AZ<|ES<|by rw[←CM h];exact⟨[FC M],[],⟨⟨0,BD (EG M),true,9,A8,A8,A8,OW,DZ A8,sN,A8⟩,trivial⟩,A8,A8,A8⟩
def aQD (j:Int)(q:Int)(k2:(Int->AB Int)):Int->AB Int:=λI=>(cond (I<([1,0,2].length:Int)) ((Aq [1,0,2] I).bind λJ=>(cond (j==J) (some true) (some (q==J))).bind λL=>(cond L (some J) (k2 (Ar (I+1))))) (some j))
def aS0 (j:Int)(q:Int):Int->AB Int:=bg (aQD j q) Aw
def a1r (j:Int)(q:Int):AB Int:=aS0 j q 0
def ajZ :=Dc func93 rfl a1r AU AU AU λj q r h=>AZ<|Aa<|BL<|.p (Dj DL zero3 [Ah 1,Ah 0,Ah 2])<|.Z (BK Ah [1,0,2])<|Ak<|Dq (λI=>⟨Az 24 [(0,AU j),(1,AU q),(7,BZ [1,0,2]),(8,AU ([1,0,2].length:Int)),(9,AU I)],[],0⟩) _ _ _ (Ag []) h<|λI J L M h=>AZ<|Aa<|Bg h (λh=>Aa<|Ak<|AO h λI J h=>BL<|.Z (BG Ah J)<|AP 3<|AO h λI J h=>.mg 16 4 (Ai I) (.bi J)<|sQ) λh=>Ei
def aB5 (j:Int):AB (Int×Int):=some (j,0)
def qN (q:Aj)(j:Int)(M:(BX×Int))(J:Int):AB (Int×Int):=(JO q j).bind λL=>(cond (M.2==4) (some (L.1.Kind==5)) (some false)).bind λO=>(cond O ((a1r J L.1.Content.N).bind λI=>aB5 I) (aB5 J))
def a2N (q:Aj)(j:Int):AB (Int×Int):=(Vz q j).bind λI=>(cond (I.2==0) (some (0,5)) ((aB I.1 5 CS).bind λJ=>(cond J.2 ((JO q J.1).bind λL=>(cond L.2 (qN q j I L.1.Content.N) (qN q j I 0))) (qN q j I 0))))
def amY :=Dc func52 rfl a2N BI AU (λr=>.eu [AU r.1,AU r.2]) λq j r h=>AZ<|AO h λI M h=>AP 2<|.X (a7H M)<|Aa<|AZ<|BF h Bo λh=>AZ<|D9 (λ(J:Int)=>(λq j I J=>⟨Az 58 [(0,BI q),(1,AU j),(7,AU I.2),(8,AU J)],[],0⟩) q j I J) (λJ=>qN q j I J) r (λJ h=>D9 (λ(O:Int)=>(λO=>⟨Az 58 [(8,AU O)],[],0⟩) O) (λO=>aB5 O) r (λO h=>AZ<|CV)<|λI=>AO h λM U h=>AP 2<|.X (KU U)<|AP 2<|AO h λU L h=>.mg 47 4 (Ai U) (.bi L)<|.aT<|BF h (λh=>AO h λU L h=>CQ<|.a 4<|.ca (ajZ L)<|.aN<|I U (Ag []) h) λh=>I J (Ag []) h)<|λM=>AO h λU L h=>AP 1<|.X (a7R L)<|AZ<|BF h (λh=>AO h λI L h=>AP 2<|.X (KU L)<|AZ<|BF h (λh=>Cc<|M I.1.Content.N (Ag []) h) λh=>M 0 (Ag []) h) λh=>M 0 (Ag []) h
def oD (k2:(Int->AB Int))(j:Int):AB Int:=k2 (Ar (j+1))
def aCV (j:Aj)(Y:BN)(q:BH)(k2:(Int->AB Int))(U:Int)(Z:(Int->AB Int)):Int->AB Int:=λI=>(cond (I<(j.length:Int)) ((Aq j I).bind λx9=>(cond (x9.Id != Y.Id) (Z (Ar (I+1))) ((Aq j I).bind λJ=>(cond (J.Kind==2) ((Aq j I).bind λL=>some (L.Key.toList==q.toList)) (some false)).bind λM=>(cond M ((Aq j I).bind λO=>some O.Content.N) (oD k2 U))))) (oD k2 U))
def aDX (q:Aj)(I:BN)(j:BH)(k2:(Int->AB Int))(J:Int):Int->AB Int:=bg (aCV q I j k2 J) Aw
def aDj (q:BX)(I:Aj)(j:BH)(k2:(Int->AB Int)):Int->AB Int:=λJ=>(cond (J<(q.length:Int)) ((Aq q J).bind λL=>aDX I L j k2 J 0) (some 0))
def aQB (q:BX)(I:Aj)(j:BH):Int->AB Int:=bg (aDj q I j) Aw
def XP (q:Aj)(I:BX)(j:BH):AB Int:=aQB I q j 0
def a2d :=JF func94 rfl XP BI DU CP AU λI j q r h=>AZ<|Aa<|AP 1<|.Z (BK BQ j)<|Ak<|Dq (λM=>⟨Az 52 [(0,BI I),(2,CP q),(10,DU j),(11,AU (j.length:Int)),(12,AU M)],[],0⟩) _ _ _ (Ag []) h<|λM J L O h=>AZ<|Aa<|Bg h (λh=>VW ⟨Az 52 [(0,BI I),(2,CP q),(10,DU j),(11,AU (j.length:Int)),(12,AU O)],[],0⟩ (oD J O) r (λh=>TD)<|λM=>Ak<|AO h λJ L h=>BL<|.Z (BG BQ L)<|AP 1<|.Z (BK Au I)<|Ak<|Dq (λM=>⟨Az 52 [(0,BI I),(2,CP q),(8,.ptr 0 0),(10,DU j),(11,AU (j.length:Int)),(12,AU O),(17,AU (I.length:Int)),(18,AU M)],[.box (BD (BQ J))],0⟩) _ _ _ (Ag [AQ 0]) h<|λJ L O U h=>AZ<|Aa<|Bg h (λh=>Aa<|Ak<|AZ<|Aa<|AO h λJ L h=>Ee A8 A8 A8 (.a 2<|.p (BG Au L)<|.a 5<|.nil _)<|BF h (λh=>CW<|Cc<|O _ _ (Ag [AQ 0]) h) λh=>Aa<|AO h λJ L h=>AP 2<|.p (BG Au L)<|.a 3<|AO h λJ L h=>.mg 35 8 (Ai J) (.bi L (λh=>AO h λM J h=>.a 2<|.Z (BG Au J)<|CU))<|.aT<|BF h (λh=>AO h λM J h=>AP 2<|.Z (BG Au J)<|CV) λh=>CW<|M (Ag []) h) λh=>CW<|M (Ag []) h) λh=>Ei
def aFl (j:AV):AB AV:=some j
def a7s (q:Aj)(I:Int)(j:BH):AB AV:=(Vz q I).bind λJ=>(cond (J.2==0) (some []) ((XP q J.1 j).bind λO=>(JO q I).bind λL=>(cond (J.2==4) (some (L.1.Kind==2)) (some false)).bind λU=>(cond U (some (L.1.Key.toList==j.toList)) (some false)).bind λY=>(cond Y ((CZ 8 [O] [L.1.Content.N]).bind λM=>aFl M) (aFl [O]))))
def afH {eU kZ Gi r}(h:a7s eU kZ Gi=some r):Dh 53 [BI eU,AU kZ,CP Gi] [] (.aQ 0) [(CO r)]:=Dy func53 rfl<|BL<|.f (C9 3 1)<|.aT<|AO h λJ q h=>AP 2<|.X (a7H q)<|Aa<|AZ<|BF h (λh=>BL<|.f (C9 3 1)<|.aT<|JQ) λh=>AO h λq L h=>AP 3<|.ca (a2d L)<|.Y (Gn DL zero3 [Ah q])<|D9 (λ(I:(AA Int))=>(λI=>⟨Az 51 [(9,.aQ 0)],[(CO I)],0⟩) I) (λI=>aFl I) r (λI h=>AZ<|Py)<|λJ=>AO h λL j h=>AP 2<|.X (KU j)<|AP 2<|AO h λj M h=>.mg 33 4 (Ai j) (.bi M)<|.a 1<|AO h λj M h=>.mg 39 4 (Ai j) (Cb M)<|.aT<|BF h (λh=>AO h λq j h=>CQ<|.a 4<|.p (Dj DL zero3 [Ah L.1.Content.N])<|.f (DX (k:=1) Ah j DL A8 (λ_=>rfl) Ba)<|.aN<|J q (Ag [AQ 3]) h) λh=>J [q] (Ag [AQ 1]) h
def pG (j:Ad):AB AV:=some j.bP
def acG :=Dk func211 rfl pG Cm BZ λj r h=>Uc
def a4r (q:Aj)(j:AV):AB AV:=(YN q j (λa0=>pG a0)).bind λI=>some I
def ait :=FZ func151 rfl a4r BI BZ CO λq j r h=>BL<|.f (C9 3 1)<|.aT<|AO h λI J h=>AP 2<|.Y (x:=.aQ 1) (JR [BI q,BZ j,.d (.fn (.func 211) [] [])] (aOs q j (λI=>pG I) (.fn (.func 211) [] []) ⟨211,[],rfl,agA,λI J L=>acG L⟩ I J))<|JQ
def a7F (I:Aj)(j:Int)(q:Int):AB Ac:=(cond (j != q) ((a4r I [q]).bind λJ=>(dW J j).bind λL=>some L) (some false)).bind λM=>some M
def amB :=JF func96 rfl a7F BI AU AU Ai λI J j r h=>AZ<|AP 3<|AO h λL q h=>.mg 10 7 (Ai L) (.bi q (λh=>Bj h λL q O M h=>.a 2<|.p (Dj DL zero3 [Ah j])<|.ca (ait q).view<|.a 1<|.X (aFC M)<|CU))<|.aW<|CV
def sK (q:Aj)(j:Int):AB BX:=(bY q).bind λJ=>Xl J ((aGa j).bind λL=>(cond (!L) (some []) none)) λI=>(a0p I.1 I.2.1 I.2.2 j).bind λM=>(cond (!M) (some []) (some ((DT I.2.1 j).getD [])))
def aZI {eU kZ r}(h:sK eU kZ=some r):Dh 97 [BI eU,AU kZ] [] (DU r) []:=by
 refine Dy func97 rfl ?_;unfold sK at h;refine BL<|.aM 1 ?_;obtain⟨L,j,h⟩:=Du h;cases L with
 |none=>
  replace h:=a1U h;refine AP 1<|.X (XB j)<|Aa ?_;obtain⟨M,q,h⟩:=Du h;refine AP 2<|.Y (x:=(Ai M)) (E5 [] [.d (.lit (.pointer none)),AU kZ] (aWh q))<|Di h (λh=>?_) λh=>?_
  ·refine BL<|.aM 1 ?_;rw[←CM h];exact .ret (Ew [])
  refine FM ?_;cases h
 |some J=>
  replace h:=wP h;refine AP 1<|.Y (x:=.ptr 0 0) (E5 [] [BI eU] (XB j))<|Aa ?_;obtain⟨O,I,h⟩:=Du h;refine AP 2<|.Y (x:=(Ai O)) (E5 [.ent 0,.ent 1,.ent 2,.ent 3] [.ptr 0 0,AU kZ] (aSU I) (hE:=Y6))<|Di h (λh=>?_) λh=>?_
  ·refine BL<|.aM 1 ?_;rw[←CM h];exact .ret (Ew [])
  refine FM<|AP 5<|.p (x:=(DU ((DT J.2.1 kZ).getD []))) (eF (k:=2) (key:=kZ) (m:=J.2.1) (BR BQ) [] ig IY zero26 A8 A8 A8)<|.aM 1 ?_;rw[←CM h];exact .ret (Ew [])
def vK (v2:Ac):AB Ac:=some v2
def sJ (j:(Ac->Int->AB Ac))(q:Int)(I:Ac):AB Ac:=j I (Ar (q+1))
def aFK (j:Bv)(q:Int)(I:BH)(O:(Ac->Int->AB Ac)):Ac->Int->AB Ac:=λL M=>(cond (M<(j.Rows.length:Int)) ((Aq j.Rows M).bind λJ=>(cond L (vK L) (cond (J.Status != 4) (sJ O M L) ((cond (J.Id != q) ((a7F j.Events q J.Id).bind λU=>some (!U)) (some false)).bind λY=>(cond Y (sJ O M L) ((sK j.Events J.Id).bind λZ=>(XP j.Events Z I).bind λx18=>sJ O M (x18==3))))))) (vK L))
def aU5 (I:Bv)(q:Int)(j:BH):Ac->Int->AB Ac:=aS (aFK I q j) Aw
def a3m (q:Bv)(I:Int)(j:BH):AB Ac:=(XP q.Events q.State j).bind λJ=>aU5 q I j (J==3) 0
def ap5 :=JF func55 rfl a3m FC AU CP Ai λj I q r h=>AZ<|Bl.scope<|AO h λJ L h=>AP 5<|.X (a2d L)<|Aa<|Bl.label<|D9 (λ(v2:Ac)=>(λv2=>⟨Az 56 [(7,Ai v2)],[],0⟩) v2) (λv2=>vK v2) r (λv2 h=>AZ<|CV)<|λJ=>AP 2<|.Z (BK D5 j.Rows)<|Ak<|DJ (λJ L=>⟨Az 56 [(1,AU I),(2,CP q),(3,.ptr 0 0),(7,Ai J),(18,J8 j.Rows),(19,AU (j.Rows.length:Int)),(20,AU L)],[.box (BD (EG j))],0⟩) _ _ _ _ (Ag [AQ 0]) h<|λL Z M O Y h=>AZ<|Aa<|Bg h (λh=>D9 (λ(U:Ac)=>(λI q j J U=>⟨Az 56 [(1,AU I),(2,CP q),(3,.ptr 0 0),(7,Ai U),(18,J8 j.Rows),(19,AU (j.Rows.length:Int)),(20,AU J)],[.box (BD (EG j))],0⟩) I q j Y U) (λU=>sJ Z Y U) r (λU h=>Oc)<|λL=>Ak<|AO h λZ M h=>BL<|.Z (BG D5 M)<|Aa<|Ak<|AZ<|Di h (λh=>CW<|J O (Ag []) h) λh=>AZ<|Di h (λh=>CW<|L O (Ag [AQ 0]) h) λh=>AP 4<|AO h λJ M h=>.mg 35 8 (Ai J) (.bi M (λh=>AO h λJ L h=>.a 5<|.X (amB L)<|CU))<|.aW<|BF h (λh=>CW<|L O (Ag [AQ 0]) h) λh=>Bj h λJ M O Y h=>DR A8 A8 A8 (.a 6<|.ca (aZI M)<|.a 1<|.ca (a2d Y)<|.a 2<|.nil _)<|L (O==3) (Ag [AQ 0]) h) λh=>CW<|J O (Ag []) h
def agG  :BP:=⟨Az 62 [],[],0⟩
def aAy  :AB Int:=some 23
def tC (I:Bv)(j:Int)(q:BH):AB Int:=(kC I j).bind λZ=>(cond (!Z.2) (some true) (some (Z.1.Status != 4))).bind λx2=>(cond x2 (some 5) ((a2N I.Events j).bind λJ=>(cond (J.2 != 0) (some J.2) ((a7s I.Events j q).bind λx7=>(cond (J.1==1) (some true) ((V7 x7 3).bind λL=>some L)).bind λx9=>(cond x9 (some 0) ((cond (J.1==0) (some true) ((cond (J.1==2) ((V7 x7 1).bind λM=>some M) (some false)).bind λO=>some O)).bind λU=>(cond U ((a3m I j q).bind λY=>(cond Y (some 0) aAy)) aAy)))))))
def aIQ :=JF func28 rfl tC FC AU CP AU λO L I r h=>AZ<|AO h λJ j h=>AP 2<|.X (a5X j)<|Aa<|AP 2<|AO h λJ j h=>.mg 20 4 (Ai J) (.bi j)<|.aT<|BF h Bo λh=>AO h λJ j h=>AP 3<|.X (amY j)<|Aa<|AZ<|BF h Bo λh=>AO h λJ j h=>AP 4<|.X (afH j).view<|VW (agG ) (aAy) r Bo<|λj=>Ak<|AP 2<|AO h λq M h=>.mg 43 3 (Ai q) (.bi M (k2:=λh=>AO h λj q h=>.a 1<|.X (cV q)<|CU))<|.aW<|Di h Bo λh=>AP 2<|AO h λq M h=>.mg 50 7 (Ai q) (.bi M (k2:=λh=>.a 2<|AO h λj q h=>.mg 53 3 (Ai j) (.bi q (λh=>AO h λj q h=>.a 1<|.X (cV q)<|CU))<|.aW<|CU))<|.aW<|BF h (λh=>AO h λJ q h=>AP 3<|.ca (ap5 q)<|.aT<|BF h Bo λh=>j (Ag []) h) λh=>j (Ag []) h
def aBR (k3:(AV->Int->AB AV))(v2:Int)(j:AV):AB AV:=k3 j (Ar (v2+1))
def aIE (j:Bv)(q:BH)(k3:(AV->Int->AB AV)):AV->Int->AB AV:=λI v2=>(cond (v2<(j.Rows.length:Int)) ((Aq j.Rows v2).bind λL=>(tC j L.Id q).bind λM=>(cond (M==0) ((CZ 8 I [L.Id]).bind λJ=>aBR k3 v2 J) (aBR k3 v2 I))) (some I))
def aRH (q:Bv)(j:BH):AV->Int->AB AV:=aS (aIE q j) Aw
def a6C (q:Bv)(j:BH):AB AV:=aRH q j [] 0
def aov :=FZ func71 rfl a6C FC CP CO λj q r h=>AP 1<|.f (C9 3 1)<|.aT<|BL<|.f (C9 3 1)<|.aT<|Aa<|AP 2<|.Z (BK D5 j.Rows)<|Ak<|DJ (λI M=>⟨Az 28 [(1,CP q),(2,.ptr 0 0),(5,.aQ 1),(9,J8 j.Rows),(10,AU (j.Rows.length:Int)),(11,AU M)],[.box (BD (EG j)),(CO I)],0⟩) _ _ _ _ (Ag [AQ 0,AQ 2]) h<|λI M J U O h=>AZ<|Aa<|Bg h (λh=>D9 (λ(L:(AA Int))=>(λq j I L=>⟨Az 28 [(1,CP q),(2,.ptr 0 0),(5,.aQ 1),(9,J8 j.Rows),(10,AU (j.Rows.length:Int)),(11,AU I)],[.box (BD (EG j)),(CO L)],0⟩) q j O L) (λL=>aBR M O L) r (λL h=>aGj)<|λI=>Ak<|AO h λM J h=>BL<|.Z (BG D5 J)<|AO h λJ O h=>AP 4<|.X (aIQ O)<|BF h (λh=>AO h λJ U h=>CQ<|.a 3<|.p (Dj DL zero3 [Ah M.Id])<|.f (DX (k:=1) Ah U DL A8 (λ_=>rfl) Ba)<|.aN<|I J (Ag [AQ 0,AQ 3]) h) λh=>I U (Ag [AQ 0,AQ 1]) h) λh=>jI
def aAW (k3:(AV->Int->AB AV))(v2:Int)(j:AV):AB AV:=k3 j (Ar (v2+1))
def aEe (j:Bv)(k3:(AV->Int->AB AV)):AV->Int->AB AV:=λq v2=>(cond (v2<(j.Rows.length:Int)) ((Aq j.Rows v2).bind λI=>(cond (!I.Gone) ((CZ 8 q [I.Id]).bind λJ=>aAW k3 v2 J) (aAW k3 v2 q))) (some q))
def aUX (j:Bv):AV->Int->AB AV:=aS (aEe j) Aw
def a9M (j:Bv):AB AV:=aUX j [] 0
def afF :=JM func72 rfl a9M FC CO λj r h=>AP 1<|.f (C9 3 1)<|.aT<|BL<|.f (C9 3 1)<|.aT<|Aa<|AP 2<|.Z (BK D5 j.Rows)<|Ak<|DJ (λq J=>⟨Az 23 [(3,.aQ 0),(7,J8 j.Rows),(8,AU (j.Rows.length:Int)),(9,AU J)],[(CO q)],0⟩) _ _ _ _ (Ag [AQ 2]) h<|λq J L M O h=>AZ<|Aa<|Bg h (λh=>D9 (λ(I:(AA Int))=>(λj q I=>⟨Az 23 [(3,.aQ 0),(7,J8 j.Rows),(8,AU (j.Rows.length:Int)),(9,AU q)],[(CO I)],0⟩) j O I) (λI=>aAW J O I) r (λI h=>WT)<|λq=>Ak<|AO h λJ L h=>BL<|.Z (BG D5 L)<|AZ<|BF h (λh=>AO h λL M h=>CQ<|.a 3<|.p (Dj DL zero3 [Ah J.Id])<|.f (DX (k:=0) Ah M DL A8 (λ_=>rfl) Ba)<|.aN<|q L (Ag [AQ 2]) h) λh=>q M (Ag [AQ 0]) h) λh=>Hf
def a6J (j:(Eb->Int->AB Eb))(q:Int)(I:Eb):AB Eb:=j I (Ar (q+1))
def a9u (j:Bv)(Z:AV)(x2:AV)(Y:(Eb->Int->AB Eb)):Eb->Int->AB Eb:=λI q=>(cond (q<(j.Rows.length:Int)) ((Aq j.Rows q).bind λJ=>(V7 Z J.Id).bind λL=>(cond L ((V7 x2 J.Id).bind λM=>some M) (some false)).bind λO=>(cond O ((CZ 32 I [J]).bind λU=>a6J Y q U) (a6J Y q I))) (some I))
def aQP (j:Bv)(q:AV)(I:AV):Eb->Int->AB Eb:=aS (a9u j q I) Aw
def pO (j:Bv)(q:BH):AB Eb:=(a6C j q).bind λI=>(a9M j).bind λJ=>aQP j I J [] 0
def aDK :=FZ func34 rfl pO FC CP ND λj U r h=>AP 1<|.f (C9 66 4)<|.aT<|Bj h λI q L J h=>Ee A8 A8 A8 (.a 2<|.ca (aov q).view<|.a 1<|.ca (afF J).view<|.a 2<|.nil _)<|BL<|.f (C9 66 4)<|.aT<|Aa<|AP 2<|.Z (BK D5 j.Rows)<|Ak<|DJ (λq J=>⟨Az 38 [(5,BZ I),(6,BZ L),(7,.aQ 0),(16,J8 j.Rows),(17,AU (j.Rows.length:Int)),(18,AU J)],[(ND q)],0⟩) _ _ _ _ (Ag [AQ 2]) h<|λq J M Z Y h=>AZ<|Aa<|Bg h (λh=>D9 (λ(O:(AA DN))=>(λI q j L O=>⟨Az 38 [(5,BZ I),(6,BZ q),(7,.aQ 0),(16,J8 j.Rows),(17,AU (j.Rows.length:Int)),(18,AU L)],[(ND O)],0⟩) I L j Y O) (λO=>a6J J Y O) r (λO h=>Oc)<|λq=>Ak<|AO h λJ M h=>BL<|.Z (BG D5 M)<|AO h λM Y h=>AP 3<|.ca (cV Y)<|.a 1<|AO h λI M h=>.mg 27 4 (Ai I) (Cb M (λe i=>by subst e;have h:=i;exact AO h λI q h=>.a 3<|.X (cV q)<|CU))<|.aT<|BF h (λh=>AO h λI L h=>CQ<|.a 2<|.p (Dj UL ZH [D5 J])<|.f (DX (k:=0) D5 L UL A8 (λ_=>rfl) Ba)<|.aN<|q I (Ag [AQ 2]) h) λh=>q Z (Ag [AQ 0]) h) λh=>Hf
def aJ9 (j:Eb):AB Eb:=some j
def aha :=Dk func33 rfl aJ9 J8 (λr=>.d (.fn (.func 70) [] [(.ref ((BR D5) r).cells 0)])) λj r h=>AZ<|BL<|.conv _ (Tz (cs:=BD ((BR D5) j)) 0 A8 A8)<|.Z (x:=.d (.fn (.func 70) [] [(.ref ((BR D5) j).cells 0)])) (Ut [(.ref ((BR D5) j).cells 0)] rfl)<|CV
def aJS (J:(Int->Int->Eb->AB Eb)):Int->Int->Eb->AB Eb:=λj v2 q=>(cond (j<v2) ((Aq q v2).bind λI=>(Aq q j).bind λL=>(Aq q j).bind λM=>(Aq (q.set (j).toNat I) v2).bind λO=>J (Ar (j+1)) (Ar (v2-1)) ((q.set (j).toNat I).set (v2).toNat L)) (some q))
def aVN  :Int->Int->Eb->AB Eb:=iM (aJS) Aw
def a8E (j:Eb):AB Eb:=aVN 0 (Ar ((j.length:Int)-1)) j
def afX {uO r}(h:a8E uO=some r):Dh 35 [.aQ 0] [(ND uO)] (.eu []) [(ND r)]:=Dy func35 rfl<|AP 1<|.Z (Iy (k:=0) (e':=66) (s:=4) D5 uO A8 QJ)<|Ak<|PO (λj q L=>⟨Az 28 [(0,.aQ 0),(2,AU j),(3,AU q)],[(ND L)],1⟩) _ _ _ _ _ (Ag [AQ 0]) h<|λj q L O U J h=>Aa<|AZ<|Bg h (λh=>Aa<|Ak<|Hr h λj q J Y x8 Z h=>AO h λx8 I h=>Bl.aEr [2,3] (.a 6<|.p (Ht (e':=66) (kd:=.i64) D5 q (k:=0) A8 QJ Oe)<|.p (x:=(Rw j)) (Jg (e:=66) (size:=4) (k:=0) (i:=(U).toNat) (off:=0) D5 A8 A8 (GV q).2 Oe (DZ A8) Ul rfl)<|.a 2<|.p (Ht (e':=66) (kd:=.i64) D5 Y (k:=0) A8 QJ Oe)<|.p (x:=(Rw J)) (Jg (e:=66) (size:=4) (k:=0) (i:=(O).toNat) (off:=0) D5 A8 A8 (GV Y).2 Oe (DZ A8) Ul rfl)<|.p (Ht (e':=66) (kd:=.i64) D5 Z (k:=0) A8 QJ Oe)<|.f (Vb (e:=66) (size:=4) (v:=(Rw j)) (k:=0) (i:=(O).toNat) (off:=0) (a':=j) D5 A8 (GV Z).2 A8 (Oe).size A8 (DZ A8) A8 (λ_=>rfl))<|.p (Ht (e':=66) (kd:=.i64) D5 I (k:=0) A8 QJ Oe)<|.f (Vb (e:=66) (size:=4) (v:=(Rw J)) (k:=0) (i:=(U).toNat) (off:=0) (a':=J) D5 A8 (GV I).2 A8 (Oe).size A8 (DZ A8) A8 (λ_=>rfl))<|.nil _)<|Cc<|L _ _ _ _ (Ag [AQ 0]) h) λh=>CW<|Xu
def a4o (j:Ac):AB Int:=(cond j (some 20) (some 0))
def vT (q:Aj)(j:Ad):AB Int:=(cond (j.Kind != 14) (some 1) ((JO q j.Content.Target).bind λJ=>(cond (!J.2) (some 5) ((Vz q j.Id).bind λL=>(XP q L.1 j.bG).bind λO=>(cond (O != 3) (some 18) ((Zj q L.1).bind λU=>(jV U).bind λM=>(cond (!(j.bG.toList==J.1.bG.toList)) ((SA M.1 j.bG).bind λI=>a4o (decide (I<M.1.gy))) (a4o false))))))))
def aq6 :=Dc func86 rfl vT BI Cm AU λO J r h=>AZ<|Aa<|AZ<|BF h Bo λh=>AO h λL j h=>AP 4<|.X (KU j)<|Aa<|AZ<|BF h Bo λh=>AO h λL j h=>AP 3<|.X (a7H j)<|Aa<|AO h λj I h=>AP 4<|.X (a2d I)<|BF h Bo λh=>Bj h λj I U M h=>AP 2<|.ca (a6W I).view<|.X (aBv M)<|Aa<|D9 (λ(q:Ac)=>(λq=>⟨Az 58 [(57,Ai q)],[],0⟩) q) (λq=>a4o q) r (λq h=>Ir)<|λL=>Ed h (λj h=>AO h λI M h=>DR A8 A8 A8 (.a 5<|.c (BM some j)<|.a 3<|.ca (XT M)<|.a 4<|.nil _)<|L (decide (I<U.1.gy)) (Ag []) h) λj h=>DR A8 A8 A8 (.a 5<|.c (BM some j)<|.a 8<|.nil _)<|L false (Ag []) h
abbrev Rs:=AA Yn
def wC (j:(Rs->Int->AB Rs))(q:Int)(I:Rs):AB Rs:=j I (Ar (q+1))
def aIj (U:AV)(j:Aj)(Y:(Rs->Int->AB Rs)):Rs->Int->AB Rs:=λv2 I=>(cond (I<(U.length:Int)) ((Aq U I).bind λZ=>(JO j Z).bind λq=>(cond q.2 (some (q.1.Kind==14)) (some false)).bind λJ=>(cond J ((vT j q.1).bind λL=>some (L==0)) (some false)).bind λM=>(cond M ((CZ 24 v2 [(⟨q.1.Depth,q.1.Id,q.1.Content.Target⟩:Yn)]).bind λO=>wC Y I O) (wC Y I v2))) (some v2))
def aTn (q:AV)(j:Aj):Rs->Int->AB Rs:=aS (aIj q j) Aw
def a3D (j:Aj):AB Rs:=(eP j).bind λq=>aTn q j [] 0
def ag2 :=JM func48 rfl a3D BI (λr=>.arr 89 3 (List.map Z8 r)) λq r h=>BL<|.f (C9 89 3)<|.aT<|BL<|.f (C9 89 3)<|.aT<|Aa<|AO h λI j h=>AP 1<|.ca (aDt j).view<|.Z (BK Ah I)<|Ak<|DJ (λj J=>⟨Az 46 [(0,BI q),(3,.aQ 0),(9,BZ I),(10,AU (I.length:Int)),(11,AU J)],[.arr 89 3 (List.map Z8 j)],0⟩) _ _ _ _ (Ag [AQ 1]) h<|λj J L U O h=>AZ<|Aa<|Bg h (λh=>D9 (λ(M:(AA Yn))=>(λq I j M=>⟨Az 46 [(0,BI q),(3,.aQ 0),(9,BZ I),(10,AU (I.length:Int)),(11,AU j)],[.arr 89 3 (List.map Z8 M)],0⟩) q I O M) (λM=>wC J O M) r (λM h=>WT)<|λI=>Ak<|AO h λj J h=>BL<|.Z (BG Ah J)<|AO h λJ L h=>AP 2<|.X (KU L)<|AP 1<|AO h λj L h=>.mg 22 4 (Ai j) (.bi L)<|.a 1<|AO h λj L h=>.mg 28 4 (Ai j) (Cb L (λe i=>by subst e;have h:=i;exact AO h λI j h=>.a 2<|.X (aq6 j)<|CU))<|.aT<|BF h (λh=>AO h λj L h=>CQ<|.a 9<|.p (Dj aUl aGu [Z8 (⟨J.1.Depth,J.1.Id,J.1.Content.Target⟩:Yn)])<|.f (DX (k:=0) Z8 L aUl A8 (λ_=>rfl) Ba)<|.aN<|I j (Ag [AQ 2]) h) λh=>I U (Ag [AQ 0]) h) λh=>Hf
def aDc (q:Rs)(I:(AV->Int->AB AV)):AV->Int->AB AV:=λv2 j=>(bif j<(q.length:Int) then(Aq q j).bind λJ=>(CZ 8 v2 [J.Target]).bind λL=>I L (Ar (j+1))else(O8 v2).bind λM=>(UY M).bind λO=>some O)
def aRx (j:Rs):AV->Int->AB AV:=aS (aDc j) Aw
def mG (j:Aj):AB AV:=(a3D j).bind λq=>aRx q [] 0
def aDy :=JM func25 rfl mG BI CO λL r h=>BL<|.f (C9 3 1)<|.aT<|BL<|.f (C9 3 1)<|.aT<|Aa<|AO h λq j h=>AP 1<|.ca (ag2 j).view<|.Z (BK Z8 q)<|Ak<|DJ (λj I=>⟨Az 23 [(3,.aQ 0),(7,.d ((BR Z8) q)),(8,AU (q.length:Int)),(9,AU I)],[(CO j)],0⟩) _ _ _ _ (Ag [AQ 1]) h<|λq j I J M h=>AZ<|Aa<|Bg h (λh=>Aa<|Ak<|AO h λq j h=>BL<|.Z (BG Z8 j)<|AO h λj J h=>CQ<|.a 3<|.p (Dj DL zero3 [Ah q.Target])<|.f (DX (k:=0) Ah J DL A8 (λ_=>rfl) Ba)<|.aN<|Cc<|I _ _ _ (Ag [AQ 2]) h) λh=>CW<|AO h λq j h=>AP 1<|.f (x:=.eu []) (E5 [.ent 0] [.aQ 0] (jJ J q j))<|.aT<|AO h λj I h=>AP 1<|.Y (x:=.aQ 1) (E5 [.ent 0] [.aQ 0] (a7C q j I))<|JQ
def dJ (q:AV)(j:Ad):AB Ad:=(V7 q j.Id).bind λI=>(cond I (some true) ((Xg j).bind λJ=>some (!J))).bind λL=>(cond L ((dO j).bind λM=>some M) (some j))
def aYK :=Dc func45 rfl dJ BZ Cm Cm λJ j r h=>AZ<|Aa<|AO h λI q h=>AP 3<|.ca (cV q)<|.a 1<|AO h λI q h=>.mg 10 3 (Ai I) (Cb q (k2:=λe i=>by subst e;have h:=i;exact AO h λI q h=>.a 1<|.X (nS q)<|CU))<|.aT<|BF h (λh=>AO h λI q h=>AP 1<|.X (a2w q)<|ES<|aXm) λh=>AZ<|ES<|aT9
def a4Z (j:Eb)(q:Bv)(M:AV)(O:(Aj->Int->AB Aj)):Aj->Int->AB Aj:=λL I=>(cond (I<(j.length:Int)) ((Aq j I).bind λU=>(JO q.Events U.Id).bind λY=>(dJ M Y.1).bind λZ=>(CZ 376 L [Z]).bind λJ=>O J (Ar (I+1))) (some L))
def aSW (j:Eb)(q:Bv)(I:AV):Aj->Int->AB Aj:=aS (a4Z j q I) Aw
def a02 (q:Bv)(j:Eb):AB Aj:=(mG q.Events).bind λI=>(J4 376 EI 0 (j.length:Int)).bind λJ=>aSW j q I J 0
def aUS :=FZ func36 rfl a02 FC J8 Et λJ j r h=>AP 1<|.f (C9 56 29)<|.aT<|AO h λM q h=>AP 2<|.X (aDy q).view<|AO h λq I h=>AP 1<|.p (BK D5 j)<|.Y (Ub Au EI I Gl Jv A8 A8 A8 Ba)<|Aa<|AP 1<|.Z (BK D5 j)<|Ak<|DJ (λq I=>⟨Az 39 [(2,.ptr 0 0),(5,BZ M),(6,.aQ 1),(17,J8 j),(18,AU (j.length:Int)),(19,AU I)],[.box (BD (EG J)),(Et q)],0⟩) _ _ _ _ (Ag [AQ 0,AQ 2]) h<|λq I O L U h=>AZ<|Aa<|Bg h (λh=>Aa<|Ak<|AO h λq I h=>BL<|.Z (BG D5 I)<|AO h λI L h=>AP 4<|.X (KU L)<|Bj h λq L U Y h=>CQ<|.a 3<|.ca (aYK L)<|.p (Dj Gl Jv [Au q])<|.f (DX (k:=1) Au Y Gl A8 (λ_=>rfl) Ba)<|.aN<|Cc<|O _ _ _ (Ag [AQ 0,AQ 4]) h) λh=>jI
noncomputable def aHo:Bh Tmp×Code×Code:=yQ Tryz.f10.body [1,0,1,1,1,1,0,1,0]
def Vs (J:(AA DN))(I:Bv)(q:Int)(j:Int):BP:=⟨Az 49 [(4,.ptr 0 0),(6,.ptr 1 0),(7,.ptr 2 0),(11,.ptr 4 0),(12,.ptr 5 0),(20,.d (.fn (.func 70) [] [(.ref ((BR D5) J).cells 0)]))],[.box (BD (EG I)),.box (BD (Ah q)),.box (BD (Ah (EL j 0))),(ND []),.box (setAt (BD ((BR D5) [])) 0 [.aQ 3]),.box (BD (EH false))],0⟩
noncomputable def agI (I:(AA DN))(J:Bh BJ)(L:Bv)(q:Int)(j:Int)(M:(AA DN))(O:Int)(U:Bv)(Y:Int)(Z:Int)(v18:(AA DN))(v19:Ac):BP:=⟨Az 19 [(0,.mp 6),(1,.d (.ref ((BR D5) I).cells 0)),(3,AU O)],[.box (BD (EG U)),.box (BD (Ah Y)),.box (BD (Ah Z)),.dead,.box (setAt (BD ((BR D5) v18)) 0 [.aQ 7]),.box (BD (EH v19)),.loop J (Vs I L q j).slots aHo .ready none,(ND M)],7⟩
noncomputable def alh (I:Bh BJ)(L:(AA DN))(J:Bv)(q:Int)(j:Int)(M:DN)(O:(AA DN))(U:Bv)(Y:Int)(Z:Int)(v27:(AA DN))(v28:Ac):BP:=⟨Az 49 [(6,.ptr 1 0),(7,.ptr 2 0),(11,.ptr 4 0),(12,.ptr 5 0),(14,.ptr 9 0)],[.box (BD (EG U)),.box (BD (Ah Y)),.box (BD (Ah Z)),.dead,.box (setAt (BD ((BR D5) v27)) 0 [.aQ 8]),.box (BD (EH v28)),.loop I (Vs L J q j).slots aHo .busy none,.dead,(ND O),.box (BD (D5 M))],8⟩
def zQ (j:Eb)(v2:Bv)(M:Eb)(q:Ac):AB (Aj×Int×Ac):=(cond ((j.length:Int)==0) (some ([],0,q)) ((a8E j).bind λI=>(a02 v2 I).bind λJ=>(Aq I 0).bind λL=>some (J,L.Pos,q)))
def aOt (M:DN)(O:(Eb->Int->Bv->Int->Int->Eb->Ac->AB (Aj×Int×Ac)))(U:Int)(k29:(Eb->Bv->Int->Int->Eb->Ac->AB (Aj×Int×Ac))):Eb->Bv->Int->Int->Eb->Ac->AB (Aj×Int×Ac):=λj q I J L Y=>(cond (M.Pos<I) (cond ((j.length:Int)>=J) (zQ j q L true) ((CZ 32 j [M]).bind λZ=>O Z (Ar (U-1)) q I J L Y)) (O j (Ar (U-1)) q I J L Y))
def aTQ (j:DN)(q:(Eb->Int->Bv->Int->Int->Eb->Ac->AB (Aj×Int×Ac)))(I:Int):Eb->Bv->Int->Int->Eb->Ac->AB (Aj×Int×Ac):=zN (aOt j q I) Aw
def zq (M:Eb)(O:(Eb->Int->Bv->Int->Int->Eb->Ac->AB (Aj×Int×Ac))):Eb->Int->Bv->Int->Int->Eb->Ac->AB (Aj×Int×Ac):=λq j I U Y J L=>(cond (j>=0) ((Aq M j).bind λZ=>aTQ Z O j q I U Y J L) (zQ q I J L))
def aMt (j:Eb):Eb->Int->Bv->Int->Int->Eb->Ac->AB (Aj×Int×Ac):=Kq (zq j) Aw
def Yi (J:Bv)(q:BH)(I:Int)(j:Int):AB (Aj×Int×Ac):=(pO J q).bind λM=>(aJ9 M).bind λL=>aMt L [] (Ar ((L.length:Int)-1)) J I (EL j 0) [] false
def a7K {lC lZ Ju jL r}(h:Yi lC lZ Ju jL=some r):Dh 10 [FC lC,CP lZ,AU Ju,AU jL] [] (.eu [BI r.1,AU r.2.1,Ai r.2.2]) []:=Dy func10 rfl<|AZ<|Bl.scope<|AP 1<|.Z (x:=(AU (EL jL 0))) bW<|BL<|.f (xU 66 4 aRv)<|.aT<|AZ<|Aa<|Bl.label<|YO (λs=>∃(U:(AA DN)) (v2:Bv) (Y:(AA DN)) (v4:Ac),Gt s ⟨Az 49 [(4,.ptr 0 0),(11,.ptr 1 0),(12,.ptr 3 0)],[.box (BD (EG v2)),.box (setAt (BD ((BR D5) Y)) 0 [.aQ 2]),(ND U),.box (BD (EH v4))],0⟩/\zQ U v2 Y v4=some r) (by rintro s ⟨U,v2,Y,v4,hs,h⟩;exact Nu hs<|Aa<|AP 1<|.Z (Iy (k:=2) (e':=66) (s:=4) D5 U A8 QJ)<|BF h (λh=>Ee A8 A8 A8 (.a 4<|.nil _)<|CV) λh=>AO h λM q h=>AP 1<|.f (x:=.eu []) (E5 [.ent 2] [.aQ 2] (afX q))<|.aT<|Bl.conv (aNA (e:=66) (s:=4) 2 1 (xs:=List.map D5 M) (cs:=setAt (BD ((BR D5) Y)) 0 [.aQ 2]) A8 A8 A8)<|Bj h λq I j J h=>Ee A8 A8 A8 (.a 2<|.ca (aUS I).view<|.a 1<|.p (BG D5 J)<|.a 6<|.nil _)<|CV)<|λM=>Bj h λq I j J h=>AP 2<|.ca (aDK I).view<|.f (x:=.d (.fn (.func 70) [] [(.ref ((BR D5) j).cells 0)])) (E5 [] [J8 q] (aha J))<|.aT<|Ak<|Nu (S:=Vs j lC Ju jL) (Ag [AQ 0,AQ 1,AQ 2,AQ 3,AQ 4,AQ 5])<|Bl.ajN [(.ref ((BR D5) j).cells 0)] A8 func70 an2 rfl rfl λq=>AP 1<|.Z (BK D5 j)<|Ak<|Bl.Kq (agI j q lC Ju jL) _ _ _ _ _ _ _ _ _ (Ag [AQ 0,AQ 1,AQ 2,(3,false),AQ 4,AQ 5,AQ 6,AQ 3]) h<|λI J x6 x7 Z x9 x10 x11 L O h=>Aa<|AZ<|Bg h (λh=>Aa<|Ak<|AO h λI J h=>AP 4<|.p (BG D5 J)<|.a 1<|Dp.yield (tm:=q) (slots:=(Vs j lC Ju jL).slots) (rc:=aHo) 6 [AU Z,Rw I] rfl A8 A8 A8 A8 A8 A8<|Cc<|⟨rfl,(Vs j lC Ju jL).slots,A8,(Ak<|Ak<|aAf (alh q j lC Ju jL I) _ _ _ _ _ _ _ _ (Ag [AQ 0,AQ 1,AQ 2,(3,false),AQ 4,AQ 5,AQ 6,(7,false),AQ 7,AQ 8]) h<|λq J x7 Z x9 x10 x11 L O h=>Aa<|AZ<|Bg h (λh=>Ak<|Aa<|AP 1<|.Z (Iy (k:=8) (e':=66) (s:=4) D5 Z A8 QJ)<|BF h (λh=>AZ<|CW<|⟨(Vs j lC Ju jL).slots,(.done,some (.exit 0)),A8,rfl,(.aW<|QG A8<|ES<|⟨.inr rfl,(Vs j lC Ju jL).slots,(.done,some (.exit 0)),.exit 0,A8,rfl,(M _ ⟨Z,x9,L,true,Ag [AQ 0,AQ 4,AQ 8,AQ 5],h⟩)⟩)⟩) λh=>AO h λM q h=>AP 2<|.p (Dj UL ZH [D5 I])<|.Y (DX (k:=8) D5 q UL A8 (λ_=>rfl) Ba)<|CW<|⟨(Vs j lC Ju jL).slots,(.ready,none),A8,rfl,(.aW<|NJ A8<|FM<|Cc<|x6 _ _ _ _ _ _ _ _ (Ag [AQ 0,AQ 1,AQ 2,(3,false),AQ 4,AQ 5,AQ 6,AQ 10]) h)⟩) λh=>CW<|⟨(Vs j lC Ju jL).slots,(.ready,none),A8,rfl,(.aW<|NJ A8<|FM<|Cc<|x6 _ _ _ _ _ _ _ _ (Ag [AQ 0,AQ 1,AQ 2,(3,false),AQ 4,AQ 5,AQ 6,AQ 8]) h)⟩)⟩) λh=>CW<|⟨.inl rfl,(Vs j lC Ju jL).slots,(.ready,none),.normal,A8,rfl,(M _ ⟨x7,x9,L,O,Ag [AQ 0,AQ 4,AQ 7,AQ 5],h⟩)⟩
def aFf (j:Eb)(q:(DN->AB Ac))(k2:(Int->AB Int)):Int->AB Int:=λI=>(cond (I<(j.length:Int)) ((Aq j I).bind λJ=>(q J).bind λL=>(cond L (some I) (k2 (Ar (I+1))))) (some (-1)))
def aUr (j:Eb)(q:(DN->AB Ac)):Int->AB Int:=bg (aFf j q) Aw
def aAJ (j:Eb)(q:(DN->AB Ac)):AB Int:=aUr j q 0
def alY (q:(AA DN))(I:(DN->AB Ac))(j:D)(J:Rt Ap D5 EH j I)(r:Int)(h:aAJ q I=some r):Dh 39 [J8 q,.d j] [] (AU r) []:=Dy func39 rfl<|AZ<|Aa<|AP 1<|.Z (BK D5 q)<|Ak<|Dq (λL=>⟨Az 19 [(0,J8 q),(1,.d j),(7,AU (q.length:Int)),(8,AU L)],[],0⟩) _ _ _ (Ag []) h<|λL M O U h=>AZ<|Aa<|Bg h (λh=>Aa<|Ak<|AZ<|Bj h λL M U Y h=>AP 3<|.p (BG D5 M)<|.a 1<|.p (tK (d:=j) (J:Rt Ap D5 EH j I) Y)<|a6Q) λh=>Ei
def a1K (j:DN)(q:Int):AB Ac:=some (j.Id==q)
def aoh :=Dc func40 rfl a1K Rw (λq=>.d (.ref (Ah q).cells 0)) Ai λj q r h=>Uc
def Yz (I:Bv)(q:BH)(J:Int)(j:Int):AB (Aj×Int):=(tC I J q).bind λO=>(cond (O != 0) (some ([],O)) ((pO I q).bind λL=>(aAJ L (λa0=>a1K a0 J)).bind λM=>(cond (M<0) (some ([],27)) ((Gx L (EL 0 (Ar (M-(Hl (EL j 0) (L.length:Int))))) (Hl (L.length:Int) (Ar ((Ar (M+(Hl (EL j 0) (L.length:Int))))+1)))).bind λU=>(a02 I U).bind λY=>some (Y,0)))))
def a5x {lC lZ qC jL r}(h:Yz lC lZ qC jL=some r):Dh 18 [FC lC,CP lZ,AU qC,AU jL] [] (.eu [BI r.1,AU r.2]) []:=Dy func18 rfl<|AZ<|Aa<|AO h λj q h=>AP 3<|.X (aIQ q)<|AZ<|BF h Bo λh=>AO h λj q h=>AP 2<|.X (aDK q).view<|AO h λq I h=>AP 1<|.conv _ (Tz (cs:=BD (Ah qC)) 1 A8 A8)<|.p (x:=.d (.fn (.func 40) [] [(.ref (Ah qC).cells 0)])) (Ut [(.ref (Ah qC).cells 0)] rfl)<|.X (alY j (λj=>a1K j qC) (.fn (.func 40) [] [(.ref (Ah qC).cells 0)]) ⟨40,[(.ref (Ah qC).cells 0)],rfl,aog,λj q I=>aoh I⟩ q I)<|Aa<|AZ<|BF h Bo λh=>AP 1<|.p (x:=(AU (EL jL 0))) bW<|.a 1<|.p (BK D5 j)<|.Z (x:=(AU (Hl (EL jL 0) (j.length:Int)))) oV<|Bj h λI L O M h=>Ee A8 A8 A8 (.a 5<|.p (x:=(AU (EL 0 (Ar (q-(Hl (EL jL 0) (j.length:Int))))))) bW<|.a 1<|.p (BK D5 j)<|.a 4<|.p (x:=(AU (Hl (j.length:Int) (Ar ((Ar (q+(Hl (EL jL 0) (j.length:Int))))+1))))) oV<|.p (Ou D5 L ZT ZT QJ Oe (λ_=>rfl) rfl)<|.ca (aUS M).view<|.a 2<|.nil _)<|CV
def a97 (j:(AV->Int->AB AV))(q:Int)(I:AV):AB AV:=j I (Ar (q+1))
def aDn (J:Eb)(j:Int)(L:(AV->Int->AB AV)):AV->Int->AB AV:=λv2 q=>(cond (q<(J.length:Int)) ((Aq J q).bind λM=>(cond (M.Pos>=j) ((CZ 8 v2 [M.Id]).bind λI=>a97 L q I) (a97 L q v2))) (some v2))
def aVQ (q:Eb)(j:Int):AV->Int->AB AV:=aS (aDn q j) Aw
def XO (I:Bv)(j:BH)(q:Int):AB AV:=(pO I j).bind λJ=>aVQ J q [] 0
def O9 {lC lZ j r}(h:XO lC lZ j=some r):Dh 13 [FC lC,CP lZ,AU j] [] (.aQ 0) [(CO r)]:=Dy func13 rfl<|AP 1<|.f (C9 3 1)<|.aT<|BL<|.f (C9 3 1)<|.aT<|Aa<|AO h λq I h=>AP 2<|.ca (aDK I).view<|.Z (BK D5 q)<|Ak<|DJ (λI J=>⟨Az 29 [(2,AU j),(7,.aQ 0),(12,J8 q),(13,AU (q.length:Int)),(14,AU J)],[(CO I)],0⟩) _ _ _ _ (Ag [AQ 2]) h<|λI J M U O h=>AZ<|Aa<|Bg h (λh=>D9 (λ(L:(AA Int))=>(λj q I L=>⟨Az 29 [(2,AU j),(7,.aQ 0),(12,J8 q),(13,AU (q.length:Int)),(14,AU I)],[(CO L)],0⟩) j q O L) (λL=>a97 J O L) r (λL h=>Oc)<|λq=>Ak<|AO h λI J h=>BL<|.Z (BG D5 J)<|AZ<|BF h (λh=>AO h λJ M h=>CQ<|.a 3<|.p (Dj DL zero3 [Ah I.Id])<|.f (DX (k:=0) Ah M DL A8 (λ_=>rfl) Ba)<|.aN<|q J (Ag [AQ 2]) h) λh=>q U (Ag [AQ 0]) h) λh=>Hf
def qY (j:Bv):AB Int:=some j.Next
def a2M :=Dk func16 rfl qY FC AU λj r h=>Uc
def a1T (j:Bv)(q:Ad):AB Ad:=(mG j.Events).bind λI=>(dJ I q).bind λJ=>some J
def aFP :=Dc func22 rfl a1T FC Cm Cm λj q r h=>AZ<|Bj h λO J I L h=>Ee A8 A8 A8 (.a 2<|.ca (aDy J).view<|.a 1<|.ca (aYK L)<|.a 1<|.nil _)<|ES<|aXE
def VJ (j:Ac):AB Ac:=some j
def Sz  :AB Ac:=(aMX).bind λj=>(Yi j sD 4 2).bind λq=>(cond ((q.1.length:Int) != 2) (some true) (some ((j.Rows.length:Int) != 5))).bind λx3=>(cond x3 (some false) ((Aq j.Rows 3).bind λx6=>(Yz j sD x6.Id 1).bind λI=>(Yz j sD (-1) 1).bind λx8=>(XO j sD 3).bind λJ=>(cond ((J.length:Int)==2) (cond (q.2.1==2) (cond q.2.2 ((Aq q.1 0).bind λL=>(Aq j.Rows 2).bind λM=>(cond (L.Id==M.Id) (cond ((I.1.length:Int)==3) ((Aq I.1 1).bind λO=>(Aq j.Rows 3).bind λU=>(cond (O.Id==U.Id) (cond (I.2==0) (cond (x8.2==5) ((qY j).bind λY=>(cond (Y==5) ((Aq q.1 0).bind λZ=>(a1T j Z).bind λx27=>(Aq q.1 0).bind λx28=>VJ (x27.Id==x28.Id)) (VJ false))) (VJ false)) (VJ false)) (VJ false))) (VJ false)) (VJ false))) (VJ false)) (VJ false)) (VJ false))))
def Vq (r:Ac)(h:Sz=some r):Dh 9 [] [] (Ai r) []:=Dy func9 rfl<|AZ<|AO h λx1 j h=>BL<|.X (ai6  x1 j)<|AO h λj q h=>AP 1<|.X (a7K q)<|Aa<|AP 1<|.p (BK Au j.1)<|.a 1<|AO h λj q h=>.mg 19 5 (Ai j) (.bi q (k2:=λh=>.a 2<|.Z (BK D5 x1.Rows)<|CU))<|.aT<|BF h Bo λh=>Bj h λj q O Y h=>Ee A8 A8 A8 (.a 3<|.p (BG D5 q)<|.a 2<|.ca (a5x Y)<|.a 5<|.nil _)<|AO h λj q h=>AP 1<|.X (a5x q)<|D9 (λ(v9:Ac)=>(λv9=>⟨Az 106 [(0,Ai v9)],[],0⟩) v9) (λv9=>VJ v9) r (λv9 h=>CV)<|λj=>AO h λq Y h=>Ed h (λx6 h=>Ed h (λx7 h=>Ed h (λx8 h=>Bj h λx9 J I L h=>Ed h (λx9 h=>Ed h (λI h=>Bj h λM Z U x16 h=>Ed h (λM h=>Ed h (λU h=>Ed h (λx17 h=>AO h λx18 x19 h=>Ed h (λO6 h=>Hr h λx21 Zy x23 x24 x25 D6 h=>DR A8 A8 A8 (.a 1<|.ca (O9 Y).view<|.p (BK Ah q)<|.a 1<|.c (BM some x6)<|.a 3<|.c (BM some x7)<|.a 2<|.c (BM some x8)<|.a 1<|.p (BG Au J)<|.a 4<|.p (BG D5 L)<|.a 4<|.c (BM some x9)<|.a 1<|.p (BK Au O.1)<|.a 2<|.c (BM some I)<|.a 1<|.p (BG Au Z)<|.a 4<|.p (BG D5 x16)<|.a 4<|.c (BM some M)<|.a 3<|.c (BM some U)<|.a 3<|.c (BM some x17)<|.a 1<|.ca (a2M x19)<|.a 2<|.c (BM some O6)<|.a 2<|.p (BG Au Zy)<|.a 1<|.ca (aFP x24)<|.a 2<|.p (BG Au D6)<|.a 5<|.nil _)<|j (x23.Id==x25.Id) (Ag []) h) λO6 h=>DR A8 A8 A8 (.a 1<|.ca (O9 Y).view<|.p (BK Ah q)<|.a 1<|.c (BM some x6)<|.a 3<|.c (BM some x7)<|.a 2<|.c (BM some x8)<|.a 1<|.p (BG Au J)<|.a 4<|.p (BG D5 L)<|.a 4<|.c (BM some x9)<|.a 1<|.p (BK Au O.1)<|.a 2<|.c (BM some I)<|.a 1<|.p (BG Au Z)<|.a 4<|.p (BG D5 x16)<|.a 4<|.c (BM some M)<|.a 3<|.c (BM some U)<|.a 3<|.c (BM some x17)<|.a 1<|.ca (a2M x19)<|.a 2<|.c (BM some O6)<|.a 13<|.nil _)<|j false (Ag []) h) λx17 h=>DR A8 A8 A8 (.a 1<|.ca (O9 Y).view<|.p (BK Ah q)<|.a 1<|.c (BM some x6)<|.a 3<|.c (BM some x7)<|.a 2<|.c (BM some x8)<|.a 1<|.p (BG Au J)<|.a 4<|.p (BG D5 L)<|.a 4<|.c (BM some x9)<|.a 1<|.p (BK Au O.1)<|.a 2<|.c (BM some I)<|.a 1<|.p (BG Au Z)<|.a 4<|.p (BG D5 x16)<|.a 4<|.c (BM some M)<|.a 3<|.c (BM some U)<|.a 3<|.c (BM some x17)<|.a 18<|.nil _)<|j false (Ag []) h) λU h=>DR A8 A8 A8 (.a 1<|.ca (O9 Y).view<|.p (BK Ah q)<|.a 1<|.c (BM some x6)<|.a 3<|.c (BM some x7)<|.a 2<|.c (BM some x8)<|.a 1<|.p (BG Au J)<|.a 4<|.p (BG D5 L)<|.a 4<|.c (BM some x9)<|.a 1<|.p (BK Au O.1)<|.a 2<|.c (BM some I)<|.a 1<|.p (BG Au Z)<|.a 4<|.p (BG D5 x16)<|.a 4<|.c (BM some M)<|.a 3<|.c (BM some U)<|.a 22<|.nil _)<|j false (Ag []) h) λM h=>DR A8 A8 A8 (.a 1<|.ca (O9 Y).view<|.p (BK Ah q)<|.a 1<|.c (BM some x6)<|.a 3<|.c (BM some x7)<|.a 2<|.c (BM some x8)<|.a 1<|.p (BG Au J)<|.a 4<|.p (BG D5 L)<|.a 4<|.c (BM some x9)<|.a 1<|.p (BK Au O.1)<|.a 2<|.c (BM some I)<|.a 1<|.p (BG Au Z)<|.a 4<|.p (BG D5 x16)<|.a 4<|.c (BM some M)<|.a 26<|.nil _)<|j false (Ag []) h) λI h=>DR A8 A8 A8 (.a 1<|.ca (O9 Y).view<|.p (BK Ah q)<|.a 1<|.c (BM some x6)<|.a 3<|.c (BM some x7)<|.a 2<|.c (BM some x8)<|.a 1<|.p (BG Au J)<|.a 4<|.p (BG D5 L)<|.a 4<|.c (BM some x9)<|.a 1<|.p (BK Au O.1)<|.a 2<|.c (BM some I)<|.a 38<|.nil _)<|j false (Ag []) h) λO h=>DR A8 A8 A8 (.a 1<|.ca (O9 Y).view<|.p (BK Ah q)<|.a 1<|.c (BM some x6)<|.a 3<|.c (BM some x7)<|.a 2<|.c (BM some x8)<|.a 1<|.p (BG Au J)<|.a 4<|.p (BG D5 L)<|.a 4<|.c (BM some O)<|.a 43<|.nil _)<|j false (Ag []) h) λO h=>DR A8 A8 A8 (.a 1<|.ca (O9 Y).view<|.p (BK Ah q)<|.a 1<|.c (BM some x6)<|.a 3<|.c (BM some x7)<|.a 2<|.c (BM some O)<|.a 55<|.nil _)<|j false (Ag []) h) λO h=>DR A8 A8 A8 (.a 1<|.ca (O9 Y).view<|.p (BK Ah q)<|.a 1<|.c (BM some x6)<|.a 3<|.c (BM some O)<|.a 58<|.nil _)<|j false (Ag []) h) λO h=>DR A8 A8 A8 (.a 1<|.ca (O9 Y).view<|.p (BK Ah q)<|.a 1<|.c (BM some O)<|.a 62<|.nil _)<|j false (Ag []) h
def fG (j:Int):AB Int:=(cond (j==1) (some 3) (cond (j==0) (some 2) (cond (j==2) (some 1) (some 0))))
def aQp :=Dk func178 rfl fG AU AU λj r h=>AZ<|Aa<|AZ<|BF h Bo λh=>Aa<|AZ<|BF h Bo λh=>a1d
def a2o (j:Int):AB (Int×Int):=some (j,0)
def sI (q:Aj)(j:Int)(O:(Io×Ac))(M:Int):AB (Int×Int):=(JK q j).bind λI=>(cond (O.1.Err==0) (some (I.1.Kind==5)) (some false)).bind λU=>(cond U ((fG I.1.Content.N).bind λJ=>(fG M).bind λL=>some (decide (J>L))) (some false)).bind λY=>(cond Y (a2o I.1.Content.N) (a2o M))
def a6l (q:Aj)(I:FP)(j:Int):AB (Int×Int):=(U9 I j).bind λJ=>(cond (!J.2) (some (0,5)) ((Z5 J.1.Before 5 CS).bind λL=>(cond L.2 ((JK q L.1).bind λM=>(cond M.2 (sI q j J M.1.Content.N) (sI q j J 0))) (sI q j J 0))))
def aaI :=JF func121 rfl a6l BI MR AU (λr=>.eu [AU r.1,AU r.2]) λq Y j r h=>AZ<|AO h λJ I h=>AP 2<|.X (ZU I)<|Aa<|AZ<|BF h Bo λh=>Ee A8 A8 A8 (.a 7<|.nil _)<|AZ<|D9 (λ(M:Int)=>(λq j J M=>⟨Az 73 [(0,BI q),(2,AU j),(11,Ai (J.1.Err==0)),(12,AU M)],[],0⟩) q j J M) (λM=>sI q j J M) r (λM h=>AO h λJ I h=>AP 2<|.X (KD I)<|D9 (λ(O:Int)=>(λO=>⟨Az 73 [(12,AU O)],[],0⟩) O) (λO=>a2o O) r (λO h=>AZ<|CV)<|λI=>AP 1<|AO h λU L h=>.mg 55 4 (Ai U) (.bi L)<|.a 1<|AO h λU L h=>.mg 61 7 (Ai U) (Cb L (λe i=>by subst e;have h:=i;exact Bj h λI U L Z h=>.a 3<|.ca (aQp U)<|.a 1<|.X (aQp Z)<|CU))<|.aT<|BF h (λh=>Cc<|I J.1.Content.N (Ag []) h) λh=>I M (Ag []) h)<|λI=>AO h λU L h=>AP 1<|.X (a9H L)<|AZ<|BF h (λh=>AO h λJ L h=>AP 2<|.X (KD L)<|AZ<|BF h (λh=>Cc<|I J.1.Content.N (Ag []) h) λh=>I 0 (Ag []) h) λh=>I 0 (Ag []) h
def aKC (q:BX)(I:Aj)(j:BH)(k3:(AV->Int->AB Int)):AV->Int->AB Int:=λJ v2=>(bif v2<(q.length:Int) then(Aq q v2).bind λL=>(CZ 8 J [L.Id]).bind λM=>k3 M (Ar (v2+1))else(fQ I J).bind λO=>(fM O j).bind λU=>some U)
def aRM (q:BX)(I:Aj)(j:BH):AV->Int->AB Int:=aS (aKC q I j) Aw
def aH (q:Aj)(I:BX)(j:BH):AB Int:=aRM I q j [] 0
def a4D :=JF func179 rfl aH BI DU CP AU λJ q j r h=>AZ<|BL<|.Y (Gn DL zero3 [])<|Aa<|AZ<|Ak<|DJ (λL I=>⟨Az 29 [(0,BI J),(1,DU q),(2,CP j),(7,.aQ 0),(8,AU I)],[(CO L)],0⟩) _ _ _ _ (Ag [AQ 0]) h<|λL I O U M h=>Aa<|AP 2<|.Z (BK BQ q)<|Bg h (λh=>Aa<|Ak<|Bj h λL I U M h=>CQ<|.a 3<|.p (BG BQ I)<|.a 2<|.p (Dj DL zero3 [Ah L.Id])<|.f (DX (k:=0) Ah M DL A8 (λ_=>rfl) Ba)<|.aN<|Cc<|O _ _ _ (Ag [AQ 1]) h) λh=>CW<|Bj h λL I O M h=>AP 2<|.conv _ (IW (e:=3) (s:=1) 0 (xs:=List.map Ah U) A8)<|.ca (a95 I).view<|.a 1<|.X (a6Z M)<|CV
def aCr (j:AV):AB AV:=some j
def a4P (I:Aj)(J:FP)(q:Int)(j:BH):AB AV:=(U9 J q).bind λL=>(cond (!L.2) (some []) ((aH I L.1.Before j).bind λU=>(JK I q).bind λM=>(cond (L.1.Err==0) (some (M.1.Kind==2)) (some false)).bind λY=>(cond Y (some (M.1.Key.toList==j.toList)) (some false)).bind λZ=>(cond Z ((CZ 8 [U] [M.1.Content.N]).bind λO=>aCr O) (aCr [U]))))
def ak2 {eU akG qC DC r}(h:a4P eU akG qC DC=some r):Dh 122 [BI eU,MR akG,AU qC,CP DC] [] (.aQ 0) [(CO r)]:=Dy func122 rfl<|BL<|.f (C9 3 1)<|.aT<|AO h λM j h=>AP 2<|.X (ZU j)<|Aa<|AZ<|BF h (λh=>BL<|.f (C9 3 1)<|.aT<|Jt) λh=>Ee A8 A8 A8 (.a 7<|.nil _)<|AO h λj q h=>AP 3<|.ca (a4D q)<|.Y (Gn DL zero3 [Ah j])<|AO h λM q h=>AP 2<|.X (KD q)<|D9 (λ(I:(AA Int))=>(λI=>⟨Az 59 [(13,.aQ 0)],[(CO I)],0⟩) I) (λI=>aCr I) r (λI h=>AZ<|Py)<|λq=>AP 1<|AO h λJ L h=>.mg 41 4 (Ai J) (.bi L)<|.a 1<|AO h λJ L h=>.mg 47 4 (Ai J) (Cb L)<|.aT<|BF h (λh=>AO h λj J h=>CQ<|.a 4<|.p (Dj DL zero3 [Ah M.1.Content.N])<|.f (DX (k:=2) Ah J DL A8 (λ_=>rfl) Ba)<|.aN<|q j (Ag [AQ 4]) h) λh=>q [j] (Ag [AQ 2]) h
def a6f (q:Aj)(j:AV):AB AV:=(uD q j).bind λI=>(ZO q I false).bind λJ=>some J
def ajK :=FZ func250 rfl a6f BI BZ CO λq j r h=>BL<|.f (C9 3 1)<|.aT<|Bj h λL I M J h=>AP 3<|.f (x:=.aQ 1) (JR [BI q,BZ j] (aNE I))<|.Y (x:=.aQ 2) (E5 [.ent 1] [BI q,.aQ 1,Ai false] (aNr J))<|Jt
def a94 (I:Aj)(j:Int)(q:Int):AB Ac:=(cond (j != q) ((a6f I [q]).bind λJ=>(Oq J j).bind λL=>some L) (some false)).bind λM=>some M
def apq :=JF func180 rfl a94 BI AU AU Ai λI J j r h=>AZ<|AP 3<|AO h λL q h=>.mg 10 7 (Ai L) (.bi q (λh=>Bj h λL q O M h=>.a 2<|.p (Dj DL zero3 [Ah j])<|.ca (ajK q).view<|.a 1<|.X (Qc M)<|CU))<|.aW<|CV
def aJq (j:Bv)(J:FP)(q:Int)(I:BH)(k4:(Int->AB Ac)):Int->AB Ac:=λM=>(cond (M<(j.Rows.length:Int)) ((Aq j.Rows M).bind λL=>(U9 J L.Id).bind λx7=>(cond (L.Status==4) ((cond (L.Id==q) (some true) ((a94 j.Events q L.Id).bind λO=>some O)).bind λU=>some U) (some false)).bind λx8=>(cond x8 ((aH j.Events x7.1.After I).bind λY=>some (Y==3)) (some false)).bind λZ=>(cond Z (some true) (k4 (Ar (M+1))))) (some false))
def aXM (I:Bv)(J:FP)(q:Int)(j:BH):Int->AB Ac:=bg (aJq I J q j) Aw
def a8X (q:Bv)(J:FP)(I:Int)(j:BH):AB Ac:=(aH q.Events q.State j).bind λL=>(cond (L==3) (some true) (aXM q J I j 0))
def aq4 {lC akG qC DC r}(h:a8X lC akG qC DC=some r):Dh 123 [FC lC,MR akG,AU qC,CP DC] [] (Ai r) []:=Dy func123 rfl<|AZ<|Aa<|AO h λq j h=>AP 5<|.X (a4D j)<|BF h Bo λh=>Aa<|AZ<|Ak<|Dq (λq=>⟨Az 65 [(1,MR akG),(2,AU qC),(3,CP DC),(4,.ptr 0 0),(9,AU q)],[.box (BD (EG lC))],0⟩) _ _ _ (Ag [AQ 0]) h<|λq j I J h=>Aa<|AP 3<|.Z (BK D5 lC.Rows)<|Bg h (λh=>Aa<|Ak<|AO h λq j h=>AP 3<|.Z (BG D5 j)<|AO h λj J h=>AP 3<|.X (ZU J)<|AP 3<|AO h λJ L h=>.mg 42 13 (Ai J) (.bi L (λh=>.a 4<|AO h λj I h=>.mg 47 7 (Ai j) (.bi I (k2:=λh=>AO h λj I h=>.a 5<|.X (apq I)<|CU))<|.aW<|CU))<|.a 1<|AO h λq J h=>.mg 57 7 (Ai q) (Cb J (λe i=>by subst e;have h:=i;exact AO h λq I h=>.a 5<|.X (a4D I)<|CU))<|.aT<|BF h Bo λh=>Cc<|I _ _ (Ag [AQ 0]) h) λh=>Ei
def a2D (I:Bv)(J:FP)(j:Int)(q:BH):AB Int:=(eS I j).bind λx1=>(cond (!x1.2) (some true) (some (x1.1.Status != 4))).bind λx2=>(cond x2 (some 5) ((a6l I.Events J j).bind λL=>(cond (L.2 != 0) (some 5) ((a4P I.Events J j q).bind λx7=>(cond (L.1==1) (some true) ((Oq x7 3).bind λM=>some M)).bind λx8=>(cond x8 (some 0) ((cond (L.1==0) (some true) ((cond (L.1==2) ((Oq x7 1).bind λO=>some O) (some false)).bind λU=>some U)).bind λY=>(cond Y ((a8X I J j q).bind λZ=>some Z) (some false)).bind λx17=>(cond x17 (some 0) (some 23))))))))
def aX3 {lC akG qC DC r}(h:a2D lC akG qC DC=some r):Dh 76 [FC lC,MR akG,AU qC,CP DC] [] (AU r) []:=Dy func76 rfl<|AZ<|AO h λI j h=>AP 2<|.X (a4L j)<|Aa<|AP 2<|AO h λI j h=>.mg 22 4 (Ai I) (.bi j)<|.aT<|BF h Bo λh=>AO h λI j h=>AP 4<|.X (aaI j)<|Aa<|AZ<|BF h Bo λh=>AO h λI j h=>AP 5<|.X (ak2 j).view<|Aa<|AP 2<|AO h λj q h=>.mg 45 3 (Ai j) (.bi q (k2:=λh=>AO h λj q h=>.a 1<|.X (Qc q)<|CU))<|.aT<|BF h Bo λh=>Aa<|AP 2<|AO h λj q h=>.mg 51 7 (Ai j) (.bi q (k2:=λh=>.a 2<|AO h λj q h=>.mg 54 3 (Ai j) (.bi q (λh=>AO h λj q h=>.a 1<|.X (Qc q)<|CU))<|.aW<|CU))<|.a 1<|AO h λI j h=>.mg 60 5 (Ai I) (Cb j (λe i=>by subst e;have h:=i;exact AO h λI j h=>.a 4<|.X (aq4 j)<|CU))<|.aT<|Ir
def a9K (j:(AV->Int->AB AV))(q:Int)(I:AV):AB AV:=j I (Ar (q+1))
def aIl (j:Bv)(O:FP)(q:BH)(M:(AV->Int->AB AV)):AV->Int->AB AV:=λv2 I=>(cond (I<(j.Rows.length:Int)) ((Aq j.Rows I).bind λU=>(a2D j O U.Id q).bind λY=>(cond (Y==0) ((Aq j.Rows I).bind λJ=>(CZ 8 v2 [J.Id]).bind λL=>a9K M I L) (a9K M I v2))) (some v2))
def aQI (q:Bv)(I:FP)(j:BH):AV->Int->AB AV:=aS (aIl q I j) Aw
def a4C (q:Bv)(j:BH):AB AV:=(WS q.Events).bind λI=>aQI q I j [] 0
def aZX :=FZ func73 rfl a4C FC CP CO λq j r h=>AP 1<|.f (C9 3 1)<|.aT<|BL<|.Y (Gn DL zero3 [])<|AO h λJ I h=>AP 2<|.X (lJ I).view<|Aa<|AZ<|Ak<|DJ (λI L=>⟨Az 40 [(1,CP j),(2,.ptr 0 0),(5,.aQ 1),(6,MR J),(7,AU L)],[.box (BD (EG q)),(CO I)],0⟩) _ _ _ _ (Ag [AQ 0,AQ 2]) h<|λI L O U Y h=>Aa<|AP 3<|.Z (BK D5 q.Rows)<|Bg h (λh=>D9 (λ(M:(AA Int))=>(λj J I q M=>⟨Az 40 [(1,CP j),(2,.ptr 0 0),(5,.aQ 1),(6,MR J),(7,AU I)],[.box (BD (EG q)),(CO M)],0⟩) j J Y q M) (λM=>a9K L Y M) r (λM h=>rW)<|λI=>Ak<|Bj h λL O Y Z h=>Ee A8 A8 A8 (.a 5<|.p (BG D5 O)<|.a 3<|.ca (aX3 Z)<|.a 1<|.nil _)<|BF h (λh=>Bj h λJ L O U h=>CQ<|.a 4<|.p (BG D5 L)<|.a 2<|.p (Dj DL zero3 [Ah J.Id])<|.f (DX (k:=1) Ah U DL A8 (λ_=>rfl) Ba)<|.aN<|I O (Ag [AQ 0,AQ 2]) h) λh=>I U (Ag [AQ 0,AQ 1]) h) λh=>jI
def a2c (j:(Eb->Int->AB Eb))(q:Int)(I:Eb):AB Eb:=j I (Ar (q+1))
def aBY (j:Bv)(U:AV)(O:(Eb->Int->AB Eb)):Eb->Int->AB Eb:=λv2 q=>(cond (q<(j.Rows.length:Int)) ((Aq j.Rows q).bind λY=>(Oq U Y.Id).bind λZ=>(cond Z ((Aq j.Rows q).bind λI=>some (!I.Gone)) (some false)).bind λJ=>(cond J ((Aq j.Rows q).bind λL=>(CZ 32 v2 [L]).bind λM=>a2c O q M) (a2c O q v2))) (some v2))
def aTT (j:Bv)(q:AV):Eb->Int->AB Eb:=aS (aBY j q) Aw
def pq (q:Bv)(j:BH):AB Eb:=(a4C q j).bind λI=>aTT q I [] 0
def aET :=FZ func37 rfl pq FC CP ND λj M r h=>AP 1<|.f (C9 66 4)<|.aT<|AO h λI q h=>AP 2<|.X (aZX q).view<|BL<|.f (C9 66 4)<|.aT<|Aa<|AZ<|Ak<|DJ (λq J=>⟨Az 44 [(2,.ptr 0 0),(5,BZ I),(6,.aQ 1),(7,AU J)],[.box (BD (EG j)),(ND q)],0⟩) _ _ _ _ (Ag [AQ 0,AQ 2]) h<|λq J O U Y h=>Aa<|AP 3<|.Z (BK D5 j.Rows)<|Bg h (λh=>D9 (λ(L:(AA DN))=>(λI q j L=>⟨Az 44 [(2,.ptr 0 0),(5,BZ I),(6,.aQ 1),(7,AU q)],[.box (BD (EG j)),(ND L)],0⟩) I Y j L) (λL=>a2c J Y L) r (λL h=>rW)<|λq=>Ak<|Bj h λJ O Y Z h=>AP 4<|.p (BG D5 O)<|.a 2<|.ca (Qc Z)<|.a 1<|AO h λI J h=>.mg 27 7 (Ai I) (Cb J (λe i=>by subst e;have h:=i;exact AO h λI q h=>.a 3<|.Z (BG D5 q)<|CU))<|.aT<|BF h (λh=>Bj h λI J O U h=>CQ<|.a 4<|.p (BG D5 J)<|.a 1<|.p (Dj UL ZH [D5 I])<|.f (DX (k:=1) D5 U UL A8 (λ_=>rfl) Ba)<|.aN<|q O (Ag [AQ 0,AQ 2]) h) λh=>q U (Ag [AQ 0,AQ 1]) h) λh=>jI
def a9d (j:Ac):AB Int:=(cond j (some 20) (some 0))
def a1W (q:Aj)(I:BX)(j:Ad):AB Int:=(cond (j.Kind != 14) (some 1) ((JK q j.Content.Target).bind λL=>(cond (!L.2) (some 5) ((aH q I j.bG).bind λO=>(cond (O != 3) (some 18) ((uQ q I).bind λU=>(jg U).bind λM=>(cond (!(L.1.bG.toList==j.bG.toList)) ((Rl M.1 j.bG).bind λJ=>a9d (decide (J<M.1.gy))) (a9d false))))))))
def aki :=JF func130 rfl a1W BI DU Cm AU λM O J r h=>AZ<|Aa<|AZ<|BF h Bo λh=>AO h λI j h=>AP 4<|.X (KD j)<|Aa<|AZ<|BF h Bo λh=>Aa<|AO h λI j h=>AP 4<|.X (a4D j)<|BF h Bo λh=>Bj h λI j U L h=>AP 2<|.ca (aST j).view<|.X (a5h L)<|Aa<|D9 (λ(q:Ac)=>(λq=>⟨Az 51 [(50,Ai q)],[],0⟩) q) (λq=>a9d q) r (λq h=>Ir)<|λI=>Ed h (λj h=>AO h λL Y h=>DR A8 A8 A8 (.a 5<|.c (BM some j)<|.a 3<|.ca (Y9 Y)<|.a 4<|.nil _)<|I (decide (L<U.1.gy)) (Ag []) h) λj h=>DR A8 A8 A8 (.a 5<|.c (BM some j)<|.a 8<|.nil _)<|I false (Ag []) h
def xg (j:(Aj->Int->AB Aj))(q:Int)(I:Aj):AB Aj:=j I (Ar (q+1))
def aFu (L:AV)(j:Aj)(x1:FP)(k6:(Aj->Int->AB Aj)):Aj->Int->AB Aj:=λM J=>(cond (J<(L.length:Int)) ((Aq L J).bind λO=>(JK j O).bind λq=>(Aq L J).bind λU=>(U9 x1 U).bind λI=>(cond I.2 (some (I.1.Err==0)) (some false)).bind λY=>(cond Y (some (q.1.Kind==14)) (some false)).bind λZ=>(cond Z ((a1W j I.1.Before q.1).bind λO6=>some (O6==0)) (some false)).bind λx18=>(cond x18 ((CZ 376 M [q.1]).bind λZy=>xg k6 J Zy) (xg k6 J M))) (some M))
def aT3 (q:AV)(j:Aj)(I:FP):Aj->Int->AB Aj:=aS (aFu q j I) Aw
def a4i (j:Aj):AB Aj:=(WS j).bind λq=>(cond ((q.length:Int)==0) (some []) ((zy j).bind λI=>aT3 I j q [] 0))
def akv :=JM func83 rfl a4i BI Et λq r h=>BL<|.f (C9 56 29)<|.aT<|AO h λI J h=>AP 1<|.X (lJ J).view<|Aa<|AP 1<|.Z (BK Lj I)<|BF h (λh=>BL<|.f (C9 56 29)<|.aT<|JQ) λh=>AO h λJ j h=>AP 1<|.X (aLw j).view<|BL<|.f (C9 56 29)<|.aT<|Aa<|AZ<|Ak<|DJ (λj L=>⟨Az 66 [(0,BI q),(3,MR I),(4,BZ J),(5,.aQ 0),(6,AU L)],[(Et j)],0⟩) _ _ _ _ (Ag [AQ 1]) h<|λj L U Y O h=>Aa<|AP 2<|.Z (BK Ah J)<|Bg h (λh=>D9 (λ(M:(AA Ad))=>(λq I J j M=>⟨Az 66 [(0,BI q),(3,MR I),(4,BZ J),(5,.aQ 0),(6,AU j)],[(Et M)],0⟩) q I J O M) (λM=>xg L O M) r (λM h=>yZ)<|λJ=>Ak<|Bj h λj L U O h=>AP 3<|.p (BG Ah L)<|.a 1<|.X (KD O)<|Bj h λj L O Z h=>AP 3<|.p (BG Ah L)<|.a 1<|.X (ZU Z)<|AP 1<|AO h λI j h=>.mg 43 4 (Ai I) (.bi j)<|.a 1<|AO h λI j h=>.mg 49 3 (Ai I) (Cb j)<|.a 1<|AO h λI j h=>.mg 54 6 (Ai I) (Cb j (λe i=>by subst e;have h:=i;exact AO h λI J h=>.a 4<|.X (aki J)<|CU))<|.aT<|BF h (λh=>AO h λI j h=>CQ<|.a 2<|.p (Dj Gl Jv [Au U.1])<|.f (DX (k:=0) Au j Gl A8 (λ_=>rfl) Ba)<|.aN<|J I (Ag [AQ 3]) h) λh=>J Y (Ag [AQ 0]) h) λh=>Hf
def aIM (q:Aj)(I:(AV->Int->AB AV)):AV->Int->AB AV:=λv2 j=>(cond (j<(q.length:Int)) ((Aq q j).bind λJ=>(iq v2 J.Content.Target).bind λL=>I L (Ar (j+1))) (some v2))
def aTu (j:Aj):AV->Int->AB AV:=aS (aIM j) Aw
def uV (j:Aj):AB AV:=(a4i j).bind λq=>aTu q [] 0
def aYP :=JM func47 rfl uV BI CO λJ r h=>BL<|.f (C9 3 1)<|.aT<|AO h λq j h=>AP 1<|.X (akv j).view<|BL<|.f (C9 3 1)<|.aT<|Aa<|AZ<|Ak<|DJ (λj I=>⟨Az 23 [(3,BI q),(4,.aQ 0),(5,AU I)],[(CO j)],0⟩) _ _ _ _ (Ag [AQ 1]) h<|λj I M O L h=>Aa<|AP 2<|.Z (BK Au q)<|Bg h (λh=>Aa<|Ak<|Bj h λq j I L h=>CQ<|.a 3<|.p (BG Au j)<|.a 3<|.f (x:=.aQ 1) (E5 [.ent 0] [.aQ 0,AU q.Content.Target] (aIK L))<|aAo) λh=>Hf
def aX (q:AV)(j:Ad):AB Ad:=(Oq q j.Id).bind λI=>(cond I (some true) ((qG j).bind λJ=>some (!J))).bind λL=>(cond L ((a1q j).bind λM=>some M) (some j))
def aWX :=Dc func46 rfl aX BZ Cm Cm λJ j r h=>AZ<|Aa<|AO h λI q h=>AP 3<|.ca (Qc q)<|.a 1<|AO h λI q h=>.mg 10 3 (Ai I) (Cb q (k2:=λe i=>by subst e;have h:=i;exact AO h λI q h=>.a 1<|.X (aLD q)<|CU))<|.aT<|BF h (λh=>AO h λI q h=>AP 1<|.X (aR9 q)<|ES<|aXm) λh=>AZ<|ES<|aT9
def aBx (j:(Aj->Int->AB Aj))(q:Int)(I:Aj):AB Aj:=j I (Ar (q+1))
def a5i (j:Eb)(q:Bv)(U:AV)(M:(Aj->Int->AB Aj)):Aj->Int->AB Aj:=λv2 I=>(cond (I<(j.length:Int)) ((Aq j I).bind λY=>(JK q.Events Y.Id).bind λO=>(cond O.2 ((aX U O.1).bind λJ=>(CZ 376 v2 [J]).bind λL=>aBx M I L) (aBx M I v2))) (some v2))
def aXT (j:Eb)(q:Bv)(I:AV):Aj->Int->AB Aj:=aS (a5i j q I) Aw
def zO (j:Bv)(q:Eb):AB Aj:=(uV j.Events).bind λI=>aXT q j I [] 0
def aMf :=FZ func38 rfl zO FC J8 Et λq j r h=>AP 1<|.f (C9 56 29)<|.aT<|BL<|.f (C9 56 29)<|.aT<|AO h λM I h=>AP 2<|.X (aYP I).view<|Aa<|AZ<|Ak<|DJ (λI J=>⟨Az 38 [(1,J8 j),(2,.ptr 0 0),(5,.aQ 1),(6,BZ M),(7,AU J)],[.box (BD (EG q)),(Et I)],0⟩) _ _ _ _ (Ag [AQ 0,AQ 2]) h<|λI J O U Y h=>Aa<|AP 2<|.Z (BK D5 j)<|Bg h (λh=>D9 (λ(L:(AA Ad))=>(λj M I q L=>⟨Az 38 [(1,J8 j),(2,.ptr 0 0),(5,.aQ 1),(6,BZ M),(7,AU I)],[.box (BD (EG q)),(Et L)],0⟩) j M Y q L) (λL=>aBx J Y L) r (λL h=>rW)<|λI=>Ak<|Bj h λJ O Y Z h=>Uz [Qg 4 (Go.Op.indexAddr 23 (Go.Operand.tmp 22) (Go.Operand.tmp 23)) (λM I J=>Uw (k:=.i64) D5 O QJ Oe A8 J),ZI 7 (KD Z) aQy] 54<|AZ<|BF h (λh=>Bj h λJ O U Z h=>CQ<|.a 3<|.ca (aWX O)<|.p (Dj Gl Jv [Au J])<|.f (DX (k:=1) Au Z Gl A8 (λ_=>rfl) Ba)<|.aN<|I U (Ag [AQ 0,AQ 3]) h) λh=>I U (Ag [AQ 0,AQ 1]) h) λh=>jI
def aAc (j:(Eb->Int->AB (Aj×Int×Ac)))(q:Int)(I:Eb):AB (Aj×Int×Ac):=j I (Ar (q+1))
def XL (q:Bv)(I:Eb)(j:Int)(v2:Eb)(J:Int):AB (Aj×Int×Ac):=(zO q I).bind λL=>some (L,J,decide ((Hl (EL j 0) (v2.length:Int))<(v2.length:Int)))
def a5f (M:Eb)(q:Int)(j:Int)(I:Bv)(Z:(Eb->Int->AB (Aj×Int×Ac))):Eb->Int->AB (Aj×Int×Ac):=λv2 L=>(bif L<(M.length:Int) then(Aq M L).bind λx8=>(cond (x8.Pos<q) ((Aq M L).bind λO=>(CZ 32 v2 [O]).bind λU=>aAc Z L U) (aAc Z L v2))else(Gx v2 (Ar ((v2.length:Int)-(Hl (EL j 0) (v2.length:Int)))) ((v2).length)).bind λJ=>(cond ((Hl (EL j 0) (v2.length:Int))>0) ((Aq J 0).bind λY=>XL I J j v2 Y.Pos) (XL I J j v2 0)))
def aUQ (J:Eb)(q:Int)(j:Int)(I:Bv):Eb->Int->AB (Aj×Int×Ac):=aS (a5f J q j I) Aw
def a3P (J:Bv)(q:BH)(I:Int)(j:Int):AB (Aj×Int×Ac):=(pq J q).bind λL=>aUQ L I j J [] 0
def ao6 {I lZ q j r}(h:a3P I lZ q j=some r):Dh 11 [FC I,CP lZ,AU q,AU j] [] (.eu [BI r.1,AU r.2.1,Ai r.2.2]) []:=Dy func11 rfl<|AZ<|AO h λJ L h=>AP 2<|.X (aET L).view<|BL<|.f (C9 66 4)<|.aT<|Aa<|AZ<|Ak<|DJ (λL O=>⟨Az 65 [(2,AU q),(3,AU j),(4,.ptr 0 0),(11,J8 J),(12,.aQ 1),(13,AU O)],[.box (BD (EG I)),(ND L)],0⟩) _ _ _ _ (Ag [AQ 0,AQ 1]) h<|λL O Z U x6 h=>Aa<|AP 2<|.Z (BK D5 J)<|Bg h (λh=>D9 (λ(Y:(AA DN))=>(λq j J L I Y=>⟨Az 65 [(2,AU q),(3,AU j),(4,.ptr 0 0),(11,J8 J),(12,.aQ 1),(13,AU L)],[.box (BD (EG I)),(ND Y)],0⟩) q j J x6 I Y) (λY=>aAc O x6 Y) r (λY h=>Cc<|Z _ _ _ (Ag [AQ 0,AQ 1]) h)<|λJ=>Ak<|AO h λL O h=>AP 2<|.Z (BG D5 O)<|BF h (λh=>Bj h λL O Z U h=>CQ<|.a 3<|.p (BG D5 O)<|.a 1<|.p (Dj UL ZH [D5 L])<|.f (DX (k:=1) D5 U UL A8 (λ_=>rfl) Ba)<|.aN<|J Z (Ag [AQ 0,AQ 2]) h) λh=>J U (Ag [AQ 0,AQ 1]) h) λh=>CW<|AP 1<|.p (x:=(AU (EL j 0))) bW<|.a 1<|.p (Iy (k:=1) (e':=66) (s:=4) D5 U A8 QJ)<|.Z (x:=(AU (Hl (EL j 0) (U.length:Int)))) oV<|AO h λJ L h=>AP 2<|.p (Iy (k:=1) (e':=66) (s:=4) D5 U A8 QJ)<|.a 2<|.conv _ (IW (e:=66) (s:=4) 1 (xs:=List.map D5 U) A8)<|.Z (Ou D5 L O5 (λ_=>rfl) QJ Oe (λ_=>rfl) rfl)<|AZ<|D9 (λ(M:Int)=>(λJ j L I M=>⟨Az 65 [(4,.ptr 0 0),(12,J8 J),(14,AU (Hl (EL j 0) (J.length:Int))),(15,J8 L),(16,AU M)],[.box (BD (EG I))],0⟩) U j J I M) (λM=>XL I J j U M) r (λM h=>AO h λL O h=>AP 2<|.ca (aMf O).view<|.a 3<|.Z (BK D5 U)<|CV)<|λJ=>AZ<|BF h (λh=>AO h λL O h=>CQ<|.a 1<|.p (BG D5 O)<|.aN<|J L.Pos (Ag [AQ 0]) h) λh=>J 0 (Ag [AQ 0]) h
def a9l (j:(AV->Int->AB AV))(q:Int)(I:AV):AB AV:=j I (Ar (q+1))
def aG1 (I:Eb)(j:Int)(M:(AV->Int->AB AV)):AV->Int->AB AV:=λv2 q=>(cond (q<(I.length:Int)) ((Aq I q).bind λO=>(cond (O.Pos>=j) ((Aq I q).bind λJ=>(CZ 8 v2 [J.Id]).bind λL=>a9l M q L) (a9l M q v2))) (some v2))
def aMG (q:Eb)(j:Int):AV->Int->AB AV:=aS (aG1 q j) Aw
def a4N (I:Bv)(j:BH)(q:Int):AB AV:=(pq I j).bind λJ=>aMG J q [] 0
def rO {lC lZ j r}(h:a4N lC lZ j=some r):Dh 14 [FC lC,CP lZ,AU j] [] (.aQ 0) [(CO r)]:=Dy func14 rfl<|AP 1<|.f (C9 3 1)<|.aT<|AO h λI q h=>AP 2<|.X (aET q).view<|BL<|.f (C9 3 1)<|.aT<|Aa<|AZ<|Ak<|DJ (λq J=>⟨Az 35 [(2,AU j),(7,J8 I),(8,.aQ 0),(9,AU J)],[(CO q)],0⟩) _ _ _ _ (Ag [AQ 2]) h<|λq J M O U h=>Aa<|AP 2<|.Z (BK D5 I)<|Bg h (λh=>D9 (λ(L:(AA Int))=>(λj I q L=>⟨Az 35 [(2,AU j),(7,J8 I),(8,.aQ 0),(9,AU q)],[(CO L)],0⟩) j I U L) (λL=>a9l J U L) r (λL h=>Oc)<|λI=>Ak<|AO h λq J h=>AP 2<|.Z (BG D5 J)<|BF h (λh=>Bj h λq J M O h=>CQ<|.a 3<|.p (BG D5 J)<|.a 2<|.p (Dj DL zero3 [Ah q.Id])<|.f (DX (k:=0) Ah O DL A8 (λ_=>rfl) Ba)<|.aN<|I M (Ag [AQ 1]) h) λh=>I O (Ag [AQ 0]) h) λh=>Hf
def aHS (j:AV)(q:AV)(k3:(Int->AB Ac)):Int->AB Ac:=λv2=>(cond (v2<(j.length:Int)) ((Aq j v2).bind λI=>(Aq q v2).bind λJ=>(cond (I != J) (some false) (k3 (Ar (v2+1))))) (some true))
def aS9 (j:AV)(q:AV):Int->AB Ac:=bg (aHS j q) Aw
def yg (j:AV)(q:AV):AB Ac:=(cond ((j.length:Int) != (q.length:Int)) (some false) (aS9 j q 0))
def kG :=Dc func12 rfl yg BZ BZ Ai λj q r h=>AZ<|Aa<|AP 1<|.p (BK Ah j)<|.a 1<|.Z (BK Ah q)<|BF h Bo λh=>Aa<|AZ<|Ak<|Dq (λI=>⟨Az 26 [(0,BZ j),(1,BZ q),(5,AU I)],[],0⟩) _ _ _ (Ag []) h<|λI J L M h=>Aa<|AP 2<|.Z (BK Ah j)<|Bg h (λh=>Aa<|Ak<|Bj h λI J M O h=>Ee A8 A8 A8 (.a 2<|.p (BG Ah J)<|.a 3<|.p (BG Ah O)<|.a 2<|.nil _)<|BF h Bo λh=>TD) λh=>Ei
def aIY (j:AV)(q:AV)(k3:(Int->AB Ac)):Int->AB Ac:=λv2=>(cond (v2<(j.length:Int)) ((Aq j v2).bind λI=>(Aq q v2).bind λJ=>(cond (I != J) (some false) (k3 (Ar (v2+1))))) (some true))
def aP5 (j:AV)(q:AV):Int->AB Ac:=bg (aIY j q) Aw
def xA (j:AV)(q:AV):AB Ac:=(cond ((j.length:Int) != (q.length:Int)) (some false) (aP5 j q 0))
def ap4 :=Dc func43 rfl xA BZ BZ Ai λj q r h=>AZ<|Aa<|AP 1<|.p (BK Ah j)<|.a 1<|.Z (BK Ah q)<|BF h Bo λh=>Aa<|AZ<|Ak<|Dq (λI=>⟨Az 26 [(0,BZ j),(1,BZ q),(5,AU I)],[],0⟩) _ _ _ (Ag []) h<|λI J L M h=>Aa<|AP 2<|.Z (BK Ah j)<|Bg h (λh=>Aa<|Ak<|Bj h λI J M O h=>Ee A8 A8 A8 (.a 2<|.p (BG Ah J)<|.a 3<|.p (BG Ah O)<|.a 2<|.nil _)<|BF h Bo λh=>TD) λh=>Ei
def jf (j:Ad)(q:Ad):AB Ac:=(cond (j.Id==q.Id) (some (j.Room.toList==q.Room.toList)) (some false)).bind λx1=>(cond x1 (some (j.bG.toList==q.bG.toList)) (some false)).bind λx3=>(cond x3 (some (j.Kind==q.Kind)) (some false)).bind λx5=>(cond x5 (some (j.State==q.State)) (some false)).bind λx7=>(cond x7 (some (j.Key.toList==q.Key.toList)) (some false)).bind λx9=>(cond x9 (some (j.Time==q.Time)) (some false)).bind λI=>(cond I (some (j.Depth==q.Depth)) (some false)).bind λJ=>(cond J ((xA j.bP q.bP).bind λL=>some L) (some false)).bind λM=>(cond M ((xA j.bQ q.bQ).bind λO=>some O) (some false)).bind λU=>(cond U ((UQ j.Content q.Content).bind λY=>some Y) (some false)).bind λZ=>(cond Z (some (j.Hash==q.Hash)) (some false)).bind λx24=>(cond x24 (some (j.rM.Server.toList==q.rM.Server.toList)) (some false)).bind λD6=>(cond D6 (some (j.rM.Sum==q.rM.Sum)) (some false)).bind λx28=>some x28
def a6G :=Dc func21 rfl jf Cm Cm Ai λI J r h=>AZ<|AP 5<|AO h λq j h=>.mg 10 6 (Ai q) (.bi j)<|.a 1<|AO h λq j h=>.mg 18 5 (Ai q) (Cb j)<|.a 1<|AO h λq j h=>.mg 25 5 (Ai q) (Cb j)<|.a 1<|AO h λq j h=>.mg 32 5 (Ai q) (Cb j)<|.a 1<|AO h λq j h=>.mg 39 5 (Ai q) (Cb j)<|.a 1<|AO h λq j h=>.mg 46 5 (Ai q) (Cb j)<|.a 1<|AO h λq j h=>.mg 53 5 (Ai q) (Cb j)<|.a 1<|AO h λq j h=>.mg 60 5 (Ai q) (Cb j (λe i=>aTr))<|.a 1<|AO h λq j h=>.mg 67 5 (Ai q) (Cb j (λe i=>aTr))<|.a 1<|AO h λq j h=>.mg 74 5 (Ai q) (Cb j (λe i=>by subst e;have h:=i;exact AO h λq j h=>.a 4<|.X (aFT j)<|CU))<|.a 1<|AO h λq j h=>.mg 81 5 (Ai q) (Cb j)<|.a 1<|AO h λq j h=>.mg 88 7 (Ai q) (Cb j)<|.a 1<|AO h λq j h=>.mg 97 7 (Ai q) (Cb j)<|.aW<|CV
def aFq (j:Aj)(q:Aj)(k3:(Int->AB Ac)):Int->AB Ac:=λv2=>(cond (v2<(j.length:Int)) ((Aq j v2).bind λI=>(Aq q v2).bind λJ=>(jf I J).bind λL=>(cond (!L) (some false) (k3 (Ar (v2+1))))) (some true))
def aMD (j:Aj)(q:Aj):Int->AB Ac:=bg (aFq j q) Aw
def nG (j:Aj)(q:Aj):AB Ac:=(cond ((j.length:Int) != (q.length:Int)) (some false) (aMD j q 0))
def nJ :=Dc func15 rfl nG BI BI Ai λj q r h=>AZ<|Aa<|AP 1<|.p (BK Au j)<|.a 1<|.Z (BK Au q)<|BF h Bo λh=>Aa<|AZ<|Ak<|Dq (λI=>⟨Az 27 [(0,BI j),(1,BI q),(5,AU I)],[],0⟩) _ _ _ (Ag []) h<|λI J L M h=>Aa<|AP 2<|.Z (BK Au j)<|Bg h (λh=>Aa<|Ak<|Hr h λI J M O Y U h=>Ee A8 A8 A8 (.a 2<|.p (BG Au J)<|.a 3<|.p (BG Au O)<|.a 1<|.ca (a6G U)<|.a 1<|.nil _)<|BF h Bo λh=>TD) λh=>Ei
def aLB (j:Bv):AB Int:=some j.Next
def aQt :=Dk func17 rfl aLB FC AU λj r h=>Uc
def aC (j:Ac):AB Ac:=some j
def a7v (q:Bv)(j:NK):AB Ac:=(ZJ q).bind λx1=>(cond x1 (some true) (some (decide ((j.User.size:Int)>100)))).bind λx2=>(cond x2 ((Sz).bind λx5=>some x5) ((Yi q j.User j.Pos j.Limit).bind λI=>(a3P q j.User j.Pos j.Limit).bind λJ=>(XO q j.User j.Pos).bind λL=>(a4N q j.User j.Pos).bind λM=>(yg L M).bind λO=>(cond O ((nG I.1 J.1).bind λU=>(cond U (cond (I.2.1==J.2.1) (cond (I.2.2==J.2.2) ((qY q).bind λY=>(aLB q).bind λZ=>(cond (Y==Z) ((Sz).bind λx21=>aC x21) (aC false))) (aC false)) (aC false)) (aC false))) (aC false))))
def alr (lC akJ r)(h:a7v lC akJ=some r):Dh 3 [FC lC,.d (OT akJ)] [] (Ai r) []:=Dy func3 rfl<|AZ<|Aa<|AO h λZ I h=>AP 1<|.ca (a0Z I)<|.a 1<|AO h λZ I h=>.mg 14 4 (Ai Z) (Cb I)<|.aT<|BF h (λh=>AO h λZ I h=>BL<|.X (Vq  Z I)<|CV) λh=>AO h λZ I h=>AP 7<|.X (a7K I)<|AO h λI J h=>AP 7<|.X (ao6 J)<|D9 (λ(M:Ac)=>(λM=>⟨Az 82 [(4,Ai M)],[],0⟩) M) (λM=>aC M) r (λM h=>CV)<|λJ=>Hr h λx4 O x6 U x12 Y h=>by cases x12 with |true=>exact(have h:=Qu rfl h;AO h λx14 x9 h=>by cases x14 with |true=>exact(have h:=Qu rfl h;Ed h (λj h=>Ed h (λq h=>Bj h λx13 x15 x16 x17 h=>Ed h (λL h=>AO h λx19 O6 h=>DR A8 A8 A8 (.a 5<|.ca (O9 O).view<|.a 5<|.ca (rO U).view<|.ca (kG Y)<|.a 3<|.ca (nJ x9)<|.a 6<|.c (BM some j)<|.a 4<|.c (BM some q)<|.a 1<|.ca (a2M x15)<|.a 1<|.ca (aQt x17)<|.a 2<|.c (BM some L)<|.ca (Vq  x19 O6)<|.a 2<|.nil _)<|J x19 (Ag []) h) λL h=>DR A8 A8 A8 (.a 5<|.ca (O9 O).view<|.a 5<|.ca (rO U).view<|.ca (kG Y)<|.a 3<|.ca (nJ x9)<|.a 6<|.c (BM some j)<|.a 4<|.c (BM some q)<|.a 1<|.ca (a2M x15)<|.a 1<|.ca (aQt x17)<|.a 2<|.c (BM some L)<|.a 3<|.nil _)<|J false (Ag []) h) λq h=>DR A8 A8 A8 (.a 5<|.ca (O9 O).view<|.a 5<|.ca (rO U).view<|.ca (kG Y)<|.a 3<|.ca (nJ x9)<|.a 6<|.c (BM some j)<|.a 4<|.c (BM some q)<|.a 10<|.nil _)<|J false (Ag []) h) λj h=>DR A8 A8 A8 (.a 5<|.ca (O9 O).view<|.a 5<|.ca (rO U).view<|.ca (kG Y)<|.a 3<|.ca (nJ x9)<|.a 6<|.c (BM some j)<|.a 15<|.nil _)<|J false (Ag []) h)|false=>exact(have h:=RD rfl h;DR A8 A8 A8 (.a 5<|.ca (O9 O).view<|.a 5<|.ca (rO U).view<|.ca (kG Y)<|.a 3<|.ca (nJ x9)<|.a 22<|.nil _)<|J false (Ag []) h))|false=>exact(have h:=RD rfl h;DR A8 A8 A8 (.a 5<|.ca (O9 O).view<|.a 5<|.ca (rO U).view<|.ca (kG Y)<|.a 26<|.nil _)<|J false (Ag []) h)
def aIF (q:Bv)(I:Int)(j:BH):AB Int:=(WS q.Events).bind λJ=>(a2D q J I j).bind λL=>some L
def apK :=JF func41 rfl aIF FC AU CP AU λI q j r h=>AZ<|Bj h λM J O L h=>Ee A8 A8 A8 (.a 3<|.ca (lJ J).view<|.a 2<|.ca (aX3 L)<|.a 1<|.nil _)<|CV
def lV (I:Eb)(q:Int)(j:Int)(J:Bv)(U:(Int->AB (Aj×Int))):Int->AB (Aj×Int):=λL=>(Aq I L).bind λY=>(cond (Y.Id != q) (U (Ar (L+1))) ((Gx I (EL (Ar (L-(Hl (EL j 0) (I.length:Int)))) 0) (Hl (Ar ((Ar (L+(Hl (EL j 0) (I.length:Int))))+1)) (I.length:Int))).bind λM=>(zO J M).bind λO=>some (O,0)))
def aLa (J:Eb)(q:Int)(j:Int)(I:Bv):Int->AB (Aj×Int):=bg (lV J q j I) Aw
def a98 (I:Bv)(j:BH)(q:Int)(J:Int):AB (Aj×Int):=(aIF I q j).bind λL=>(cond (L != 0) (some ([],L)) ((eS I q).bind λM=>(cond M.1.Gone (some ([],27)) ((pq I j).bind λO=>aLa O q J I 0))))
def alU {lC lZ qC jL r}(h:a98 lC lZ qC jL=some r):Dh 19 [FC lC,CP lZ,AU qC,AU jL] [] (.eu [BI r.1,AU r.2]) []:=Dy func19 rfl<|AZ<|Aa<|AO h λq j h=>AP 3<|.X (apK j)<|AZ<|BF h Bo λh=>AO h λq j h=>AP 2<|.X (a4L j)<|Aa<|AZ<|BF h Bo λh=>AO h λq j h=>AP 2<|.X (aET j).view<|AZ<|Aa<|Ak<|Dq (λj=>⟨Az 63 [(2,AU qC),(3,AU jL),(4,.ptr 0 0),(13,J8 q),(14,AU j)],[.box (BD (EG lC))],0⟩) _ _ _ (Ag [AQ 0]) h<|λj I L M h=>Aa<|AO h λj I h=>AP 2<|.Z (BG D5 I)<|Bg h (λh=>Ak<|Xy) λh=>CW<|AP 1<|.p (x:=(AU (EL jL 0))) bW<|.a 1<|.p (BK D5 q)<|.Z (x:=(AU (Hl (EL jL 0) (q.length:Int)))) oV<|Bj h λj I L O h=>Ee A8 A8 A8 (.a 5<|.p (x:=(AU (EL (Ar (M-(Hl (EL jL 0) (q.length:Int)))) 0))) bW<|.a 5<|.p (BK D5 q)<|.p (x:=(AU (Hl (Ar ((Ar (M+(Hl (EL jL 0) (q.length:Int))))+1)) (q.length:Int)))) oV<|.p (Ou D5 I ZT ZT QJ Oe (λ_=>rfl) rfl)<|.ca (aMf O).view<|.a 2<|.nil _)<|CV
def a2Y (q:Bv)(j:NK):AB Ac:=(ZJ q).bind λO=>(cond O (some true) (some (decide ((j.User.size:Int)>100)))).bind λU=>(cond U ((Sz).bind λY=>some Y) ((Yz q j.User j.Pos j.Limit).bind λL=>(a98 q j.User j.Pos j.Limit).bind λM=>(nG L.1 M.1).bind λZ=>(cond Z (some (L.2==M.2)) (some false)).bind λx9=>(cond x9 ((Sz).bind λI=>some I) (some false)).bind λJ=>some J))
def ahK (lC akJ r)(h:a2Y lC akJ=some r):Dh 4 [FC lC,.d (OT akJ)] [] (Ai r) []:=Dy func4 rfl<|AZ<|Aa<|AO h λq j h=>AP 1<|.ca (a0Z j)<|.a 1<|AO h λq j h=>.mg 12 4 (Ai q) (Cb j)<|.aT<|BF h (λh=>AO h λq j h=>BL<|.X (Vq  q j)<|CV) λh=>AO h λq j h=>AP 7<|.X (a5x j)<|AO h λj I h=>AP 7<|.X (alU I)<|AO h λI J h=>AP 2<|.ca (nJ J)<|.a 1<|AO h λq j h=>.mg 44 3 (Ai q) (Cb j)<|.a 1<|AO h λq j h=>.mg 49 1 (Ai q) (Cb j (λe i=>by subst e;have h:=i;exact AO h λq j h=>.ca (Vq  q j)<|.aW<|CU))<|.aW<|CV
def a3h (j:Bv)(q:Ad):AB Ad:=(uV j.Events).bind λI=>(aX I q).bind λJ=>some J
def aTq :=Dc func23 rfl a3h FC Cm Cm λj q r h=>AZ<|Bj h λO J I L h=>Ee A8 A8 A8 (.a 2<|.ca (aYP J).view<|.a 1<|.ca (aWX L)<|.a 1<|.nil _)<|ES<|aXE
def a3E (j:Ac):AB Ac:=some j
def a9y (j:Bv)(q:Ad):AB Ac:=(ZJ j).bind λM=>(cond M (some true) ((vX q).bind λO=>some O)).bind λU=>(cond U ((Sz).bind λY=>some Y) ((a1T j q).bind λZ=>(a3h j q).bind λI=>(jf Z I).bind λJ=>(cond J ((Sz).bind λL=>a3E L) (a3E false))))
def anO (lC FV r)(h:a9y lC FV=some r):Dh 5 [FC lC,Cm FV] [] (Ai r) []:=Dy func5 rfl<|AZ<|Aa<|AO h λj q h=>AP 1<|.ca (a0Z q)<|.a 1<|AO h λj q h=>.mg 8 2 (Ai j) (Cb q (k2:=λe i=>by subst e;have h:=i;exact AO h λj q h=>.a 1<|.X (aOP q)<|CU))<|.aT<|BF h (λh=>AO h λj q h=>BL<|.X (Vq  j q)<|CV) λh=>D9 (λ(I:Ac)=>(λI=>⟨Az 22 [(4,Ai I)],[],0⟩) I) (λI=>a3E I) r (λI h=>CV)<|λj=>Hr h λq L Z M J O h=>by cases J with |true=>exact(have h:=Qu rfl h;AO h λU Y h=>DR A8 A8 A8 (.a 2<|.ca (aFP L)<|.a 2<|.ca (aTq M)<|.ca (a6G O)<|.a 1<|.ca (Vq  U Y)<|.a 2<|.nil _)<|j U (Ag []) h)|false=>exact(have h:=RD rfl h;DR A8 A8 A8 (.a 2<|.ca (aFP L)<|.a 2<|.ca (aTq M)<|.ca (a6G O)<|.a 4<|.nil _)<|j false (Ag []) h)
def aCC (I:Bv)(q:NK)(O:AV)(U:AV)(Y:(AV->Int->Int->AB Ac)):AV->Int->Int->AB Ac:=λZ J L=>(cond (L<=(I.Rows.length:Int)) ((Yi I q.User J q.Limit).bind λj=>(jd j.1).bind λx18=>(CZ 8 [] x18).bind λx19=>(CZ 8 x19 Z).bind λM=>(cond ((j.1.length:Int)>q.Limit) (some true) ((cond j.2.2 ((cond ((j.1.length:Int) != q.Limit) (some true) (some (decide (j.2.1>=J)))).bind λx25=>some x25) (some false)).bind λx23=>some x23)).bind λx21=>(cond x21 (some false) (cond (!j.2.2) ((CZ 8 M O).bind λx29=>(yg x29 U).bind λZp=>(cond Zp ((Sz).bind λx33=>some x33) (some false)).bind λx31=>some x31) (Y M j.2.1 (Ar (L+1)))))) (some false))
def aIH (j:Bv)(q:NK)(I:AV)(J:AV):AV->Int->Int->AB Ac:=iM (aCC j q I J) Aw
def a2V (q:Bv)(j:NK):AB Ac:=(ZJ q).bind λL=>(cond L (some true) (some (decide ((j.User.size:Int)>100)))).bind λM=>(cond M (some true) (some (decide (j.Limit<1)))).bind λO=>(cond O (some true) (some (decide (j.Limit>5)))).bind λU=>(cond U ((Sz).bind λY=>some Y) ((XO q j.User 0).bind λI=>(XO q j.User j.Pos).bind λJ=>aIH q j J I [] j.Pos 0))
def ao3 (lC akJ r)(h:a2V lC akJ=some r):Dh 6 [FC lC,.d (OT akJ)] [] (Ai r) []:=Dy func6 rfl<|AZ<|Aa<|AO h λI q h=>AP 1<|.ca (a0Z q)<|.a 1<|AO h λI q h=>.mg 16 4 (Ai I) (Cb q)<|.a 1<|AO h λI q h=>.mg 22 3 (Ai I) (Cb q)<|.a 1<|AO h λI q h=>.mg 27 3 (Ai I) (Cb q)<|.aT<|BF h (λh=>AO h λI q h=>BL<|.X (Vq  I q)<|CV) λh=>Bj h λI q J M h=>Ee A8 A8 A8 (.a 3<|.ca (O9 q).view<|.a 5<|.ca (O9 M).view<|.a 2<|.nil _)<|BL<|.f (C9 3 1)<|.aT<|AZ<|Aa<|AZ<|Ak<|PO (λq M L=>⟨Az 99 [(2,.ptr 0 0),(3,.ptr 1 0),(5,BZ I),(6,BZ J),(7,.aQ 2),(8,AU M),(9,AU L)],[.box (BD (EG lC)),.box (BD (OT akJ)),(CO q)],0⟩) _ _ _ _ _ (Ag [AQ 0,AQ 1,AQ 2]) h<|λq J M L U O h=>Aa<|AP 3<|.Z (BK D5 lC.Rows)<|Bg h (λh=>Aa<|Ak<|AO h λq J h=>AP 6<|.X (a7K J)<|Hr h λJ L U O Z Y h=>BL<|.f (Gn DL zero3 [])<|.a 1<|.ca (aOL L).view<|.f (DX (k:=3) Ah O DL A8 (λ_=>rfl) Ba)<|.a 1<|.Y (akR (k:=4) (j:=2) Ah Y DL A8 A8 Ba)<|Aa<|AP 1<|.p (BK Au q.1)<|.a 3<|AO h λJ L h=>.mg 73 14 (Ai J) (.bi L (k2:=λh=>.a 1<|AO h λI J h=>.mg 75 11 (Ai I) (.bi J (λh=>.a 1<|.p (BK Au q.1)<|.a 3<|AO h λI q h=>.mg 81 4 (Ai I) (.bi q)<|.aW<|CU))<|.aW<|CU))<|.aT<|BF h Bo λh=>AZ<|AZ<|BF h (λh=>Bj h λq J M L h=>AP 2<|.f (DX (k:=5) Ah J DL A8 (λ_=>rfl) Ba)<|.conv _ (IW (e:=3) (s:=1) 6 (xs:=List.map Ah q) A8)<|.a 1<|.ca (kG L)<|.a 1<|AO h λI q h=>.mg 97 1 (Ai I) (Cb q (λe i=>by subst e;have h:=i;exact AO h λI q h=>.ca (Vq  I q)<|.aW<|CU))<|.aW<|CV) λh=>Cc<|M _ _ _ _ (Ag [AQ 0,AQ 1,AQ 5]) h) λh=>Ei
def a8T (j:(Int->Ad->AB Ac))(q:Int)(I:Ad):AB Ac:=j (Ar (q+1)) I
def aA4 (q:AV)(I:(Ad×Ac))(O:Aj)(J:Int)(U:(Int->AB Ac))(L:(Int->Ad->AB Ac)):Int->Ad->AB Ac:=λj M=>(bif j<(q.length:Int) then(Aq q j).bind λY=>(cond (Y==I.1.Id) ((dO I.1).bind λZ=>a8T L j Z) (a8T L j M))else(Aq O J).bind λx33=>(jf x33 M).bind λx34=>(cond (!x34) (some false) (U (Ar (J+1)))))
def aDv (j:AV)(q:(Ad×Ac))(I:Aj)(J:Int)(L:(Int->AB Ac)):Int->Ad->AB Ac:=aS (aA4 j q I J L) Aw
def l9 (q:AV)(j:(Ad×Ac))(I:Aj)(J:Int)(L:(Int->AB Ac))(M:Ac):AB Ac:=(cond M (some false) (aDv q j I J L 0 j.1))
def aDO (j:Aj)(I:Bv)(L:AV)(O:NK)(M:(Int->AB Ac)):Int->AB Ac:=λq=>(bif q<(j.length:Int) then(Aq j q).bind λY=>(JO I.Events Y.Id).bind λJ=>(Aq j q).bind λZ=>(kC I Z.Id).bind λU=>(cond (!J.2) (l9 L J j q M true) (cond (!U.2) (l9 L J j q M true) (cond U.1.Gone (l9 L J j q M true) ((Aq j q).bind λx41=>(tC I x41.Id O.User).bind λx42=>l9 L J j q M (x42 != 0)))))else(Sz).bind λx43=>some x43)
def a7U (I:Aj)(j:Bv)(J:AV)(q:NK):Int->AB Ac:=bg (aDO I j J q) Aw
def a4m (j:Bv)(q:NK):AB Ac:=(ZJ j).bind λO=>(cond O (some true) (some (decide ((q.User.size:Int)>100)))).bind λU=>(cond U ((Sz).bind λY=>some Y) ((qY j).bind λZ=>(Yi j q.User Z (j.Rows.length:Int)).bind λx7=>(Yz j q.User q.Pos q.Limit).bind λI=>(cond (I.2 != 0) (some ((I.1.length:Int) != 0)) (some false)).bind λx9=>(cond x9 (some false) ((mG j.Events).bind λJ=>(CZ 376 [] x7.1).bind λL=>(CZ 376 L I.1).bind λM=>a7U M j J q 0))))
def ac7 (q I r)(h:a4m q I=some r):Dh 7 [FC q,.d (OT I)] [] (Ai r) []:=Dy func7 rfl<|AZ<|Aa<|AO h λJ j h=>AP 1<|.ca (a0Z j)<|.a 1<|AO h λJ j h=>.mg 21 4 (Ai J) (Cb j)<|.aT<|BF h (λh=>AO h λJ j h=>BL<|.X (Vq  J j)<|CV) λh=>Bj h λJ j L M h=>Ee A8 A8 A8 (.a 4<|.ca (a2M j)<|.a 2<|.p (BK D5 q.Rows)<|.ca (a7K M)<|.a 7<|.nil _)<|AO h λJ j h=>AP 7<|.X (a5x j)<|Aa<|AP 2<|AO h λj L h=>.mg 53 4 (Ai j) (.bi L (λh=>.a 1<|.Z (BK Au J.1)<|CU))<|.aT<|BF h Bo λh=>AO h λJ j h=>AP 2<|.X (aDy j).view<|Bj h λj L M x5 h=>BL<|.f (Gn Gl Jv [])<|.a 1<|.f (DX (k:=2) Au L Gl A8 (λ_=>rfl) Ba)<|.a 1<|.f (DX (k:=3) Au x5 Gl A8 (λ_=>rfl) Ba)<|.conv _ (IW (e:=56) (s:=29) 4 (xs:=List.map Au M) A8)<|.aW<|Aa<|AZ<|Ak<|Dq (λj=>⟨Az 139 [(2,.ptr 0 0),(3,.ptr 1 0),(5,BI M),(10,BZ J),(11,AU j)],[.box (BD (EG q)),.box (BD (OT I))],0⟩) _ _ _ (Ag [AQ 0,AQ 1]) h<|λj L x5 x6 h=>Aa<|AP 2<|.Z (BK Au M)<|Bg h (λh=>Aa<|Ak<|Bj h λj Y x8 x9 h=>Uz [Qg 4 (Go.Op.indexAddr 22 (Go.Operand.tmp 75) (Go.Operand.tmp 76)) (λJ j L=>Uw (k:=.i64) Au Y Kv Fg A8 L),ZI 7 (KU x9) aax] 54<|Bj h λj Y x9 Z h=>Uz [Qg 3 (Go.Op.indexAddr 22 (Go.Operand.tmp 85) (Go.Operand.tmp 86)) (λJ j L=>Uw (k:=.i64) Au Y Kv Fg A8 L),ZI 6 (a5X Z) akg] 40<|Aa<|D9 (λ(O:Ac)=>(λJ j L q I M O=>⟨Az 139 [(2,.ptr 0 0),(3,.ptr 1 0),(5,BI J),(10,BZ j),(11,AU L),(12,.ptr 2 0),(114,Ai O)],[.box (BD (EG q)),.box (BD (OT I)),.box (BD (Au M.1))],0⟩) M J x6 q I x8 O) (λO=>l9 J x8 M x6 L O) r (λO h=>BF h Bo λh=>AZ<|Aa<|AZ<|Ak<|DJ (λj L=>⟨Az 139 [(2,.ptr 0 0),(3,.ptr 1 0),(5,BI M),(10,BZ J),(11,AU x6),(12,.ptr 2 0),(16,.ptr 3 0),(17,AU j)],[.box (BD (EG q)),.box (BD (OT I)),.box (BD (Au x8.1)),.box (BD (Au L))],0⟩) _ _ _ _ (Ag [AQ 0,AQ 1,AQ 2,AQ 3]) h<|λj L Y x9 Z h=>Aa<|AP 2<|.Z (BK Ah J)<|Bg h (λh=>D9 (λ(U:Ad)=>(λJ j L M q I x5 U=>⟨Az 139 [(2,.ptr 0 0),(3,.ptr 1 0),(5,BI J),(10,BZ j),(11,AU L),(12,.ptr 2 0),(16,.ptr 3 0),(17,AU M)],[.box (BD (EG q)),.box (BD (OT I)),.box (BD (Au x5.1)),.box (BD (Au U))],0⟩) M J x6 x9 q I x8 U) (λU=>a8T L x9 U) r (λU h=>Cc<|Y _ _ _ (Ag [AQ 0,AQ 1,AQ 2,AQ 3]) h)<|λJ=>Ak<|AO h λj L h=>Ee A8 A8 A8 (.a 2<|.p (BG Ah L)<|.a 4<|.nil _)<|BF h (λh=>AO h λj L h=>CQ<|.a 1<|.ca (a2w L)<|.aN<|J j (Ag [AQ 0,AQ 1,AQ 2,AQ 3]) h) λh=>J Z (Ag [AQ 0,AQ 1,AQ 2,AQ 3]) h) λh=>CW<|Bj h λJ j L M h=>Ee A8 A8 A8 (.a 2<|.p (BG Au j)<|.a 2<|.ca (a6G M)<|.a 1<|.nil _)<|BF h Bo λh=>Cc<|x5 _ _ (Ag [AQ 0,AQ 1]) h)<|λJ=>Ed h (λj h=>DR A8 A8 A8 (.a 2<|.c (BM some j)<|.a 19<|.nil _)<|J true (Ag [AQ 0,AQ 1,AQ 2]) h) λj h=>Ed h (λL h=>DR A8 A8 A8 (.a 2<|.c (BM some j)<|.a 3<|.c (BM some L)<|.a 15<|.nil _)<|J true (Ag [AQ 0,AQ 1,AQ 2]) h) λL h=>Ed h (λM h=>DR A8 A8 A8 (.a 2<|.c (BM some j)<|.a 3<|.c (BM some L)<|.a 3<|.c (BM some M)<|.a 11<|.nil _)<|J true (Ag [AQ 0,AQ 1,AQ 2]) h) λM h=>Bj h λx5 x6 Y x8 h=>DR A8 A8 A8 (.a 2<|.c (BM some j)<|.a 3<|.c (BM some L)<|.a 3<|.c (BM some M)<|.a 3<|.p (BG Au x6)<|.a 4<|.ca (aIQ x8)<|.a 2<|.nil _)<|J (Y != 0) (Ag [AQ 0,AQ 1,AQ 2]) h) λh=>CW<|AO h λJ j h=>BL<|.X (Vq  J j)<|CV
end
def mV (l:AA Int)(h:l.length<=1099511627776):VK l=some (FN l):=by
 unfold VK a5U O8 UY;rw[Dz Eh];have h2:(Rf l).length<=1099511627776:=by rw[(X6 l).length_eq];exact h
 simp[h,a6M,a8e]
def ML (l:AA Int):(FN l).length<=l.length:=by
 rw[←a8e];exact FQ (Lib.compact_length_le _) Bf
def aGR (a b:AA Int):(QH a b).length<=a.length:=by
 unfold QH;exact FQ (I9 _ _) (ML a)
def aDR (a b:AA Int):(J3 a b).length<=a.length+b.length:=by
 rw[a0K];exact FQ (ML _) Bf
def afD (a b:Int):cmp_Less_int a b=some (decide (a<b)):=by
 simp[cmp_Less_int,cmp_isNaN_int]
def aox (l:AA Int)(x:Int)(hi:Inc l)(hn:l.length<=1099511627776):dQ (aBr l x) (λr=>r.2=Dv l x):=by
 unfold aBr aSE;refine Yu (λ(m:Nat) (a b:Int)=>∃i j:Nat,a=i/\b=j/\i<=j/\j<=l.length/\m=j-i/\(∀q,(I:q<i)->(hl:q<l.length)->l[q]<x)/\(∀q,(I:j<=q)->(hl:q<l.length)->x<=l[q])) ?_ Aw l.length 0 (l.length:Int) mQ ⟨0,l.length,rfl,rfl,F6 _,Eo _,rfl,λq I=>AL,λq I hl=>AL⟩;rintro m a b k ⟨i,j,rfl,rfl,hij,hj,rfl,h1,h2⟩ hk;unfold aOn;refine dQ.bif (λe=>?_) λe=>?_
 ·have Y:i<j:=WA
  have w1:Ar ((i:Int)+(j:Int))=((i+j:Nat):Int):=NG
  have w2:IntKind.u64.wrap ((i+j:Nat):Int)=((i+j:Nat):Int):=by rw[lU];omega
  have w3:QN .shr .u64 ((i+j:Nat):Int) 1=some (((i+j)/2:Nat):Int):=by
   have e0:((i+j:Nat):Int).fdiv (2^(min (1:Int).toNat IntKind.u64.bits))=(((i+j)/2:Nat):Int):=by
    have :(2:Int)^(min (1:Int).toNat IntKind.u64.bits)=2:=rfl;rw[this,Int.fdiv_eq_ediv_of_nonneg _ AL];omega
   unfold QN;rw[EC AL];exact BM some e0
  have w4:Ar (((i+j)/2:Nat):Int)=(((i+j)/2:Nat):Int):=NG
  have hm:(i+j)/2<l.length:=AL
  rw[w1,w2,w3];simp only[Af];rw[w4,CX hm];simp only[Af];rw[afD,wrap_succ _ AL];simp only[Af];have mono:∀p q,(hp:p<l.length)->(I:q<l.length)->p<q->l[p]<l[q]:=λp q hp I J=>Jq.1 hi p q hp I J;refine dQ.bif (λZ=>?_) λZ=>?_
  ·have L:l[(i+j)/2]<x:=by simpa using Z
   refine hk (j-((i+j)/2+1)) _ _ AL ⟨(i+j)/2+1,j,rfl,rfl,AL,hj,rfl,λq I hl=>?_,h2⟩;by_cases eq:q=(i+j)/2
   ·subst eq;exact L
   have :=mono q ((i+j)/2) hl hm AL;omega
  have L:¬l[(i+j)/2]<x:=by simpa using Z
  refine hk ((i+j)/2-i) _ _ AL ⟨i,(i+j)/2,rfl,rfl,AL,AL,rfl,h1,λq I hl=>?_⟩;by_cases eq:q=(i+j)/2
  ·subst eq;omega
  have :=mono ((i+j)/2) q hm hl AL;omega
 have Y:¬i<j:=WA
 have M:i=j:=AL
 subst M;have mono:∀p q,(hp:p<l.length)->(I:q<l.length)->p<q->l[p]<l[q]:=λp q hp I J=>Jq.1 hi p q hp I J;by_cases hl:i<l.length
 ·rw[show decide ((i:Int)<(l.length:Int))=true by simpa using hl,CX hl];simp only[Bd,Af];by_cases L:l[i]=x
  ·have U:(l[i]==x)=true:=kS
   rw[U];refine .ret ?_;exact(Me.2 (L▸Eu hl)).symm
  have U:(l[i]==x)=false:=kS
  rw[U]
  have hno:Dv l x=false:=QV.2 λhm=>by
   obtain⟨q,I,e5⟩:=I8 hm;rcases SPr q i with O|O|O
   ·have :=h1 q O I;omega
   ·subst O;exact L e5
   have :=mono i q hl I O;have :=h2 i (Eo _) hl;omega
  simp[a9F,hno,dQ]
 rw[show decide ((i:Int)<(l.length:Int))=false by simpa using hl];refine .ret ?_;refine(QV.2 λhm=>?_).symm;obtain⟨q,I,U⟩:=I8 hm;have :=h1 q AL I;omega
variable {i:Nat}{l:AA Int}
def ahH {b:AA Int}(h:i<l.length):(l.take (i+1)).filter (λx=> !Dv b x)=(l.take i).filter (λx=> !Dv b x)++(if Dv b l[i]then[]else[l[i]]):=by
 rw[SI h,Ql]
 grind
def anv (a b:AA Int)(h:a.length<=274877906944)(h2:b.length<=274877906944):aB0 a b=some (QH a b):=by
 unfold aB0;rw[mV b AL,mV a AL];simp only[Af];have ha:=ML a;have Y:=ML b;have q:=NR b
 have M:QH a b=((FN a).take (FN a).length).filter (λx=> !Dv (FN b) x):=by
  rw[Ho];unfold QH;congr 1;funext x;congr 1;by_cases j:x∈b
  ·rw[Me.2 j,Me.2 (OJ.2 j)]
  rw[QV.2 j,QV.2 (λh=>j (OJ.1 h))]
 rw[M];generalize FN a=S at *;generalize FN b=S2 at *;refine dQ.eq ?_;unfold aTp;refine KA S.length mQ (λi v=>v=(S.take i).filter (λx=> !Dv S2 x)) Bf ?_ ?_
 ·rintro i v k hi rfl I;have J:=wrap_succ i AL;have O:((S.take i).filter (λx=> !Dv S2 x)).length<=i:=FQ (I9 _ _) Eh;have hst:=ahH (b:=S2) hi;unfold aDI a2t;rw[show decide ((i:Int)<(S.length:Int))=true by simpa using hi,CX hi];simp only[Bd,Af];refine(aox S2 S[i] q AL).bind ?_;rintro r U;rw[U];cases L:Dv S2 S[i]with
  |true=>
   simp only[FK,BO,J];exact I _ (by rw[hst];simp[L])
  |false=>
   simp only[JV,Bd,J];rw[Dz Gm];exact I _ (by rw[hst];simp[L])
 rintro v k rfl;unfold aDI;rw[show decide ((S.length:Int)<(S.length:Int))=false by simp];exact .ret rfl
def Qj (l:AA Int)(x:Int)(h:l.length<=1099511627776):Oq l x=some (Dv l x):=by
 refine dQ.eq ?_;unfold Oq aSL;refine dZ l.length mQ (λi=>∀j,(q:j<i)->(hl:j<l.length)->l[j]≠x) (λj q=>AL) ?_ ?_
 ·intro i k hi I J;unfold aKH;rw[show decide ((i:Int)<(l.length:Int))=true by simpa using hi,CX hi,wrap_succ i AL];simp only[Bd,Af];refine dQ.bif (λe=>?_) λe=>?_
  ·refine .ret ?_;have :l[i]=x:=WA
   rw[Me.2 (this▸Eu hi)]
  grind
 intro k I;unfold aKH;rw[show decide ((l.length:Int)<(l.length:Int))=false by simp];refine .ret ?_;rw[QV.2];intro hm;obtain⟨j,q,e⟩:=I8 hm;exact I j q q e
def aKt (p:Int->Ac):∀(l:AA Int) (i:Nat),i<=l.length->(∀j,(h:j<i)->(hl:j<l.length)->p l[j]=true)->(∀h:i<l.length,p l[i]=false)->l.takeWhile p=l.take i/\l.dropWhile p=l.drop i
 | [],i,h,_,_=>by simp at h;subst h;simp
 |a::l,0,_,_,h2=>by
  have :=h2 Bf;simp at this;simp[this]
 |a::l,i+1,h,h1,h2=>by
  have q:=h1 0 AL Bf;simp at q;have :=aKt p l i LZ (λj I hl=>by have :=h1 (j+1) AL N7;simpa using this) (λhl=>by have :=h2 N7;simpa using this);simp[q,this.1,this.2]
def oU (l:AA Int)(x:Int)(h:l.length<=1099511627776):YV l x=some (put l x):=by
 unfold YV;rw[Qj l x h];simp only[Af];unfold put;cases hh:Dv l x with
 |true=>simp
 |false=>
  simp only[BO,Ru,Ky];refine dQ.eq ?_;unfold aNM
  have q:∀i,i<=l.length->(∀j,(I:j<i)->(hl:j<l.length)->l[j]<x)->(∀h:i<l.length,¬l[i]<x)->
   dQ ((Gx l 0 (i:Int)).bind λO=>(CZ 8 [] O).bind λU=>(CZ 8 U [x]).bind λY=>(Gx l (i:Int) ((l.length))).bind λL=>(CZ 8 Y L).bind λM=>some M) (· =l.takeWhile (decide<| · <x)++x::l.dropWhile (decide<| · <x)):=by
   intro i hi h1 h2;obtain⟨Z,e2⟩:=aKt (decide<| · <x) l i hi (λj I hl=>by simpa using h1 j I hl) (λhl=>by simpa using h2 hl)
   have e3:Gx l 0 (i:Int)=some (l.take i):=by
    have :=dz (l:=l) (lo:=0) (hi:=i) AL hi;simpa using this
   have e4:Gx l (i:Int) (l.length:Int)=some (l.drop i):=by
    rw[dz (l:=l) (lo:=i) (hi:=l.length) hi AL];congr 1;exact Un Bf
   rw[e3];simp only[Af];rw[Dz Eh];simp only[Af,Ij];rw[Dz Eh];simp only[Af];rw[e4];simp only[Af];rw[Dz Eh];refine .ret ?_;rw[Z,e2];simp
  refine dZ l.length mQ (λi=>∀j,(I:j<i)->(hl:j<l.length)->l[j]<x) (λj I=>AL) ?_ ?_
  ·intro i k hi J hk;unfold aHQ;rw[show decide ((i:Int)<(l.length:Int))=true by simpa using hi,CX hi,wrap_succ i AL];simp only[Bd,Af];refine dQ.bif (λe=>?_) λe=>?_
   ·refine hk λj I hl=>?_;by_cases ej:j=i
    ·subst ej;simpa using e
    exact J j AL hl
   exact q i AL J (λ_=>WA)
  intro k J;unfold aHQ;rw[show decide ((l.length:Int)<(l.length:Int))=false by simp];exact q l.length AL J (λh=>AL)
def qH (l:AA Int)(x:Int):(put l x).length<=l.length+1:=by
 unfold put;split
 ·omega
 rw[Em,H8];have :=BM List.length (uM (p:=(decide<| · <x)) (l:=l))
 grind
def lN :∀(l a:AA Int),(l.foldl put a).length<=a.length+l.length
 | [],a=>Bf
 |x::l,a=>by
  have h1:=lN l (put a x);have h2:=qH a x
  grind
def aV8 {a:AA Int}(h:i<l.length):(l.take (i+1)).foldl put a=put ((l.take i).foldl put a) l[i]:=by
 rw[SI h,X5];rfl
def aKX (l:AA Int)(h:l.length<=274877906944):su l=some (FN l):=by
 refine dQ.eq ?_;unfold su aX5;refine KA l.length mQ (λi v=>v=(l.take i).foldl put []) Bf ?_ ?_
 ·rintro i v k hi rfl j;have hl:=lN (l.take i) [];simp only[La,HY]at hl;unfold aCZ;rw[show decide ((i:Int)<(l.length:Int))=true by simpa using hi,CX hi,wrap_succ i AL];simp only[Bd,Af];rw[oU _ _ AL];exact j _ (aV8 hi).symm
 rintro v k rfl;unfold aCZ;rw[show decide ((l.length:Int)<(l.length:Int))=false by simp];exact .ret (by rw[Ho];rfl)
def aBk (a b:AA Int)(h:a.length<=274877906944)(h2:b.length<=274877906944):Yt a b=some (J3 a b):=by
 unfold Yt;rw[aKX a h];have hs:=ML a;refine dQ.eq ?_;simp only[Af];unfold aXV;refine KA b.length mQ (λi v=>v=(b.take i).foldl put (FN a)) Bf ?_ ?_
 ·rintro i v k hi rfl j;have hl:=lN (b.take i) (FN a);simp only[HY]at hl;unfold aLK;rw[show decide ((i:Int)<(b.length:Int))=true by simpa using hi,CX hi,wrap_succ i AL];simp only[Bd,Af];rw[oU _ _ AL];exact j _ (aV8 hi).symm
 rintro v k rfl;unfold aLK;rw[show decide ((b.length:Int)<(b.length:Int))=false by simp];exact .ret (by rw[Ho];rfl)
variable {A α:Type}{s t:BH}
def MV {R:Type}(c:Ac)(x y:R):(cond c (some x) (some y))=some (cond c x y):=by cases c<;>rfl
def aBh {R:Type}(c:Ac)(x y:AB A)(f:A->AB R):(cond c x y).bind f=bif c then x.bind f else y.bind f:=by cases c<;>rfl
def jZ (a b:Ac):(cond a true b)=(a||b):=by cases a<;>rfl
def WI (a b:Ac):(cond a b false)=(a&&b):=by cases a<;>rfl
def VU (h:i<(DI s).length):IZ s (i:Int)=some (DI s)[i]:=by
 unfold IZ;rw[Dw (aJE i)];have h':i<s.size:=Xw
 have e:s[i]? =some s[i]:=by simp[h']
 simp only[bU,e,Jp,DI,Pn];rfl
def ahN (h:0<(DI s).length):IZ s 0=some (DI s)[0]:=VU (i:=0) h
def Hw {R α:Type}{body:(Int->AB R)->Int->AB R}(l:AA α)(hl:l.length<Aw)(p:α->Ac)(bad:R)(rest:AB R)(I:∀k (i:Nat) (h:i<l.length),body k (i:Int)=bif p l[i]then some bad else k (Ar ((i:Int)+1)))(J:∀k,body k (l.length:Int)=rest):
 bg body Aw 0=bif l.any p then some bad else rest:=by
 have M:Aw=9223372036854775808:=rfl
 have key:∀n (i:Nat),i+n=l.length->∀m,n<m->bg body m (i:Int)=bif (l.drop i).any p then some bad else rest:=by
  intro n
  induction n with
  |zero=>
   intro i hi m hm;obtain⟨m,rfl⟩:∃q,m=q+1:=⟨m-1,AL⟩
   have :i=l.length:=AL
   subst this;show body (bg body m) _=_;rw[J,PU];rfl
  |succ n L=>
   intro i hi m hm;obtain⟨m,rfl⟩:∃q,m=q+1:=⟨m-1,AL⟩
   have j:i<l.length:=AL
   show body (bg body m) _=_;rw[I _ i j,wrap_succ i AL,L (i+1) AL m AL,Ns j,List.any_cons];cases p l[i]<;>rfl
 grind
def bytes_inj (h:DI s=DI t):s=t:=by
 have hd:s.data.toList=t.data.toList:=by
  unfold DI at h;refine List.map_inj_right (f:=λc:UInt8=>(c.toNat:Int)) (λa b j=>?_) |>.1 h;exact UInt8.toNat_inj.1 AL
 obtain⟨⟨a⟩⟩:=s;obtain⟨⟨b⟩⟩:=t;simp only at hd;rw[hd]
def toList_inj (h:s.toList=t.toList):s=t:=by
 rw[ByteArray.toList_eq,ByteArray.toList_eq]at h;obtain⟨⟨a⟩⟩:=s;obtain⟨⟨b⟩⟩:=t;simp only at h;rw[h]
def JC:(s.toList==t.toList)=decide (s=t):=by
 by_cases h:s=t
 ·subst h;simp
 have :s.toList≠t.toList:=λe=>h (toList_inj e);simp[h,this]
def JG {R α:Type}{body:(Int->AB R)->Int->AB R}(l:AA α)(hl:l.length<Aw)(q:α->Ac)(g:Nat->AB R)(rest:AB R)(J:∀k (i:Nat) (h:i<l.length),body k (i:Int)=bif q l[i]then g i else k (Ar ((i:Int)+1)))(L:∀k,body k (l.length:Int)=rest):
 bg body Aw 0=if l.findIdx q<l.length then g (l.findIdx q)else rest:=by
 have O:Aw=9223372036854775808:=rfl
 have key:∀n (i:Nat),i+n=l.length->∀m,n<m->bg body m (i:Int)=if(l.drop i).findIdx q+i<l.length then g ((l.drop i).findIdx q+i)else rest:=by
  intro n
  induction n with
  |zero=>
   intro i hi m hm;obtain⟨m,rfl⟩:∃I,m=I+1:=⟨m-1,AL⟩
   have :i=l.length:=AL
   subst this;show body (bg body m) _=_;rw[L,PU,EC AL]
  |succ n M=>
   intro i hi m hm;obtain⟨m,rfl⟩:∃I,m=I+1:=⟨m-1,AL⟩
   have j:i<l.length:=AL
   show body (bg body m) _=_;rw[J _ i j,wrap_succ i AL,M (i+1) AL m AL,Ns j,WE];cases q l[i]with
   |true=>
    simp[j]
   |false=>
    grind
 grind
def nX {lo hi:Nat}(h1:lo<=hi)(h2:hi<=s.size):Oy s (lo:Int) (hi:Int)=some (s.extract lo hi):=by
 unfold Oy;rw[Dw ⟨AL,AL,AL⟩];simp
def aYL (s:BH)(a b:Nat):DI (s.extract a b)=((DI s).take b).drop a:=by
 simp[DI,ByteArray.data_extract,jM,bZ,List.extract_eq_drop_take']
def aCK (l:AA α)(q:α->Ac):(bif l.any (λc=> !q c)then false else true)=l.all q:=by
 grind
def aHP :∀(l:AA UInt8) (c:UInt8),Lib.indexByte l c=if l.findIdx (· ==c)<l.length then((l.findIdx (· ==c):Nat):Int)else -1
 | [],c=>rfl
 |b::l,c=>by
  unfold Lib.indexByte;rw[WE];cases h:b==c with
  |true=>simp
  |false=>
   rw[aHP l c];simp only[Ru,Ky,BO,H8];by_cases hl:l.findIdx (· ==c)<l.length
   ·simp only[hl,Jy,show l.findIdx (· ==c)+1<l.length+1 by omega];have :(((l.findIdx (· ==c):Nat):Int)== -1)=false:=Bf
    simp[this]
   simp[hl,show ¬l.findIdx (· ==c)+1<l.length+1 by omega]
structure Fp (e:Ad):Prop where
 prev:e.bP.length<=40
 auth:e.bQ.length<=40
 allow:e.Content.Allow.length<=100
 deny:e.Content.iK.length<=100
 users:e.Content.Levels.Users.length<=100
 kinds:e.Content.Levels.Kinds.length<=100
 room:e.Room.size<=2000
 sender:e.bG.size<=2000
 key:e.Key.size<=2000
 text:e.Content.Text.size<=2000
 via:e.Content.Via.size<=2000
 server:e.rM.Server.size<=2000
 allows:∀x∈e.Content.Allow,x.size<=2000
 denies:∀x∈e.Content.iK,x.size<=2000
 names:∀x∈e.Content.Levels.Users,x.User.size<=2000
def PW {a b:Int}(h:decide (a>b)=false):a<=b:=by have :=Jk h;omega
variable {l:AA α}
def aL3 {P:α->Prop}(h:∀j,(hl:j<l.length)->P l[j]):∀x∈l,P x:=λx q=>by
 obtain⟨j,I,rfl⟩:=I8 q;exact h j I
def aCO {body:(Int->AB Ac)->Int->AB Ac}(l:AA α)(hl:l.length<Aw)(q:α->Ac)(rest:AB Ac){P:Prop}(M:∀(k:Int->AB Ac) (i:Nat) (h:i<l.length),body k (i:Int)=bif q l[i]then some true else k (Ar ((i:Int)+1)))(O:∀k,body k (l.length:Int)=rest)(U:(∀x∈l,q x=false)->dQ rest (λb=>b=false->P)):dQ (bg body Aw 0) (λb=>b=false->P):=by
 refine dZ l.length hl (λi=>∀j,(I:j<i)->(hl:j<l.length)->q l[j]=false) (λj I=>AL) ?_ ?_
 ·intro i k hi J Y;have hf:Aw=9223372036854775808:=rfl;rw[M k i hi,wrap_succ i AL];refine dQ.bif (λ_=>.ret (λh=>GN)) λe=>Y λj I L=>?_;by_cases Z:j=i
  ·subst Z;exact e
  exact J j AL L
 intro k J;rw[O];exact U (aL3 λj I=>J j I I)
def Ce {R:Type}(h:i<l.length)(f:α->AB R)(z:AB R):(cond ((i:Int)<(l.length:Int)) ((Aq l (i:Int)).bind f) z)=f l[i]:=by
 rw[show decide ((i:Int)<(l.length:Int))=true by simpa using h,CX h];rfl
def EX {R:Type}(y z:AB R):(cond ((l.length:Int)<(l.length:Int)) y z)=z:=by
 rw[show decide ((l.length:Int)<(l.length:Int))=false by simp];rfl
def aQm (e:Ad):dQ (vX e) (λb=>b=false->Fp e):=by
 have hf:Aw=9223372036854775808:=rfl;have q:∀{P:Prop},dQ (some true) (λb=>b=false->P):=.ret λh=>GN
 unfold vX;simp only[MV,Af,jZ];refine dQ.bif (λ_=>q) λa=>?_;refine dQ.bif (λ_=>q) λb=>?_;simp only[tu]at a b;obtain⟨⟨⟨⟨⟨I,J⟩,L⟩,M⟩,O⟩,U⟩:=a;obtain⟨⟨⟨⟨⟨Y,Z⟩,b3⟩,b4⟩,b5⟩,b6⟩:=b;have I:=PW I;have J:=PW J;have L:=PW L;have M:=PW M;have O:=PW O;have U:=PW U;have Y:=PW Y;have Z:=PW Z;have b3:=PW b3;have b4:=PW b4;have b5:=PW b5;have b6:=PW b6;unfold aWm;refine aCO e.Content.Allow AL (λx=>(x.size:Int)>2000) (aI1 e 0) (λk i h=>?_) (λk=>?_) λc1=>?_
 ·unfold aCB;rw[Ce h]
 ·unfold aCB;rw[EX]
 unfold aI1;refine aCO e.Content.iK AL (λx=>(x.size:Int)>2000) (aFw e 0) (λk i h=>?_) (λk=>?_) λc2=>?_
 ·unfold aH0;rw[Ce h]
 ·unfold aH0;rw[EX]
 unfold aFw;refine aCO e.Content.Levels.Users AL (λx=>(x.User.size:Int)>2000) (some false) (λk i h=>?_) (λk=>?_) λc3=>?_
 ·unfold aDr;rw[Ce h]
 ·unfold aDr;rw[EX]
 refine .ret λ_=>⟨AL,AL,AL,AL,AL,AL,AL,AL,AL,AL,AL,AL,λx j=>?_,λx j=>?_,λx j=>?_⟩
 ·have :=PW (c1 x j);omega
 ·have :=PW (c2 x j);omega
 have :=PW (c3 x j);omega
variable {n:Nat}
def fuel_lt (h:n<=1099511627776):n<Aw:=qc
def dec_lt (h:i<n):decide ((i:Int)<(n:Int))=true:=LZ
def DY (n:Nat):decide ((n:Int)<(n:Int))=false:=Bf
variable {a0:A}
def Ig {R:Type}{body:(A->Int->AB R)->A->Int->AB R}(l:AA α)(hl:l.length<=1099511627776)(step:A->α->A)(I:Nat->A->Prop)(j:A->AB R)(L:I 0 a0)(M:∀k a (i:Nat) (h:i<l.length),I i a->I (i+1) (step a l[i])/\body k a (i:Int)=k (step a l[i]) (Ar ((i:Int)+1)))(O:∀k a,I l.length a->body k a (l.length:Int)=j a):aS body Aw a0 0=j (l.foldl step a0):=by
 have key:∀n (i:Nat) (a:A),i+n=l.length->I i a->∀m,n<m->aS body m a (i:Int)=j ((l.drop i).foldl step a):=by
  intro n
  induction n with
  |zero=>
   intro i a hi ha m hm;obtain⟨m,rfl⟩:∃J,m=J+1:=⟨m-1,AL⟩
   have :i=l.length:=AL
   subst this;show body (aS body m) _ _=_;rw[O _ _ ha,PU];rfl
  |succ n U=>
   intro i a hi ha m hm;obtain⟨m,rfl⟩:∃J,m=J+1:=⟨m-1,AL⟩
   have q:i<l.length:=AL
   obtain⟨h1,h2⟩:=M (aS body m) a i q ha;show body (aS body m) _ _=_;rw[h2,wrap_succ i AL,U (i+1) _ AL h1 m AL,Ns q,Hy]
 have :=key l.length 0 a0 AL L Aw (fuel_lt hl);simpa using this
def a2K {R:Type}{body:(Int->A->AB R)->Int->A->AB R}(l:AA α)(hl:l.length<=1099511627776)(step:A->α->A)(I:Nat->A->Prop)(j:A->AB R)(L:I 0 a0)(M:∀k a (i:Nat) (h:i<l.length),I i a->I (i+1) (step a l[i])/\body k (i:Int) a=k (Ar ((i:Int)+1)) (step a l[i]))(O:∀k a,I l.length a->body k (l.length:Int) a=j a):aS body Aw 0 a0=j (l.foldl step a0):=by
 have key:∀n (i:Nat) (a:A),i+n=l.length->I i a->∀m,n<m->aS body m (i:Int) a=j ((l.drop i).foldl step a):=by
  intro n
  induction n with
  |zero=>
   intro i a hi ha m hm;obtain⟨m,rfl⟩:∃J,m=J+1:=⟨m-1,AL⟩
   have :i=l.length:=AL
   subst this;show body (aS body m) _ _=_;rw[O _ _ ha,PU];rfl
  |succ n U=>
   intro i a hi ha m hm;obtain⟨m,rfl⟩:∃J,m=J+1:=⟨m-1,AL⟩
   have q:i<l.length:=AL
   obtain⟨h1,h2⟩:=M (aS body m) a i q ha;show body (aS body m) _ _=_;rw[h2,wrap_succ i AL,U (i+1) _ AL h1 m AL,Ns q,Hy]
 have :=key l.length 0 a0 AL L Aw (fuel_lt hl);simpa using this
def Jz {α:Type}(p:α->Ac):∀l:AA α,l.find? p=l[l.findIdx p]?
 | []=>rfl
 |x::l=>by
  rw[zU,WE];cases h:p x with
  |true=>rfl
  |false=>simp[Jz p l]
def Ea (l:AA Ad)(id:Int):Option Ad:=l.find? λe=>e.Id==id
def Fv (l:AA Ad)(id:Int):Ad×Ac:=match Ea l id with
 |some e=>(e,true)
 |none=>(EI,false)
variable {e:Ad}{l:AA Ad}
def aON {id:Int}(h:Ea l id=some e):e.Id=id:=by
 have :=yS h;simpa using this
def PN {id:Int}(h:Ea l id=some e):e∈l:=YD h
def NT (l:AA Ad)(id:Int):(Fv l id).2=(Ea l id).isSome:=by
 unfold Fv;cases Ea l id<;>rfl
def aEZ (l:AA Ad)(hl:l.length<=1099511627776)(f:Ad->AB Ac)(p:Ad->Ac)(j:∀e,f e=some (p e)):
 tV l f=some (if l.findIdx p<l.length then((l.findIdx p:Nat):Int)else -1):=by
 unfold tV aUV;rw[JG l (fuel_lt hl) p (λi=>some (i:Int)) (some (-1))]
 ·split<;>rfl
 ·intro k i h;unfold aDN;rw[Ce h,j];rfl
 intro k;unfold aDN;rw[EX]
def found_eq (l:AA Ad)(p:Ad->Ac){n:Int}(j:n=if l.findIdx p<l.length then((l.findIdx p:Nat):Int)else -1):
 (cond (n<0) (some (EI,false)) ((Aq l n).bind λq=>some (q,true)))=some (match l.find? p with |some e=>(e,true)|none=>(EI,false)):=by
 subst j;rw[Jz];by_cases h:l.findIdx p<l.length
 ·rw[Dw h,EJ h,show decide (((l.findIdx p:Nat):Int)<0)=false by simp,CX h];rfl
 grind
def Ld (l:AA Ad)(id:Int)(hl:l.length<=1099511627776):JO l id=some (Fv l id):=by
 unfold JO a6E a3M;rw[aEZ l hl _ (λe=>e.Id==id) λ_=>rfl];exact found_eq l _ rfl
def aPF (l:AA Ad)(id:Int)(hl:l.length<=1099511627776):zD l id=some (if l.findIdx (λe=>e.Id==id)<l.length then((l.findIdx (λe=>e.Id==id):Nat):Int)else -1):=by
 unfold zD aWz;rw[JG l (fuel_lt hl) (λe=>e.Id==id) (λi=>some (i:Int)) (some (-1))]
 ·split<;>rfl
 ·intro k i h;unfold aGt;rw[Ce h]
 intro k;unfold aGt;rw[EX]
def J6 (l:AA Ad)(id:Int)(hl:l.length<=1099511627776):JK l id=some (Fv l id):=by
 unfold JK;rw[aPF l id hl];exact found_eq l _ rfl
def ofIds (l:AA Ad)(ids:AA Int):AA Ad:=ids.filterMap (Ea l)
def foldl_append {α β:Type}(f:α->AA β):∀(l:AA α) (a:AA β),l.foldl (λr x=>r++f x) a=a++l.flatMap f
 | [],a=>Bf
 |x::l,a=>by rw[Hy,foldl_append f l,MJ,JI]
def aT0 (l:AA Ad):∀ids,ofIds l ids=ids.flatMap λid=>(Ea l id).toList
 | []=>rfl
 |id::ids=>by
  unfold ofIds;rw[Vm,MJ,←aT0 l ids];cases Ea l id<;>rfl
def toList_le (o:AB α):o.toList.length<=1:=by cases o<;>simp
def Ll {id:Int}(h:Ea l id=some e):Fv l id=(e,true):=by unfold Fv;rw[h]
def U1 {id:Int}(h:Ea l id=none):Fv l id=(EI,false):=by unfold Fv;rw[h]
def gV (l:AA Ad)(ids:AA Int):(ofIds l ids).length<=ids.length:=List.length_filterMap_le ..
def aSw (l:AA Ad)(ids:AA Int):ids.foldl (λr id=>r++(Ea l id).toList) []=ofIds l ids:=by
 rw[foldl_append (λid=>(Ea l id).toList),aT0];rfl
def ajb (l:AA Ad)(ids:AA Int)(hl:l.length<=1000)(hi:ids.length<=1000000):xK l ids=some (ofIds l ids):=by
 unfold xK
 have hm:J4 376 EI 0 (ids.length:Int)=some []:=by
  unfold J4;rw[Dw a4p];rfl
 rw[hm];simp only[Af];unfold aOV;rw[Ig ids AL (λr id=>r++(Ea l id).toList) (λi r=>r.length<=i) (λr=>some r) Bf]
 ·rw[aSw]
 ·intro k a i h q;have I:=toList_le (Ea l ids[i]);refine⟨MO,?_⟩;unfold aEd a7J;rw[Ce h,Ld l _ AL];cases j:Ea l ids[i]with
  |none=>simp[U1 j]
  |some e=>
   rw[Ll j];simp only[Af,Bd,Td];rw[Dz Gm];rfl
 intro k a q;unfold aEd;rw[EX]
def a8y (l:AA Ad)(ids:AA Int)(hl:l.length<=1000)(hi:ids.length<=1000000):fQ l ids=some (ofIds l ids):=by
 unfold fQ aRs;rw[Ig ids AL (λr id=>r++(Ea l id).toList) (λi r=>r.length<=i) (λr=>some r) Bf]
 ·rw[aSw]
 ·intro k a i h q;have I:=toList_le (Ea l ids[i]);refine⟨MO,?_⟩;unfold aH8 a7x;rw[Ce h,J6 l _ AL];cases j:Ea l ids[i]with
  |none=>simp[U1 j]
  |some e=>
   rw[Ll j];simp only[Af,Bd,Td];rw[Dz Gm];rfl
 intro k a q;unfold aH8;rw[EX]
def aQZ (l:AA α)(i:Nat)(x:α)(h:i<l.length):l.set i x=l.take i++x::l.drop (i+1):=aEg▸by simp[h]
def aNH (A:AA α)(g:α)(D:AA α)(h:A.length=n):(A++g::D).take n=A/\(A++g::D).drop (n+1)=D:=by
 subst h;simp
def a6b (l:AA Int)(x:Int)(hi:Inc l)(hl:l.length<=1000000000):iq l x=some (put l x):=by
 refine dQ.eq ?_;unfold iq aUo
 have O:∀i,i<=l.length->(∀j,(Z:j<i)->(hl:j<l.length)->l[j]<x)->(∀h:i<l.length,x<l[i])->put l x=l.take i++x::l.drop i:=by
  intro i hi' h1 h2;obtain⟨e1,Y⟩:=aKt (decide<| · <x) l i hi' (λj Z hl=>by simpa using h1 j Z hl) (λhl=>by have :=h2 hl;simp;omega)
  have hno:Dv l x=false:=QV.2 λhm=>by
   obtain⟨q,hq,e4⟩:=I8 hm;rcases wu q i with h5|h5
   ·have :=h1 q h5 hq;omega
   have h6:=h2 AL;rcases wu i q with h7|h7
   ·have :=Jq.1 hi i q AL hq h7;omega
   have :q=i:=AL
   subst this;omega
  unfold put;rw[hno,e1,Y];rfl
 have J:∀i,i<=l.length->∀d,d<=l.length-i->∀m,d<m->dQ (aS (VR (i:Int) x) m ((i+d:Nat):Int) (l.take (i+d)++(l++[x]).getD (i+d) 0::l.drop (i+d))) (· =l.take i++x::l.drop i):=by
  intro i L d
  induction d with
  |zero=>
   intro _ m hm;obtain⟨m,rfl⟩:∃m',m=m'+1:=⟨m-1,AL⟩
   show dQ (VR (i:Int) x (aS (VR (i:Int) x) m) _ _) _;generalize aS (VR (i:Int) x) m=k;unfold VR;rw[show decide (((i+0:Nat):Int)>(i:Int))=false by simp];simp only[BO,QI];have hlen:i<(l.take i++(l++[x]).getD i 0::l.drop i).length:=Eh
   rw[CX hlen];refine .ret ?_;rw[bU,aQZ _ _ _ hlen];simp[List.take_append,List.drop_append,yU L]
  |succ d ih=>
   intro hd m hm;obtain⟨m,rfl⟩:∃m',m=m'+1:=⟨m-1,AL⟩
   have ih':=ih AL m AL;show dQ (VR (i:Int) x (aS (VR (i:Int) x) m) _ _) _;generalize aS (VR (i:Int) x) m=k at ih' ⊢;unfold VR;rw[show decide (((i+(d+1):Nat):Int)>(i:Int))=true by simp;omega];simp only[Bd];have w:Ar (((i+(d+1):Nat):Int)-1)=((i+d:Nat):Int):=NG
   have M:i+d<l.length:=AL
   have hL:(l.take (i+(d+1))++(l++[x]).getD (i+(d+1)) 0::l.drop (i+(d+1))).length=l.length+1:=Eh
   have h1:i+d<(l.take (i+(d+1))++(l++[x]).getD (i+(d+1)) 0::l.drop (i+(d+1))).length:=AL
   have h2:i+(d+1)<(l.take (i+(d+1))++(l++[x]).getD (i+(d+1)) 0::l.drop (i+(d+1))).length:=AL
   rw[w,CX h1];simp only[Af];rw[CX h2];simp only[Af]
   have hg:(l.take (i+(d+1))++(l++[x]).getD (i+(d+1)) 0::l.drop (i+(d+1)))[i+d]=l[i+d]:=by
    rw[List.getElem_append_left Eh];simp
   rw[hg,bU,aQZ _ _ _ h2]
   have e:(l.take (i+(d+1))++(l++[x]).getD (i+(d+1)) 0::l.drop (i+(d+1))).take (i+(d+1))++l[i+d]::(l.take (i+(d+1))++(l++[x]).getD (i+(d+1)) 0::l.drop (i+(d+1))).drop (i+(d+1)+1)=l.take (i+d)++(l++[x]).getD (i+d) 0::l.drop (i+d):=by
    have ht:(l.take (i+(d+1))).length=i+(d+1):=Eh
    rw[(aNH _ _ _ ht).1,(aNH _ _ _ ht).2];have h3:(l++[x]).getD (i+d) 0=l[i+d]:=by simp[List.getD,KZ M,M]
    rw[h3,show i+(d+1)=i+d+1 by omega,SI M,Ns M,JI];rfl
   rw[e];exact ih'
 have I:l++[x]=l.take l.length++(l++[x]).getD l.length 0::l.drop l.length:=Bf
 refine dZ l.length (fuel_lt AL) (λi=>∀j,(Z:j<i)->(hl:j<l.length)->l[j]<x) (λj Z=>AL) ?_ ?_
 ·intro i k L hI hk;unfold aIz;rw[show decide ((i:Int)<(l.length:Int))=true by simpa using L,CX L];simp only[Bd,Af];refine dQ.bif (λe=>?_) λe=>?_
  ·rw[wrap_succ i AL];refine hk λj Z hl'=>?_;by_cases ej:j=i
   ·subst ej;simpa using e
   exact hI j AL hl'
  have hge:¬l[i]<x:=WA
  refine dQ.bif (λY=>?_) λY=>?_
  ·have hx:l[i]=x:=aG
   refine .ret ?_;unfold put;rw[Me.2 (hx▸Eu L)];rfl
  have hx:l[i]≠x:=aG
  rw[Dz Gm];simp only[Af];rw[O i AL hI (λ_=>AL)];have w:Ar (((l++[x]).length:Int)-1)=((i+(l.length-i):Nat):Int):=aHG
  rw[w];have U:=J i AL (l.length-i) (Eo _) Aw (fuel_lt AL);rw[show i+(l.length-i)=l.length by omega]at U ⊢;rw[←I]at U;exact U
 intro k hI;unfold aIz;rw[show decide ((l.length:Int)<(l.length:Int))=false by simp];simp only[BO,Af];rw[Dz Gm];simp only[Af];rw[O l.length (Eo _) hI (λh=>AL)];have w:Ar (((l++[x]).length:Int)-1)=((l.length+0:Nat):Int):=aHG
 rw[w];have U:=J l.length (Eo _) 0 AL Aw (fuel_lt AL);rw[QI]at U ⊢;rw[←I]at U;exact U
def dR (l:AA Ad)(id:Int):Ac:=(Ea l id).isSome
def Uo (l:AA Ad)(ids:AA Int):AA Int:=ids.foldl (λr id=>bif dR l id then r else put r id) []
def FX (l:AA Ad)(ids:AA Int):AA Int:=(FN ids).filter (dR l)
variable {ids:AA Int}{x:Int}
def Le:x∈FX l ids↔x∈ids/\dR l x=true:=by unfold FX;rw[He,OJ]
def Yb (l:AA Ad)(ids:AA Int):Inc (FX l ids):=(NR ids).sublist V8
def akV (l:AA Ad)(ids:AA Int):(FX l ids).length<=ids.length:=FQ (I9 _ _) (ML ids)
def aGg (l:AA Ad):∀(ids r:AA Int),Inc r->Inc (ids.foldl (λr id=>bif dR l id then r else put r id) r)/\∀x,x∈ids.foldl (λr id=>bif dR l id then r else put r id) r↔x∈r\/x∈ids/\dR l x=false
 | [],r,h=>⟨h,λx=>Bf⟩
 |id::ids,r,h=>by
  rw[Hy];cases j:dR l id with
  |true=>
   obtain⟨h1,h2⟩:=aGg l ids r h;refine⟨h1,λx=>(h2 x).trans ⟨λh=>?_,λh=>?_⟩⟩
   ·rcases h with h|h
    ·exact .inl h
    exact .inr ⟨JX _ h.1,h.2⟩
   rcases h with h|⟨h,h3⟩
   ·exact .inl h
   rcases G7.1 h with rfl|h
   ·rw[j]at h3;cases h3
   exact .inr ⟨h,h3⟩
  |false=>
   obtain⟨h1,h2⟩:=aGg l ids (put r id) (Tf h);refine⟨h1,λx=>(h2 x).trans ?_⟩;rw[YP,G7];constructor
   ·rintro((h|rfl)|h)
    ·exact .inl h
    ·exact .inr ⟨.inl rfl,j⟩
    exact .inr ⟨.inr h.1,h.2⟩
   rintro(h|⟨rfl|h,h3⟩)
   ·exact .inl (.inl h)
   ·exact .inl (.inr rfl)
   exact .inr ⟨h,h3⟩
def a0O:x∈Uo l ids↔x∈ids/\dR l x=false:=by
 unfold Uo;rw[(aGg l ids [] .nil).2 x];simp
def aP7 (l:AA Ad)(ids:AA Int):(Uo l ids).length<=ids.length:=by
 have key:∀(ids r:AA Int),(ids.foldl (λr id=>bif dR l id then r else put r id) r).length<=r.length+ids.length:=by
  intro ids
  induction ids with
  |nil=>intro r;simp
  |cons id ids j=>
   intro r;rw[Hy];have h1:=j (cond (dR l id) r (put r id))
   have h2:(cond (dR l id) r (put r id)).length<=r.length+1:=by
    cases dR l id with
    |true=>exact Nat.le_succ _
    |false=>exact qH r id
   simp only[H8];omega
 have :=key ids [];simpa[Uo]using this
def uz (l:AA Ad)(ids:AA Int)(hl:l.length<=1000)(hi:ids.length<=500000000):Z4 l ids=some (Uo l ids):=by
 unfold Z4 aQF;rw[Ig ids AL (λr id=>bif dR l id then r else put r id) (λi r=>Inc r/\r.length<=i) (λr=>some r) ⟨.nil,Eo _⟩]
 ·rfl
 ·intro k a i h j;have hp:=aPF l ids[i] AL
  have I:dR l ids[i]=decide (l.findIdx (λe=>e.Id==ids[i])<l.length):=by
   unfold dR Ea;rw[Jz];by_cases h:l.findIdx (λe=>e.Id==ids[i])<l.length
   ·rw[EJ h,L8 h];rfl
   rw[Lu AL,Iq h];rfl
  refine⟨?_,?_⟩
  ·cases dR l ids[i]with
   |true=>exact⟨j.1,by have :=j.2;show a.length<=i+1;omega⟩
   |false=>exact⟨Tf j.1,by have :=qH a ids[i];have :=j.2;show(put a ids[i]).length<=i+1;omega⟩
  unfold aGU a8z;rw[Ce h,hp];simp only[Af];by_cases q:l.findIdx (λe=>e.Id==ids[i])<l.length
  ·rw[Dw q,I,L8 q,show decide (((l.findIdx (λe=>e.Id==ids[i]):Nat):Int)<0)=false by simp];rfl
  rw[EC q,I,Iq q,CX h];simp only[show decide ((-1:Int)<0)=true by decide,Bd,BO,Af];rw[a6b a _ j.1 (by have :=j.2;omega)];rfl
 intro k a j;unfold aGU;rw[EX]
def a7t (a b:AA Int)(h:a.length<=274877906944)(h2:b.length<=274877906944):gq a b=some (QH a b):=by
 unfold gq;rw[aKX a h];simp only[Af];have ha:=ML a;unfold aX7;rw[Ig (FN a) AL (λr x=>bif Dv b x then r else r++[x]) (λi r=>r.length<=i) (λr=>some r) (Eo _)]
 ·congr 1;unfold QH;generalize FN a=S
  have key:∀(S r:AA Int),S.foldl (λr x=>bif Dv b x then r else r++[x]) r=r++S.filter (λx=> !Dv b x):=by
   intro S
   induction S with
   |nil=>
    intro r;simp
   |cons x S j=>
    intro r;rw[Hy,j,V5];cases Dv b x<;>simp
  simpa using key S []
 ·intro k r i h q;have I:=Qj b (FN a)[i] AL;refine⟨?_,?_⟩
  ·cases Dv b (FN a)[i]with
   |true=>
    grind
   |false=>
    show(r++[(FN a)[i]]).length<=i+1;simp;omega
  unfold aE1 a6X;rw[Ce h,I];simp only[Af];cases Dv b (FN a)[i]with
  |true=>
   rfl
  |false=>
   simp only[JV,Bd,BO];rw[CX h];simp only[Af];rw[Dz Gm];rfl
 intro k r q;unfold aE1;rw[EX]
def aVk (l:AA Ad)(ids:AA Int):QH ids (Uo l ids)=FX l ids:=
 FD (aJZ _ _) (Yb _ _) λx=>by
  rw[aTl,a0O,Le]
  grind
def aTM (l:AA Ad)(ids:AA Int)(hl:l.length<=1000)(hi:ids.length<=100000):uD l ids=some (FX l ids):=by
 unfold uD;rw[uz l ids hl AL];simp only[Af];have :=aP7 l ids;rw[a7t _ _ AL AL,aVk];rfl
def aWo (l:AA Ad)(ids:AA Int)(hl:l.length<=1000)(hi:ids.length<=100000):a0o l ids=some (FX l ids):=by
 unfold a0o;rw[uz l ids hl AL];simp only[Af];have :=aP7 l ids;rw[a7t _ _ AL AL,aVk];rfl
def IV (l:AA Ad)(id:Int):AA Int:=(Fv l id).1.bQ
def VE (l:AA Ad)(r:AA Int)(x:Int):AA Int:=bif dR l x then put r x else r
def KP (l:AA Ad)(ids:AA Int):AA Int:=ids.foldl (λr id=>(IV l id).foldl (VE l) r) []
def a3p (l:AA Ad):∀(xs r:AA Int),Inc r->Inc (xs.foldl (VE l) r)/\(∀x,x∈xs.foldl (VE l) r↔x∈r\/x∈xs/\dR l x=true)/\(xs.foldl (VE l) r).length<=r.length+xs.length
 | [],r,h=>⟨h,λx=>Bf,Bf⟩
 |y::xs,r,h=>by
  rw[Hy];unfold VE;cases q:dR l y with
  |true=>
   obtain⟨h1,h2,h3⟩:=a3p l xs (put r y) (Tf h);refine⟨h1,λx=>(h2 x).trans ?_,?_⟩
   ·rw[YP,G7];constructor
    ·rintro((h|rfl)|h)
     ·exact .inl h
     ·exact .inr ⟨.inl rfl,q⟩
     exact .inr ⟨.inr h.1,h.2⟩
    rintro(h|⟨rfl|h,j⟩)
    ·exact .inl (.inl h)
    ·exact .inl (.inr rfl)
    exact .inr ⟨h,j⟩
   have :=qH r y;simp only[H8,Bd]at h3 ⊢;exact FQ h3 AL
  |false=>
   obtain⟨h1,h2,h3⟩:=a3p l xs r h;refine⟨h1,λx=>(h2 x).trans ⟨λh=>?_,λh=>?_⟩,?_⟩
   ·rcases h with h|h
    ·exact .inl h
    exact .inr ⟨JX _ h.1,h.2⟩
   ·rcases h with h|⟨h,j⟩
    ·exact .inl h
    rcases G7.1 h with rfl|h
    ·rw[q]at j;cases j
    exact .inr ⟨h,j⟩
   simp only[H8,BO]at h3 ⊢;exact FQ h3 AL
def aDz (l:AA Ad):∀(ids r:AA Int),Inc r->Inc (ids.foldl (λr id=>(IV l id).foldl (VE l) r) r)/\∀x,x∈ids.foldl (λr id=>(IV l id).foldl (VE l) r) r↔x∈r\/dR l x=true/\∃id∈ids,x∈IV l id
 | [],r,h=>⟨h,λx=>Bf⟩
 |id::ids,r,h=>by
  rw[Hy];obtain⟨j,q,_⟩:=a3p l (IV l id) r h;obtain⟨h1,h2⟩:=aDz l ids _ j
  grind
def a0m (l:AA Ad)(ids:AA Int):Inc (KP l ids):=(aDz l ids [] .nil).1
def Qw:x∈KP l ids↔dR l x=true/\∃id∈ids,x∈IV l id:=by
 unfold KP;rw[(aDz l ids [] .nil).2 x];simp
def chainOf (l:AA Ad)(ids:AA Int):AA Int:=l.foldl (λs _=>J3 s (KP l s)) (KP l (FX l ids))
inductive P7 (l:List Ad) (ids:List Int):Int->Prop
 |one {i x:Int} (h:i∈ids) (hx:x∈IV l i) (hk:dR l x=true):P7 l ids x
 |more {y x:Int} (h:P7 l ids y) (hx:x∈IV l y) (hk:dR l x=true):P7 l ids x
def aoz {i:Int}(h:x∈IV l i):dR l i=true:=by
 unfold IV at h;unfold dR;cases j:Ea l i with
 |none=>rw[U1 j]at h;cases h
 |some e=>rfl
def a0R {s t:AA Int}(hs:Inc s)(j:Inc t)(h:∀x∈s,x∈t):s.length<=t.length/\(t.length<=s.length->s=t):=by
 have e:s=t.filter (λx=>Dv s x):=FD hs (j.sublist V8) λx=>by
  rw[He,Me]
  grind
 have hl:=I9 (λx=>Dv s x) t;refine⟨by rw[e];exact hl,λq=>?_⟩;have h3:(t.filter (λx=>Dv s x)).length=t.length:=by have :=BM List.length e;omega
 rw[e];exact UW.2 (List.length_filter_eq_length_iff.1 h3)
def RH (l:AA Ad):AA Int:=FN (l.map (·.Id))
def a0B (h:dR l x=true):x∈RH l:=by
 unfold dR at h;obtain⟨e,j⟩:=Ro.1 h;exact OJ.2 (GH.2 ⟨e,PN j,aON j⟩)
def a1I (l:AA Ad):∀(l':AA Ad) (s:AA Int),Inc s->(∀x∈s,dR l x=true)->
 Inc (l'.foldl (λs _=>J3 s (KP l s)) s)/\(∀x∈l'.foldl (λs _=>J3 s (KP l s)) s,dR l x=true)/\(∀x∈s,x∈l'.foldl (λs _=>J3 s (KP l s)) s)/\
 ((RH l).length<=s.length+l'.length->∀x∈KP l (l'.foldl (λs _=>J3 s (KP l s)) s),x∈l'.foldl (λs _=>J3 s (KP l s)) s)
 | [],s,hs,I=>⟨hs,I,λ_ h=>h,λhlen x j=>by
     have h1:=(a0R hs (NR _) (λx j=>a0B (I x j))).2 (by show(RH l).length<=s.length;simpa using hlen);have h2:=a0B (Qw.1 j).1;unfold RH at h2
     rw[←h1]at h2;exact h2⟩
 |e::l',s,hs,I=>by
  rw[Hy]
  have J:∀x∈J3 s (KP l s),dR l x=true:=λx j=>by
   rcases aO.1 j with h|h
   ·exact I x h
   exact(Qw.1 h).1
  obtain⟨h1,h2,h3,M⟩:=a1I l l' (J3 s (KP l s)) (wO _ _) J;refine⟨h1,h2,λx j=>h3 x (aO.2 (.inl j)),λhlen=>?_⟩;have L:=a0R hs (wO s (KP l s)) λx j=>aO.2 (.inl j);by_cases q:s=J3 s (KP l s)
  ·
   have hst:∀(l':AA Ad),l'.foldl (λs _=>J3 s (KP l s)) s=s:=by
    intro l'
    induction l' with
    |nil=>
     rfl
    |cons e l' O=>
     grind
   rw[←q,hst];intro x j;rw[q];exact aO.2 (.inr j)
  grind
def aMl (l:AA Ad)(ids:AA Int):Inc (chainOf l ids):=(a1I l l _ (a0m _ _) λ_ j=>(Qw.1 j).1).1
def aaE (h:x∈chainOf l ids):dR l x=true:=(a1I l l _ (a0m _ _) λ_ j=>(Qw.1 j).1).2.1 x h
def aMs (l:AA Ad)(ids:AA Int):∀(l':AA Ad) (s:AA Int),(∀x∈s,P7 l ids x)->∀x∈l'.foldl (λs _=>J3 s (KP l s)) s,P7 l ids x
 | [],s,h=>h
 |e::l',s,h=>by
  rw[Hy];refine aMs l ids l' _ λx j=>?_;rcases aO.1 j with j|j
  ·exact h x j
  obtain⟨h1,y,h2,h3⟩:=Qw.1 j;exact .more (h y h2) h3 h1
def aEJ:x∈chainOf l ids↔P7 l ids x:=by
 constructor
 ·refine aMs l ids l _ (λx j=>?_) x;obtain⟨h1,y,h2,h3⟩:=Qw.1 j;exact .one (Le.1 h2).1 h3 h1
 obtain⟨h1,h2,h3,I⟩:=a1I l l _ (a0m l (FX l ids)) λ_ j=>(Qw.1 j).1
 have hlen:(RH l).length<=(KP l (FX l ids)).length+l.length:=by
  have :=ML (l.map (·.Id));unfold RH
  grind
 have J:=I hlen;intro h
 induction h with
 |one h j q=>
  exact h3 _ (Qw.2 ⟨q,_,Le.2 ⟨h,aoz j⟩,j⟩)
 |more h j q L=>
  exact J _ (Qw.2 ⟨q,_,L,j⟩)
def dN (l:AA Ad)(ids:AA Int):(chainOf l ids).length<=l.length:=by
 have h1:=(a0R (t:=RH l) (aMl l ids) (NR _) λx j=>a0B (aaE j)).1;have h2:=ML (l.map λe:Ad=>e.Id);unfold RH at h1
 grind
def RS (l:AA Ad):Prop:=∀e∈l,e.bQ.length<=40
def a5G (h:RS l)(id:Int):(IV l id).length<=40:=by
 unfold IV;cases j:Ea l id with
 |none=>rw[U1 j];exact F6 _
 |some e=>rw[Ll j];exact h e (PN j)
def aiA (l:AA Ad)(ids:AA Int):(KP l ids).length<=l.length:=by
 have h1:=(a0R (t:=RH l) (a0m l ids) (NR _) λx j=>a0B (Qw.1 j).1).1;have h2:=ML (l.map λe:Ad=>e.Id);unfold RH at h1
 grind
variable {r:AA Int}
def jX (hi:Inc r)(h:∀x∈r,dR l x=true):r.length<=l.length:=by
 have h1:=(a0R (t:=RH l) hi (NR _) λx j=>a0B (h x j)).1;have h2:=ML (l.map λe:Ad=>e.Id);unfold RH at h1
 grind
def aVB (l:AA Ad)(ids:AA Int)(hl:l.length<=1000)(ha:RS l)(hi:ids.length<=100000):Yj l ids true=some (KP l ids):=by
 unfold Yj aED;rw[Ig ids AL (λr id=>(IV l id).foldl (VE l) r) (λi r=>Inc r/\∀x∈r,dR l x=true) (λr=>some r) ⟨.nil,λx I=>by cases I⟩]
 ·rfl
 ·intro k r i h J;obtain⟨O,Z,_⟩:=a3p l (IV l ids[i]) r J.1;refine⟨⟨O,λx I=>?_⟩,?_⟩
  ·grind
  unfold rZ dD;rw[Ce h,J6 l _ AL];simp only[Af,Bd];show a7P (IV l ids[i]) l k (i:Int) r 0=_;have U:=a5G ha ids[i];unfold a7P;rw[Ig (IV l ids[i]) AL (VE l) (λ_ r=>Inc r/\∀x∈r,dR l x=true) (λr=>k r (Ar ((i:Int)+1))) J]
  ·intro k2 Y j L q;refine⟨?_,?_⟩
   ·unfold VE;cases M:dR l (IV l ids[i])[j]with
    |true=>
     exact⟨Tf q.1,λx I=>(YP.1 I).elim (q.2 x) λe=>e▸M⟩
    |false=>
     exact q
   unfold rF zM;rw[Ce L,J6 l _ AL];simp only[Af,NT];show(cond (dR l (IV l ids[i])[j]) _ _)=_;unfold VE;cases M:dR l (IV l ids[i])[j]with
   |true=>
    simp only[Bd];rw[CX L];simp only[Af];have :=jX q.1 q.2;rw[oU _ _ AL];rfl
   |false=>
    rfl
  intro k2 Y _;unfold rF;rw[EX]
 intro k r J;unfold rZ;rw[EX]
def aLq (l:AA Ad)(ids:AA Int)(hl:l.length<=1000)(ha:RS l)(h1:Inc ids)(h2:∀x∈ids,dR l x=true):ZO l ids true=some (l.foldl (λs _=>J3 s (KP l s)) ids):=by
 unfold ZO aLJ;rw[Ig l AL (λs _=>J3 s (KP l s)) (λ_ r=>Inc r/\∀x∈r,dR l x=true) (λr=>some r) ⟨h1,h2⟩]
 ·intro k r i h j;refine⟨⟨wO _ _,λx q=>(aO.1 q).elim (j.2 x) λh=>(Qw.1 h).1⟩,?_⟩;have I:=jX j.1 j.2;have J:=aiA l r;unfold qg;rw[dec_lt h];simp only[Bd];rw[aVB l r hl ha AL];simp only[Af];rw[aBk _ _ AL AL];rfl
 intro k r j;unfold qg;rw[DY];rfl
def aGf (l:AA Ad)(ids:AA Int)(hl:l.length<=1000)(ha:RS l)(hi:ids.length<=100000):jG l ids=some (chainOf l ids):=by
 unfold jG;have q:=akV l ids;rw[aTM l ids hl hi];simp only[Af];rw[aVB l _ hl ha AL];simp only[Af];rw[aLq l _ hl ha (a0m _ _) λx j=>(Qw.1 j).1];rfl
section
variable {R B C D E F G:Type}{Q:R->Prop}
def Ux {body:(A->B->C->AB R)->A->B->C->AB R}(I:Nat->A->B->C->Prop)(hs:∀m a b c k,I m a b c->(∀j a' q J,j<m->I j a' q J->dQ (k a' q J) Q)->dQ (body k a b c) Q):
 ∀n m a b c,m<n->I m a b c->dQ (iM body n a b c) Q
 |0,m,_,_,_,h,_=>AL
 |n+1,m,a,b,c,h,hi=>hs m a b c _ hi λj a' q J h' L=>Ux I hs n j a' q J AL L
def aDY {body:(A->B->C->D->E->AB R)->A->B->C->D->E->AB R}(I:Nat->A->B->C->D->E->Prop)(hs:∀m a b c d e k,I m a b c d e->(∀j a' q J L e',j<m->I j a' q J L e'->dQ (k a' q J L e') Q)->dQ (body k a b c d e) Q):
 ∀n m a b c d e,m<n->I m a b c d e->dQ (DW body n a b c d e) Q
 |0,m,_,_,_,_,_,h,_=>AL
 |n+1,m,a,b,c,d,e,h,hi=>hs m a b c d e _ hi λj a' q J L e' h' M=>aDY I hs n j a' q J L e' AL M
def aC2 {body:(A->B->C->D->E->F->AB R)->A->B->C->D->E->F->AB R}(I:Nat->A->B->C->D->E->F->Prop)(hs:∀m a b c d e f k,I m a b c d e f->(∀j a' q J L e' M,j<m->I j a' q J L e' M->dQ (k a' q J L e' M) Q)->dQ (body k a b c d e f) Q):
 ∀n m a b c d e f,m<n->I m a b c d e f->dQ (zN body n a b c d e f) Q
 |0,m,_,_,_,_,_,_,h,_=>AL
 |n+1,m,a,b,c,d,e,f,h,hi=>hs m a b c d e f _ hi λj a' q J L e' M h' O=>aC2 I hs n j a' q J L e' M AL O
def aSy {body:(A->B->C->D->E->F->G->AB R)->A->B->C->D->E->F->G->AB R}(I:Nat->A->B->C->D->E->F->G->Prop)(hs:∀m a b c d e f g k,I m a b c d e f g->(∀j a' q J L e' M O,j<m->I j a' q J L e' M O->dQ (k a' q J L e' M O) Q)->dQ (body k a b c d e f g) Q):
 ∀n m a b c d e f g,m<n->I m a b c d e f g->dQ (Kq body n a b c d e f g) Q
 |0,m,_,_,_,_,_,_,_,h,_=>AL
 |n+1,m,a,b,c,d,e,f,g,h,hi=>hs m a b c d e f g _ hi λj a' q J L e' M O h' U=>aSy I hs n j a' q J L e' M O AL U
end
def UJ {V:Type}:∀(m:AA (Int×V)) (k k':Int) (v:V),DT (FU m k v) k'=bif k'==k then some v else DT m k'
 | [],k,k',v=>by
   unfold FU DT;rfl
 |p::m,k,k',v=>by
  unfold FU;cases h:k==p.1 with
  |true=>
   have h1:k=p.1:=LZ
   subst h1;simp only[Bd,DT];cases k'==p.1<;>rfl
  |false=>
   have h1:k≠p.1:=LZ
   simp only[BO,DT,UJ m k k' v];cases h2:k'==p.1 with
   |true=>
    have h3:k'=p.1:=LC
    subst h3;have :(p.1==k)=false:=by simpa using λe:p.1=k=>h1 e.symm
    rw[this];rfl
   |false=>rfl
def Yx (l:AA Ad)(m:AA (Int×Int)):Prop:=∀id,(DT m id=none/\Ea l id=none)\/∃(n:Nat) (e:Ad),DT m id=some (n:Int)/\Ea l id=some e/\l[n]? =some e
variable {m:AA (Int×Int)}
def Yx.isSome (h:Yx l m)(id:Int):(DT m id).isSome=dR l id:=by
 unfold dR;rcases h id with⟨h1,h2⟩|⟨n,e,h1,h2,_⟩<;>rw[h1,h2]<;>rfl
def Yx.get (h:Yx l m){id:Int}(j:Ea l id=some e):Aq l ((DT m id).getD 0)=some e:=by
 rcases h id with⟨_,h2⟩|⟨n,e',h1,h2,h3⟩
 ·grind
 rw[j]at h2;cases h2;rw[h1];show Aq l (n:Int)=_;rw[a2R,h3]
def a4A (l:AA Ad)(hl:l.length<=1000):dQ (VB l) (Yx l):=by
 unfold VB aHx
 refine Yu (λm a b=>∃i:Nat,a=(i:Int)-1/\m=i/\i<=l.length/\∀id,(DT b id=none/\(l.drop i).find? (λe=>e.Id==id)=none)\/∃(n:Nat) (e:Ad),DT b id=some (n:Int)/\(l.drop i).find? (λe=>e.Id==id)=some e/\l[n]? =some e) ?_ Aw l.length _ _ (fuel_lt AL)
  ⟨l.length,NG,rfl,Eo _,λid=>.inl ⟨rfl,Bf⟩⟩
 rintro m a b k ⟨i,rfl,hm,hi,h⟩ I;unfold Rep;refine dQ.bif (λe=>?_) λe=>?_
 ·have q:0<i:=by have :=LW e;omega
  have j:i-1<l.length:=AL
  have J:(i:Int)-1=((i-1:Nat):Int):=AL
  rw[J,CX j];simp only[Af];refine I (i-1) _ _ AL ⟨i-1,NG,rfl,AL,λid=>?_⟩;rw[UJ,Ns j,show i-1+1=i by omega,zU]
  grind
 have L:i=0:=by have :=Jk e;omega
 subst L;refine .ret λid=>?_;have :=h id;rw[pU]at this;exact this
inductive SQ (l:List Ad) (from_:List Int):Int->Prop
 |one {x:Int} (h:x∈from_) (hk:dR l x=true):SQ l from_ x
 |more {y x:Int} (h:SQ l from_ y) (hx:x∈IV l y) (hk:dR l x=true):SQ l from_ x
def SQ.dR {f:AA Int}(h:SQ l f x):dR l x=true:=by cases h<;>assumption
def alp (h:x∉r):(put r x).length=r.length+1:=by
 unfold put;rw[EC (by rw[Me];exact h),Em,H8];have :=BM List.length (uM (p:=(decide<| · <x)) (l:=r))
 grind
def aWG (r:AA Int)(x:Int):FN (r++[x])=put (FN r) x:=by unfold FN;rw[X5];rfl
structure aeH (l:List Ad) (from_ next aE6:List Int) (i:Nat) (out later:List Int) (found level:List (Int×Bool)):Prop where
 found:∀x,(DT found x).getD false=true↔x∈out
 level:∀x,(DT level x).getD false=true->x∈out
 nodup:(FN out).length=out.length
 rch:∀x∈out,SQ l from_ x
 seen:∀x∈next.take i,dR l x=true->x∈out
 sub:∀x∈aE6,x∈out
 ref:∀y∈out,y∈aE6\/∀x∈IV l y,x∈later
 back:∀x∈later,∃y∈out,x∈IV l y
 size:later.length+40*aE6.length<=40*out.length
 same:out.length=aE6.length->later=[]
def aEt {j:AA Int}(h:(FN j).length=j.length)(q:∀x∈j,dR l x=true):j.length<=l.length:=by
 rw[←h];exact jX (NR j) λx I=>q x (OJ.1 I)
def afm (l:AA Ad)(h:Ea l x=some e):Us e=some (IV l x):=by
 unfold Us IV;rw[Ll h]
def aUY (l:AA Ad)(q:AA Int)(hl:l.length<=1000)(ha:RS l)(hf:q.length<=10000000):
 dQ (YN l q λa0=>Us a0) (λr=>Inc r/\∀x,x∈r↔SQ l q x):=by
 unfold YN;refine(a4A l hl).bind λat_ hat=>?_;unfold aDJ
 refine aDY (λm J next at' found level=>at'=at_/\m=2*(l.length-J.length)+(if next=[]then 0 else 1)/\next.length<=10000000/\(∀x,(DT found x).getD false=true↔x∈J)/\(FN J).length=J.length/\
  (∀x∈J,SQ l q x)/\(∀x∈next,dR l x=true->SQ l q x)/\(∀x∈q,dR l x=true->x∈J\/x∈next)/\(∀y∈J,∀x∈IV l y,dR l x=true->x∈J\/x∈next)) ?_ Aw (2*(l.length-([]:AA Int).length)+(if q=[]then 0 else 1)) _ _ _ _ _ ?_ ?_
 ·rintro m J next at2 found level k ⟨aPS,rfl,hn,h1,h2,h3,h4,h5,h6⟩ U;subst aPS;unfold a0d;have hol:=aEt h2 λx j=>(h3 x j).dR;refine dQ.bif (λe=>?_) λe=>?_
  ·have hne:next≠[]:=by
    rintro rfl;simp at e
   unfold aCY;refine aC2 (body:=nY next l (λa0=>Us a0) k) (λ(m:Nat) (o la:AA Int) (c:Int) (d:AA (Int×Int)) (fo le:AA (Int×Ac))=>∃i:Nat,c=i/\i+m=next.length/\d=at2/\aeH l q next J i o la fo le) ?_ Aw next.length _ _ _ _ _ _ qc ?_
   ·rintro m o la c d fo le k2 ⟨i,rfl,hm,rfl,I⟩ Z;unfold nY;refine dQ.bif (λe=>?_) λe=>?_
    ·have hi:i<next.length:=WA
     have w:=wrap_succ i AL;have aPT:=aEt I.nodup λx j=>(I.rch x j).dR;rw[CX hi];simp only[Af];rw[hat.isSome];unfold a1f;have M:next.take (i+1)=next.take i++[next[i]]:=by rw[SI hi]
     cases hkn:dR l next[i]with
     |false=>
      simp only[JV,Bd,Af,w];refine Z (m-1) _ _ _ _ _ _ AL ⟨i+1,rfl,AL,rfl,{ I with seen:=λx j U=>?_ }⟩;rw[M,KG]at j;rcases j with j|j
      ·exact I.seen x j U
      rw[QC.1 j,hkn]at U;cases U
     |true=>
      simp only[FK,BO,Af];by_cases Y:next[i]∈o
      ·rw[(I.found next[i]).2 Y];simp only[Bd,Af,w];refine Z (m-1) _ _ _ _ _ _ AL ⟨i+1,rfl,AL,rfl,{ I with seen:=λx j U=>?_ }⟩;rw[M,KG]at j;rcases j with j|j
       ·exact I.seen x j U
       rw[QC.1 j];exact Y
      have f1:(DT fo next[i]).getD false=false:=by
       cases h:(DT fo next[i]).getD false with
       |false=>
        rfl
       |true=>
        exact absurd ((I.found _).1 h) Y
      have f2:(DT le next[i]).getD false=false:=by
       cases h:(DT le next[i]).getD false with
       |false=>
        rfl
       |true=>
        exact absurd (I.level _ h) Y
      rw[f1,f2];simp only[BO,Af];obtain⟨ev,hev⟩:=Ro.1 (show(Ea l next[i]).isSome=true from hkn);rw[Dz Gm];simp only[Af];rw[hat.get hev];simp only[Af];rw[afm l hev];simp only[Af];have hau:=a5G ha next[i];have hsz:=I.size;rw[Dz AL];simp only[Af,w];refine Z (m-1) _ _ _ _ _ _ AL ⟨i+1,rfl,AL,rfl,?_⟩;have hnx:SQ l q next[i]:=h4 _ (Eu hi) hkn;refine⟨λx=>?_,λx j=>?_,?_,λx j=>?_,λx j U=>?_,λx j=>a1j _ (I.sub x j),λy O=>?_,λx j=>?_,?_,λh=>?_⟩
      ·rw[UJ,KG,QC];cases j:x==next[i]with
       |true=>
        grind
       |false=>
        simp only[BO];rw[I.found x];exact⟨.inl,λh=>h.elim id λh=>by simp[h]at j⟩
      ·rw[UJ]at j;rw[KG,QC];cases hxe:x==next[i]with
       |true=>
        grind
       |false=>
        rw[hxe]at j;exact .inl (I.level x j)
      ·rw[aWG,alp (λh=>Y (OJ.1 h)),I.nodup];simp
      ·rcases KG.1 j with j|j
       ·exact I.rch x j
       rw[QC.1 j];exact hnx
      ·rw[M,KG]at j;rcases j with j|j
       ·exact a1j _ (I.seen x j U)
       exact a7N _ j
      ·rcases KG.1 O with O|O
       ·exact(I.ref y O).imp id λh x j=>a1j _ (h x j)
       rw[QC.1 O];exact .inr λx j=>a7N _ j
      ·rcases KG.1 j with j|j
       ·obtain⟨y,O,h⟩:=I.back x j;exact⟨y,a1j _ O,h⟩
       exact⟨next[i],a7N _ (QC.2 rfl),j⟩
      ·simp only[Em,Oh];omega
      have :=I.size;simp only[Em,Oh]at h;omega
    have hi:i=next.length:=by
      have :¬i<next.length:=WA
      omega
    subst hi;have aPT:=aEt I.nodup λx j=>(I.rch x j).dR;have hsz:=I.size;refine U (2*(l.length-o.length)+(if la=[]then 0 else 1)) _ _ _ _ _ ?_ ⟨rfl,rfl,AL,I.found,I.nodup,I.rch,λx j L=>?_,λx j L=>?_,λy O x j L=>?_⟩
    ·rw[EC hne];have hle:J.length<=o.length:=AL
     rcases wu J.length o.length with h|h
     ·split<;>omega
     have :=I.same AL
     grind
    ·obtain⟨y,O,h⟩:=I.back x j;exact .more (I.rch y O) h L
    ·rcases h5 x j L with h|h
     ·exact .inl (I.sub x h)
     exact .inl (I.seen x (by rw[Ho];exact h) L)
    rcases I.ref y O with h|h
    ·rcases h6 y h x j L with h|h
     ·exact .inl (I.sub x h)
     exact .inl (I.seen x (by rw[Ho];exact h) L)
    grind
   exact⟨0,rfl,AL,rfl,⟨h1,λx j=>by simp[DT]at j,h2,h3,λx j=>a2J,λ_ h=>h,λy O=>.inl O,λx j=>(H9 j).elim,Bf,λ_=>rfl⟩⟩
  have hz:next=[]:=by
   cases next with
   |nil=>
    rfl
   |cons a b=>
    simp at e
  subst hz;rw[mV J AL];refine .ret ⟨NR _,λx=>?_⟩;rw[OJ];refine⟨h3 x,λh=>?_⟩
  induction h with
  |one h L=>
   grind
  |more h j L ih=>
   grind
 ·have :Aw=9223372036854775808:=rfl
  grind
 exact⟨rfl,rfl,hf,λx=>by simp[DT],rfl,λx j=>(H9 j).elim,λx j U=>.one j U,λx j _=>.inr j,λy O=>(H9 O).elim⟩
def aHK (l:AA Ad)(ids:AA Int)(hl:l.length<=1000)(ha:RS l)(hi:ids.length<=100000):bJ l ids=some (chainOf l ids):=by
 refine dQ.eq ?_;unfold bJ;refine(a4A l hl).bind λat_ q=>?_;unfold aX9;rw[Ig ids AL (λr id=>r++IV l id) (λi r=>r.length<=40*i) (λr=>(YN l r λa0=>Us a0).bind λM=>some M) Bf]
 ·rw[foldl_append (IV l),Ij]
  have hlen:(ids.flatMap (IV l)).length<=40*ids.length:=by
   have key:∀ids:AA Int,(ids.flatMap (IV l)).length<=40*ids.length:=by
    intro ids
    induction ids with
    |nil=>simp
    |cons x ids L=>have :=a5G ha x;rw[MJ,Em,H8];omega
   exact key ids
  refine(aUY l _ hl ha AL).bind λr O=>.ret ?_;refine FD O.1 (aMl l ids) λx=>(O.2 x).trans (Iff.trans ?_ aEJ.symm);constructor
  ·intro h
   induction h with
   |one h j=>
    obtain⟨i,hi,h⟩:=XQ.1 h;exact .one hi h j
   |more h I j L=>exact .more L I j
  intro h
  induction h with
  |one h I j=>exact .one (XQ.2 ⟨_,h,I⟩) j
  |more h I j L=>exact .more L I j
 ·intro k r i h Y;have U:=a5G ha ids[i];refine⟨by simp only[Em];omega,?_⟩;unfold aD2 a9Z;rw[Ce h,q.isSome];cases j:dR l ids[i]with
  |false=>
   have :IV l ids[i]=[]:=by
    unfold IV;rw[U1 (by unfold dR at j;simpa using j)];rfl
   rw[this,MH];rfl
  |true=>
   obtain⟨ev,J⟩:=Ro.1 (show(Ea l ids[i]).isSome=true from j);simp only[Bd];rw[q.get J];simp only[Af];have :IV l ids[i]=ev.bQ:=by unfold IV;rw[Ll J]
   rw[←this,Dz AL];rfl
 intro k r _;unfold aD2;rw[EX]
def yR (e:Ad):Ad:={ e with bP:=e.bQ,bQ:=e.bP }
def Gz (l:AA Ad):AA Ad:=l.map yR
def aTA (l:AA Ad)(i:Int):Aq (Gz l) i=(Aq l i).map yR:=by
 unfold Aq Gz;split
 ·rw[KJ]
 rfl
def aVv (l:AA Ad)(id:Int):Ea (Gz l) id=(Ea l id).map yR:=by
 unfold Ea Gz;rw[List.find?_map];rfl
def aJX (l:AA Ad)(id:Int):dR (Gz l) id=dR l id:=by
 unfold dR;rw[aVv];cases Ea l id<;>rfl
def aQ7 (l:AA Ad)(id:Int):Fv (Gz l) id=(yR (Fv l id).1,(Fv l id).2):=by
 unfold Fv;rw[aVv];cases Ea l id<;>rfl
def qP (l:AA Ad):(Gz l).length=l.length:=DK ..
def anR (l:AA Ad):VB (Gz l)=VB l:=by
 have h:Rep (Gz l)=Rep l:=by
  funext k a b;unfold Rep;rw[aTA];cases Aq l a<;>rfl
 unfold VB aHx;rw[h,qP]
def akh (l:AA Ad)(j:AA Int):YN l j (λa0=>pG a0)=YN (Gz l) j λa0=>Us a0:=by
 have h2:∀next k,nY next l (λa0=>pG a0) k=nY next (Gz l) (λa0=>Us a0) k:=λnext k=>by
  funext k2 o q c d I le;unfold nY a1f;simp only[aTA,Option.bind_map];rfl
 have h1:a0d l (λa0=>pG a0)=a0d (Gz l) λa0=>Us a0:=by
  funext k o n a f le;unfold a0d aCY;simp only[h2]
 unfold YN aDJ;rw[anR,h1]
def aQf (l:AA Ad):Prop:=RS (Gz l)
def kK (l:AA Ad)(ids:AA Int):AA Int:=l.foldl (λs _=>J3 s (KP (Gz l) s)) (FX l ids)
def aXw (l:AA Ad)(ids:AA Int):kK l ids=(Gz l).foldl (λs _=>J3 s (KP (Gz l) s)) (FX (Gz l) ids):=by
 unfold kK
 have :FX (Gz l) ids=FX l ids:=by
  unfold FX;congr 1;funext x;exact aJX l x
 rw[this]
 conv=>rhs;unfold Gz
 rw[List.foldl_map];rfl
def aTK (l:AA Ad)(ids:AA Int):∀(l':AA Ad) (s:AA Int),(∀x∈s,SQ l ids x)->∀x∈l'.foldl (λs _=>J3 s (KP l s)) s,SQ l ids x
 | [],s,h=>h
 |e::l',s,h=>by
  rw[Hy];refine aTK l ids l' _ λx j=>?_;rcases aO.1 j with j|j
  ·exact h x j
  obtain⟨h1,y,h2,h3⟩:=Qw.1 j;exact .more (h y h2) h3 h1
def a2m (l:AA Ad)(ids:AA Int):Inc (kK l ids)/\∀x,x∈kK l ids↔SQ (Gz l) ids x:=by
 rw[aXw];obtain⟨h1,h2,h3,I⟩:=a1I (Gz l) (Gz l) (FX (Gz l) ids) (Yb _ _) λ_ j=>(Le.1 j).2;refine⟨h1,λx=>⟨aTK _ _ _ _ (λx j=>.one (Le.1 j).1 (Le.1 j).2) x,λh=>?_⟩⟩
 have hlen:(RH (Gz l)).length<=(FX (Gz l) ids).length+(Gz l).length:=by
  have :=ML ((Gz l).map (·.Id));unfold RH;rw[DK]at this;omega
 have J:=I hlen
 induction h with
 |one h q=>exact h3 _ (Le.2 ⟨h,q⟩)
 |more h j q L=>exact J _ (Qw.2 ⟨q,_,L,j⟩)
section
variable {l:AA Ad} {ids:AA Int} (hl:l.length <= 1000) (hp:aQf l) (hi:ids.length <= 100000)
include hl hp hi
theorem ag5 :a4r l ids=some (kK l ids):=by
 unfold a4r;rw[akh];obtain⟨h1,h2⟩:=a2m l ids;refine dQ.eq ((aUY (Gz l) ids (by rw[qP];exact hl) hp AL).bind λr j=>.ret ?_);exact FD j.1 h1 λx=>(j.2 x).trans (h2 x).symm
omit hp hi
theorem ae8 (q:AA Int)(k:AA Int->Int->AB (AA Int))(i:Int):rF q l k i=rF q (Gz l) k i:=by
 have h1:l.length<=1099511627776:=AL
 have h2:(Gz l).length<=1099511627776:=by rw[qP];omega
 funext k2 r j;unfold rF zM;simp only[J6 l _ h1,J6 (Gz l) _ h2,aQ7,Af]
theorem al1 (s:AA Int):rZ s l false=rZ s (Gz l) true:=by
 have h1:l.length<=1099511627776:=AL
 have h2:(Gz l).length<=1099511627776:=by rw[qP];omega
 funext k r i;unfold rZ;cases decide (i<(s.length:Int))with
 |false=>rw[BO,BO]
 |true=>
  cases Aq s i with
  |none=>rw[Bd,Bd,aAR,aAR]
  |some x=>
   have e:∀j,dD l k i r j=dD (Gz l) k i r j:=λj=>by
    unfold dD a7P;rw[ae8 hl]
   rw[Bd,Bd,Af,Af,J6 l _ h1,J6 (Gz l) _ h2,Af,Af,BO,Bd,aQ7,e];exact BM (dD (Gz l) k i r) (rfl:(Fv l x).1.bP=(yR (Fv l x).1).bQ)
theorem acn (s:AA Int):Yj l s false=Yj (Gz l) s true:=by
 unfold Yj aED;rw[al1 hl]
theorem aYm (s:AA Int):ZO l s false=ZO (Gz l) s true:=by
 have h1:qg l false=qg (Gz l) true:=by
  funext k r i;unfold qg;rw[qP,acn hl]
 unfold ZO aLJ;rw[h1]
omit hl
theorem ak3 (l:AA Ad)(ids:AA Int):FX (Gz l) ids=FX l ids:=by
 unfold FX;congr 1;funext x;exact aJX l x
include hl hp hi
theorem aYy :a6f l ids=some (kK l ids):=by
 unfold a6f;rw[aTM l ids hl hi,Af,aYm hl,←ak3,aLq (Gz l) _ (by rw[qP];exact hl) hp (Yb _ _) λx j=>(Le.1 j).2,←aXw,Af]
end
def Xz (l:AA Ad)(a b:Int):Ac:=a != b&&Dv (kK l [b]) a
def aKe :∀x:AA UInt8,Op.bytesLess x x=false
 | []=>rfl
 |a::x=>by
  unfold Op.bytesLess;rw[aKe x];simp
def aPy :∀{x y z:AA UInt8},Op.bytesLess x y=true->Op.bytesLess y z=true->Op.bytesLess x z=true
 |_,_,[],_,h=>a7j
 | [],_,_::_,_,_=>
     rfl
 |_::_,[],_::_,h,_=>a7j
 |a::x,b::y,c::z,h,k=>by
  simp only[Op.bytesLess,pY,Dx,Ik,OC]at h k ⊢;rcases h with h|⟨rfl,h⟩<;>rcases k with k|⟨rfl,k⟩
  ·grind
  ·exact .inl h
  ·exact .inl k
  exact .inr ⟨rfl,aPy h k⟩
def aQq :∀{x y:AA UInt8},Op.bytesLess x y=false->Op.bytesLess y x=false->x=y
 | [],[],_,_=>rfl
 | [],_::_,h,_=>a7j
 |_::_,[],_,h=>a7j
 |a::x,b::y,h,k=>by
  simp only[Op.bytesLess,tu,Bool.and_eq_false_iff,qR,aY]at h k;have e:a=b:=UInt8.le_antisymm (UInt8.not_lt.1 k.1) (UInt8.not_lt.1 h.1);subst e;have h2:=h.2.resolve_left (λh=>h rfl);have k2:=k.2.resolve_left (λh=>h rfl);rw[aQq h2 k2]
def GU (a b:BN):Ac:=decide (a.Kind<b.Kind)||(a.Kind==b.Kind&&Op.bytesLess a.Key.toList b.Key.toList)
def Ji (a b:BN):Ac:=a.Kind==b.Kind&&(a.Key=b.Key)
def anX (a:BN):GU a a=false:=by unfold GU;rw[aKe];simp
variable {a b c:BN}
def aVA (h:GU a b=true)(k:GU b c=true):GU a c=true:=by
 unfold GU at *;simp only[pY,Dx,Ik,OC]at *;rcases h with h|⟨h1,h2⟩<;>rcases k with k|⟨j,k2⟩
 ·grind
 ·grind
 ·grind
 exact .inr ⟨AL,aPy h2 k2⟩
def Xf:Ji a b=true↔a.Kind=b.Kind/\a.Key=b.Key:=by unfold Ji;simp
def aOe (h:GU a b=false)(k:GU b a=false):Ji a b=true:=by
 unfold GU at *;simp only[tu,Bool.and_eq_false_iff,qR,aY]at *;have e:a.Kind=b.Kind:=AL
 rw[Xf];exact⟨e,toList_inj (aQq (h.2.resolve_left λn=>n e) (k.2.resolve_left λn=>n e.symm))⟩
def zH (h:Ji a b=true):GU a b=false:=by
 obtain⟨h1,h2⟩:=Xf.1 h;unfold GU;rw[h1,h2,aKe];simp
def wS (h:Ji a b=true):GU a c=GU b c/\GU c a=GU c b:=by
 obtain⟨h1,h2⟩:=Xf.1 h;unfold GU
 grind
def aqJ (a b:BN):yD a b=some (GU a b):=by
 unfold yD GU
 grind
def akm (k:Int)(key:BH)(m:Int)(o:BH)(i j:Int):a3Q k key m o=some (GU ⟨k,key,i⟩ ⟨m,o,j⟩):=by
 unfold a3Q GU
 grind
def Fj (s:AA BN)(e:BN):Nat:=s.findIdx λx=> !GU x e
def LQ (s:AA BN)(e:BN):Ac:=match s[Fj s e]? with
 |some x=>Ji x e
 |none=>false
def a01 (s:AA BN)(e:BN):Fj s e<=s.length:=List.findIdx_le_length
variable {e:BN}{s:AA BN}
def aSz (h:Fj s e<s.length):GU s[Fj s e] e=false:=by
 have :=a1L (w:=h);unfold Fj;simpa using this
def aXv (s:AA BN)(k:Int)(key:BH)(hs:s.length<=1000000):a0n s k key=some (((Fj s ⟨k,key,0⟩:Nat):Int),LQ s ⟨k,key,0⟩):=by
 unfold a0n aH4 aSP;generalize j:(⟨k,key,0⟩:BN)=e
 have hp:bg (a4X s (λa0=>a0X a0 e) (λa0=>Mid a0 e)) Aw 0=some (((Fj s e:Nat):Int),LQ s e):=by
  rw[JG s (fuel_lt AL) (λx=> !GU x e) (λi=>some (((i:Nat):Int),match s[i]? with |some x=> !GU e x|none=>false)) (some (((s.length:Nat):Int),false))]
  ·split
   ·rename_i h;congr 2;unfold LQ Fj;rw[EJ h];have h1:GU s[s.findIdx λx=> !GU x e] e=false:=aSz h;show(!GU e s[s.findIdx λx=> !GU x e])=Ji s[s.findIdx λx=> !GU x e] e;cases h2:GU e s[s.findIdx λx=> !GU x e]with
    |false=>
     rw[aOe h1 h2];rfl
    |true=>
     cases h3:Ji s[s.findIdx λx=> !GU x e] e with
     |false=>
      rfl
     |true=>
      rw[(wS h3).2,anX]at h2;cases h2
   rename_i h;have h':Fj s e=s.length:=by have :=a01 s e;unfold Fj at *;omega
   have h2:LQ s e=false:=by unfold LQ;rw[h',Lu (Eo _)]
   rw[h',h2]
  ·intro k2 i h;unfold a4X;rw[Ce h,Ce h];simp only[a0X,Mid,aqJ,Af]
   grind
  intro k2;unfold a4X;rw[EX,EX];rfl
 rw[hp];rfl
def Ku (s:AA BN):Prop:=s.Pairwise λa b=>GU a b=true
def Hz (s:AA BN)(k:Int)(key:BH):Int×Ac:=match s.find? λx=>Ji x ⟨k,key,0⟩with
 |some x=>(x.Id,true)
 |none=>(0,false)
def a9i (s:AA BN)(k:Int)(key:BH)(hs:s.length<=1000000):Z5 s k key=some (Hz s k key):=by
 unfold Z5 aW0;rw[JG s (fuel_lt AL) (λx=>Ji x ⟨k,key,0⟩) (λi=>(Aq s (i:Int)).bind λj=>some (j.Id,true)) (some (0,false))]
 ·unfold Hz;rw[Jz];split
  ·rename_i h;rw[CX h,EJ h];rfl
  rename_i h;rw[Lu AL]
 ·intro k2 i h;unfold aH9;rw[Ce h,CX h];simp only[Af];unfold Ji;rw[JC];cases s[i].Kind==k<;>rfl
 intro k2;unfold aH9;rw[EX]
def alE (h:Ku s)(e:BN):s.find? (λx=>Ji x e)=match s[Fj s e]? with |some x=>if Ji x e then some x else none|none=>none:=by
 induction s with
 |nil=>rfl
 |cons a s j=>
  have h':=OE.1 h;unfold Fj;rw[zU,WE];cases hp:GU a e with
  |true=>
   have hs:Ji a e=false:=by
    cases hs:Ji a e with
    |false=>rfl
    |true=>rw[zH hs]at hp;cases hp
   rw[hs];simp only[FK,BO,rP];exact j h'.2
  |false=>
   simp only[JV,Bd,qx];cases hs:Ji a e with
   |true=>rfl
   |false=>
    simp only[Ru,Ky];refine aAl.2 λx q I=>?_;have h1:=h'.1 x q;rw[(wS I).2,hp]at h1;cases h1
def aAr (s:AA BN)(k:Int)(key:BH)(hs:s.length<=1000000)(h:Ku s):aB s k key=some (Hz s k key):=by
 unfold aB;rw[aXv s k key hs];simp only[Af];unfold Hz LQ;rw[alE h];by_cases hl:Fj s ⟨k,key,0⟩<s.length
 ·rw[EJ hl];simp only;cases j:Ji s[Fj s ⟨k,key,0⟩] ⟨k,key,0⟩with
  |true=>
   simp only[Bd,Jy];rw[CX hl];rfl
  |false=>
   rfl
 grind
def Gu (s:AA BN)(k:Int)(key:BH)(id:Int):AA BN:=
 s.take (Fj s ⟨k,key,0⟩)++⟨k,key,id⟩::s.drop (Fj s ⟨k,key,0⟩+bif LQ s ⟨k,key,0⟩then 1 else 0)
def aaN (h:LQ s e=true):Fj s e<s.length:=by
 unfold LQ at h
 grind
variable {l:AA α}
def a0w (hi:i<=l.length):Gx l 0 (i:Int)=some (l.take i):=by
 have :=dz (l:=l) (lo:=0) (hi:=i) AL hi;simpa using this
def WC (hi:i<=l.length):Gx l (i:Int) (l.length:Int)=some (l.drop i):=by
 rw[dz (l:=l) (lo:=i) (hi:=l.length) hi AL];congr 1;exact Un Bf
def Zn (s:AA BN)(k:Int)(key:BH)(id:Int)(hs:s.length<=1000000):Tv s k key id=some (Gu s k key id):=by
 unfold Tv;rw[aXv s k key hs];simp only[Af];have hp:=a01 s ⟨k,key,0⟩;unfold a4E Gu;rw[a0w hp];simp only[Af];rw[Dz Eh];simp only[Af,Ij];rw[Dz Eh];simp only[Af];cases j:LQ s ⟨k,key,0⟩with
 |true=>
  have hl:=aaN j;simp only[Bd];rw[wrap_succ _ AL,WC hl];simp only[Af];rw[Dz Eh];simp
 |false=>
  simp only[BO];rw[WC hp];simp only[Af];rw[Dz Eh];simp
def aC9 (s:AA BN)(k:Int)(key:BH)(id:Int)(hs:s.length<=1000000):dh s k key id=some (Gu s k key id):=by
 unfold dh aOJ
 have j:∀(k2:Int->AB (AA BN)),dA k2 ((Fj s ⟨k,key,0⟩:Nat):Int) s k key id false=some (Gu s k key id):=by
  intro k2;have hp:=a01 s ⟨k,key,0⟩;unfold dA a8i Gu;simp only[BO];rw[a0w hp];simp only[Af];rw[Dz Eh];simp only[Af,Ij];rw[Dz Eh];simp only[Af];by_cases hl:Fj s ⟨k,key,0⟩<s.length
  ·rw[dec_lt hl,CX hl];simp only[Bd,Af]
   have I:LQ s ⟨k,key,0⟩=(s[Fj s ⟨k,key,0⟩].Kind==k&&(s[Fj s ⟨k,key,0⟩].Key=key)):=by
    unfold LQ;rw[EJ hl];rfl
   rw[I,JC,←WI];cases J:s[Fj s ⟨k,key,0⟩].Kind==k with
   |false=>
    simp only[BO,Af];rw[WC hp];simp only[Af];rw[Dz Eh];simp
   |true=>
    simp only[Bd,Af];cases decide (s[Fj s ⟨k,key,0⟩].Key=key)with
    |true=>
     simp only[Bd];rw[wrap_succ _ AL,WC hl];simp only[Af];rw[Dz Eh];simp
    |false=>
     simp only[BO];rw[WC hp];simp only[Af];rw[Dz Eh];simp
  have q:Fj s ⟨k,key,0⟩=s.length:=AL
  have I:LQ s ⟨k,key,0⟩=false:=by unfold LQ;rw[q,Lu (Eo _)]
  rw[I,q,DY];simp only[BO,Af];rw[WC (Eo _)];simp only[Af];rw[Dz Eh];simp
 rw[JG s (fuel_lt AL) (λx=> !GU x ⟨k,key,0⟩) (λi=>dA (λ_=>none) (i:Int) s k key id false) (dA (λ_=>none) (s.length:Int) s k key id false)]
 ·split
  ·exact j _
  rename_i h;have q:Fj s ⟨k,key,0⟩=s.length:=aSY
  have :=j λ_=>none;rw[q]at this;exact this
 ·intro k2 i h;unfold aL6;rw[dec_lt h,CX h];simp only[Bd,Af];rw[akm _ _ _ _ s[i].Id 0];simp only[Af];show dA k2 _ s k key id (GU s[i] ⟨k,key,0⟩)=_;cases GU s[i] ⟨k,key,0⟩<;>rfl
 intro k2;unfold aL6;rw[DY];rfl
def Qi (s:AA BN)(k:Int)(key:BH)(id:Int):(Gu s k key id).length<=s.length+1:=by
 unfold Gu
 grind
variable {x:BN}
def alW (h:x∈s.take (Fj s e)):GU x e=true:=by
 obtain⟨i,hi,rfl⟩:=I8 h;have j:i<Fj s e:=by simp at hi;omega
 have :=aIs j
 grind
def aOr (hs:Ku s)(h:x∈s.drop (Fj s e+bif LQ s e then 1 else 0)):GU e x=true:=by
 generalize q:(Fj s e+bif LQ s e then 1 else 0)=n at h;obtain⟨i,hi,rfl⟩:=I8 h;rw[List.getElem_drop];rw[NV]at hi;by_cases hl:Fj s e<s.length
 ·have h1:=aSz hl;cases j:LQ s e with
  |true=>
   rw[j]at q;simp only[Bd]at q;have h2:Ji s[Fj s e] e=true:=aPe
   rw[←(wS h2).1];exact Jq.1 hs _ _ hl AL AL
  |false=>
   rw[j]at q;simp only[BO,QI]at q;subst q;have h2:Ji s[Fj s e] e=false:=aPe
   have h3:GU e s[Fj s e]=true:=by
    cases h:GU e s[Fj s e]with
    |true=>rfl
    |false=>rw[aOe h1 h]at h2;cases h2
   rcases bH i with I|I
   ·subst I;simpa using h3
   exact aVA h3 (Jq.1 hs _ _ hl AL AL)
 omega
def Xb (h:Ku s)(k:Int)(key:BH)(id:Int):Ku (Gu s k key id):=by
 have I:Ji ⟨k,key,id⟩ ⟨k,key,0⟩=true:=Xf.2 ⟨rfl,rfl⟩;unfold Gu Ku;refine Sim.2 ⟨h.sublist (List.take_sublist ..),OE.2 ⟨λx j=>?_,h.sublist (List.drop_sublist ..)⟩,λx j y q=>?_⟩
 ·rw[(wS I).1];exact aOr h j
 have h1:GU x ⟨k,key,0⟩=true:=alW j;rcases G7.1 q with rfl|q
 ·rw[(wS I).2];exact h1
 exact aVA h1 (aOr h q)
structure PK (l:List (List BN)):Prop where
 len:l.length<=100
 each:∀s∈l,s.length<=100/\Ku s
def KC (l:AA (AA BN))(x:BN):Ac:=l.all λs=>(Hz s x.Kind x.Key).2&&(Hz s x.Kind x.Key).1==x.Id
def aYn (l:AA (AA BN))(x:BN)(h:PK l):a9O l x=some (KC l x):=by
 unfold a9O aYH;rw[Hw l (fuel_lt (by have :=h.len;omega)) (λs=> !((Hz s x.Kind x.Key).2&&(Hz s x.Kind x.Key).1==x.Id)) false (some true)]
 ·unfold KC
  grind
 ·intro k i hi;obtain⟨h1,h2⟩:=h.each l[i] (Eu hi);unfold aIR;rw[Ce hi,aAr _ _ _ AL h2]
  grind
 intro k;unfold aIR;rw[EX]
def aqd (l:AA (AA BN))(x:BN)(h:PK l):a8L l x=some (KC l x):=by
 unfold a8L aSG;rw[Hw l (fuel_lt (by have :=h.len;omega)) (λs=> !((Hz s x.Kind x.Key).2&&(Hz s x.Kind x.Key).1==x.Id)) false (some true)]
 ·unfold KC
  grind
 ·intro k i hi;obtain⟨h1,h2⟩:=h.each l[i] (Eu hi);unfold aJK;rw[Ce hi,a9i _ _ _ AL]
  grind
 intro k;unfold aJK;rw[EX]
def J7 (l:AA (AA BN)):AA BN:=match l with
 | []=>[]
 |s::_=>s.filter (KC l)
def UE (l:AA (AA BN)):AA Int:=(l.flatMap λs=>s.filter λx=> !KC l x).map (·.Id)
def SS (l:AA (AA BN))(i:Nat):AA BN:=if i=0 then[]else J7 l
def Oj (l:AA (AA BN))(i:Nat):AA Int:=((l.take i).flatMap λs=>s.filter λx=> !KC l x).map (·.Id)
variable {l:AA (AA BN)}
def aPA (h:i<l.length):SS l (i+1)=SS l i++(if i=0 then l[i].filter (KC l)else[]):=by
 unfold SS J7
 grind
def aJv (h:i<l.length):Oj l (i+1)=Oj l i++(l[i].filter λx=> !KC l x).map (·.Id):=by
 unfold Oj;rw[SI h,List.flatMap_append,Jh];simp
def aJb (l:AA (AA BN)):Oj l l.length=UE l:=by unfold Oj UE;rw[Ho]
def aPC (l:AA (AA BN)):SS l l.length=J7 l:=by
 unfold SS;cases l with
 |nil=>rfl
 |cons s l=>simp
def aKR (h:PK l)(i:Nat):(Oj l i).length<=100*i:=by
 induction i with
 |zero=>simp[Oj]
 |succ i j=>
  by_cases hi:i<l.length
  ·rw[aJv hi,Em,DK];have :=(h.each _ (Eu hi)).1;have :=I9 (λx=> !KC l x) l[i];omega
  have :Oj l (i+1)=Oj l i:=by unfold Oj;rw[Un AL,Un AL]
  rw[this];omega
def a3z (h:PK l):(UE l).length<=10000:=by
 have :=aKR h l.length;rw[aJb]at this;have :=h.len;omega
def eH (h:PK l):(J7 l).length<=100:=by
 unfold J7;cases l with
 |nil=>exact F6 _
 |cons s l=>exact FQ (I9 _ _) (h.each s (Iu ..)).1
def aWi (h:PK l):Ku (J7 l):=by
 unfold J7;cases l with
 |nil=>exact .nil
 |cons s l=>exact(h.each s (Iu ..)).2.sublist V8
def aW5 (l:AA (AA BN))(h:PK l):yJ l=some (J7 l,FN (UE l)):=by
 have hlen:=h.len;refine dQ.eq ?_;unfold yJ aQT;refine aC2 (body:=aJI l) (λ(m:Nat) (a:AA BN) (b:AA Int) (c:Int) (d:AA (AA BN)) (_:AA BN) (_:AA Int)=>∃i:Nat,c=i/\i+m=l.length/\d=l/\a=SS l i/\b=Oj l i) ?_ Aw l.length [] [] 0 l [] [] (fuel_lt AL) ⟨0,rfl,AL,rfl,rfl,by simp[Oj]⟩;rintro m a b c d e f k ⟨i,rfl,hm,rfl,rfl,rfl⟩ Z;unfold aJI;refine dQ.bif (λhi=>?_) λhi=>?_
 ·have hi:i<d.length:=IQ
  have hs:=(h.each d[i] (Eu hi)).1;have hdl:=aKR h i;rw[CX hi];simp only[Af,yG];unfold aLf
  refine aSy (body:=aHH d[i] k (i:Int)) (λ(M:Nat) (a:AA BN) (b:AA Int) (c:Int) (I:AA (AA BN)) (_:AA BN) (_:AA Int) (g:Int)=>
   ∃j:Nat,c=j/\j+M=d[i].length/\I=d/\g=i/\a=SS d i++(if i=0 then(d[i].take j).filter (KC d)else[])/\b=Oj d i++((d[i].take j).filter λx=> !KC d x).map (·.Id)) ?_ Aw d[i].length _ _ _ _ _ _ _ (fuel_lt AL) ⟨0,rfl,AL,rfl,rfl,Bf,Bf⟩
  rintro M a b c I e2 f2 g k2 ⟨j,rfl,hm2,rfl,rfl,rfl,rfl⟩ L;unfold aHH;refine dQ.bif (λJ=>?_) λJ=>?_
  ·have J:j<I[i].length:=nO
   have q:I[i].take (j+1)=I[i].take j++[I[i][j]]:=by rw[SI J]
   rw[CX J];simp only[Af];rw[aYn I _ h];simp only[Af];have w:=wrap_succ j AL;have O:=I9 (λx=> !KC I x) (I[i].take j);have U:=I9 (KC I) (I[i].take j)
   have hst:(SS I i).length<=100:=by
     unfold SS;split; ·exact F6 _
     ·exact eH h
   rw[HY]at O U;cases ha:KC I I[i][j]with
   |false=>
    simp only[JV,Bd];rw[Dz (by simp only[Em,DK,Oh];omega)];simp only[Af,w];refine L (M-1) _ _ _ _ _ _ _ AL ⟨j+1,rfl,AL,rfl,rfl,?_,?_⟩
    ·rw[q,Ql];simp[ha]
    rw[q,Ql];simp[ha]
   |true=>
    simp only[FK,BO];by_cases Y:i=0
    ·subst Y;simp only[show(((0:Nat):Int)==0)=true from rfl,Bd,Jy];rw[Dz Ri];simp only[Af,w];refine L (M-1) _ _ _ _ _ _ _ AL ⟨j+1,rfl,AL,rfl,rfl,?_,?_⟩
     ·rw[q,Ql];simp[ha]
     rw[q,Ql];simp[ha]
    have :((i:Int)==0)=false:=aG
    rw[this];simp only[BO,w];refine L (M-1) _ _ _ _ _ _ _ AL ⟨j+1,rfl,AL,rfl,rfl,?_,?_⟩
    ·simp[Y]
    rw[q,Ql];simp[ha]
  have J:j=I[i].length:=by
    have :¬j<I[i].length:=nO
    omega
  subst J;rw[wrap_succ i AL,Ho];exact Z (m-1) _ _ _ _ _ _ AL ⟨i+1,rfl,AL,rfl,(aPA hi).symm,(aJv hi).symm⟩
 have hi:i=d.length:=by
   have :¬i<d.length:=IQ
   omega
 subst hi;have :=a3z h;rw[aJb,aPC,mV _ AL];exact .ret rfl
def aNt (l:AA (AA BN))(h:PK l):a0u l=some (J7 l,FN (UE l)):=by
 have hlen:=h.len;refine dQ.eq ?_;unfold a0u aP3;refine Ux (body:=aI7 l) (λ(m:Nat) (a:AA BN) (b:AA Int) (c:Int)=>∃i:Nat,c=i/\i+m=l.length/\a=SS l i/\b=FN (Oj l i)) ?_ Aw l.length [] [] 0 (fuel_lt AL) ⟨0,rfl,AL,rfl,by simp[Oj,FN]⟩;rintro m a b c k ⟨i,rfl,hm,rfl,rfl⟩ Z;unfold aI7;refine dQ.bif (λhi=>?_) λhi=>?_
 ·have hi:i<l.length:=IQ
  have hs:=(h.each l[i] (Eu hi)).1;have hdl:=aKR h i;unfold aRI
  refine Ux (body:=aJY l (i:Int) k) (λ(L:Nat) (a:AA BN) (b:AA Int) (c:Int)=>
   ∃j:Nat,c=j/\j+L=l[i].length/\a=SS l i++(if i=0 then(l[i].take j).filter (KC l)else[])/\b=FN (Oj l i++((l[i].take j).filter λx=> !KC l x).map (·.Id))) ?_ Aw l[i].length _ _ _ (fuel_lt AL) ⟨0,rfl,AL,Bf,Bf⟩
  rintro L a b c k2 ⟨j,rfl,hm2,rfl,rfl⟩ J;unfold aJY;rw[CX hi];simp only[Af];refine dQ.bif (λI=>?_) λI=>?_
  ·have I:j<l[i].length:=Q9
   have q:l[i].take (j+1)=l[i].take j++[l[i][j]]:=by rw[SI I]
   rw[CX I];simp only[Af];rw[aqd l _ h];simp only[Af];have w:=wrap_succ j AL;have M:=I9 (λx=> !KC l x) (l[i].take j);have O:=I9 (KC l) (l[i].take j)
   have hst:(SS l i).length<=100:=by
     unfold SS;split; ·exact F6 _
     ·exact eH h
   have U:=ML (Oj l i++((l[i].take j).filter λx=> !KC l x).map λe:BN=>e.Id);rw[Em,DK]at U;rw[HY]at M O;cases ha:KC l l[i][j]with
   |false=>
    simp only[JV,Bd];rw[oU _ _ AL];unfold nP;simp only[Af,w];refine J (L-1) _ _ _ AL ⟨j+1,rfl,AL,?_,?_⟩
    ·rw[q,Ql];simp[ha]
    rw[q,Ql,Jh,←JI];simp only[ha,V5,JV,Jy,List.filter_nil,JE,List.map_nil];rw[aWG]
   |true=>
    simp only[FK,BO];unfold nP;by_cases Y:i=0
    ·subst Y;simp only[show(((0:Nat):Int)==0)=true from rfl,Bd,Jy,Af];rw[Dz Ri];simp only[Af,w];refine J (L-1) _ _ _ AL ⟨j+1,rfl,AL,?_,?_⟩
     ·rw[q,Ql];simp[ha]
     rw[q,Ql];simp[ha]
    have :((i:Int)==0)=false:=aG
    rw[this];simp only[BO,w];refine J (L-1) _ _ _ AL ⟨j+1,rfl,AL,?_,?_⟩
    ·simp[Y]
    rw[q,Ql];simp[ha]
  have I:j=l[i].length:=by
    have :¬j<l[i].length:=Q9
    omega
  subst I;rw[wrap_succ i AL,Ho];exact Z (m-1) _ _ _ AL ⟨i+1,rfl,AL,(aPA hi).symm,by rw[←aJv hi]⟩
 have hi:i=l.length:=by
   have :¬i<l.length:=IQ
   omega
 subst hi;rw[aJb,aPC];exact .ret rfl
def Vr (s:AA BN):AA Int:=s.map (·.Id)
def Hd (l:AA Ad)(s:AA BN):AA Int:=J3 (Vr s) (chainOf l (Vr s))
def allOf (l:AA Ad)(bF:AA (AA BN)):AA Int:=bF.foldl (λa s=>J3 a (Hd l s)) []
def LP (l:AA Ad)(bF:AA (AA BN))(x:Int):Nat:=bF.countP λs=>Dv (Hd l s) x
def Uy (l:AA Ad)(bF:AA (AA BN)):AA Int:=(allOf l bF).filter λx=>LP l bF x<bF.length
def N9 (l:AA Ad)(bF:AA (AA BN)):AA Int:=J3 (FN (UE bF)) (Uy l bF)
def aUT (l:AA Ad)(s:AA BN):Inc (Hd l s):=wO _ _
def aH1 (s:AA BN):(Vr s).length=s.length:=DK _
def a2E (l:AA Ad)(s:AA BN):(Hd l s).length<=s.length+l.length:=by
 have h1:=aDR (Vr s) (chainOf l (Vr s));have h2:=dN l (Vr s);rw[aH1]at h1;unfold Hd;omega
def aIx (l:AA Ad):∀(bF:AA (AA BN)) (a:AA Int),Inc a->Inc (bF.foldl (λa s=>J3 a (Hd l s)) a)/\∀x,x∈bF.foldl (λa s=>J3 a (Hd l s)) a↔x∈a\/∃s∈bF,x∈Hd l s
 | [],a,h=>⟨h,λx=>Bf⟩
 |s::bF,a,h=>by
  rw[Hy];obtain⟨h1,h2⟩:=aIx l bF (J3 a (Hd l s)) (wO _ _);refine⟨h1,λx=>(h2 x).trans ?_⟩;rw[aO]
  grind
def ag7 (l:AA Ad)(bF:AA (AA BN)):Inc (allOf l bF):=(aIx l bF [] .nil).1
variable {bF:AA (AA BN)}{l:AA Ad}
def afq {x:Int}:x∈allOf l bF↔∃s∈bF,x∈Hd l s:=by
 unfold allOf;rw[(aIx l bF [] .nil).2 x];simp
def anG (l:AA Ad)(bF:AA (AA BN)):Inc (Uy l bF):=(ag7 l bF).sublist V8
def aRN:KC bF x=true↔∀s∈bF,(Hz s x.Kind x.Key).2=true/\(Hz s x.Kind x.Key).1=x.Id:=by
 unfold KC
 grind
def a7B (l:AA Ad):∀(bF:AA (AA BN)) (a:AA Int),(∀s∈bF,s.length<=100)->(bF.foldl (λa s=>J3 a (Hd l s)) a).length<=a.length+bF.length*(100+l.length)
 | [],a,_=>Bf
 |s::bF,a,h=>by
  rw[Hy];have h1:=a7B l bF (J3 a (Hd l s)) λt j=>h t (JX _ j);have h2:=aDR a (Hd l s);have h3:=a2E l s;have q:=h s (Iu ..);rw[H8,UM];omega
def aX4 (hs:PK bF)(hl:l.length<=1000):(Uy l bF).length<=110000:=by
 have h1:=a7B l bF [] λs h=>(hs.2 s h).1;have h2:=hs.1;have h3:=I9 (λx=>LP l bF x<bF.length) (allOf l bF);have j:bF.length*(100+l.length)<=100*1100:=yI h2 AL;unfold Uy;unfold allOf at h3 ⊢
 grind
def aoj (h:Ku s)(J:x∈s):Hz s x.Kind x.Key=(x.Id,true):=by
 unfold Hz;cases I:s.find? (λy=>Ji y ⟨x.Kind,x.Key,0⟩)with
 |none=>
  have :=aAl.1 I x J;unfold Ji at this;simp at this
 |some y=>
  have h1:=yS I;have M:=YD I;have h2:Ji y x=true:=by unfold Ji at h1 ⊢;exact h1
  have :y=x:=by
   obtain⟨i,hi,rfl⟩:=I8 J;obtain⟨j,L,rfl⟩:=I8 M;rcases SPr i j with h3|h3|h3
   ·have q:=Jq.1 h i j hi L h3;have O:Ji s[i] s[j]=true:=by obtain⟨a,b⟩:=Xf.1 h2;exact Xf.2 ⟨a.symm,b.symm⟩
    rw[zH O]at q;cases q
   ·subst h3;rfl
   have q:=Jq.1 h j i L hi h3;rw[zH h2]at q;cases q
  rw[this]
def acy {k:Int}{key:BH}{n:Int}(h:Hz s k key=(n,true)):(⟨k,key,n⟩:BN)∈s:=by
 unfold Hz at h;cases j:s.find? (λy=>Ji y ⟨k,key,0⟩)with
 |none=>
  grind
 |some y=>
  rw[j]at h;have q:Ji y ⟨k,key,0⟩=true:=by have :=yS j;exact this
  have h1:=Xf.1 q;have I:=YD j;obtain⟨a,b,c⟩:=y;cases h;simp only at h1;rw[←h1.1,←h1.2];exact I
def adJ (j:KC bF x=true)(hs:s∈bF):x∈s:=by
 obtain⟨h1,h2⟩:=aRN.1 j s hs;exact acy (s:=s) (k:=x.Kind) (key:=x.Key) (n:=x.Id) (by rw[←h1,←h2])
def akA (h:PK bF)(j:∀s∈bF,x∈s):KC bF x=true:=
 aRN.2 λs hs=>by rw[aoj (h.2 s hs).2 (j s hs)];exact⟨rfl,rfl⟩
def ahQ (h:PK bF)(q:bF≠[]):x∈J7 bF↔∀s∈bF,x∈s:=by
 cases bF with
 |nil=>exact absurd rfl q
 |cons s bF=>
  show x∈s.filter (KC (s::bF))↔_;rw[He];exact⟨λj t I=>adJ j.2 I,λj=>⟨j s (Iu ..),akA h j⟩⟩
end Go.Proofs.YteiakhlfaaifnaaGreat
