/- Part 6 of the laws' proofs (short forms by wip/shrink2.py). -/
import Derived.Test.YtkkdimcnpacjhaaGreatRh5
set_option linter.defProp false
set_option linter.unnecessarySimpa false
set_option linter.unusedSectionVars false
set_option linter.unusedVariables false
set_option linter.unusedSimpArgs false
namespace Go.Proofs.YtkkdimcnpacjhaaGreat
open Go.RowKit Go.Proofs.Tryz
section
set_option maxRecDepth 20000
set_option maxHeartbeats 4000000
def xW (z:(Gi->Int->AL Gi)) (I:Int) (j:Gi) (q:Ie):AL Gi:=(DU 64 j [q]).bind fun u=>z u (Aw (I+1))
def xH (z:Ai) (I:(AV×AZ)) (O:(Gi->Int->AL Gi)) (U:Int) (u:Gi) (j:Ie):AL Gi:=(vC z u I.1 j.Before).bind fun q=>(bif ((({ { j with Err:=q }with After:=({ j with Err:=q }).Before }).Err)==0)then(SK I.1.Kind).bind fun J=>some J else some false).bind fun L=>(bif L then(aZ (({ { j with Err:=q }with After:=({ j with Err:=q }).Before }).Before) I.1.Kind I.1.Key I.1.Id).bind fun M=>xW O U u ({ { { j with Err:=q }with After:=({ j with Err:=q }).Before }with After:=M })else xW O U u ({ { j with Err:=q }with After:=({ j with Err:=q }).Before }))
def aFm (u:(AV×AZ)) (j:Ai) (Y:(Gi->Int->AL Gi)) (Z:Int) (z:(Fq->Int->Gi->AL Gi)):Fq->Int->Gi->AL Gi:=fun I J q=>(bif J<(u.1.bI.length:Int) then(Ak u.1.bI J).bind fun L=>(a1l q L).bind fun M=>(DU 24 I [M.1.After]).bind fun O=>z O (Aw (J+1)) q else(bif (I.length:Int)>0 then(yG j I).bind fun U=>xH j u Y Z q ({ (⟨u.1.Id,[],[],0⟩:Ie)with Before:=U })else xH j u Y Z q (⟨u.1.Id,[],[],0⟩:Ie)))
def aVb (q:(AV×AZ)) (j:Ai) (u:(Gi->Int->AL Gi)) (z:Int):Fq->Int->Gi->AL Gi:=jf (aFm q j u z) Ap
def aI5 (u:AO) (j:Ai) (I:(Gi->Int->AL Gi)):Gi->Int->AL Gi:=fun z q=>(bif q<(u.length:Int) then(Ak u q).bind fun J=>(Jw j J).bind fun L=>aVb L j I q [] 0 z else some z)
def aWU (q:AO) (j:Ai):Gi->Int->AL Gi:=aU (aI5 q j) Ap
def aBd (j:Ai):AL Gi:=(aDj j).bind fun q=>aWU q j [] 0
def acr (ak r) (h:aBd ak=some r):BA 198 [BL ak] [] (.aO 0) [(QK r)]:=BG func198 rfl<|BR<|.f (Cb 200 4 rfl)<|.aY<|BR<|.f (Cb 200 4 rfl)<|.aY<|AP h fun U hx1 h=>AU 1<|.X (aaC ak U hx1).view<|Aa<|AY<|Aj<|Dk (fun v2 M=>⟨BF 95 [(0,BL ak),(3,.aO 0),(4,Bq U),(5,AX M)],[(QK v2)],0⟩) _ _ _ _ (Ac 95 57 [AQ 1]) h<|fun J32 k4 hk4 v2 M h=>Aa<|AU 2<|.Z (BQ Ae U Bg rfl)<|CB h (fun h=>Aa<|Aj<|CJ h fun x6 hx6 q hx7 h=>AU 3<|.p (BN Ae hx6 Bg CY rfl)<|.a 1<|.X (LY ak x6 q hx7)<|BR<|.f (Cb 52 1 rfl)<|.aY<|Aa<|AY<|Aj<|PX (fun Y v9 I=>⟨BF 95 [(0,BL ak),(3,.aO 0),(4,Bq U),(5,AX M),(6,.ptr 1 0),(8,.aO 2),(9,AX v9)],[(QK I),.box (BP (BI q.1)),.arr 52 1 (List.map (Bo Ba) Y)],0⟩) _ _ _ _ _ (Ac 95 889 [AQ 0,AQ 1,AQ 2]) h<|fun J31 k11 Z Y v9 I h=>Aa<|AU 3<|.Z (BQ Ae q.1.bI Bg rfl)<|CB h (fun h=>Aa<|Aj<|CJ h fun qQ af6 J amO h=>AU 4<|.p (BN Ae af6 Bg CY rfl)<|.a 1<|.Y (x:=.fC [Vr J.1,Ag J.2]) (EX [.ent 0] [.aO 0,AX qQ] (aPC I qQ J amO) rfl)<|AP h fun x15 af5 h=>Ar<|.a 3<|.p (EP Z9 Ug [(Bo Ba) J.1.After] rfl)<|.f (E8 (k:=2) (Bo Ba) af5 Z9 AA (fun _=>rfl) Bj rfl)<|.a 1<|.nil<|Ar<|.a 3<|.nil<|Z _ _ _ _ (Ac 95 889 [AQ 0,AQ 1,AQ 4]) h) fun h=>D8<|AY<|DT (fun s=>∃(u:(A8 Ie)) (j:Ie),CX s ⟨BF 95 [(0,BL ak),(3,.aO 0),(4,Bq U),(5,AX M),(6,.ptr 1 0),(12,.ptr 2 0)],[(QK u),.box (BP (BI q.1)),.box (BP (LG j))],0⟩/\xH ak q k4 M u j=some r) (by rintro s ⟨u,j,hs,h⟩;exact DF hs<|AP h fun z O4 h=>AU 5<|.Y (x:=(AX z)) (EX [.ent 0] [BL ak,.aO 0,DC q.1,DZ j.Before] (ae2 ak u q.1 j.Before z O4) rfl)<|AY<|DT (fun s=>∃(O:(A8 Ie)) (L:Ie),CX s ⟨BF 95 [(0,BL ak),(3,.aO 0),(4,Bq U),(5,AX M),(12,.ptr 1 0)],[(QK O),.box (BP (LG L))],0⟩/\xW k4 M O L=some r) (by rintro s ⟨O,L,hs,h⟩;exact DF hs<|AP h fun x21 OH h=>Ar<|.a 2<|.p (EP aPe aLw [LG L] rfl)<|.f (E8 (k:=0) LG OH aPe AA (fun _=>rfl) Bj rfl)<|.a 1<|.nil<|Ar<|.a 3<|.nil<|hk4 _ _ _ (Ac 95 57 [AQ 2]) h)<|fun K22=>AU 3<|AP h fun x23 DJ h=>.mg 75 4 (Ag x23) (.bi DJ (fun h=>AP h fun x25 hx25 h=>.a 2<|.X (WC q.1.Kind x25 hx25)<|D7))<|.aY<|BH h (fun h=>AP h fun x27 hx27 h=>Ar<|.a 8<|.ca (aHS _ q.1.Kind q.1.Key q.1.Id x27 hx27).view<|.a 2<|.nil<|K22 _ ⟨u,({ { { j with Err:=z }with After:=({ j with Err:=z }).Before }with After:=x27 }),Ac 95 4153 [AQ 0,AQ 2],h⟩) fun h=>K22 _ ⟨u,({ { j with Err:=z }with After:=({ j with Err:=z }).Before }),Ac 95 4153 [AQ 0,AQ 2],h⟩)<|fun K28=>AU 1<|.Z (Jb (k:=2) (e':=52) (s:=1) (Bo Ba) Y AA KQ rfl)<|BH h (fun h=>AP h fun x30 afZ h=>Ar<|.a 2<|.conv _ (Jf (e:=52) (s:=1) 2 (xs:=List.map (Bo Ba) Y) AA)<|.ca (aVi ak Y x30 afZ)<|.a 2<|.nil<|K28 _ ⟨I,({ (⟨q.1.Id,[],[],0⟩:Ie)with Before:=x30 }),Ac 95 4217 [AQ 0,AQ 1,AQ 3],h⟩) fun h=>K28 _ ⟨I,(⟨q.1.Id,[],[],0⟩:Ie),Ac 95 4217 [AQ 0,AQ 1,AQ 3],h⟩) fun h=>IK
def nP (j:Ai):AL Gi:=(jO j).bind fun q=>(bif (!q)then some []else(aBd j).bind fun u=>some u)
def aOl (ak r) (h:nP ak=some r):BA 114 [BL ak] [] (.aO 0) [(QK r)]:=BG func114 rfl<|BR<|.f (Cb 200 4 rfl)<|.aY<|Aa<|AP h fun u j h=>AU 1<|.X (aXC ak u j)<|BH h (fun h=>BR<|.f (Cb 200 4 rfl)<|.aY<|LU) fun h=>AP h fun z q h=>AU 1<|.Y (x:=.aO 1) (KL [BL ak] (acr ak z q) rfl)<|LU
def aAJ (j:(AO->Int->AL AO)) (q:Int) (u:AO):AL AO:=j u (Aw (q+1))
def aGe (j:Ai) (q:Gi) (L:(AO->Int->AL AO)):AO->Int->AL AO:=fun z u=>(bif u<(j.length:Int) then(Ak j u).bind fun O=>(jG q O.Id).bind fun M=>(bif M.2 then some (M.1.Err==0)else some false).bind fun U=>(bif U then(Ak j u).bind fun I=>(DU 8 z [I.Id]).bind fun J=>aAJ L u J else aAJ L u z)else some z)
def aU8 (j:Ai) (q:Gi):AO->Int->AL AO:=aU (aGe j q) Ap
def aD6 (j:Ai) (q:Gi):AL AO:=aU8 j q [] 0
def ams (ak Aq r) (h:aD6 ak Aq=some r):BA 279 [BL ak,Xd Aq] [] (.aO 0) [(CW r)]:=BG func279 rfl<|BR<|.f (Cb 3 1 rfl)<|.aY<|BR<|.f (Cb 3 1 rfl)<|.aY<|Aa<|AY<|Aj<|Dk (fun z u=>⟨BF 40 [(0,BL ak),(1,Xd Aq),(5,.aO 0),(6,AX u)],[(CW z)],0⟩) _ _ _ _ (Ac 40 99 [AQ 1]) h<|fun Z k3 I z u h=>Aa<|AU 2<|.Z (BQ BI ak Cm rfl)<|CB h (fun h=>DT (fun s=>∃(J:(A8 Int)),CX s ⟨BF 40 [(0,BL ak),(1,Xd Aq),(5,.aO 0),(6,AX u)],[(CW J)],0⟩/\aAJ k3 u J=some r) (by rintro s ⟨J,hs,h⟩;exact DF hs<|Ar<|.a 3<|.nil<|I _ _ _ (Ac 40 99 [AQ 0]) h)<|fun K6=>Aj<|CJ h fun x7 L x8 M h=>AU 3<|.p (BN BI L Cm D9 rfl)<|.a 2<|.X (aOV Aq x7.Id x8 M)<|AU 1<|AP h fun x9 O h=>.mg 26 4 (Ag x9) (.bi O)<|.aY<|BH h (fun h=>CJ h fun U j Y q h=>Ar<|.a 3<|.p (BN BI j Cm D9 rfl)<|.a 2<|.p (EP Dx zero3 [Ae U.Id] rfl)<|.f (E8 (k:=0) Ae q Dx AA (fun _=>rfl) Bj rfl)<|.a 1<|.nil<|K6 _ ⟨Y,Ac 40 99 [AQ 2],h⟩) fun h=>K6 _ ⟨z,Ac 40 99 [AQ 0],h⟩) fun h=>IK
def a0S (j:(AO->Int->AL AO)) (q:Int) (u:AO):AL AO:=j u (Aw (q+1))
def aBJ (j:(AZ->Int->AO->AL AO)) (z:Int) (q:AZ) (u:AO):AL AO:=j q (Aw (z+1)) u
def cG (j:(AZ->Int->AO->AL AO)) (z:Int) (q:AO) (I:AZ) (u:AZ):AL AO:=(bif u then aBJ j z false q else aBJ j z I q)
def aGi (L:AO) (z:Ai) (I:Int) (k4:(AO->Int->AL AO)) (q:(AZ->Int->AO->AL AO)):AZ->Int->AO->AL AO:=fun M u j=>(bif u<(L.length:Int) then(Ak L u).bind fun O=>(Jw z O).bind fun J=>(bif J.2 then(bif (u != I)then(Ak L I).bind fun U=>(SC J.1.bI U).bind fun Y=>cG q u j M Y else cG q u j M false)else cG q u j M false)else(bif M then(Ak L I).bind fun Z=>(DU 8 j [Z]).bind fun x27=>a0S k4 I x27 else a0S k4 I j))
def aPx (q:AO) (j:Ai) (u:Int) (z:(AO->Int->AL AO)):AZ->Int->AO->AL AO:=jf (aGi q j u z) Ap
def aI8 (q:AO) (j:Ai) (I:(AO->Int->AL AO)):AO->Int->AL AO:=fun u z=>(bif z<(q.length:Int) then aPx q j z I true 0 u else some u)
def aXN (q:AO) (j:Ai):AO->Int->AL AO:=aU (aI8 q j) Ap
def a1z (q:Ai) (j:AO):AL AO:=(nT j).bind fun u=>aXN u q [] 0
def aYm (ak dO r) (h:a1z ak dO=some r):BA 278 [BL ak,Bq dO] [] (.aO 0) [(CW r)]:=BG func278 rfl<|BR<|.f (Cb 3 1 rfl)<|.aY<|AP h fun z hx1 h=>AU 1<|.X (aO5 dO z hx1).view<|BR<|.Y (Hq Dx zero3 [] rfl)<|Aa<|AY<|Aj<|Dk (fun v2 I=>⟨BF 60 [(0,BL ak),(5,Bq z),(6,.aO 0),(7,AX I)],[(CW v2)],0⟩) _ _ _ _ (Ac 60 225 [AQ 1]) h<|fun J29 k4 hk4 v2 I h=>Aa<|AU 2<|.Z (BQ Ae z Bg rfl)<|CB h (fun h=>DT (fun s=>∃(v6:(A8 Int)),CX s ⟨BF 60 [(0,BL ak),(5,Bq z),(6,.aO 0),(7,AX I)],[(CW v6)],0⟩/\a0S k4 I v6=some r) (by rintro s ⟨v6,hs,h⟩;exact DF hs<|Ar<|.a 3<|.nil<|hk4 _ _ _ (Ac 60 225 [AQ 0]) h)<|fun K7=>Aj<|AY<|Aa<|AY<|Aj<|PX (fun Y U j=>⟨BF 60 [(0,BL ak),(5,Bq z),(6,.aO 0),(7,AX I),(8,Ag Y),(9,AX U)],[(CW j)],0⟩) _ _ _ _ _ (Ac 60 993 [AQ 0]) h<|fun J28 Z aCA Y U j h=>Aa<|AU 2<|.Z (BQ Ae z Bg rfl)<|CB h (fun h=>DT (fun s=>∃(J:AZ) (L:(A8 Int)),CX s ⟨BF 60 [(0,BL ak),(5,Bq z),(6,.aO 0),(7,AX I),(8,Ag J),(9,AX U)],[(CW L)],0⟩/\aBJ Z U J L=some r) (by rintro s ⟨J,L,hs,h⟩;exact DF hs<|Ar<|.a 3<|.nil<|aCA _ _ _ _ (Ac 60 993 [AQ 0]) h)<|fun K15=>Aj<|CJ h fun x16 hx16 x17 Zh h=>AU 3<|.p (BN Ae hx16 Bg CY rfl)<|.a 1<|.X (LY ak x16 x17 Zh)<|DT (fun s=>∃(M:AZ),CX s ⟨BF 60 [(0,BL ak),(5,Bq z),(6,.aO 0),(7,AX I),(8,Ag Y),(9,AX U),(50,Ag M)],[(CW j)],0⟩/\cG Z U j Y M=some r) (by rintro s ⟨M,hs,h⟩;exact DF hs<|BH h (fun h=>Ar<|.a 1<|.nil<|K15 _ ⟨false,j,Ac 60 993 [AQ 0],h⟩) fun h=>K15 _ ⟨Y,j,Ac 60 993 [AQ 0],h⟩)<|fun O=>Eo h (fun q h=>Eo h (fun u h=>CJ h fun x23 DJ x24 hx24 h=>Dz AA AA AA (.a 1<|.c (BK some q)<|.a 4<|.c (BK some u)<|.a 4<|.p (BN Ae DJ Bg CY rfl)<|.a 1<|.ca (XC x17.1.bI x23 x24 hx24)<|.a 1<|.nil _)<|O _ ⟨x24,Ac 60 1125899906843617 [AQ 0],h⟩) fun u h=>Dz AA AA AA (.a 1<|.c (BK some q)<|.a 4<|.c (BK some u)<|.a 8<|.nil _)<|O _ ⟨false,Ac 60 1125899906843617 [AQ 0],h⟩) fun q h=>Dz AA AA AA (.a 1<|.c (BK some q)<|.a 13<|.nil _)<|O _ ⟨false,Ac 60 1125899906843617 [AQ 0],h⟩) fun h=>D8<|AY<|BH h (fun h=>CJ h fun vX zI x27 hx27 h=>Ar<|.a 3<|.p (BN Ae zI Bg CY rfl)<|.a 1<|.p (EP Dx zero3 [Ae vX] rfl)<|.f (E8 (k:=0) Ae hx27 Dx AA (fun _=>rfl) Bj rfl)<|.a 1<|.nil<|K7 _ ⟨x27,Ac 60 225 [AQ 1],h⟩) fun h=>K7 _ ⟨j,Ac 60 225 [AQ 0],h⟩) fun h=>IK
def zD (j:Ai) (q:Gi):AL AO:=(aD6 j q).bind fun u=>(a1z j u).bind fun z=>some z
def aQT (ak Aq r) (h:zD ak Aq=some r):BA 183 [BL ak,Xd Aq] [] (.aO 0) [(CW r)]:=BG func183 rfl<|BR<|.f (Cb 3 1 rfl)<|.aY<|CJ h fun j q z u h=>AU 3<|.ca (ams ak Aq j q).view<|.Y (x:=.aO 1) (KL [BL ak,Bq j] (aYm ak j z u) rfl)<|LU
def aCY (j:Ai):AL AO:=(nP j).bind fun q=>(zD j q).bind fun u=>some u
def aay (ak r) (h:aCY ak=some r):BA 104 [BL ak] [] (.aO 0) [(CW r)]:=BG func104 rfl<|BR<|.f (Cb 3 1 rfl)<|.aY<|CJ h fun j q z u h=>AU 2<|.ca (aOl ak j q).view<|.Y (x:=.aO 1) (KL [BL ak,Xd j] (aQT ak j z u) rfl)<|LU
def aDn (j:(AO->Int->AL AO)) (q:Int) (u:AO):AL AO:=j u (Aw (q+1))
def zA (j:(Int->Int->AO->AL AO)) (q:Int) (u:Int) (z:AO):AL AO:=j u (Aw (q+1)) z
def aLh (j:AO) (I:Ai) (L:(AV×AZ)) (M:Int) (k3:(AO->Int->AL AO)) (J:(Int->Int->AO->AL AO)):Int->Int->AO->AL AO:=fun O q u=>(bif q<(j.length:Int) then(Ak j q).bind fun U=>(Jw I U).bind fun z=>(bif z.1.Depth>L.1.Depth then some true else(bif (z.1.Depth==L.1.Depth)then some (decide (z.1.Id>L.1.Id))else some false).bind fun Y=>some Y).bind fun Z=>(bif Z then zA J q (Aw (O+1)) u else zA J q O u)else(bif O<10 then(Ak j M).bind fun x25=>(DU 8 u [x25]).bind fun vX=>aDn k3 M vX else aDn k3 M u))
def aVC (j:AO) (q:Ai) (u:(AV×AZ)) (z:Int) (I:(AO->Int->AL AO)):Int->Int->AO->AL AO:=jf (aLh j q u z I) Ap
def aId (j:AO) (q:Ai) (I:(AO->Int->AL AO)):AO->Int->AL AO:=fun z u=>(bif u<(j.length:Int) then(Ak j u).bind fun J=>(Jw q J).bind fun L=>aVC j q L u I 0 0 z else some z)
def aOU (j:AO) (q:Ai):AO->Int->AL AO:=aU (aId j q) Ap
def a0O (q:Ai) (j:AO):AL AO:=aOU j q [] 0
def ach (ak yc r) (h:a0O ak yc=some r):BA 107 [BL ak,Bq yc] [] (.aO 0) [(CW r)]:=BG func107 rfl<|BR<|.f (Cb 3 1 rfl)<|.aY<|BR<|.f (Cb 3 1 rfl)<|.aY<|Aa<|AY<|Aj<|Dk (fun v1 I=>⟨BF 74 [(0,BL ak),(1,Bq yc),(5,.aO 0),(6,AX I)],[(CW v1)],0⟩) _ _ _ _ (Ac 74 99 [AQ 1]) h<|fun J28 k3 hk3 v1 I h=>Aa<|AU 2<|.Z (BQ Ae yc Bg rfl)<|CB h (fun h=>DT (fun s=>∃(v5:(A8 Int)),CX s ⟨BF 74 [(0,BL ak),(1,Bq yc),(5,.aO 0),(6,AX I)],[(CW v5)],0⟩/\aDn k3 I v5=some r) (by rintro s ⟨v5,hs,h⟩;exact DF hs<|Ar<|.a 3<|.nil<|hk3 _ _ _ (Ac 74 99 [AQ 0]) h)<|fun K6=>Aj<|CJ h fun x7 hx7 x8 ni h=>AU 3<|.p (BN Ae hx7 Bg CY rfl)<|.a 1<|.X (LY ak x7 x8 ni)<|AY<|Aa<|AY<|Aj<|PX (fun v9 q j=>⟨BF 74 [(0,BL ak),(1,Bq yc),(5,.aO 0),(6,AX I),(7,.ptr 1 0),(9,AX v9),(10,AX q)],[(CW j),.box (BP (BI x8.1))],0⟩) _ _ _ _ _ (Ac 74 1763 [AQ 0,AQ 1]) h<|fun J27 k12 J v9 q j h=>Aa<|AU 2<|.Z (BQ Ae yc Bg rfl)<|CB h (fun h=>DT (fun s=>∃(u:Int) (z:(A8 Int)),CX s ⟨BF 74 [(0,BL ak),(1,Bq yc),(5,.aO 0),(6,AX I),(7,.ptr 1 0),(9,AX u),(10,AX q)],[(CW z),.box (BP (BI x8.1))],0⟩/\zA k12 q u z=some r) (by rintro s ⟨u,z,hs,h⟩;exact DF hs<|Ar<|.a 3<|.nil<|J _ _ _ _ (Ac 74 1763 [AQ 0,AQ 1]) h)<|fun L=>Aj<|CJ h fun x17 M x18 O h=>AU 3<|.p (BN Ae M Bg CY rfl)<|.a 1<|.X (LY ak x17 x18 O)<|AU 5<|AP h fun x19 U h=>.mg 48 13 (Ag x19) (.bi U (k2:=fun h=>.a 5<|AP h fun x21 Y h=>.mg 54 6 (Ag x21) (.bi Y)<|.aW<|D7))<|.aY<|BH h (fun h=>Ar<|.a 3<|.nil<|L _ ⟨(Aw (v9+1)),j,Ac 74 1763 [AQ 0,AQ 1],h⟩) fun h=>L _ ⟨v9,j,Ac 74 1763 [AQ 0,AQ 1],h⟩) fun h=>D8<|AY<|BH h (fun h=>CJ h fun x25 Z vX zI h=>Ar<|.a 3<|.p (BN Ae Z Bg CY rfl)<|.a 1<|.p (EP Dx zero3 [Ae x25] rfl)<|.f (E8 (k:=0) Ae zI Dx AA (fun _=>rfl) Bj rfl)<|.a 1<|.nil<|K6 _ ⟨vX,Ac 74 99 [AQ 2],h⟩) fun h=>K6 _ ⟨j,Ac 74 99 [AQ 0],h⟩) fun h=>IK
def aGK (J:AO) (j:Gi) (q:Ai) (L:(Fq->Int->AL BZ)):Fq->Int->AL BZ:=fun u z=>(bif z<(J.length:Int) then(Ak J z).bind fun M=>(jG j M).bind fun O=>(DU 24 u [O.1.After]).bind fun U=>L U (Aw (z+1))else(bif ((u.length:Int)==0)then some []else(yG q u).bind fun I=>some I))
def aOW (u:AO) (j:Gi) (q:Ai):Fq->Int->AL BZ:=aU (aGK u j q) Ap
def aEu (j:Ai) (q:Gi):AL BZ:=(zD j q).bind fun u=>aOW u q j [] 0
def ai8 (ak Aq r) (h:aEu ak Aq=some r):BA 113 [BL ak,Xd Aq] [] (DZ r) []:=BG func113 rfl<|AY<|AP h fun u z h=>AU 2<|.X (aQT ak Aq u z).view<|BR<|.f (Cb 52 1 rfl)<|.aY<|Aa<|AY<|Aj<|Dk (fun j U=>⟨BF 39 [(0,BL ak),(1,Xd Aq),(5,Bq u),(6,.aO 0),(7,AX U)],[.arr 52 1 (List.map (Bo Ba) j)],0⟩) _ _ _ _ (Ac 39 227 [AQ 0]) h<|fun Z k4 I j U h=>Aa<|AU 2<|.Z (BQ Ae u Bg rfl)<|CB h (fun h=>Aa<|Aj<|CJ h fun x6 J Y L h=>AU 3<|.p (BN Ae J Bg CY rfl)<|.a 1<|.X (aOV Aq x6 Y L)<|AP h fun x8 M h=>Ar<|.a 3<|.p (EP Z9 Ug [(Bo Ba) Y.1.After] rfl)<|.f (E8 (k:=0) (Bo Ba) M Z9 AA (fun _=>rfl) Bj rfl)<|.a 1<|.nil<|Ar<|.a 3<|.nil<|I _ _ _ (Ac 39 227 [AQ 2]) h) fun h=>D8<|Aa<|AU 1<|.Z (Jb (k:=0) (e':=52) (s:=1) (Bo Ba) j AA KQ rfl)<|BH h CO fun h=>AP h fun O q h=>AU 2<|.conv _ (Jf (e:=52) (s:=1) 0 (xs:=List.map (Bo Ba) j) AA)<|.X (aVi ak j O q)<|Cj
def WA (j:Ai):AL BZ:=(nP j).bind fun q=>(aEu j q).bind fun u=>some u
def aRX (ak r) (h:WA ak=some r):BA 51 [BL ak] [] (DZ r) []:=BG func51 rfl<|AY<|CJ h fun u j z q h=>AU 2<|.ca (aOl ak u j).view<|.X (ai8 ak u z q)<|Cj
def a1m (u:(AO->AZ->Int->AL AO)) (z:Int) (j:AO) (q:AZ):AL AO:=u j q (Aw (z+1))
def eu (j:BZ) (q:Int) (J:AO) (L:(AO->AZ->Int->AL AO)) (M:AZ) (u:AZ):AL AO:=(bif u then(Ak j q).bind fun z=>(Ux J z.Id).bind fun I=>a1m L q I true else a1m L q J M)
def aKo (j:BZ) (Y:BZ) (u:Int) (k4:(AO->Int->AL AO)) (Z:(AO->AZ->Int->AL AO)):AO->AZ->Int->AL AO:=fun z I q=>(bif q<(j.length:Int) then some (!I)else some false).bind fun J=>(bif J then(Ak j q).bind fun L=>(Ak Y u).bind fun M=>(bif (L.Kind==M.Kind)then(Ak j q).bind fun O=>(Ak Y u).bind fun U=>eu j q z Z I (O.Key.toList==U.Key.toList)else eu j q z Z I false)else k4 z (Aw (u+1)))
def aSP (j:BZ) (q:BZ) (u:Int) (z:(AO->Int->AL AO)):AO->AZ->Int->AL AO:=jf (aKo j q u z) Ap
def aLP (q:BZ) (j:BZ) (I:(AO->Int->AL AO)):AO->Int->AL AO:=fun u z=>(bif z<(q.length:Int) then aSP j q z I u false 0 else some u)
def aPI (q:BZ) (j:BZ):AO->Int->AL AO:=aU (aLP q j) Ap
def uy (j:AV) (q:BZ):AL AO:=(Zu j).bind fun u=>aPI u q [] 0
def ajh (aQ fD r) (h:uy aQ fD=some r):BA 108 [DC aQ,DZ fD] [] (.aO 0) [(CW r)]:=BG func108 rfl<|AU 1<|.f (Cb 3 1 rfl)<|.aY<|AP h fun L hx1 h=>AU 1<|.X (aBG aQ L hx1).view<|BR<|.Y (Hq Dx zero3 [] rfl)<|Aa<|AY<|Aj<|Dk (fun v2 U=>⟨BF 61 [(1,DZ fD),(5,DZ L),(6,.aO 0),(7,AX U)],[(CW v2)],0⟩) _ _ _ _ (Ac 61 226 [AQ 2]) h<|fun J27 k4 hk4 v2 U h=>Aa<|AU 2<|.Z (BQ Ba L IE rfl)<|CB h (fun h=>Aa<|Aj<|AY<|AY<|Aj<|PX (fun M Y O=>⟨BF 61 [(1,DZ fD),(5,DZ L),(6,.aO 0),(7,AX U),(8,Ag Y),(9,AX O)],[(CW M)],0⟩) _ _ _ _ _ (Ac 61 994 [AQ 0]) h<|fun J26 k9 hk9 M Y O h=>Aa<|AU 2<|.p (BQ Ba fD G9 rfl)<|.a 1<|AP h fun x10 Z h=>.mg 23 3 (Ag x10) (.bi Z)<|.aY<|CB h (fun h=>DT (fun s=>∃(z:(A8 Int)) (I:AZ),CX s ⟨BF 61 [(1,DZ fD),(5,DZ L),(6,.aO 0),(7,AX U),(8,Ag I),(9,AX O)],[(CW z)],0⟩/\a1m k9 O z I=some r) (by rintro s ⟨z,I,hs,h⟩;exact DF hs<|Ar<|.a 3<|.nil<|hk9 _ _ _ _ (Ac 61 994 [AQ 0]) h)<|fun K15=>Aj<|DT (fun s=>∃(J:AZ),CX s ⟨BF 61 [(1,DZ fD),(5,DZ L),(6,.aO 0),(7,AX U),(8,Ag Y),(9,AX O),(52,Ag J)],[(CW M)],0⟩/\eu fD O M k9 Y J=some r) (by rintro s ⟨J,hs,h⟩;exact DF hs<|BH h (fun h=>CJ h fun x18 O4 x19 OZ h=>AU 3<|.p (BN Ba O4 G9 FT rfl)<|.a 2<|.Y (x:=.aO 1) (EX [.ent 0] [.aO 0,AX x18.Id] (fB M x18.Id x19 OZ) rfl)<|Ar<|.a 1<|.nil<|K15 _ ⟨x19,true,Ac 61 994 [AQ 1],h⟩) fun h=>K15 _ ⟨M,Y,Ac 61 994 [AQ 0],h⟩)<|fun K20=>CJ h fun x21 q qP u h=>Eo h (fun j h=>CJ h fun x24 hx24 x25 hx25 h=>Dz AA AA AA (.a 2<|.p (BN Ba q G9 FT rfl)<|.a 4<|.p (BN Ba u IE FT rfl)<|.a 3<|.c (BK some j)<|.a 2<|.p (BN Ba hx24 G9 FT rfl)<|.a 4<|.p (BN Ba hx25 IE FT rfl)<|.a 4<|.nil _)<|K20 _ ⟨(x24.Key.toList==x25.Key.toList),Ac 61 4503599627371490 [AQ 0],h⟩) fun j h=>Dz AA AA AA (.a 2<|.p (BN Ba q G9 FT rfl)<|.a 4<|.p (BN Ba u IE FT rfl)<|.a 3<|.c (BK some j)<|.a 12<|.nil _)<|K20 _ ⟨false,Ac 61 4503599627371490 [AQ 0],h⟩) fun h=>D8<|Ar<|.a 3<|.nil<|hk4 _ _ _ (Ac 61 226 [AQ 0]) h) fun h=>IK
def aF3 (q:Ai) (I:(Int->AV->AL (AV×Int))):Int->AV->AL (AV×Int):=fun J j=>(bif J<(j.bI.length:Int) then(Ak j.bI J).bind fun L=>(Jw q L).bind fun M=>I (Aw (J+1)) ({ j with Depth:=Pv j.Depth (Aw (M.1.Depth+1)) })else(WA q).bind fun O=>(uy j O).bind fun u=>(bif (({ j with bQ:=u }).Depth)>100000 then some (DI,29)else(U1 ({ j with bQ:=u })).bind fun z=>(bif (z != 0)then some (DI,z)else some ({ j with bQ:=u },0))))
def aXX (j:Ai):Int->AV->AL (AV×Int):=aU (aF3 j) Ap
def QA (j:Ai) (q:AV):AL (AV×Int):=(aCY j).bind fun u=>(jO j).bind fun I=>(bif (!I)then some true else some ((u.length:Int)==0)).bind fun J=>(bif J then some (DI,26)else(Ak j 0).bind fun z=>(SK (({ q with Room:=z.Room }).Kind)).bind fun L=>(a0O j u).bind fun M=>aXX j 0 ({ { { q with Room:=z.Room }with State:=L }with bI:=M }))
def aYU (ak gK r) (h:QA ak gK=some r):BA 48 [BL ak,DC gK] [] (.fC [DC r.1,AX r.2]) []:=BG func48 rfl<|AY<|AP h fun x1 hx1 h=>AU 1<|.X (aay ak x1 hx1).view<|Aa<|AP h fun x2 hx2 h=>AU 1<|.ca (aXC ak x2 hx2)<|.a 1<|AP h fun x3 hx3 h=>.mg 16 4 (Ag x3) (.bi hx3 (k2:=fun h=>.a 1<|.Z (BQ Ae x1 Bg rfl)<|D7))<|.aY<|BH h (fun h=>AY<|Ep<|by rw[←CV h];exact⟨[DC DI,AX 26],[],⟨⟨1,BP (BI DI),true,29,AA,AA,AA,D9,Dt AA,Vp,AA⟩,Gh AA,trivial⟩,AA,AA,AA⟩) fun h=>AP h fun x6 hx6 h=>AU 1<|.Z (BN BI hx6 Cm D9 rfl)<|AP h fun x7 hx7 h=>AU 2<|.X (WC _ x7 hx7)<|AP h fun x8 ni h=>AU 2<|.X (ach ak x1 x8 ni).view<|Aa<|AY<|Aj<|Dk (fun v9 j=>⟨BF 75 [(0,BL ak),(3,.ptr 0 0),(4,.ptr 1 0),(7,AX v9)],[.box (BP (BI j)),.box (BP (BI DI))],0⟩) _ _ _ _ (Ac 75 153 [AQ 0,AQ 1]) h<|fun J20 k11 z v9 j h=>Aa<|AU 3<|.Z (BQ Ae j.bI Bg rfl)<|CB h (fun h=>Aa<|Aj<|CJ h fun qQ I J L h=>AU 4<|.p (BN Ae I Bg CY rfl)<|.a 1<|.X (LY ak qQ J L)<|Ar<|.a 5<|.p (x:=(AX (Pv j.Depth (Aw (J.1.Depth+1))))) (aHb rfl)<|.a 2<|.nil<|Ar<|.a 3<|.nil<|z _ _ _ (Ac 75 153 [AQ 0,AQ 1]) h) fun h=>D8<|CJ h fun M O u U h=>FU AA AA AA (.a 2<|.ca (aRX ak M O)<|.ca (ajh j M u U).view<|.a 2<|.nil _)<|Aa<|AY<|BH h (fun h=>AY<|Ep<|by rw[←CV h];exact⟨[DC DI,AX 29],[],⟨⟨1,BP (BI DI),true,29,AA,AA,AA,D9,Dt AA,Vp,AA⟩,Gh AA,trivial⟩,AA,AA,AA⟩) fun h=>Aa<|AP h fun Y Z h=>AU 1<|.X (aUM _ Y Z)<|AY<|BH h (fun h=>AY<|Ep<|by rw[←CV h];exact⟨[DC DI,AX Y],[],⟨⟨1,BP (BI DI),true,29,AA,AA,AA,D9,Dt AA,Vp,AA⟩,Gh AA,trivial⟩,AA,AA,AA⟩) fun h=>AY<|Ep<|by rw[←CV h];exact⟨[DC ({ j with bQ:=u }),AX 0],[],⟨⟨1,BP (BI ({ j with bQ:=u })),true,29,AA,AA,AA,D9,Dt AA,Vp,AA⟩,Gh AA,trivial⟩,AA,AA,AA⟩
def wO (q:AV) (j:BD):AL AV:=(pS q).bind fun u=>(qF ({ q with Hash:=u })).bind fun z=>some ({ { { q with Hash:=u }with Id:=z }with nU:=(⟨j,({ { q with Hash:=u }with Id:=z }).Id⟩:Ny) })
def ajG (aQ Df r) (h:wO aQ Df=some r):BA 52 [DC aQ,CZ Df] [] (DC r) []:=BG func52 rfl<|AY<|AP h fun j u h=>AU 1<|.X (aVW aQ j u)<|AP h fun q z h=>AU 1<|.ca (aTH _ q z)<|aRa
def aDM (q:Ai) (j:BD) (I:Int) (z:BD) (J:D6) (u:Int):AL (AV×Int):=(QA q ({ DI with bF:=j,Kind:=I,Key:=z,Time:=u,Content:=J })).bind fun L=>(bif (L.2 != 0)then some (DI,L.2)else(WA q).bind fun O=>(yC q O).bind fun U=>(ZB L.1 U).bind fun M=>(bif (M != 0)then some (DI,M)else(fJ j).bind fun Y=>(wO L.1 Y).bind fun Z=>some (Z,0)))
def acA (ak jh atV aiA atW aeI r) (h:aDM ak jh atV aiA atW aeI=some r):BA 13 [BL ak,CZ jh,AX atV,CZ aiA,H9 atW,AX aeI] [] (.fC [DC r.1,AX r.2]) []:=BG func13 rfl<|AY<|AP h fun q u h=>AU 7<|.X (aYU ak _ q u)<|Aa<|AY<|BH h (fun h=>AY<|Ep<|by rw[←CV h];exact⟨[DC DI,AX q.2],[],⟨⟨1,BP (BI DI),true,29,AA,AA,AA,D9,Dt AA,Ko,AA⟩,Gh AA,trivial⟩,AA,AA,AA⟩) fun h=>Aa<|Io h fun U z Y I Z J h=>FU AA AA AA (.a 3<|.ca (aRX ak U z)<|.ca (aRd ak U Y I).view<|.ca (aAX q.1 Y Z J)<|.a 1<|.nil _)<|AY<|BH h (fun h=>AY<|Ep<|by rw[←CV h];exact⟨[DC DI,AX Z],[],⟨⟨1,BP (BI DI),true,29,AA,AA,AA,D9,Dt AA,Ko,AA⟩,Gh AA,trivial⟩,AA,AA,AA⟩) fun h=>CJ h fun x7 L M O h=>FU AA AA AA (.a 2<|.ca (vU jh x7 L)<|.ca (ajG q.1 x7 M O)<|.a 2<|.nil _)<|Ep<|by rw[←CV h];exact⟨[DC M,AX 0],[],⟨⟨1,BP (BI M),true,29,AA,AA,AA,D9,Dt AA,Ko,AA⟩,Gh AA,trivial⟩,AA,AA,AA⟩
def aIS (j:AO) (q:AO) (z:(Int->AL AZ)):Int->AL AZ:=fun u=>(bif u<(j.length:Int) then(Ak j u).bind fun I=>(Ak q u).bind fun J=>(bif (I != J)then some false else z (Aw (u+1)))else some true)
def aVI (j:AO) (q:AO):Int->AL AZ:=bJ (aIS j q) Ap
def ou (j:AO) (q:AO):AL AZ:=(bif ((j.length:Int) != (q.length:Int))then some false else aVI j q 0)
def aX4 (gB fV r) (h:ou gB fV=some r):BA 54 [Bq gB,Bq fV] [] (Ag r) []:=BG func54 rfl<|AY<|Aa<|AU 1<|.p (BQ Ae gB Bg rfl)<|.a 1<|.Z (BQ Ae fV Bg rfl)<|BH h CO fun h=>Aa<|AY<|Aj<|EH (fun z=>⟨BF 26 [(0,Bq gB),(1,Bq fV),(5,AX z)],[],0⟩) _ _ _ (Ac 26 35 []) h<|fun I J j z h=>Aa<|AU 2<|.Z (BQ Ae gB Bg rfl)<|CB h (fun h=>Aa<|Aj<|CJ h fun L q M u h=>FU AA AA AA (.a 2<|.p (BN Ae q Bg CY rfl)<|.a 3<|.p (BN Ae u Bg CY rfl)<|.a 2<|.nil _)<|BH h CO fun h=>Ar<|.a 3<|.nil<|j _ _ (Ac 26 35 []) h) fun h=>F5
def yh (j:AV) (q:AV):AL AZ:=(bif (j.Id==q.Id)then some (j.Room.toList==q.Room.toList)else some false).bind fun x1=>(bif x1 then some (j.bF.toList==q.bF.toList)else some false).bind fun x3=>(bif x3 then some (j.Kind==q.Kind)else some false).bind fun x5=>(bif x5 then some (j.State==q.State)else some false).bind fun x7=>(bif x7 then some (j.Key.toList==q.Key.toList)else some false).bind fun x9=>(bif x9 then some (j.Time==q.Time)else some false).bind fun u=>(bif u then some (j.Depth==q.Depth)else some false).bind fun z=>(bif z then(ou j.bI q.bI).bind fun I=>some I else some false).bind fun J=>(bif J then(ou j.bQ q.bQ).bind fun L=>some L else some false).bind fun M=>(bif M then(Tz j.Content q.Content).bind fun O=>some O else some false).bind fun U=>(bif U then some (j.Hash==q.Hash)else some false).bind fun Y=>(bif Y then some (j.nU.Server.toList==q.nU.Server.toList)else some false).bind fun Z=>(bif Z then some (j.nU.Sum==q.nU.Sum)else some false).bind fun x28=>some x28
def aUl (gB fV r) (h:yh gB fV=some r):BA 14 [DC gB,DC fV] [] (Ag r) []:=BG func14 rfl<|AY<|AU 5<|AP h fun x1 Z h=>.mg 10 6 (Ag x1) (.bi Z)<|.a 1<|AP h fun x3 hx3 h=>.mg 18 5 (Ag x3) (DW hx3)<|.a 1<|AP h fun x5 hx5 h=>.mg 25 5 (Ag x5) (DW hx5)<|.a 1<|AP h fun x7 hx7 h=>.mg 32 5 (Ag x7) (DW hx7)<|.a 1<|AP h fun x9 lW h=>.mg 39 5 (Ag x9) (DW lW)<|.a 1<|AP h fun x11 j h=>.mg 46 5 (Ag x11) (DW j)<|.a 1<|AP h fun qQ q h=>.mg 53 5 (Ag qQ) (DW q)<|.a 1<|AP h fun x15 u h=>.mg 60 5 (Ag x15) (DW u (fun e i=>by subst e;have h:=i;exact AP h fun x17 z h=>.a 4<|.X (aX4 gB.bI fV.bI x17 z)<|D7))<|.a 1<|AP h fun x18 I h=>.mg 67 5 (Ag x18) (DW I (fun e i=>by subst e;have h:=i;exact AP h fun vJ J h=>.a 4<|.X (aX4 gB.bQ fV.bQ vJ J)<|D7))<|.a 1<|AP h fun x21 L h=>.mg 74 5 (Ag x21) (DW L (fun e i=>by subst e;have h:=i;exact AP h fun x23 M h=>.a 4<|.X (aNN gB.Content fV.Content x23 M)<|D7))<|.a 1<|AP h fun x24 O h=>.mg 81 5 (Ag x24) (DW O)<|.a 1<|AP h fun vX U h=>.mg 88 7 (Ag vX) (DW U)<|.a 1<|AP h fun x28 Y h=>.mg 97 7 (Ag x28) (DW Y)<|.aW<|Cj
def aJ6 (q:Ai) (j:UK):AL AZ:=(uU q j).bind fun J=>(bif J then(jM).bind fun L=>some L else(jK q j.User j.Kind j.Key j.Content j.Time).bind fun z=>(aDM q j.User j.Kind j.Key j.Content j.Time).bind fun I=>(yh z.1 I.1).bind fun M=>(bif M then some (z.2==I.2)else some false).bind fun O=>(bif O then(jM).bind fun u=>some u else some false).bind fun U=>some U)
def abO (ak gX r) (h:aJ6 ak gX=some r):BA 3 [BL ak,.d (X9 gX)] [] (Ag r) []:=BG func3 rfl<|AY<|Aa<|AP h fun Z q h=>AU 2<|.ca (aV8 ak gX Z q)<|.aY<|BH h (fun h=>AP h fun x3 u h=>BR<|.X (aNp  x3 u)<|Cj) fun h=>AP h fun U z h=>AU 11<|.X (aGs ak gX.User gX.Kind gX.Key gX.Content gX.Time U z)<|AP h fun Y I h=>AU 11<|.X (acA ak gX.User gX.Kind gX.Key gX.Content gX.Time Y I)<|AP h fun x6 J h=>AU 2<|.ca (aUl U.1 Y.1 x6 J)<|.a 1<|AP h fun x7 L h=>.mg 47 3 (Ag x7) (DW L)<|.a 1<|AP h fun x9 M h=>.mg 52 1 (Ag x9) (DW M (fun e i=>aSm))<|.aW<|Cj
def aKL (z:Ai) (j:BD) (I:Int) (u:BD) (q:Int):AL (AV×Int):=(Rh z ({ DI with bF:=j,Kind:=2,Key:=j,Time:=q,Content:={ ET with N:=I,Via:=u } })).bind fun J=>(bif (J.2.2 != 0)then some (DI,J.2.2)else(Qh J.1).bind fun L=>(bif (L != 0)then some (DI,L)else some (J.1,0)))
def amY (ak jh ai7 ajn ae3 r) (h:aKL ak jh ai7 ajn ae3=some r):BA 15 [BL ak,CZ jh,AX ai7,CZ ajn,AX ae3] [] (.fC [DC r.1,AX r.2]) []:=BG func15 rfl<|AY<|AP h fun j u h=>AU 8<|.X (aXP ak _ j u)<|Aa<|AY<|BH h (fun h=>AY<|Ep<|by rw[←CV h];exact⟨[DC DI,AX j.2.2],[],⟨⟨0,BP (BI DI),true,29,AA,AA,AA,D9,Dt AA,Vp,AA⟩,Gh AA,trivial⟩,AA,AA,AA⟩) fun h=>Aa<|AP h fun I z h=>AU 1<|.X (aB5 j.1 I z)<|AY<|BH h (fun h=>AY<|Ep<|by rw[←CV h];exact⟨[DC DI,AX I],[],⟨⟨0,BP (BI DI),true,29,AA,AA,AA,D9,Dt AA,Vp,AA⟩,Gh AA,trivial⟩,AA,AA,AA⟩) fun h=>AY<|Ep<|by rw[←CV h];exact⟨[DC j.1,AX 0],[],⟨⟨0,BP (BI j.1),true,29,AA,AA,AA,D9,Dt AA,Vp,AA⟩,Gh AA,trivial⟩,AA,AA,AA⟩
def aMI (z:Ai) (j:BD) (I:Int) (u:BD) (q:Int):AL (AV×Int):=(QA z ({ DI with bF:=j,Kind:=2,Key:=j,Time:=q,Content:={ ET with N:=I,Via:=u } })).bind fun J=>some (J.1,J.2)
def aZI (ak jh ai7 ajn ae3 r) (h:aMI ak jh ai7 ajn ae3=some r):BA 16 [BL ak,CZ jh,AX ai7,CZ ajn,AX ae3] [] (.fC [DC r.1,AX r.2]) []:=BG func16 rfl<|AY<|AP h fun j q h=>AU 8<|.X (aYU ak _ j q)<|Ep<|by rw[←CV h];exact⟨[DC j.1,AX j.2],[],⟨⟨0,BP (BI j.1),true,29,AA,AA,AA,D9,Dt AA,eI,AA⟩,Gh AA,trivial⟩,AA,AA,AA⟩
def aFw (q:Ai) (j:UK):AL AZ:=(uU q j).bind fun J=>(bif J then(jM).bind fun L=>some L else(aKL q j.User j.Content.N j.Key j.Time).bind fun z=>(aMI q j.User j.Content.N j.Key j.Time).bind fun I=>(yh z.1 I.1).bind fun M=>(bif M then some (z.2==I.2)else some false).bind fun O=>(bif O then(jM).bind fun u=>some u else some false).bind fun U=>some U)
def aeZ (ak gX r) (h:aFw ak gX=some r):BA 4 [BL ak,.d (X9 gX)] [] (Ag r) []:=BG func4 rfl<|AY<|Aa<|AP h fun Z q h=>AU 2<|.ca (aV8 ak gX Z q)<|.aY<|BH h (fun h=>AP h fun x3 u h=>BR<|.X (aNp  x3 u)<|Cj) fun h=>AP h fun U z h=>AU 10<|.X (amY ak gX.User gX.Content.N gX.Key gX.Time U z)<|AP h fun Y I h=>AU 10<|.X (aZI ak gX.User gX.Content.N gX.Key gX.Time Y I)<|AP h fun x6 J h=>AU 2<|.ca (aUl U.1 Y.1 x6 J)<|.a 1<|AP h fun x7 L h=>.mg 45 3 (Ag x7) (DW L)<|.a 1<|AP h fun x9 M h=>.mg 50 1 (Ag x9) (DW M (fun e i=>aSm))<|.aW<|Cj
end
section
def ZM (l:A8 Int) (h:l.length<=1099511627776):U7 l=some (Ee l):=by
 unfold U7 aFI Me X4;rw[EC EW];have j:(Qc l).length<=1099511627776:=by rw[(UJ l).length_eq];exact h
 simp[h,aLz,aKR]
def MG (l:A8 Int):(Ee l).length<=l.length:=by
 rw[←aKR];exact FC (Lib.compact_length_le _) Bh
def aGp (a b:A8 Int):(Pe a b).length<=a.length:=by
 unfold Pe;exact FC (Jr _ _) (MG a)
def aJL (a b:A8 Int):(Il a b).length<=a.length+b.length:=by
 rw[rW];exact FC (MG _) Bh
def ahI (a b:Int):cmp_Less_int a b=some (decide (a<b)):=by
 simp[cmp_Less_int,cmp_isNaN_int]
def aeb (l:A8 Int) (x:Int) (hi:Inc l) (hn:l.length<=1099511627776):eP (a1f l x) (fun r=>r.2=ER l x):=by
 unfold a1f aOY;refine Yr (fun(m:Nat) (a b:Int)=>∃i j:Nat,a=i/\b=j/\i<=j/\j<=l.length/\m=j-i/\(∀q,(u:q<i)->(hl:q<l.length)->l[q]<x)/\(∀q,(u:j<=q)->(hl:q<l.length)->x<=l[q])) ?_ Ap l.length 0 (l.length:Int) gU ⟨0,l.length,rfl,rfl,Ea _,EZ _,rfl,fun q u=>AB,fun q u hl=>AB⟩;rintro m a b k ⟨i,j,rfl,rfl,hij,hj,rfl,O,h2⟩ hk;unfold aXb;refine eP.bif (fun e=>?_) fun e=>?_
 ·have U:i<j:=SH
  have w1:Aw ((i:Int)+(j:Int))=((i+j:Nat):Int):=YQ
  have w2:IntKind.u64.wrap ((i+j:Nat):Int)=((i+j:Nat):Int):=by rw[kK];omega
  have w3:PO .shr .u64 ((i+j:Nat):Int) 1=some (((i+j)/2:Nat):Int):=by
   have e0:((i+j:Nat):Int).fdiv (2^(min (1:Int).toNat IntKind.u64.bits))=(((i+j)/2:Nat):Int):=by
    have :(2:Int)^(min (1:Int).toNat IntKind.u64.bits)=2:=rfl;rw[this,aVu _ AB];omega
   unfold PO;rw[Dp AB];exact BK some e0
  have w4:Aw (((i+j)/2:Nat):Int)=(((i+j)/2:Nat):Int):=YQ
  have hm:(i+j)/2<l.length:=AB
  rw[w1,w2,w3];simp only[Ad];rw[w4,Cx hm];simp only[Ad];rw[ahI,wrap_succ _ AB];simp only[Ad];have mono:∀p q,(hp:p<l.length)->(u:q<l.length)->p<q->l[p]<l[q]:=fun p q hp u z=>KC.1 hi p q hp u z;refine eP.bif (fun Y=>?_) fun Y=>?_
  ·have I:l[(i+j)/2]<x:=Vj
   refine hk (j-((i+j)/2+1)) _ _ AB ⟨(i+j)/2+1,j,rfl,rfl,AB,hj,rfl,fun q u hl=>?_,h2⟩;by_cases eq:q=(i+j)/2
   ·subst eq;exact I
   have :=mono q ((i+j)/2) hl hm AB;omega
  have I:¬l[(i+j)/2]<x:=Vj
  refine hk ((i+j)/2-i) _ _ AB ⟨i,(i+j)/2,rfl,rfl,AB,AB,rfl,O,fun q u hl=>?_⟩;by_cases eq:q=(i+j)/2
  ·subst eq;omega
  have :=mono ((i+j)/2) q hm hl AB;omega
 have U:¬i<j:=SH
 have J:i=j:=AB
 subst J;have mono:∀p q,(hp:p<l.length)->(u:q<l.length)->p<q->l[p]<l[q]:=fun p q hp u z=>KC.1 hi p q hp u z;by_cases hl:i<l.length
 ·rw[show decide ((i:Int)<(l.length:Int))=true by simpa using hl,Cx hl];simp only[Bz,Ad];by_cases I:l[i]=x
  ·have M:(l[i]==x)=true:=UR
   rw[M];refine .ret ?_;exact(LZ.2 (I▸Ew hl)).symm
  have M:(l[i]==x)=false:=UR
  rw[M]
  have Z:ER l x=false:=P9.2 fun hm=>by
   obtain⟨q,u,e5⟩:=I5 hm;rcases aC6 q i with L|L|L
   ·have :=O q L u;omega
   ·subst L;exact I e5
   have :=mono i q hl u L;have :=h2 i (EZ _) hl;omega
  simp[a0t,Z,eP]
 rw[show decide ((i:Int)<(l.length:Int))=false by simpa using hl];refine .ret ?_;refine(P9.2 fun hm=>?_).symm;obtain⟨q,u,M⟩:=I5 hm;have :=O q AB u;omega
def acD {l b:A8 Int} {i:Nat} (h:i<l.length):(l.take (i+1)).filter (fun x=> !ER b x)=(l.take i).filter (fun x=> !ER b x)++(if ER b l[i]then[]else[l[i]]):=by
 rw[Ot h,Py];cases j:ER b l[i]<;>simp[j]
def ani (a b:A8 Int) (h:a.length<=274877906944) (O:b.length<=274877906944):aDW a b=some (Pe a b):=by
 unfold aDW;rw[ZM b AB,ZM a AB];simp only[Ad];have ha:=MG a;have U:=MG b;have q:=KW b
 have J:Pe a b=((Ee a).take (Ee a).length).filter (fun x=> !ER (Ee b) x):=by
  rw[Gg];unfold Pe;congr 1;funext x;congr 1;by_cases j:x∈b
  ·rw[LZ.2 j,LZ.2 (KN.2 j)]
  rw[P9.2 j,P9.2 (fun h=>j (KN.1 h))]
 rw[J];generalize Ee a=S at *;generalize Ee b=S2 at *;refine eP.eq ?_;unfold aV4;refine JX S.length gU (fun i v=>v=(S.take i).filter (fun x=> !ER S2 x)) Bh ?_ ?_
 ·rintro i v k hi rfl u;have z:=wrap_succ i AB;have L:((S.take i).filter (fun x=> !ER S2 x)).length<=i:=FC (Jr _ _) EW;have hst:=acD (b:=S2) hi;unfold aO1 Sub;rw[show decide ((i:Int)<(S.length:Int))=true by simpa using hi,Cx hi];simp only[Bz,Ad];refine(aeb S2 S[i] q AB).bind ?_;rintro r M;rw[M];cases I:ER S2 S[i]with
  |true=>
   simp only[FB,BX,z];exact u _ (by rw[hst];simp[I])
  |false=>
   simp only[JC,Bz,z];rw[EC GZ];exact u _ (by rw[hst];simp[I])
 rintro v k rfl;unfold aO1;rw[show decide ((S.length:Int)<(S.length:Int))=false by simp];exact .ret rfl
def Vt (l:A8 Int) (x:Int) (h:l.length<=1099511627776):SC l x=some (ER l x):=by
 refine eP.eq ?_;unfold SC aQq;refine kR l.length gU (fun i=>∀j,(q:j<i)->(hl:j<l.length)->l[j]≠x) (fun j q=>AB) ?_ ?_
 ·intro i k hi u z;unfold aLJ;rw[show decide ((i:Int)<(l.length:Int))=true by simpa using hi,Cx hi,wrap_succ i AB];simp only[Bz,Ad];refine eP.bif (fun e=>?_) fun e=>?_
  ·refine .ret ?_;have :l[i]=x:=SH
   rw[LZ.2 (this▸Ew hi)]
  refine z fun j q hl=>?_;by_cases I:j=i
  ·subst I;simpa using e
  exact u j AB hl
 intro k u;unfold aLJ;rw[show decide ((l.length:Int)<(l.length:Int))=false by simp];refine .ret ?_;rw[P9.2];intro hm;obtain⟨j,q,e⟩:=I5 hm;exact u j q q e
def aLD (p:Int->AZ):∀(l:A8 Int) (i:Nat),i<=l.length->(∀j,(h:j<i)->(hl:j<l.length)->p l[j]=true)->(∀h:i<l.length,p l[i]=false)->l.takeWhile p=l.take i/\l.dropWhile p=l.drop i
 | [],i,h,_,_=>by simp at h;subst h;simp
 |a::l,0,_,_,q=>by
  have :=q Bh;simp at this;simp[this]
 |a::l,i+1,h,h1,q=>by
  have u:=h1 0 AB Bh;simp at u;have :=aLD p l i KY (fun j z hl=>by have :=h1 (j+1) AB NG;simpa using this) (fun hl=>by have :=q NG;simpa using this);simp[u,this.1,this.2]
def dz (l:A8 Int) (x:Int) (h:l.length<=1099511627776):Ux l x=some (put l x):=by
 unfold Ux;rw[Vt l x h];simp only[Ad];unfold put;cases hh:ER l x with
 |true=>simp
 |false=>
  simp only[BX,Qq,KP];refine eP.eq ?_;unfold aWe
  have q:∀i,i<=l.length->(∀j,(u:j<i)->(hl:j<l.length)->l[j]<x)->(∀h:i<l.length,¬l[i]<x)->
   eP ((IB l 0 (i:Int)).bind fun L=>(DU 8 [] L).bind fun M=>(DU 8 M [x]).bind fun O=>(IB l (i:Int) ((l.length))).bind fun I=>(DU 8 O I).bind fun J=>some J) (· =l.takeWhile (decide<| · <x)++x::l.dropWhile (decide<| · <x)):=by
   intro i hi U Y;obtain⟨Z,e2⟩:=aLD (decide<| · <x) l i hi (fun j u hl=>by simpa using U j u hl) (fun hl=>by simpa using Y hl)
   have e3:IB l 0 (i:Int)=some (l.take i):=by
    have :=jF (l:=l) (lo:=0) (hi:=i) AB hi;simpa using this
   have e4:IB l (i:Int) (l.length:Int)=some (l.drop i):=by
    rw[jF (l:=l) (lo:=i) (hi:=l.length) hi AB];congr 1;exact Qj Bh
   rw[e3];simp only[Ad];rw[EC EW];simp only[Ad,Iq];rw[EC EW];simp only[Ad];rw[e4];simp only[Ad];rw[EC EW];refine .ret ?_;rw[Z,e2];simp
  refine kR l.length gU (fun i=>∀j,(u:j<i)->(hl:j<l.length)->l[j]<x) (fun j u=>AB) ?_ ?_
  ·intro i k hi z hk;unfold aFu;rw[show decide ((i:Int)<(l.length:Int))=true by simpa using hi,Cx hi,wrap_succ i AB];simp only[Bz,Ad];refine eP.bif (fun e=>?_) fun e=>?_
   ·refine hk fun j u hl=>?_;by_cases ej:j=i
    ·subst ej;simpa using e
    exact z j AB hl
   exact q i AB z (fun _=>SH)
  intro k z;unfold aFu;rw[show decide ((l.length:Int)<(l.length:Int))=false by simp];exact q l.length AB z (fun h=>AB)
def iG (l:A8 Int) (x:Int):(put l x).length<=l.length+1:=by
 unfold put;split
 ·omega
 rw[En,HY];have :=BK List.length (vI (p:=(decide<| · <x)) (l:=l));rw[En]at this;omega
def jQ :∀(l a:A8 Int),(l.foldl put a).length<=a.length+l.length
 | [],a=>Bh
 |x::l,a=>by
  have j:=jQ l (put a x);have q:=iG a x;simp only[Gt,HY];omega
def aS0 {l a:A8 Int} {i:Nat} (h:i<l.length):(l.take (i+1)).foldl put a=put ((l.take i).foldl put a) l[i]:=by
 rw[Ot h,Ve];rfl
def aKf (l:A8 Int) (h:l.length<=274877906944):nT l=some (Ee l):=by
 refine eP.eq ?_;unfold nT aXL;refine JX l.length gU (fun i v=>v=(l.take i).foldl put []) Bh ?_ ?_
 ·rintro i v k hi rfl j;have hl:=jQ (l.take i) [];simp only[NM,GK]at hl;unfold aH1;rw[show decide ((i:Int)<(l.length:Int))=true by simpa using hi,Cx hi,wrap_succ i AB];simp only[Bz,Ad];rw[dz _ _ AB];exact j _ (aS0 hi).symm
 rintro v k rfl;unfold aH1;rw[show decide ((l.length:Int)<(l.length:Int))=false by simp];exact .ret (by rw[Gg];rfl)
def a0p (a b:A8 Int) (h:a.length<=274877906944) (q:b.length<=274877906944):Yh a b=some (Il a b):=by
 unfold Yh;rw[aKf a h];have hs:=MG a;refine eP.eq ?_;simp only[Ad];unfold aSr;refine JX b.length gU (fun i v=>v=(b.take i).foldl put (Ee a)) Bh ?_ ?_
 ·rintro i v k hi rfl j;have hl:=jQ (b.take i) (Ee a);simp only[GK]at hl;unfold aGb;rw[show decide ((i:Int)<(b.length:Int))=true by simpa using hi,Cx hi,wrap_succ i AB];simp only[Bz,Ad];rw[dz _ _ AB];exact j _ (aS0 hi).symm
 rintro v k rfl;unfold aGb;rw[show decide ((b.length:Int)<(b.length:Int))=false by simp];exact .ret (by rw[Gg];rfl)
end
section
variable {α:Type}
def KO {R:Type} (c:AZ) (x y:R):(bif c then some x else some y)=some (bif c then x else y):=by cases c<;>rfl
def Fin {A R:Type} (c:AZ) (x y:AL A) (f:A->AL R):(bif c then x else y).bind f=bif c then x.bind f else y.bind f:=by cases c<;>rfl
def dW (a b:AZ):(bif a then true else b)=(a||b):=by cases a<;>rfl
def Tv (a b:AZ):(bif a then b else false)=(a&&b):=by cases a<;>rfl
def VR {s:BD} {i:Nat} (h:i<(CU s).length):IL s (i:Int)=some (CU s)[i]:=by
 unfold IL;rw[Di (aKs i)];have h':i<s.size:=X0
 have e:s[i]? =some s[i]:=by simp[h']
 simp only[ZX,e,JQ,CU,TV];rfl
def alQ {s:BD} (h:0<(CU s).length):IL s 0=some (CU s)[0]:=VR (i:=0) h
def Hz {R α:Type} {body:(Int->AL R)->Int->AL R} (l:A8 α) (hl:l.length<Ap) (p:α->AZ) (bad:R) (rest:AL R)
 (u:∀k (i:Nat) (h:i<l.length),body k (i:Int)=bif p l[i]then some bad else k (Aw ((i:Int)+1))) (z:∀k,body k (l.length:Int)=rest):
 bJ body Ap 0=bif l.any p then some bad else rest:=by
 have J:Ap=9223372036854775808:=rfl
 have key:∀n (i:Nat),i+n=l.length->∀m,n<m->bJ body m (i:Int)=bif (l.drop i).any p then some bad else rest:=by
  intro n
  induction n with
  |zero=>
   intro i hi m hm;obtain⟨m,rfl⟩:∃q,m=q+1:=⟨m-1,AB⟩
   have :i=l.length:=AB
   subst this;show body (bJ body m) _=_;rw[z,PZ];rfl
  |succ n I=>
   intro i hi m hm;obtain⟨m,rfl⟩:∃q,m=q+1:=⟨m-1,AB⟩
   have j:i<l.length:=AB
   show body (bJ body m) _=_;rw[u _ i j,wrap_succ i AB,I (i+1) AB m AB,Lh j,Zm];cases p l[i]<;>rfl
 have :=key l.length 0 AB Ap hl;simpa using this
def bytes_inj {s t:BD} (h:CU s=CU t):s=t:=by
 have hd:s.data.toList=t.data.toList:=by
  unfold CU at h;refine List.map_inj_right (f:=fun c:UInt8=>(c.toNat:Int)) (fun a b j=>?_) |>.1 h;exact UInt8.toNat_inj.1 AB
 obtain⟨⟨a⟩⟩:=s;obtain⟨⟨b⟩⟩:=t;simp only at hd;rw[hd]
def toList_inj {s t:BD} (h:s.toList=t.toList):s=t:=by
 rw[ByteArray.toList_eq,ByteArray.toList_eq]at h;obtain⟨⟨a⟩⟩:=s;obtain⟨⟨b⟩⟩:=t;simp only at h;rw[h]
def Ir {s t:BD}:(s.toList==t.toList)=decide (s=t):=by
 by_cases h:s=t
 ·subst h;simp
 have :s.toList≠t.toList:=fun e=>h (toList_inj e);simp[h,this]
def Kv {R α:Type} {body:(Int->AL R)->Int->AL R} (l:A8 α) (hl:l.length<Ap) (q:α->AZ) (g:Nat->AL R) (rest:AL R)
 (z:∀k (i:Nat) (h:i<l.length),body k (i:Int)=bif q l[i]then g i else k (Aw ((i:Int)+1))) (I:∀k,body k (l.length:Int)=rest):
 bJ body Ap 0=if l.findIdx q<l.length then g (l.findIdx q)else rest:=by
 have L:Ap=9223372036854775808:=rfl
 have key:∀n (i:Nat),i+n=l.length->∀m,n<m->bJ body m (i:Int)=if(l.drop i).findIdx q+i<l.length then g ((l.drop i).findIdx q+i)else rest:=by
  intro n
  induction n with
  |zero=>
   intro i hi m hm;obtain⟨m,rfl⟩:∃u,m=u+1:=⟨m-1,AB⟩
   have :i=l.length:=AB
   subst this;show body (bJ body m) _=_;rw[I,PZ,Dp AB]
  |succ n J=>
   intro i hi m hm;obtain⟨m,rfl⟩:∃u,m=u+1:=⟨m-1,AB⟩
   have j:i<l.length:=AB
   show body (bJ body m) _=_;rw[z _ i j,wrap_succ i AB,J (i+1) AB m AB,Lh j,Tj];cases q l[i]with
   |true=>simp[j]
   |false=>simp only[BX];rw[show(l.drop (i+1)).findIdx q+(i+1)=(l.drop (i+1)).findIdx q+1+i by omega]
 have :=key l.length 0 AB Ap hl;simpa using this
def lU {s:BD} {lo hi:Nat} (j:lo<=hi) (q:hi<=s.size):OM s (lo:Int) (hi:Int)=some (s.extract lo hi):=by
 unfold OM;rw[Di ⟨AB,AB,AB⟩];simp
def aOR (s:BD) (a b:Nat):CU (s.extract a b)=((CU s).take b).drop a:=by
 simp[CU,ByteArray.data_extract,iC,aK,List.extract_eq_drop_take']
def s0 (l:A8 α) (q:α->AZ):(bif l.any (fun c=> !q c)then false else true)=l.all q:=by
 have :l.any (fun c=> !q c)= !l.all q:=by simp[List.not_all_eq_any_not]
 rw[this];cases l.all q<;>rfl
def aJz :∀(l:A8 UInt8) (c:UInt8),Lib.indexByte l c=if l.findIdx (· ==c)<l.length then((l.findIdx (· ==c):Nat):Int)else -1
 | [],c=>rfl
 |b::l,c=>by
  unfold Lib.indexByte;rw[Tj];cases h:b==c with
  |true=>simp
  |false=>
   rw[aJz l c];simp only[Qq,KP,BX,HY];by_cases hl:l.findIdx (· ==c)<l.length
   ·simp only[hl,Ku,show l.findIdx (· ==c)+1<l.length+1 by omega];have :(((l.findIdx (· ==c):Nat):Int)== -1)=false:=Bh
    simp[this]
   simp[hl,show ¬l.findIdx (· ==c)+1<l.length+1 by omega]
end
section
structure FD (e:AV):Prop where
 prev:e.bI.length<=40
 auth:e.bQ.length<=40
 allow:e.Content.Allow.length<=100
 deny:e.Content.gJ.length<=100
 users:e.Content.Levels.Users.length<=100
 kinds:e.Content.Levels.Kinds.length<=100
 room:e.Room.size<=2000
 sender:e.bF.size<=2000
 key:e.Key.size<=2000
 text:e.Content.Text.size<=2000
 via:e.Content.Via.size<=2000
 server:e.nU.Server.size<=2000
 allows:∀x∈e.Content.Allow,x.size<=2000
 denies:∀x∈e.Content.gJ,x.size<=2000
 names:∀x∈e.Content.Levels.Users,x.User.size<=2000
def PN {a b:Int} (h:decide (a>b)=false):a<=b:=by have :=KI h;omega
def aNg {α:Type} {l:A8 α} {P:α->Prop} (h:∀j,(hl:j<l.length)->P l[j]):∀x∈l,P x:=fun x q=>by
 obtain⟨j,u,rfl⟩:=I5 q;exact h j u
def aKv {α:Type} {body:(Int->AL AZ)->Int->AL AZ} (l:A8 α) (hl:l.length<Ap) (q:α->AZ) (rest:AL AZ) {P:Prop}
 (J:∀(k:Int->AL AZ) (i:Nat) (h:i<l.length),body k (i:Int)=bif q l[i]then some true else k (Aw ((i:Int)+1))) (L:∀k,body k (l.length:Int)=rest)
 (M:(∀x∈l,q x=false)->eP rest (fun b=>b=false->P)):eP (bJ body Ap 0) (fun b=>b=false->P):=by
 refine kR l.length hl (fun i=>∀j,(u:j<i)->(hl:j<l.length)->q l[j]=false) (fun j u=>AB) ?_ ?_
 ·intro i k hi z O;have Y:Ap=9223372036854775808:=rfl;rw[J k i hi,wrap_succ i AB];refine eP.bif (fun _=>.ret (fun h=>Ib)) fun e=>O fun j u I=>?_;by_cases U:j=i
  ·subst U;exact e
  exact z j AB I
 intro k z;rw[L];exact M (aNg fun j u=>z j u u)
def DR {α R:Type} {l:A8 α} {i:Nat} (h:i<l.length) (f:α->AL R) (z:AL R):(bif (i:Int)<(l.length:Int) then(Ak l (i:Int)).bind f else z)=f l[i]:=by
 rw[show decide ((i:Int)<(l.length:Int))=true by simpa using h,Cx h];rfl
def EF {α R:Type} {l:A8 α} (y z:AL R):(bif (l.length:Int)<(l.length:Int) then y else z)=z:=by
 rw[show decide ((l.length:Int)<(l.length:Int))=false by simp];rfl
def aRK (e:AV):eP (xX e) (fun b=>b=false->FD e):=by
 have hf:Ap=9223372036854775808:=rfl;have q:∀{P:Prop},eP (some true) (fun b=>b=false->P):=.ret fun h=>Ib
 unfold xX;simp only[KO,Ad,dW];refine eP.bif (fun _=>q) fun a=>?_;refine eP.bif (fun _=>q) fun b=>?_;simp only[ZA]at a b;obtain⟨⟨⟨⟨⟨u,z⟩,I⟩,J⟩,L⟩,M⟩:=a;obtain⟨⟨⟨⟨⟨O,U⟩,Y⟩,Z⟩,b5⟩,b6⟩:=b;have u:=PN u;have z:=PN z;have I:=PN I;have J:=PN J;have L:=PN L;have M:=PN M;have O:=PN O;have U:=PN U;have Y:=PN Y;have Z:=PN Z;have b5:=PN b5;have b6:=PN b6;unfold aWp;refine aKv e.Content.Allow AB (fun x=>(x.size:Int)>2000) (aMZ e 0) (fun k i h=>?_) (fun k=>?_) fun c1=>?_
 ·unfold aK9;rw[DR h]
 ·unfold aK9;rw[EF]
 unfold aMZ;refine aKv e.Content.gJ AB (fun x=>(x.size:Int)>2000) (aM8 e 0) (fun k i h=>?_) (fun k=>?_) fun c2=>?_
 ·unfold aMB;rw[DR h]
 ·unfold aMB;rw[EF]
 unfold aM8;refine aKv e.Content.Levels.Users AB (fun x=>(x.User.size:Int)>2000) (some false) (fun k i h=>?_) (fun k=>?_) fun c3=>?_
 ·unfold aHm;rw[DR h]
 ·unfold aHm;rw[EF]
 refine .ret fun _=>⟨AB,AB,AB,AB,AB,AB,AB,AB,AB,AB,AB,AB,fun x j=>?_,fun x j=>?_,fun x j=>?_⟩
 ·have :=PN (c1 x j);omega
 ·have :=PN (c2 x j);omega
 have :=PN (c3 x j);omega
def fuel_lt {n:Nat} (h:n<=1099511627776):n<Ap:=gV
def dec_lt {i n:Nat} (h:i<n):decide ((i:Int)<(n:Int))=true:=KY
def Dy (n:Nat):decide ((n:Int)<(n:Int))=false:=Bh
def IZ {R A α:Type} {body:(A->Int->AL R)->A->Int->AL R} (l:A8 α) (hl:l.length<=1099511627776) (step:A->α->A) (I:Nat->A->Prop) (j:A->AL R) {a0:A} (z:I 0 a0)
 (J:∀k a (i:Nat) (h:i<l.length),I i a->I (i+1) (step a l[i])/\body k a (i:Int)=k (step a l[i]) (Aw ((i:Int)+1)))
 (L:∀k a,I l.length a->body k a (l.length:Int)=j a):aU body Ap a0 0=j (l.foldl step a0):=by
 have key:∀n (i:Nat) (a:A),i+n=l.length->I i a->∀m,n<m->aU body m a (i:Int)=j ((l.drop i).foldl step a):=by
  intro n
  induction n with
  |zero=>
   intro i a hi ha m hm;obtain⟨m,rfl⟩:∃u,m=u+1:=⟨m-1,AB⟩
   have :i=l.length:=AB
   subst this;show body (aU body m) _ _=_;rw[L _ _ ha,PZ];rfl
  |succ n M=>
   intro i a hi ha m hm;obtain⟨m,rfl⟩:∃u,m=u+1:=⟨m-1,AB⟩
   have q:i<l.length:=AB
   obtain⟨O,U⟩:=J (aU body m) a i q ha;show body (aU body m) _ _=_;rw[U,wrap_succ i AB,M (i+1) _ AB O m AB,Lh q,Gt]
 have :=key l.length 0 a0 AB z Ap (fuel_lt hl);simpa using this
def jA {R A α:Type} {body:(Int->A->AL R)->Int->A->AL R} (l:A8 α) (hl:l.length<=1099511627776) (step:A->α->A) (I:Nat->A->Prop) (j:A->AL R) {a0:A} (z:I 0 a0)
 (J:∀k a (i:Nat) (h:i<l.length),I i a->I (i+1) (step a l[i])/\body k (i:Int) a=k (Aw ((i:Int)+1)) (step a l[i]))
 (L:∀k a,I l.length a->body k (l.length:Int) a=j a):aU body Ap 0 a0=j (l.foldl step a0):=by
 have key:∀n (i:Nat) (a:A),i+n=l.length->I i a->∀m,n<m->aU body m (i:Int) a=j ((l.drop i).foldl step a):=by
  intro n
  induction n with
  |zero=>
   intro i a hi ha m hm;obtain⟨m,rfl⟩:∃u,m=u+1:=⟨m-1,AB⟩
   have :i=l.length:=AB
   subst this;show body (aU body m) _ _=_;rw[L _ _ ha,PZ];rfl
  |succ n M=>
   intro i a hi ha m hm;obtain⟨m,rfl⟩:∃u,m=u+1:=⟨m-1,AB⟩
   have q:i<l.length:=AB
   obtain⟨O,U⟩:=J (aU body m) a i q ha;show body (aU body m) _ _=_;rw[U,wrap_succ i AB,M (i+1) _ AB O m AB,Lh q,Gt]
 have :=key l.length 0 a0 AB z Ap (fuel_lt hl);simpa using this
def LD {α:Type} (p:α->AZ):∀l:A8 α,l.find? p=l[l.findIdx p]?
 | []=>rfl
 |x::l=>by
  rw[VD,Tj];cases h:p x with
  |true=>rfl
  |false=>simp[LD p l]
def Ef (l:A8 AV) (id:Int):Option AV:=l.find? fun e=>e.Id==id
def He (l:A8 AV) (id:Int):AV×AZ:=match Ef l id with
 |some e=>(e,true)
 |none=>(DI,false)
def aV6 {l:A8 AV} {id:Int} {e:AV} (h:Ef l id=some e):e.Id=id:=by
 have :=aIe h;simpa using this
def NW {l:A8 AV} {id:Int} {e:AV} (h:Ef l id=some e):e∈l:=ZY h
def Pn (l:A8 AV) (id:Int):(He l id).2=(Ef l id).isSome:=by
 unfold He;cases Ef l id<;>rfl
def aJ3 (l:A8 AV) (hl:l.length<=1099511627776) (f:AV->AL AZ) (p:AV->AZ) (j:∀e,f e=some (p e)):
 jV l f=some (if l.findIdx p<l.length then((l.findIdx p:Nat):Int)else -1):=by
 unfold jV aRf;rw[Kv l (fuel_lt hl) p (fun i=>some (i:Int)) (some (-1))]
 ·split<;>rfl
 ·intro k i h;unfold aJQ;rw[DR h,j];rfl
 intro k;unfold aJQ;rw[EF]
def found_eq (l:A8 AV) (p:AV->AZ) {n:Int} (j:n=if l.findIdx p<l.length then((l.findIdx p:Nat):Int)else -1):
 (bif n<0 then some (DI,false)else(Ak l n).bind fun q=>some (q,true))=some (match l.find? p with |some e=>(e,true)|none=>(DI,false)):=by
 subst j;rw[LD];by_cases h:l.findIdx p<l.length
 ·rw[Di h,EL h,show decide (((l.findIdx p:Nat):Int)<0)=false by simp,Cx h];rfl
 rw[Dp h,J5 AB];rfl
def PY (l:A8 AV) (id:Int) (hl:l.length<=1099511627776):Oo l id=some (He l id):=by
 unfold Oo aHq aEf;rw[aJ3 l hl _ (fun e=>e.Id==id) fun _=>rfl];exact found_eq l _ rfl
def aSZ (l:A8 AV) (id:Int) (hl:l.length<=1099511627776):vS l id=some (if l.findIdx (fun e=>e.Id==id)<l.length then((l.findIdx (fun e=>e.Id==id):Nat):Int)else -1):=by
 unfold vS aSt;rw[Kv l (fuel_lt hl) (fun e=>e.Id==id) (fun i=>some (i:Int)) (some (-1))]
 ·split<;>rfl
 ·intro k i h;unfold aFq;rw[DR h]
 intro k;unfold aFq;rw[EF]
def Lc (l:A8 AV) (id:Int) (hl:l.length<=1099511627776):Jw l id=some (He l id):=by
 unfold Jw;rw[aSZ l id hl];exact found_eq l _ rfl
def ofIds (l:A8 AV) (ids:A8 Int):A8 AV:=ids.filterMap (Ef l)
def foldl_append {α β:Type} (f:α->A8 β):∀(l:A8 α) (a:A8 β),l.foldl (fun r x=>r++f x) a=a++l.flatMap f
 | [],a=>Bh
 |x::l,a=>by rw[Gt,foldl_append f l,OD,Jd]
def aQm (l:A8 AV):∀ids,ofIds l ids=ids.flatMap fun id=>(Ef l id).toList
 | []=>rfl
 |id::ids=>by
  unfold ofIds;rw[QM,OD,←aQm l ids];cases Ef l id<;>rfl
def toList_le {α:Type} (o:AL α):o.toList.length<=1:=by cases o<;>simp
def OE {l:A8 AV} {id:Int} {e:AV} (h:Ef l id=some e):He l id=(e,true):=by unfold He;rw[h]
def SI {l:A8 AV} {id:Int} (h:Ef l id=none):He l id=(DI,false):=by unfold He;rw[h]
def Z8 (l:A8 AV) (ids:A8 Int):(ofIds l ids).length<=ids.length:=aGJ ..
def aUm (l:A8 AV) (ids:A8 Int):ids.foldl (fun r id=>r++(Ef l id).toList) []=ofIds l ids:=by
 rw[foldl_append (fun id=>(Ef l id).toList),aQm];rfl
def aUb (l:A8 AV) (ids:A8 Int) (hl:l.length<=1000) (hi:ids.length<=1000000):qo l ids=some (ofIds l ids):=by
 unfold qo
 have hm:Iw 376 DI 0 (ids.length:Int)=some []:=by
  unfold Iw;rw[Di aFS];rfl
 rw[hm];simp only[Ad];unfold aWF;rw[IZ ids AB (fun r id=>r++(Ef l id).toList) (fun i r=>r.length<=i) (fun r=>some r) Bh]
 ·rw[aUm]
 ·intro k a i h q;have ht:=toList_le (Ef l ids[i]);refine⟨La,?_⟩;unfold aIg aFU;rw[DR h,PY l _ AB];cases j:Ef l ids[i]with
  |none=>simp[SI j]
  |some e=>
   rw[OE j];simp only[Ad,Bz,RD];rw[EC GZ];rfl
 intro k a q;unfold aIg;rw[EF]
def aIV (l:A8 AV) (ids:A8 Int) (hl:l.length<=1000) (hi:ids.length<=1000000):mV l ids=some (ofIds l ids):=by
 unfold mV aUF;rw[IZ ids AB (fun r id=>r++(Ef l id).toList) (fun i r=>r.length<=i) (fun r=>some r) Bh]
 ·rw[aUm]
 ·intro k a i h q;have ht:=toList_le (Ef l ids[i]);refine⟨La,?_⟩;unfold aO9 aDt;rw[DR h,Lc l _ AB];cases j:Ef l ids[i]with
  |none=>simp[SI j]
  |some e=>
   rw[OE j];simp only[Ad,Bz,RD];rw[EC GZ];rfl
 intro k a q;unfold aO9;rw[EF]
def aR8 {α:Type} (l:A8 α) (i:Nat) (x:α) (h:i<l.length):l.set i x=l.take i++x::l.drop (i+1):=aH6▸by simp[h]
def aRx {α:Type} (A:A8 α) (g:α) (D:A8 α) {n:Nat} (h:A.length=n):(A++g::D).take n=A/\(A++g::D).drop (n+1)=D:=by
 subst h;simp
def aGI (l:A8 Int) (x:Int) (hi:Inc l) (hl:l.length<=1000000):nS l x=some (put l x):=by
 refine eP.eq ?_;unfold nS aXs
 have L:∀i,i<=l.length->(∀j,(Y:j<i)->(hl:j<l.length)->l[j]<x)->(∀h:i<l.length,x<l[i])->put l x=l.take i++x::l.drop i:=by
  intro i hi' h1 O;obtain⟨e1,U⟩:=aLD (decide<| · <x) l i hi' (fun j Y hl=>by simpa using h1 j Y hl) (fun hl=>by have :=O hl;simp;omega)
  have hno:ER l x=false:=P9.2 fun hm=>by
   obtain⟨q,hq,e4⟩:=I5 hm;rcases xG q i with h5|h5
   ·have :=h1 q h5 hq;omega
   have h6:=O AB;rcases xG i q with h7|h7
   ·have :=KC.1 hi i q AB hq h7;omega
   have :q=i:=AB
   subst this;omega
  unfold put;rw[hno,e1,U];rfl
 have z:∀i,i<=l.length->∀d,d<=l.length-i->∀m,d<m->eP (aU (V6 (i:Int) x) m ((i+d:Nat):Int) (l.take (i+d)++(l++[x]).getD (i+d) 0::l.drop (i+d))) (· =l.take i++x::l.drop i):=by
  intro i I d
  induction d with
  |zero=>
   intro _ m hm;obtain⟨m,rfl⟩:∃m',m=m'+1:=⟨m-1,AB⟩
   show eP (V6 (i:Int) x (aU (V6 (i:Int) x) m) _ _) _;generalize aU (V6 (i:Int) x) m=k;unfold V6;rw[show decide (((i+0:Nat):Int)>(i:Int))=false by simp];simp only[BX,PE];have hlen:i<(l.take i++(l++[x]).getD i 0::l.drop i).length:=EW
   rw[Cx hlen];refine .ret ?_;rw[ZX,aR8 _ _ _ hlen];simp[aIz,List.drop_append,aJn I]
  |succ d ih=>
   intro hd m hm;obtain⟨m,rfl⟩:∃m',m=m'+1:=⟨m-1,AB⟩
   have Z:=ih AB m AB;show eP (V6 (i:Int) x (aU (V6 (i:Int) x) m) _ _) _;generalize aU (V6 (i:Int) x) m=k at Z ⊢;unfold V6;rw[show decide (((i+(d+1):Nat):Int)>(i:Int))=true by simp;omega];simp only[Bz];have w:Aw (((i+(d+1):Nat):Int)-1)=((i+d:Nat):Int):=YQ
   have J:i+d<l.length:=AB
   have hL:(l.take (i+(d+1))++(l++[x]).getD (i+(d+1)) 0::l.drop (i+(d+1))).length=l.length+1:=EW
   have h1:i+d<(l.take (i+(d+1))++(l++[x]).getD (i+(d+1)) 0::l.drop (i+(d+1))).length:=AB
   have O:i+(d+1)<(l.take (i+(d+1))++(l++[x]).getD (i+(d+1)) 0::l.drop (i+(d+1))).length:=AB
   rw[w,Cx h1];simp only[Ad];rw[Cx O];simp only[Ad]
   have hg:(l.take (i+(d+1))++(l++[x]).getD (i+(d+1)) 0::l.drop (i+(d+1)))[i+d]=l[i+d]:=by
    rw[aIv EW];simp
   rw[hg,ZX,aR8 _ _ _ O]
   have e:(l.take (i+(d+1))++(l++[x]).getD (i+(d+1)) 0::l.drop (i+(d+1))).take (i+(d+1))++l[i+d]::(l.take (i+(d+1))++(l++[x]).getD (i+(d+1)) 0::l.drop (i+(d+1))).drop (i+(d+1)+1)=l.take (i+d)++(l++[x]).getD (i+d) 0::l.drop (i+d):=by
    have ht:(l.take (i+(d+1))).length=i+(d+1):=EW
    rw[(aRx _ _ _ ht).1,(aRx _ _ _ ht).2];have h3:(l++[x]).getD (i+d) 0=l[i+d]:=by simp[List.getD,Hu J,J]
    rw[h3,show i+(d+1)=i+d+1 by omega,Ot J,Lh J,Jd];rfl
   rw[e];exact Z
 have u:l++[x]=l.take l.length++(l++[x]).getD l.length 0::l.drop l.length:=Bh
 refine kR l.length (fuel_lt AB) (fun i=>∀j,(Y:j<i)->(hl:j<l.length)->l[j]<x) (fun j Y=>AB) ?_ ?_
 ·intro i k I hI hk;unfold aLb;rw[show decide ((i:Int)<(l.length:Int))=true by simpa using I,Cx I];simp only[Bz,Ad];refine eP.bif (fun e=>?_) fun e=>?_
  ·rw[wrap_succ i AB];refine hk fun j Y hl'=>?_;by_cases ej:j=i
   ·subst ej;simpa using e
   exact hI j AB hl'
  have hge:¬l[i]<x:=SH
  refine eP.bif (fun U=>?_) fun U=>?_
  ·have hx:l[i]=x:=aBj
   refine .ret ?_;unfold put;rw[LZ.2 (hx▸Ew I)];rfl
  have hx:l[i]≠x:=aBj
  rw[EC GZ];simp only[Ad];rw[L i AB hI (fun _=>AB)];have w:Aw (((l++[x]).length:Int)-1)=((i+(l.length-i):Nat):Int):=aKg
  rw[w];have M:=z i AB (l.length-i) (EZ _) Ap (fuel_lt AB);rw[show i+(l.length-i)=l.length by omega]at M ⊢;rw[←u]at M;exact M
 intro k hI;unfold aLb;rw[show decide ((l.length:Int)<(l.length:Int))=false by simp];simp only[BX,Ad];rw[EC GZ];simp only[Ad];rw[L l.length (EZ _) hI (fun h=>AB)];have w:Aw (((l++[x]).length:Int)-1)=((l.length+0:Nat):Int):=aKg
 rw[w];have M:=z l.length (EZ _) 0 AB Ap (fuel_lt AB);rw[PE]at M ⊢;rw[←u]at M;exact M
def dQ (l:A8 AV) (id:Int):AZ:=(Ef l id).isSome
def Yf (l:A8 AV) (ids:A8 Int):A8 Int:=ids.foldl (fun r id=>bif dQ l id then r else put r id) []
def G8 (l:A8 AV) (ids:A8 Int):A8 Int:=(Ee ids).filter (dQ l)
def O1 {l:A8 AV} {ids:A8 Int} {x:Int}:x∈G8 l ids↔x∈ids/\dQ l x=true:=by unfold G8;rw[Hy,KN]
def dK (l:A8 AV) (ids:A8 Int):Inc (G8 l ids):=(KW ids).sublist Qo
def aZn (l:A8 AV) (ids:A8 Int):(G8 l ids).length<=ids.length:=FC (Jr _ _) (MG ids)
def aGt (l:A8 AV):∀(ids r:A8 Int),Inc r->Inc (ids.foldl (fun r id=>bif dQ l id then r else put r id) r)/\∀x,x∈ids.foldl (fun r id=>bif dQ l id then r else put r id) r↔x∈r\/x∈ids/\dQ l x=false
 | [],r,h=>⟨h,fun x=>Bh⟩
 |id::ids,r,h=>by
  rw[Gt];cases z:dQ l id with
  |true=>
   obtain⟨q,u⟩:=aGt l ids r h;refine⟨q,fun x=>(u x).trans ⟨fun h=>?_,fun h=>?_⟩⟩
   ·rcases h with h|h
    ·exact .inl h
    exact .inr ⟨IG _ h.1,h.2⟩
   rcases h with h|⟨h,j⟩
   ·exact .inl h
   rcases FK.1 h with rfl|h
   ·rw[z]at j;cases j
   exact .inr ⟨h,j⟩
  |false=>
   obtain⟨q,u⟩:=aGt l ids (put r id) (SN h);refine⟨q,fun x=>(u x).trans ?_⟩;rw[Wx,FK];constructor
   ·rintro((h|rfl)|h)
    ·exact .inl h
    ·exact .inr ⟨.inl rfl,z⟩
    exact .inr ⟨.inr h.1,h.2⟩
   rintro(h|⟨rfl|h,j⟩)
   ·exact .inl (.inl h)
   ·exact .inl (.inr rfl)
   exact .inr ⟨h,j⟩
def aK4 {l:A8 AV} {ids:A8 Int} {x:Int}:x∈Yf l ids↔x∈ids/\dQ l x=false:=by
 unfold Yf;rw[(aGt l ids [] .nil).2 x];simp
def aYL (l:A8 AV) (ids:A8 Int):(Yf l ids).length<=ids.length:=by
 have key:∀(ids r:A8 Int),(ids.foldl (fun r id=>bif dQ l id then r else put r id) r).length<=r.length+ids.length:=by
  intro ids
  induction ids with
  |nil=>intro r;simp
  |cons id ids j=>
   intro r;rw[Gt];have q:=j (bif dQ l id then r else put r id)
   have u:(bif dQ l id then r else put r id).length<=r.length+1:=by
    cases dQ l id with
    |true=>exact Nat.le_succ _
    |false=>exact iG r id
   simp only[HY];omega
 have :=key ids [];simpa[Yf]using this
def aGN (l:A8 AV) (ids:A8 Int) (hl:l.length<=1000) (hi:ids.length<=100000):jZ l ids=some (Yf l ids):=by
 unfold jZ aYI;rw[IZ ids AB (fun r id=>bif dQ l id then r else put r id) (fun i r=>Inc r/\r.length<=i) (fun r=>some r) ⟨.nil,EZ _⟩]
 ·rfl
 ·intro k a i h j;have hp:=aSZ l ids[i] AB
  have u:dQ l ids[i]=decide (l.findIdx (fun e=>e.Id==ids[i])<l.length):=by
   unfold dQ Ef;rw[LD];by_cases h:l.findIdx (fun e=>e.Id==ids[i])<l.length
   ·rw[EL h,JG h];rfl
   rw[J5 AB,JK h];rfl
  refine⟨?_,?_⟩
  ·cases dQ l ids[i]with
   |true=>exact⟨j.1,by have :=j.2;show a.length<=i+1;omega⟩
   |false=>exact⟨SN j.1,by have :=iG a ids[i];have :=j.2;show(put a ids[i]).length<=i+1;omega⟩
  unfold aNG aFG;rw[DR h,hp];simp only[Ad];by_cases q:l.findIdx (fun e=>e.Id==ids[i])<l.length
  ·rw[Di q,u,JG q,show decide (((l.findIdx (fun e=>e.Id==ids[i]):Nat):Int)<0)=false by simp];rfl
  rw[Dp q,u,JK q,Cx h];simp only[show decide ((-1:Int)<0)=true by decide,Bz,BX,Ad];rw[aGI a _ j.1 (by have :=j.2;omega)];rfl
 intro k a j;unfold aNG;rw[EF]
def aBK (a b:A8 Int) (h:a.length<=274877906944) (z:b.length<=274877906944):aJ a b=some (Pe a b):=by
 unfold aJ;rw[aKf a h];simp only[Ad];have ha:=MG a;unfold aVO;rw[IZ (Ee a) AB (fun r x=>bif ER b x then r else r++[x]) (fun i r=>r.length<=i) (fun r=>some r) (EZ _)]
 ·congr 1;unfold Pe;generalize Ee a=S
  have key:∀(S r:A8 Int),S.foldl (fun r x=>bif ER b x then r else r++[x]) r=r++S.filter (fun x=> !ER b x):=by
   intro S
   induction S with
   |nil=>intro r;simp
   |cons x S j=>
    intro r;rw[Gt,j,Rn];cases ER b x<;>simp
  simpa using key S []
 ·intro k r i h q;have u:=Vt b (Ee a)[i] AB;refine⟨?_,?_⟩
  ·cases ER b (Ee a)[i]with
   |true=>show r.length<=i+1;omega
   |false=>show(r++[(Ee a)[i]]).length<=i+1;simp;omega
  unfold aKU aAa;rw[DR h,u];simp only[Ad];cases ER b (Ee a)[i]with
  |true=>rfl
  |false=>
   simp only[JC,Bz,BX];rw[Cx h];simp only[Ad];rw[EC GZ];rfl
 intro k r q;unfold aKU;rw[EF]
def aRC (l:A8 AV) (ids:A8 Int):Pe ids (Yf l ids)=G8 l ids:=
 Ci (aJb _ _) (dK _ _) fun x=>by
  rw[aRz,aK4,O1];cases dQ l x<;>simp
def amj (l:A8 AV) (ids:A8 Int) (hl:l.length<=1000) (hi:ids.length<=100000):aDD l ids=some (G8 l ids):=by
 unfold aDD;rw[aGN l ids hl hi];simp only[Ad];have :=aYL l ids;rw[aBK _ _ AB AB,aRC];rfl
def aWI (l:A8 AV) (ids:A8 Int) (hl:l.length<=1000) (hi:ids.length<=100000):xA l ids=some (G8 l ids):=by
 unfold xA;rw[aGN l ids hl hi];simp only[Ad];have :=aYL l ids;rw[aBK _ _ AB AB,aRC];rfl
def I9 (l:A8 AV) (id:Int):A8 Int:=(He l id).1.bQ
def UN (l:A8 AV) (r:A8 Int) (x:Int):A8 Int:=bif dQ l x then put r x else r
def KF (l:A8 AV) (ids:A8 Int):A8 Int:=ids.foldl (fun r id=>(I9 l id).foldl (UN l) r) []
def a1D (l:A8 AV):∀(xs r:A8 Int),Inc r->Inc (xs.foldl (UN l) r)/\(∀x,x∈xs.foldl (UN l) r↔x∈r\/x∈xs/\dQ l x=true)/\(xs.foldl (UN l) r).length<=r.length+xs.length
 | [],r,h=>⟨h,fun x=>Bh,Bh⟩
 |y::xs,r,h=>by
  rw[Gt];unfold UN;cases I:dQ l y with
  |true=>
   obtain⟨u,z,j⟩:=a1D l xs (put r y) (SN h);refine⟨u,fun x=>(z x).trans ?_,?_⟩
   ·rw[Wx,FK];constructor
    ·rintro((h|rfl)|h)
     ·exact .inl h
     ·exact .inr ⟨.inl rfl,I⟩
     exact .inr ⟨.inr h.1,h.2⟩
    rintro(h|⟨rfl|h,q⟩)
    ·exact .inl (.inl h)
    ·exact .inl (.inr rfl)
    exact .inr ⟨h,q⟩
   have :=iG r y;simp only[HY,Bz]at j ⊢;exact FC j AB
  |false=>
   obtain⟨u,z,j⟩:=a1D l xs r h;refine⟨u,fun x=>(z x).trans ⟨fun h=>?_,fun h=>?_⟩,?_⟩
   ·rcases h with h|h
    ·exact .inl h
    exact .inr ⟨IG _ h.1,h.2⟩
   ·rcases h with h|⟨h,q⟩
    ·exact .inl h
    rcases FK.1 h with rfl|h
    ·rw[I]at q;cases q
    exact .inr ⟨h,q⟩
   simp only[HY,BX]at j ⊢;exact FC j AB
def aJr (l:A8 AV):∀(ids r:A8 Int),Inc r->Inc (ids.foldl (fun r id=>(I9 l id).foldl (UN l) r) r)/\∀x,x∈ids.foldl (fun r id=>(I9 l id).foldl (UN l) r) r↔x∈r\/dQ l x=true/\∃id∈ids,x∈I9 l id
 | [],r,h=>⟨h,fun x=>Bh⟩
 |id::ids,r,h=>by
  rw[Gt];obtain⟨q,u,_⟩:=a1D l (I9 l id) r h;obtain⟨z,I⟩:=aJr l ids _ q;refine⟨z,fun x=>(I x).trans ?_⟩;rw[u x];constructor
  ·rintro((h|h)|⟨h3,i,j,h5⟩)
   ·exact .inl h
   ·exact .inr ⟨h.2,id,H8 ..,h.1⟩
   exact .inr ⟨h3,i,IG _ j,h5⟩
  rintro(h|⟨h3,i,j,h5⟩)
  ·exact .inl (.inl h)
  rcases FK.1 j with rfl|j
  ·exact .inl (.inr ⟨h5,h3⟩)
  exact .inr ⟨h3,i,j,h5⟩
def wS (l:A8 AV) (ids:A8 Int):Inc (KF l ids):=(aJr l ids [] .nil).1
def Rl {l:A8 AV} {ids:A8 Int} {x:Int}:x∈KF l ids↔dQ l x=true/\∃id∈ids,x∈I9 l id:=by
 unfold KF;rw[(aJr l ids [] .nil).2 x];simp
def chainOf (l:A8 AV) (ids:A8 Int):A8 Int:=l.foldl (fun s _=>Il s (KF l s)) (KF l (G8 l ids))
inductive OG (l:List AV) (ids:List Int):Int->Prop
 |one {i x:Int} (h:i∈ids) (hx:x∈I9 l i) (hk:dQ l x=true):OG l ids x
 |more {y x:Int} (h:OG l ids y) (hx:x∈I9 l y) (hk:dQ l x=true):OG l ids x
def anr {l:A8 AV} {i x:Int} (h:x∈I9 l i):dQ l i=true:=by
 unfold I9 at h;unfold dQ;cases j:Ef l i with
 |none=>rw[SI j]at h;cases h
 |some e=>rfl
def wL {s t:A8 Int} (hs:Inc s) (ht:Inc t) (h:∀x∈s,x∈t):s.length<=t.length/\(t.length<=s.length->s=t):=by
 have e:s=t.filter (fun x=>ER s x):=Ci hs (ht.sublist Qo) fun x=>by
  rw[Hy,LZ];exact⟨fun j=>⟨h x j,j⟩,fun j=>j.2⟩
 have hl:=Jr (fun x=>ER s x) t;refine⟨by rw[e];exact hl,fun q=>?_⟩;have u:(t.filter (fun x=>ER s x)).length=t.length:=by have :=BK List.length e;omega
 rw[e];exact nC.2 (List.length_filter_eq_length_iff.1 u)
def TI (l:A8 AV):A8 Int:=Ee (l.map (·.Id))
def wZ {l:A8 AV} {x:Int} (h:dQ l x=true):x∈TI l:=by
 unfold dQ at h;obtain⟨e,j⟩:=SP.1 h;exact KN.2 (Fh.2 ⟨e,NW j,aV6 j⟩)
def aDN (l:A8 AV):∀(l':A8 AV) (s:A8 Int),Inc s->(∀x∈s,dQ l x=true)->
 Inc (l'.foldl (fun s _=>Il s (KF l s)) s)/\(∀x∈l'.foldl (fun s _=>Il s (KF l s)) s,dQ l x=true)/\(∀x∈s,x∈l'.foldl (fun s _=>Il s (KF l s)) s)/\
 ((TI l).length<=s.length+l'.length->∀x∈KF l (l'.foldl (fun s _=>Il s (KF l s)) s),x∈l'.foldl (fun s _=>Il s (KF l s)) s)
 | [],s,hs,I=>⟨hs,I,fun _ h=>h,fun hlen x q=>by
     have J:=(wL hs (KW _) (fun x q=>wZ (I x q))).2 (by show(TI l).length<=s.length;simpa using hlen);have u:=wZ (Rl.1 q).1;unfold TI at u
     rw[←J]at u;exact u⟩
 |e::l',s,hs,I=>by
  rw[Gt]
  have L:∀x∈Il s (KF l s),dQ l x=true:=fun x q=>by
   rcases dB.1 q with h|h
   ·exact I x h
   exact(Rl.1 h).1
  obtain⟨J,u,M,O⟩:=aDN l l' (Il s (KF l s)) (rH _ _) L;refine⟨J,u,fun x q=>M x (dB.2 (.inl q)),fun hlen=>?_⟩;have z:=wL hs (rH s (KF l s)) fun x q=>dB.2 (.inl q);by_cases j:s=Il s (KF l s)
  ·
   have hst:∀(l':A8 AV),l'.foldl (fun s _=>Il s (KF l s)) s=s:=by
    intro l'
    induction l' with
    |nil=>rfl
    |cons e l' U=>rw[Gt,←j,U]
   rw[←j,hst];intro x q;rw[j];exact dB.2 (.inr q)
  ·refine O ?_
   have :s.length<(Il s (KF l s)).length:=by
    rcases xG s.length (Il s (KF l s)).length with h|h
    ·exact h
    exact absurd (z.2 h) j
   simp only[HY]at hlen;omega
def aSY (l:A8 AV) (ids:A8 Int):Inc (chainOf l ids):=(aDN l l _ (wS _ _) fun _ j=>(Rl.1 j).1).1
def acH {l:A8 AV} {ids:A8 Int} {x:Int} (h:x∈chainOf l ids):dQ l x=true:=(aDN l l _ (wS _ _) fun _ j=>(Rl.1 j).1).2.1 x h
def aYS (l:A8 AV) (ids:A8 Int):∀(l':A8 AV) (s:A8 Int),(∀x∈s,OG l ids x)->∀x∈l'.foldl (fun s _=>Il s (KF l s)) s,OG l ids x
 | [],s,h=>h
 |e::l',s,h=>by
  rw[Gt];refine aYS l ids l' _ fun x j=>?_;rcases dB.1 j with j|j
  ·exact h x j
  obtain⟨q,y,u,z⟩:=Rl.1 j;exact .more (h y u) z q
def aNR {l:A8 AV} {ids:A8 Int} {x:Int}:x∈chainOf l ids↔OG l ids x:=by
 constructor
 ·refine aYS l ids l _ (fun x j=>?_) x;obtain⟨z,y,I,q⟩:=Rl.1 j;exact .one (O1.1 I).1 q z
 obtain⟨z,I,q,J⟩:=aDN l l _ (wS l (G8 l ids)) fun _ j=>(Rl.1 j).1
 have hlen:(TI l).length<=(KF l (G8 l ids)).length+l.length:=by
  have :=MG (l.map (·.Id));unfold TI;simp only[Dc]at this;omega
 have L:=J hlen;intro h
 induction h with
 |one h j u=>exact q _ (Rl.2 ⟨u,_,O1.2 ⟨h,anr j⟩,j⟩)
 |more h j u M=>exact L _ (Rl.2 ⟨u,_,M,j⟩)
def eB (l:A8 AV) (ids:A8 Int):(chainOf l ids).length<=l.length:=by
 have j:=(wL (t:=TI l) (aSY l ids) (KW _) fun x q=>wZ (acH q)).1;have u:=MG (l.map fun e:AV=>e.Id);unfold TI at j;simp only[Dc]at u;omega
def RI (l:A8 AV):Prop:=∀e∈l,e.bQ.length<=40
def a0b {l:A8 AV} (h:RI l) (id:Int):(I9 l id).length<=40:=by
 unfold I9;cases j:Ef l id with
 |none=>rw[SI j];exact Ea _
 |some e=>rw[OE j];exact h e (NW j)
def ajt (l:A8 AV) (ids:A8 Int):(KF l ids).length<=l.length:=by
 have j:=(wL (t:=TI l) (wS l ids) (KW _) fun x q=>wZ (Rl.1 q).1).1;have u:=MG (l.map fun e:AV=>e.Id);unfold TI at j;simp only[Dc]at u;omega
def kY {l:A8 AV} {r:A8 Int} (hi:Inc r) (h:∀x∈r,dQ l x=true):r.length<=l.length:=by
 have j:=(wL (t:=TI l) hi (KW _) fun x q=>wZ (h x q)).1;have u:=MG (l.map fun e:AV=>e.Id);unfold TI at j;simp only[Dc]at u;omega
def aWt (l:A8 AV) (ids:A8 Int) (hl:l.length<=1000) (ha:RI l) (hi:ids.length<=100000):zB l ids true=some (KF l ids):=by
 unfold zB aQ7;rw[IZ ids AB (fun r id=>(I9 l id).foldl (UN l) r) (fun i r=>Inc r/\∀x∈r,dQ l x=true) (fun r=>some r) ⟨.nil,fun x u=>by cases u⟩]
 ·rfl
 ·intro k r i h z;obtain⟨L,M,_⟩:=a1D l (I9 l ids[i]) r z.1;refine⟨⟨L,fun x u=>?_⟩,?_⟩
  ·rcases(M x).1 u with h|h
   ·exact z.2 x h
   exact h.2
  unfold aNl aFb;rw[DR h,Lc l _ AB];simp only[Ad,Bz];show aMD (I9 l ids[i]) l k (i:Int) r 0=_;have O:=a0b ha ids[i];unfold aMD;rw[IZ (I9 l ids[i]) AB (UN l) (fun _ r=>Inc r/\∀x∈r,dQ l x=true) (fun r=>k r (Aw ((i:Int)+1))) z]
  ·intro k2 U j I q;refine⟨?_,?_⟩
   ·unfold UN;cases J:dQ l (I9 l ids[i])[j]with
    |true=>exact⟨SN q.1,fun x u=>(Wx.1 u).elim (q.2 x) fun e=>e▸J⟩
    |false=>exact q
   unfold aMm a0P;rw[DR I,Lc l _ AB];simp only[Ad,Pn];show(bif dQ l (I9 l ids[i])[j]then _ else _)=_;unfold UN;cases J:dQ l (I9 l ids[i])[j]with
   |true=>
    simp only[Bz];rw[Cx I];simp only[Ad];have :=kY q.1 q.2;rw[dz _ _ AB];rfl
   |false=>rfl
  intro k2 U _;unfold aMm;rw[EF]
 intro k r z;unfold aNl;rw[EF]
def alk (l:A8 AV) (ids:A8 Int) (hl:l.length<=1000) (ha:RI l) (q:Inc ids) (u:∀x∈ids,dQ l x=true):aCW l ids true=some (l.foldl (fun s _=>Il s (KF l s)) ids):=by
 unfold aCW aSJ;rw[IZ l AB (fun s _=>Il s (KF l s)) (fun _ r=>Inc r/\∀x∈r,dQ l x=true) (fun r=>some r) ⟨q,u⟩]
 ·intro k r i h j;refine⟨⟨rH _ _,fun x z=>(dB.1 z).elim (j.2 x) fun h=>(Rl.1 h).1⟩,?_⟩;have I:=kY j.1 j.2;have J:=ajt l r;unfold aJ9;rw[dec_lt h];simp only[Bz];rw[aWt l r hl ha AB];simp only[Ad];rw[a0p _ _ AB AB];rfl
 intro k r j;unfold aJ9;rw[Dy];rfl
def aH2 (l:A8 AV) (ids:A8 Int) (hl:l.length<=1000) (ha:RI l) (hi:ids.length<=100000):bK l ids=some (chainOf l ids):=by
 unfold bK;have q:=aZn l ids;rw[amj l ids hl hi];simp only[Ad];rw[aWt l _ hl ha AB];simp only[Ad];rw[alk l _ hl ha (wS _ _) fun x j=>(Rl.1 j).1];rfl
section
variable {R A B C D E F G:Type} {Q:R->Prop}
def Qr {body:(A->B->C->AL R)->A->B->C->AL R} (I:Nat->A->B->C->Prop) (hs:∀m a b c k,I m a b c->(∀j a' q u,j<m->I j a' q u->eP (k a' q u) Q)->eP (body k a b c) Q):
 ∀n m a b c,m<n->I m a b c->eP (jf body n a b c) Q
 |0,m,_,_,_,h,_=>AB
 |n+1,m,a,b,c,h,hi=>hs m a b c _ hi fun j a' q u h' z=>Qr I hs n j a' q u AB z
def aLO {body:(A->B->C->D->E->AL R)->A->B->C->D->E->AL R} (I:Nat->A->B->C->D->E->Prop) (hs:∀m a b c d e k,I m a b c d e->(∀j a' q u z e',j<m->I j a' q u z e'->eP (k a' q u z e') Q)->eP (body k a b c d e) Q):
 ∀n m a b c d e,m<n->I m a b c d e->eP (FM body n a b c d e) Q
 |0,m,_,_,_,_,_,h,_=>AB
 |n+1,m,a,b,c,d,e,h,hi=>hs m a b c d e _ hi fun j a' q u z e' h' J=>aLO I hs n j a' q u z e' AB J
def aJE {body:(A->B->C->D->E->F->AL R)->A->B->C->D->E->F->AL R} (I:Nat->A->B->C->D->E->F->Prop) (hs:∀m a b c d e f k,I m a b c d e f->(∀j a' q u z e' J,j<m->I j a' q u z e' J->eP (k a' q u z e' J) Q)->eP (body k a b c d e f) Q):
 ∀n m a b c d e f,m<n->I m a b c d e f->eP (FN body n a b c d e f) Q
 |0,m,_,_,_,_,_,_,h,_=>AB
 |n+1,m,a,b,c,d,e,f,h,hi=>hs m a b c d e f _ hi fun j a' q u z e' J h' L=>aJE I hs n j a' q u z e' J AB L
def aPM {body:(A->B->C->D->E->F->G->AL R)->A->B->C->D->E->F->G->AL R} (I:Nat->A->B->C->D->E->F->G->Prop) (hs:∀m a b c d e f g k,I m a b c d e f g->(∀j a' q u z e' J L,j<m->I j a' q u z e' J L->eP (k a' q u z e' J L) Q)->eP (body k a b c d e f g) Q):
 ∀n m a b c d e f g,m<n->I m a b c d e f g->eP (abb body n a b c d e f g) Q
 |0,m,_,_,_,_,_,_,_,h,_=>AB
 |n+1,m,a,b,c,d,e,f,g,h,hi=>hs m a b c d e f g _ hi fun j a' q u z e' J L h' M=>aPM I hs n j a' q u z e' J L AB M
end
def Ql {V:Type}:∀(m:A8 (Int×V)) (k k':Int) (v:V),DX (F8 m k v) k'=bif k'==k then some v else DX m k'
 | [],k,k',v=>by
   unfold F8 DX;rfl
 |p::m,k,k',v=>by
  unfold F8;cases h:k==p.1 with
  |true=>
   have j:k=p.1:=KY
   subst j;simp only[Bz,DX];cases k'==p.1<;>rfl
  |false=>
   have j:k≠p.1:=KY
   simp only[BX,DX,Ql m k k' v];cases q:k'==p.1 with
   |true=>
    have u:k'=p.1:=OQ
    subst u;have :(p.1==k)=false:=by simpa using fun e:p.1=k=>j e.symm
    rw[this];rfl
   |false=>rfl
def YT (l:A8 AV) (m:A8 (Int×Int)):Prop:=∀id,(DX m id=none/\Ef l id=none)\/∃(n:Nat) (e:AV),DX m id=some (n:Int)/\Ef l id=some e/\l[n]? =some e
def YT.isSome {l:A8 AV} {m:A8 (Int×Int)} (h:YT l m) (id:Int):(DX m id).isSome=dQ l id:=by
 unfold dQ;rcases h id with⟨j,q⟩|⟨n,e,j,q,_⟩<;>rw[j,q]<;>rfl
def YT.get {l:A8 AV} {m:A8 (Int×Int)} (h:YT l m) {id:Int} {e:AV} (q:Ef l id=some e):Ak l ((DX m id).getD 0)=some e:=by
 rcases h id with⟨_,j⟩|⟨n,e',u,j,z⟩
 ·rw[q]at j;cases j
 rw[q]at j;cases j;rw[u];show Ak l (n:Int)=_;rw[a0U,z]
def wK (l:A8 AV) (hl:l.length<=1000):eP (Yz l) (YT l):=by
 unfold Yz aUk
 refine Yr (fun m a b=>∃i:Nat,a=(i:Int)-1/\m=i/\i<=l.length/\∀id,(DX b id=none/\(l.drop i).find? (fun e=>e.Id==id)=none)\/∃(n:Nat) (e:AV),DX b id=some (n:Int)/\(l.drop i).find? (fun e=>e.Id==id)=some e/\l[n]? =some e) ?_ Ap l.length _ _ (fuel_lt AB)
  ⟨l.length,YQ,rfl,EZ _,fun id=>.inl ⟨rfl,Bh⟩⟩
 rintro m a b k ⟨i,rfl,hm,hi,h⟩ z;unfold aUC;refine eP.bif (fun e=>?_) fun e=>?_
 ·have u:0<i:=by have :=SG e;omega
  have j:i-1<l.length:=AB
  have I:(i:Int)-1=((i-1:Nat):Int):=AB
  rw[I,Cx j];simp only[Ad];refine z (i-1) _ _ AB ⟨i-1,YQ,rfl,AB,fun id=>?_⟩;rw[Ql,Lh j,show i-1+1=i by omega,VD];cases q:l[i-1].Id==id with
  |true=>
   have :(id==l[i-1].Id)=true:=by
     have :l[i-1].Id=id:=OQ
     simp[this]
   rw[this];exact .inr ⟨i-1,l[i-1],rfl,rfl,by simp[j]⟩
  |false=>
   have :(id==l[i-1].Id)=false:=by
     have :l[i-1].Id≠id:=OQ
     simpa using fun e:id=l[i-1].Id=>this e.symm
   rw[this];exact h id
 have J:i=0:=by have :=KI e;omega
 subst J;refine .ret fun id=>?_;have :=h id;rw[lg]at this;exact this
inductive VI (l:List AV) (from_:List Int):Int->Prop
 |one {x:Int} (h:x∈from_) (hk:dQ l x=true):VI l from_ x
 |more {y x:Int} (h:VI l from_ y) (hx:x∈I9 l y) (hk:dQ l x=true):VI l from_ x
def VI.dQ {l:A8 AV} {f:A8 Int} {x:Int} (h:VI l f x):dQ l x=true:=by cases h<;>assumption
def aa7 {r:A8 Int} {x:Int} (h:x∉r):(put r x).length=r.length+1:=by
 unfold put;rw[Dp (by rw[LZ];exact h),En,HY];have :=BK List.length (vI (p:=(decide<| · <x)) (l:=r));rw[En]at this;omega
def aRy (r:A8 Int) (x:Int):Ee (r++[x])=put (Ee r) x:=by unfold Ee;rw[Ve];rfl
structure ad9 (l:List AV) (from_ next ayG:List Int) (i:Nat) (out later:List Int) (found level:List (Int×Bool)):Prop where
 found:∀x,(DX found x).getD false=true↔x∈out
 level:∀x,(DX level x).getD false=true->x∈out
 nodup:(Ee out).length=out.length
 rch:∀x∈out,VI l from_ x
 seen:∀x∈next.take i,dQ l x=true->x∈out
 sub:∀x∈ayG,x∈out
 ref:∀y∈out,y∈ayG\/∀x∈I9 l y,x∈later
 back:∀x∈later,∃y∈out,x∈I9 l y
 size:later.length+40*ayG.length<=40*out.length
 same:out.length=ayG.length->later=[]
def aNd {l:A8 AV} {j:A8 Int} (h:(Ee j).length=j.length) (q:∀x∈j,dQ l x=true):j.length<=l.length:=by
 rw[←h];exact kY (KW j) fun x u=>q x (KN.1 u)
def abW (l:A8 AV) {x:Int} {e:AV} (h:Ef l x=some e):Yn e=some (I9 l x):=by
 unfold Yn I9;rw[OE h]
def anI (l:A8 AV) (q:A8 Int) (hl:l.length<=1000) (ha:RI l) (hf:q.length<=10000000):
 eP (uf l q fun a0=>Yn a0) (fun r=>Inc r/\∀x,x∈r↔VI l q x):=by
 unfold uf;refine(wK l hl).bind fun at_ Z=>?_;unfold aVK
 refine aLO (fun m z next at' found level=>at'=at_/\m=2*(l.length-z.length)+(if next=[]then 0 else 1)/\next.length<=10000000/\(∀x,(DX found x).getD false=true↔x∈z)/\(Ee z).length=z.length/\
  (∀x∈z,VI l q x)/\(∀x∈next,dQ l x=true->VI l q x)/\(∀x∈q,dQ l x=true->x∈z\/x∈next)/\(∀y∈z,∀x∈I9 l y,dQ l x=true->x∈z\/x∈next)) ?_ Ap (2*(l.length-([]:A8 Int).length)+(if q=[]then 0 else 1)) _ _ _ _ _ ?_ ?_
 ·rintro m z next at2 found level k ⟨aHI,rfl,hn,h1,h2,h3,h4,h5,h6⟩ M;subst aHI;unfold aYF;have hol:=aNd h2 fun x j=>(h3 x j).dQ;refine eP.bif (fun e=>?_) fun e=>?_
  ·have hne:next≠[]:=by
    rintro rfl;simp at e
   unfold aQw;refine aJE (body:=aMo next l (fun a0=>Yn a0) k) (fun(m:Nat) (o la:A8 Int) (c:Int) (d:A8 (Int×Int)) (fo le:A8 (Int×AZ))=>∃i:Nat,c=i/\i+m=next.length/\d=at2/\ad9 l q next z i o la fo le) ?_ Ap next.length _ _ _ _ _ _ gV ?_
   ·rintro m o la c d fo le k2 ⟨i,rfl,hm,rfl,u⟩ U;unfold aMo;refine eP.bif (fun e=>?_) fun e=>?_
    ·have hi:i<next.length:=SH
     have w:=wrap_succ i AB;have aHJ:=aNd u.nodup fun x j=>(u.rch x j).dQ;rw[Cx hi];simp only[Ad];rw[Z.isSome];unfold aAl;have J:next.take (i+1)=next.take i++[next[i]]:=by rw[Ot hi]
     cases Y:dQ l next[i]with
     |false=>
      simp only[JC,Bz,Ad,w];refine U (m-1) _ _ _ _ _ _ AB ⟨i+1,rfl,AB,rfl,{ u with seen:=fun x j M=>?_ }⟩;rw[J,Iy]at j;rcases j with j|j
      ·exact u.seen x j M
      rw[Md.1 j,Y]at M;cases M
     |true=>
      simp only[FB,BX,Ad];by_cases O:next[i]∈o
      ·rw[(u.found next[i]).2 O];simp only[Bz,Ad,w];refine U (m-1) _ _ _ _ _ _ AB ⟨i+1,rfl,AB,rfl,{ u with seen:=fun x j M=>?_ }⟩;rw[J,Iy]at j;rcases j with j|j
       ·exact u.seen x j M
       rw[Md.1 j];exact O
      have f1:(DX fo next[i]).getD false=false:=by
       cases h:(DX fo next[i]).getD false with
       |false=>rfl
       |true=>exact absurd ((u.found _).1 h) O
      have f2:(DX le next[i]).getD false=false:=by
       cases h:(DX le next[i]).getD false with
       |false=>rfl
       |true=>exact absurd (u.level _ h) O
      rw[f1,f2];simp only[BX,Ad];obtain⟨ev,hev⟩:=SP.1 (show(Ef l next[i]).isSome=true from Y);rw[EC GZ];simp only[Ad];rw[Z.get hev];simp only[Ad];rw[abW l hev];simp only[Ad];have hau:=a0b ha next[i];have hsz:=u.size;rw[EC AB];simp only[Ad,w];refine U (m-1) _ _ _ _ _ _ AB ⟨i+1,rfl,AB,rfl,?_⟩;have hnx:VI l q next[i]:=h4 _ (Ew hi) Y;refine⟨fun x=>?_,fun x j=>?_,?_,fun x j=>?_,fun x j M=>?_,fun x j=>iR _ (u.sub x j),fun y L=>?_,fun x j=>?_,?_,fun h=>?_⟩
      ·rw[Ql,Iy,Md];cases j:x==next[i]with
       |true=>simp only[Bz,Oq,true_iff];exact .inr WV
       |false=>simp only[BX];rw[u.found x];exact⟨.inl,fun h=>h.elim id fun h=>by simp[h]at j⟩
      ·rw[Ql]at j;rw[Iy,Md];cases hxe:x==next[i]with
       |true=>exact .inr (by simpa using hxe)
       |false=>rw[hxe]at j;exact .inl (u.level x j)
      ·rw[aRy,aa7 (fun h=>O (KN.1 h)),u.nodup];simp
      ·rcases Iy.1 j with j|j
       ·exact u.rch x j
       rw[Md.1 j];exact hnx
      ·rw[J,Iy]at j;rcases j with j|j
       ·exact iR _ (u.seen x j M)
       exact aFd _ j
      ·rcases Iy.1 L with L|L
       ·exact(u.ref y L).imp id fun h x j=>iR _ (h x j)
       rw[Md.1 L];exact .inr fun x j=>aFd _ j
      ·rcases Iy.1 j with j|j
       ·obtain⟨y,L,h⟩:=u.back x j;exact⟨y,iR _ L,h⟩
       exact⟨next[i],aFd _ (Md.2 rfl),j⟩
      ·simp only[En,QO];omega
      have :=u.size;simp only[En,QO]at h;omega
    have hi:i=next.length:=by
      have :¬i<next.length:=SH
      omega
    subst hi;have aHJ:=aNd u.nodup fun x j=>(u.rch x j).dQ;have hsz:=u.size;refine M (2*(l.length-o.length)+(if la=[]then 0 else 1)) _ _ _ _ _ ?_ ⟨rfl,rfl,AB,u.found,u.nodup,u.rch,fun x j I=>?_,fun x j I=>?_,fun y L x j I=>?_⟩
    ·rw[Dp hne];have hle:z.length<=o.length:=AB
     rcases xG z.length o.length with h|h
     ·split<;>omega
     have :=u.same AB;rw[Di this];omega
    ·obtain⟨y,L,h⟩:=u.back x j;exact .more (u.rch y L) h I
    ·rcases h5 x j I with h|h
     ·exact .inl (u.sub x h)
     exact .inl (u.seen x (by rw[Gg];exact h) I)
    rcases u.ref y L with h|h
    ·rcases h6 y h x j I with h|h
     ·exact .inl (u.sub x h)
     exact .inl (u.seen x (by rw[Gg];exact h) I)
    exact .inr (h x j)
   exact⟨0,rfl,AB,rfl,⟨h1,fun x j=>by simp[DX]at j,h2,h3,fun x j=>qI,fun _ h=>h,fun y L=>.inl L,fun x j=>(G5 j).elim,Bh,fun _=>rfl⟩⟩
  have hz:next=[]:=by
   cases next with
   |nil=>rfl
   |cons a b=>simp at e
  subst hz;rw[ZM z AB];refine .ret ⟨KW _,fun x=>?_⟩;rw[KN];refine⟨h3 x,fun h=>?_⟩
  induction h with
  |one h I=>exact(h5 _ h I).elim id fun h=>(G5 h).elim
  |more h j I ih=>exact(h6 _ ih _ j I).elim id fun h=>(G5 h).elim
 ·have :Ap=9223372036854775808:=rfl;split<;>(simp only[NM];omega)
 exact⟨rfl,rfl,hf,fun x=>by simp[DX],rfl,fun x j=>(G5 j).elim,fun x j M=>.one j M,fun x j _=>.inr j,fun y L=>(G5 L).elim⟩
def aIJ (l:A8 AV) (ids:A8 Int) (hl:l.length<=1000) (ha:RI l) (hi:ids.length<=100000):YA l ids=some (chainOf l ids):=by
 refine eP.eq ?_;unfold YA;refine(wK l hl).bind fun at_ q=>?_;unfold aRT;rw[IZ ids AB (fun r id=>r++I9 l id) (fun i r=>r.length<=40*i) (fun r=>(uf l r fun a0=>Yn a0).bind fun J=>some J) Bh]
 ·rw[foldl_append (I9 l),Iq]
  have hlen:(ids.flatMap (I9 l)).length<=40*ids.length:=by
   have key:∀ids:A8 Int,(ids.flatMap (I9 l)).length<=40*ids.length:=by
    intro ids
    induction ids with
    |nil=>simp
    |cons x ids I=>have :=a0b ha x;rw[OD,En,HY];omega
   exact key ids
  refine(anI l _ hl ha AB).bind fun r L=>.ret ?_;refine Ci L.1 (aSY l ids) fun x=>(L.2 x).trans (Iff.trans ?_ aNR.symm);constructor
  ·intro h
   induction h with
   |one h j=>
    obtain⟨i,hi,h⟩:=Vy.1 h;exact .one hi h j
   |more h u j I=>exact .more I u j
  intro h
  induction h with
  |one h u j=>exact .one (Vy.2 ⟨_,h,u⟩) j
  |more h u j I=>exact .more I u j
 ·intro k r i h O;have M:=a0b ha ids[i];refine⟨by simp only[En];omega,?_⟩;unfold aJq aAU;rw[DR h,q.isSome];cases j:dQ l ids[i]with
  |false=>
   have :I9 l ids[i]=[]:=by
    unfold I9;rw[SI (by unfold dQ at j;simpa using j)];rfl
   rw[this,PK];rfl
  |true=>
   obtain⟨ev,z⟩:=SP.1 (show(Ef l ids[i]).isSome=true from j);simp only[Bz];rw[q.get z];simp only[Ad];have :I9 l ids[i]=ev.bQ:=by unfold I9;rw[OE z]
   rw[←this,EC AB];rfl
 intro k r _;unfold aJq;rw[EF]
def aNO :∀x:A8 UInt8,Op.bytesLess x x=false
 | []=>rfl
 |a::x=>by
  unfold Op.bytesLess;rw[aNO x];simp
def aYH :∀{x y z:A8 UInt8},Op.bytesLess x y=true->Op.bytesLess y z=true->Op.bytesLess x z=true
 |_,_,[],_,h=>a1B
 | [],_,_::_,_,_=>rfl
 |_::_,[],_::_,h,_=>a1B
 |a::x,b::y,c::z,h,k=>by
  simp only[Op.bytesLess,ZN,Du,I8,PU]at h k ⊢;rcases h with h|⟨rfl,h⟩<;>rcases k with k|⟨rfl,k⟩
  ·exact .inl (UInt8.lt_trans h k)
  ·exact .inl h
  ·exact .inl k
  exact .inr ⟨rfl,aYH h k⟩
def aRE :∀{x y:A8 UInt8},Op.bytesLess x y=false->Op.bytesLess y x=false->x=y
 | [],[],_,_=>rfl
 | [],_::_,h,_=>a1B
 |_::_,[],_,h=>a1B
 |a::x,b::y,h,k=>by
  simp only[Op.bytesLess,ZA,tZ,Qv,SE]at h k;have e:a=b:=UInt8.le_antisymm (UInt8.not_lt.1 k.1) (UInt8.not_lt.1 h.1);subst e;have j:=h.2.resolve_left (fun h=>h rfl);have k2:=k.2.resolve_left (fun h=>h rfl);rw[aRE j k2]
def Fr (a b:BJ):AZ:=decide (a.Kind<b.Kind)||(a.Kind==b.Kind&&Op.bytesLess a.Key.toList b.Key.toList)
def Gz (a b:BJ):AZ:=a.Kind==b.Kind&&(a.Key=b.Key)
def aem (a:BJ):Fr a a=false:=by unfold Fr;rw[aNO];simp
def aRl {a b c:BJ} (h:Fr a b=true) (k:Fr b c=true):Fr a c=true:=by
 unfold Fr at *;simp only[ZN,Du,I8,PU]at *;rcases h with h|⟨q,j⟩<;>rcases k with k|⟨u,k2⟩
 ·exact .inl AB
 ·exact .inl AB
 ·exact .inl AB
 exact .inr ⟨AB,aYH j k2⟩
def Vw {a b:BJ}:Gz a b=true↔a.Kind=b.Kind/\a.Key=b.Key:=by unfold Gz;simp
def aOM {a b:BJ} (h:Fr a b=false) (k:Fr b a=false):Gz a b=true:=by
 unfold Fr at *;simp only[ZA,tZ,Qv,SE]at *;have e:a.Kind=b.Kind:=AB
 rw[Vw];exact⟨e,toList_inj (aRE (h.2.resolve_left fun n=>n e) (k.2.resolve_left fun n=>n e.symm))⟩
def yR {a b:BJ} (h:Gz a b=true):Fr a b=false:=by
 obtain⟨j,q⟩:=Vw.1 h;unfold Fr;rw[j,q,aNO];simp
def Agr {a b c:BJ} (h:Gz a b=true):Fr a c=Fr b c/\Fr c a=Fr c b:=by
 obtain⟨j,q⟩:=Vw.1 h;unfold Fr;rw[j,q];exact⟨rfl,rfl⟩
def acu (a b:BJ):vO a b=some (Fr a b):=by
 unfold vO Fr;cases j:decide (a.Kind<b.Kind)<;>cases q:a.Kind==b.Kind<;>rfl
def afR (k:Int) (key:BD) (m:Int) (o:BD) (i j:Int):aDk k key m o=some (Fr ⟨k,key,i⟩ ⟨m,o,j⟩):=by
 unfold aDk Fr;cases q:decide (k<m)<;>cases u:k==m<;>simp_all
def FW (s:A8 BJ) (e:BJ):Nat:=s.findIdx fun x=> !Fr x e
def L9 (s:A8 BJ) (e:BJ):AZ:=match s[FW s e]? with
 |some x=>Gz x e
 |none=>false
def jy (s:A8 BJ) (e:BJ):FW s e<=s.length:=tC
def aYO {s:A8 BJ} {e:BJ} (h:FW s e<s.length):Fr s[FW s e] e=false:=by
 have :=aAv (w:=h);unfold FW;simpa using this
def aTE (s:A8 BJ) (k:Int) (key:BD) (hs:s.length<=1000000):pW s k key=some (((FW s ⟨k,key,0⟩:Nat):Int),L9 s ⟨k,key,0⟩):=by
 unfold pW aJB aP2;generalize z:(⟨k,key,0⟩:BJ)=e
 have hp:bJ (aAh s (fun a0=>oP a0 e) (fun a0=>oL a0 e)) Ap 0=some (((FW s e:Nat):Int),L9 s e):=by
  rw[Kv s (fuel_lt AB) (fun x=> !Fr x e) (fun i=>some (((i:Nat):Int),match s[i]? with |some x=> !Fr e x|none=>false)) (some (((s.length:Nat):Int),false))]
  ·split
   ·rename_i h;congr 2;unfold L9 FW;rw[EL h];have q:Fr s[s.findIdx fun x=> !Fr x e] e=false:=aYO h;show(!Fr e s[s.findIdx fun x=> !Fr x e])=Gz s[s.findIdx fun x=> !Fr x e] e;cases j:Fr e s[s.findIdx fun x=> !Fr x e]with
    |false=>rw[aOM q j];rfl
    |true=>
     cases u:Gz s[s.findIdx fun x=> !Fr x e] e with
     |false=>rfl
     |true=>rw[(Agr u).2,aem]at j;cases j
   rename_i h;have h':FW s e=s.length:=by have :=jy s e;unfold FW at *;omega
   have j:L9 s e=false:=by unfold L9;rw[h',J5 (EZ _)]
   rw[h',j]
  ·intro k2 i h;unfold aAh;rw[DR h,DR h];simp only[oP,oL,acu,Ad];rw[EL h];cases Fr s[i] e<;>rfl
  intro k2;unfold aAh;rw[EF,EF];rfl
 rw[hp];rfl
def KE (s:A8 BJ):Prop:=s.Pairwise fun a b=>Fr a b=true
def IY (s:A8 BJ) (k:Int) (key:BD):Int×AZ:=match s.find? fun x=>Gz x ⟨k,key,0⟩with
 |some x=>(x.Id,true)
 |none=>(0,false)
def aLS (s:A8 BJ) (k:Int) (key:BD) (hs:s.length<=1000000):jX s k key=some (IY s k key):=by
 unfold jX aPz;rw[Kv s (fuel_lt AB) (fun x=>Gz x ⟨k,key,0⟩) (fun i=>(Ak s (i:Int)).bind fun j=>some (j.Id,true)) (some (0,false))]
 ·unfold IY;rw[LD];split
  ·rename_i h;rw[Cx h,EL h];rfl
  rename_i h;rw[J5 AB]
 ·intro k2 i h;unfold aJp;rw[DR h,Cx h];simp only[Ad];unfold Gz;rw[Ir];cases s[i].Kind==k<;>rfl
 intro k2;unfold aJp;rw[EF]
def ad5 {s:A8 BJ} (h:KE s) (e:BJ):s.find? (fun x=>Gz x e)=match s[FW s e]? with |some x=>if Gz x e then some x else none|none=>none:=by
 induction s with
 |nil=>rfl
 |cons a s q=>
  have h':=Pj.1 h;unfold FW;rw[VD,Tj];cases hp:Fr a e with
  |true=>
   have hs:Gz a e=false:=by
    cases hs:Gz a e with
    |false=>rfl
    |true=>rw[yR hs]at hp;cases hp
   rw[hs];simp only[FB,BX,aC2];exact q h'.2
  |false=>
   simp only[JC,Bz,aGk];cases hs:Gz a e with
   |true=>rfl
   |false=>
    simp only[Qq,KP];refine aAW.2 fun x u z=>?_;have j:=h'.1 x u;rw[(Agr z).2,hp]at j;cases j
def aJT (s:A8 BJ) (k:Int) (key:BD) (hs:s.length<=1000000) (h:KE s):fZ s k key=some (IY s k key):=by
 unfold fZ;rw[aTE s k key hs];simp only[Ad];unfold IY L9;rw[ad5 h];by_cases hl:FW s ⟨k,key,0⟩<s.length
 ·rw[EL hl];simp only;cases j:Gz s[FW s ⟨k,key,0⟩] ⟨k,key,0⟩with
  |true=>simp only[Bz,Ku];rw[Cx hl];rfl
  |false=>rfl
 rw[J5 AB];rfl
def Gm (s:A8 BJ) (k:Int) (key:BD) (id:Int):A8 BJ:=
 s.take (FW s ⟨k,key,0⟩)++⟨k,key,id⟩::s.drop (FW s ⟨k,key,0⟩+bif L9 s ⟨k,key,0⟩then 1 else 0)
def aao {s:A8 BJ} {e:BJ} (h:L9 s e=true):FW s e<s.length:=by
 unfold L9 at h;by_cases hl:FW s e<s.length
 ·exact hl
 rw[J5 AB]at h;cases h
def rQ {α:Type} {l:A8 α} {i:Nat} (hi:i<=l.length):IB l 0 (i:Int)=some (l.take i):=by
 have :=jF (l:=l) (lo:=0) (hi:=i) AB hi;simpa using this
def Uj {α:Type} {l:A8 α} {i:Nat} (hi:i<=l.length):IB l (i:Int) (l.length:Int)=some (l.drop i):=by
 rw[jF (l:=l) (lo:=i) (hi:=l.length) hi AB];congr 1;exact Qj Bh
def Yd (s:A8 BJ) (k:Int) (key:BD) (id:Int) (hs:s.length<=1000000):TD s k key id=some (Gm s k key id):=by
 unfold TD;rw[aTE s k key hs];simp only[Ad];have hp:=jy s ⟨k,key,0⟩;unfold a0n Gm;rw[rQ hp];simp only[Ad];rw[EC EW];simp only[Ad,Iq];rw[EC EW];simp only[Ad];cases j:L9 s ⟨k,key,0⟩with
 |true=>
  have hl:=aao j;simp only[Bz];rw[wrap_succ _ AB,Uj hl];simp only[Ad];rw[EC EW];simp
 |false=>
  simp only[BX];rw[Uj hp];simp only[Ad];rw[EC EW];simp
def aJo (s:A8 BJ) (k:Int) (key:BD) (id:Int) (hs:s.length<=1000000):aZ s k key id=some (Gm s k key id):=by
 unfold aZ aUx
 have j:∀(k2:Int->AL (A8 BJ)),YW k2 ((FW s ⟨k,key,0⟩:Nat):Int) s k key id false=some (Gm s k key id):=by
  intro k2;have hp:=jy s ⟨k,key,0⟩;unfold YW aBf Gm;simp only[BX];rw[rQ hp];simp only[Ad];rw[EC EW];simp only[Ad,Iq];rw[EC EW];simp only[Ad];by_cases hl:FW s ⟨k,key,0⟩<s.length
  ·rw[dec_lt hl,Cx hl];simp only[Bz,Ad]
   have u:L9 s ⟨k,key,0⟩=(s[FW s ⟨k,key,0⟩].Kind==k&&(s[FW s ⟨k,key,0⟩].Key=key)):=by
    unfold L9;rw[EL hl];rfl
   rw[u,Ir,←Tv];cases z:s[FW s ⟨k,key,0⟩].Kind==k with
   |false=>
    simp only[BX,Ad];rw[Uj hp];simp only[Ad];rw[EC EW];simp
   |true=>
    simp only[Bz,Ad];cases decide (s[FW s ⟨k,key,0⟩].Key=key)with
    |true=>
     simp only[Bz];rw[wrap_succ _ AB,Uj hl];simp only[Ad];rw[EC EW];simp
    |false=>
     simp only[BX];rw[Uj hp];simp only[Ad];rw[EC EW];simp
  have q:FW s ⟨k,key,0⟩=s.length:=AB
  have u:L9 s ⟨k,key,0⟩=false:=by unfold L9;rw[q,J5 (EZ _)]
  rw[u,q,Dy];simp only[BX,Ad];rw[Uj (EZ _)];simp only[Ad];rw[EC EW];simp
 rw[Kv s (fuel_lt AB) (fun x=> !Fr x ⟨k,key,0⟩) (fun i=>YW (fun _=>none) (i:Int) s k key id false) (YW (fun _=>none) (s.length:Int) s k key id false)]
 ·split
  ·exact j _
  rename_i h;have q:FW s ⟨k,key,0⟩=s.length:=aR1
  have :=j fun _=>none;rw[q]at this;exact this
 ·intro k2 i h;unfold aKO;rw[dec_lt h,Cx h];simp only[Bz,Ad];rw[afR _ _ _ _ s[i].Id 0];simp only[Ad];show YW k2 _ s k key id (Fr s[i] ⟨k,key,0⟩)=_;cases Fr s[i] ⟨k,key,0⟩<;>rfl
 intro k2;unfold aKO;rw[Dy];rfl
def QH (s:A8 BJ) (k:Int) (key:BD) (id:Int):(Gm s k key id).length<=s.length+1:=by
 unfold Gm;have :=jy s ⟨k,key,0⟩;simp only[En,HY,GK,L6];omega
def agO {s:A8 BJ} {e x:BJ} (h:x∈s.take (FW s e)):Fr x e=true:=by
 obtain⟨i,hi,rfl⟩:=I5 h;have j:i<FW s e:=by simp at hi;omega
 have :=aJV j;rw[kP];simpa using this
def aRg {s:A8 BJ} (hs:KE s) {e x:BJ} (h:x∈s.drop (FW s e+bif L9 s e then 1 else 0)):Fr e x=true:=by
 generalize q:(FW s e+bif L9 s e then 1 else 0)=n at h;obtain⟨i,hi,rfl⟩:=I5 h;rw[iO];rw[L6]at hi;by_cases hl:FW s e<s.length
 ·have J:=aYO hl;cases j:L9 s e with
  |true=>
   rw[j]at q;simp only[Bz]at q;have u:Gz s[FW s e] e=true:=aPB
   rw[←(Agr u).1];exact KC.1 hs _ _ hl AB AB
  |false=>
   rw[j]at q;simp only[BX,PE]at q;subst q;have u:Gz s[FW s e] e=false:=aPB
   have z:Fr e s[FW s e]=true:=by
    cases h:Fr e s[FW s e]with
    |true=>rfl
    |false=>rw[aOM J h]at u;cases u
   rcases XP i with I|I
   ·subst I;simpa using z
   exact aRl z (KC.1 hs _ _ hl AB AB)
 omega
def X6 {s:A8 BJ} (h:KE s) (k:Int) (key:BD) (id:Int):KE (Gm s k key id):=by
 have u:Gz ⟨k,key,id⟩ ⟨k,key,0⟩=true:=Vw.2 ⟨rfl,rfl⟩;unfold Gm KE;refine lM.2 ⟨h.sublist (aFv ..),Pj.2 ⟨fun x j=>?_,h.sublist (aA1 ..)⟩,fun x j y q=>?_⟩
 ·rw[(Agr u).1];exact aRg h j
 have z:Fr x ⟨k,key,0⟩=true:=agO j;rcases FK.1 q with rfl|q
 ·rw[(Agr u).2];exact z
 exact aRl z (aRg h q)
structure OU (l:List (List BJ)):Prop where
 len:l.length<=100
 each:∀s∈l,s.length<=100/\KE s
def JM (l:A8 (A8 BJ)) (x:BJ):AZ:=l.all fun s=>(IY s x.Kind x.Key).2&&(IY s x.Kind x.Key).1==x.Id
def acF (l:A8 (A8 BJ)) (x:BJ) (h:OU l):Fn1 l x=some (JM l x):=by
 unfold Fn1 aVH;rw[Hz l (fuel_lt aKt) (fun s=> !((IY s x.Kind x.Key).2&&(IY s x.Kind x.Key).1==x.Id)) false (some true)]
 ·unfold JM;rw[KO,s0]
 ·intro k i hi;obtain⟨q,j⟩:=h.each l[i] (Ew hi);unfold aNq;rw[DR hi,aJT _ _ _ AB j];simp only[Ad];cases(IY l[i] x.Kind x.Key).2<;>simp[bne]
 intro k;unfold aNq;rw[EF]
def amr (l:A8 (A8 BJ)) (x:BJ) (h:OU l):a0T l x=some (JM l x):=by
 unfold a0T aWG;rw[Hz l (fuel_lt aKt) (fun s=> !((IY s x.Kind x.Key).2&&(IY s x.Kind x.Key).1==x.Id)) false (some true)]
 ·unfold JM;rw[KO,s0]
 ·intro k i hi;obtain⟨j,q⟩:=h.each l[i] (Ew hi);unfold aNZ;rw[DR hi,aLS _ _ _ AB];simp only[Ad];cases(IY l[i] x.Kind x.Key).2<;>simp[bne]
 intro k;unfold aNZ;rw[EF]
def Ih (l:A8 (A8 BJ)):A8 BJ:=match l with
 | []=>[]
 |s::_=>s.filter (JM l)
def TA (l:A8 (A8 BJ)):A8 Int:=(l.flatMap fun s=>s.filter fun x=> !JM l x).map (·.Id)
def Qz (l:A8 (A8 BJ)) (i:Nat):A8 BJ:=if i=0 then[]else Ih l
def OB (l:A8 (A8 BJ)) (i:Nat):A8 Int:=((l.take i).flatMap fun s=>s.filter fun x=> !JM l x).map (·.Id)
def aXU {l:A8 (A8 BJ)} {i:Nat} (h:i<l.length):Qz l (i+1)=Qz l i++(if i=0 then l[i].filter (JM l)else[]):=by
 unfold Qz Ih;cases l with
 |nil=>simp at h
 |cons s l=>cases i<;>simp
def aKk {l:A8 (A8 BJ)} {i:Nat} (h:i<l.length):OB l (i+1)=OB l i++(l[i].filter fun x=> !JM l x).map (·.Id):=by
 unfold OB;rw[Ot h,List.flatMap_append,LP];simp
def aLi (l:A8 (A8 BJ)):OB l l.length=TA l:=by unfold OB TA;rw[Gg]
def aWL (l:A8 (A8 BJ)):Qz l l.length=Ih l:=by
 unfold Qz;cases l with
 |nil=>rfl
 |cons s l=>simp
def aJR {l:A8 (A8 BJ)} (h:OU l) (i:Nat):(OB l i).length<=100*i:=by
 induction i with
 |zero=>simp[OB]
 |succ i j=>
  by_cases hi:i<l.length
  ·rw[aKk hi,En,Dc];have :=(h.each _ (Ew hi)).1;have :=Jr (fun x=> !JM l x) l[i];omega
  have :OB l (i+1)=OB l i:=by unfold OB;rw[Qj AB,Qj AB]
  rw[this];omega
def aEm {l:A8 (A8 BJ)} (h:OU l):(TA l).length<=10000:=by
 have :=aJR h l.length;rw[aLi]at this;have :=h.len;omega
def aj {l:A8 (A8 BJ)} (h:OU l):(Ih l).length<=100:=by
 unfold Ih;cases l with
 |nil=>exact Ea _
 |cons s l=>exact FC (Jr _ _) (h.each s (H8 ..)).1
def aUU {l:A8 (A8 BJ)} (h:OU l):KE (Ih l):=by
 unfold Ih;cases l with
 |nil=>exact .nil
 |cons s l=>exact(h.each s (H8 ..)).2.sublist Qo
def aUY (l:A8 (A8 BJ)) (h:OU l):yO l=some (Ih l,Ee (TA l)):=by
 have hlen:=h.len;refine eP.eq ?_;unfold yO aW4;refine aJE (body:=aMQ l) (fun(m:Nat) (a:A8 BJ) (b:A8 Int) (c:Int) (d:A8 (A8 BJ)) (_:A8 BJ) (_:A8 Int)=>∃i:Nat,c=i/\i+m=l.length/\d=l/\a=Qz l i/\b=OB l i) ?_ Ap l.length [] [] 0 l [] [] (fuel_lt AB) ⟨0,rfl,AB,rfl,rfl,by simp[OB]⟩;rintro m a b c d e f k ⟨i,rfl,hm,rfl,rfl,rfl⟩ U;unfold aMQ;refine eP.bif (fun hi=>?_) fun hi=>?_
 ·have hi:i<d.length:=Gs
  have hs:=(h.each d[i] (Ew hi)).1;have Y:=aJR h i;rw[Cx hi];simp only[Ad,yS];unfold aUw
  refine aPM (body:=aKB d[i] k (i:Int)) (fun(J:Nat) (a:A8 BJ) (b:A8 Int) (c:Int) (u:A8 (A8 BJ)) (_:A8 BJ) (_:A8 Int) (g:Int)=>
   ∃j:Nat,c=j/\j+J=d[i].length/\u=d/\g=i/\a=Qz d i++(if i=0 then(d[i].take j).filter (JM d)else[])/\b=OB d i++((d[i].take j).filter fun x=> !JM d x).map (·.Id)) ?_ Ap d[i].length _ _ _ _ _ _ _ (fuel_lt AB) ⟨0,rfl,AB,rfl,rfl,Bh,Bh⟩
  rintro J a b c u e2 f2 g k2 ⟨j,rfl,Z,rfl,rfl,rfl,rfl⟩ I;unfold aKB;refine eP.bif (fun z=>?_) fun z=>?_
  ·have z:j<u[i].length:=N8
   have q:u[i].take (j+1)=u[i].take j++[u[i][j]]:=by rw[Ot z]
   rw[Cx z];simp only[Ad];rw[acF u _ h];simp only[Ad];have w:=wrap_succ j AB;have L:=Jr (fun x=> !JM u x) (u[i].take j);have M:=Jr (JM u) (u[i].take j)
   have hst:(Qz u i).length<=100:=by
     unfold Qz;split; ·exact Ea _
     ·exact aj h
   rw[GK]at L M;cases ha:JM u u[i][j]with
   |false=>
    simp only[JC,Bz];rw[EC (by simp only[En,Dc,QO];omega)];simp only[Ad,w];refine I (J-1) _ _ _ _ _ _ _ AB ⟨j+1,rfl,AB,rfl,rfl,?_,?_⟩
    ·rw[q,Py];simp[ha]
    rw[q,Py];simp[ha]
   |true=>
    simp only[FB,BX];by_cases O:i=0
    ·subst O;simp only[show(((0:Nat):Int)==0)=true from rfl,Bz,Ku];rw[EC Uh];simp only[Ad,w];refine I (J-1) _ _ _ _ _ _ _ AB ⟨j+1,rfl,AB,rfl,rfl,?_,?_⟩
     ·rw[q,Py];simp[ha]
     rw[q,Py];simp[ha]
    have :((i:Int)==0)=false:=aCe
    rw[this];simp only[BX,w];refine I (J-1) _ _ _ _ _ _ _ AB ⟨j+1,rfl,AB,rfl,rfl,?_,?_⟩
    ·simp[O]
    rw[q,Py];simp[ha]
  have z:j=u[i].length:=by
    have :¬j<u[i].length:=N8
    omega
  subst z;rw[wrap_succ i AB,Gg];exact U (m-1) _ _ _ _ _ _ AB ⟨i+1,rfl,AB,rfl,(aXU hi).symm,(aKk hi).symm⟩
 have hi:i=d.length:=by
   have :¬i<d.length:=Gs
   omega
 subst hi;have :=aEm h;rw[aLi,aWL,ZM _ AB];exact .ret rfl
def aYB (l:A8 (A8 BJ)) (h:OU l):yM l=some (Ih l,Ee (TA l)):=by
 have hlen:=h.len;refine eP.eq ?_;unfold yM aUJ;refine Qr (body:=aMC l) (fun(m:Nat) (a:A8 BJ) (b:A8 Int) (c:Int)=>∃i:Nat,c=i/\i+m=l.length/\a=Qz l i/\b=Ee (OB l i)) ?_ Ap l.length [] [] 0 (fuel_lt AB) ⟨0,rfl,AB,rfl,by simp[OB,Ee]⟩;rintro m a b c k ⟨i,rfl,hm,rfl,rfl⟩ U;unfold aMC;refine eP.bif (fun hi=>?_) fun hi=>?_
 ·have hi:i<l.length:=Gs
  have hs:=(h.each l[i] (Ew hi)).1;have Y:=aJR h i;unfold aVU
  refine Qr (body:=aKC l (i:Int) k) (fun(I:Nat) (a:A8 BJ) (b:A8 Int) (c:Int)=>
   ∃j:Nat,c=j/\j+I=l[i].length/\a=Qz l i++(if i=0 then(l[i].take j).filter (JM l)else[])/\b=Ee (OB l i++((l[i].take j).filter fun x=> !JM l x).map (·.Id))) ?_ Ap l[i].length _ _ _ (fuel_lt AB) ⟨0,rfl,AB,Bh,Bh⟩
  rintro I a b c k2 ⟨j,rfl,Z,rfl,rfl⟩ z;unfold aKC;rw[Cx hi];simp only[Ad];refine eP.bif (fun u=>?_) fun u=>?_
  ·have u:j<l[i].length:=Vd
   have q:l[i].take (j+1)=l[i].take j++[l[i][j]]:=by rw[Ot u]
   rw[Cx u];simp only[Ad];rw[amr l _ h];simp only[Ad];have w:=wrap_succ j AB;have J:=Jr (fun x=> !JM l x) (l[i].take j);have L:=Jr (JM l) (l[i].take j)
   have hst:(Qz l i).length<=100:=by
     unfold Qz;split; ·exact Ea _
     ·exact aj h
   have M:=MG (OB l i++((l[i].take j).filter fun x=> !JM l x).map fun e:BJ=>e.Id);rw[En,Dc]at M;rw[GK]at J L;cases ha:JM l l[i][j]with
   |false=>
    simp only[JC,Bz];rw[dz _ _ AB];unfold lu;simp only[Ad,w];refine z (I-1) _ _ _ AB ⟨j+1,rfl,AB,?_,?_⟩
    ·rw[q,Py];simp[ha]
    rw[q,Py,LP,←Jd];simp only[ha,Rn,JC,Ku,List.filter_nil,JR,List.map_nil];rw[aRy]
   |true=>
    simp only[FB,BX];unfold lu;by_cases O:i=0
    ·subst O;simp only[show(((0:Nat):Int)==0)=true from rfl,Bz,Ku,Ad];rw[EC Uh];simp only[Ad,w];refine z (I-1) _ _ _ AB ⟨j+1,rfl,AB,?_,?_⟩
     ·rw[q,Py];simp[ha]
     rw[q,Py];simp[ha]
    have :((i:Int)==0)=false:=aCe
    rw[this];simp only[BX,w];refine z (I-1) _ _ _ AB ⟨j+1,rfl,AB,?_,?_⟩
    ·simp[O]
    rw[q,Py];simp[ha]
  have u:j=l[i].length:=by
    have :¬j<l[i].length:=Vd
    omega
  subst u;rw[wrap_succ i AB,Gg];exact U (m-1) _ _ _ AB ⟨i+1,rfl,AB,(aXU hi).symm,by rw[←aKk hi]⟩
 have hi:i=l.length:=by
   have :¬i<l.length:=Gs
   omega
 subst hi;rw[aLi,aWL];exact .ret rfl
def Un (s:A8 BJ):A8 Int:=s.map (·.Id)
def Gu (l:A8 AV) (s:A8 BJ):A8 Int:=Il (Un s) (chainOf l (Un s))
def allOf (l:A8 AV) (bH:A8 (A8 BJ)):A8 Int:=bH.foldl (fun a s=>Il a (Gu l s)) []
def KU (l:A8 AV) (bH:A8 (A8 BJ)) (x:Int):Nat:=bH.countP fun s=>ER (Gu l s) x
def TP (l:A8 AV) (bH:A8 (A8 BJ)):A8 Int:=(allOf l bH).filter fun x=>KU l bH x<bH.length
def MK (l:A8 AV) (bH:A8 (A8 BJ)):A8 Int:=Il (Ee (TA bH)) (TP l bH)
def aUd (l:A8 AV) (s:A8 BJ):Inc (Gu l s):=rH _ _
def aHp (s:A8 BJ):(Un s).length=s.length:=Dc _
def sF (l:A8 AV) (s:A8 BJ):(Gu l s).length<=s.length+l.length:=by
 have j:=aJL (Un s) (chainOf l (Un s));have q:=eB l (Un s);rw[aHp]at j;unfold Gu;omega
def aN9 (l:A8 AV):∀(bH:A8 (A8 BJ)) (a:A8 Int),Inc a->Inc (bH.foldl (fun a s=>Il a (Gu l s)) a)/\∀x,x∈bH.foldl (fun a s=>Il a (Gu l s)) a↔x∈a\/∃s∈bH,x∈Gu l s
 | [],a,h=>⟨h,fun x=>Bh⟩
 |s::bH,a,h=>by
  rw[Gt];obtain⟨q,u⟩:=aN9 l bH (Il a (Gu l s)) (rH _ _);refine⟨q,fun x=>(u x).trans ?_⟩;rw[dB];constructor
  ·rintro((h|h)|⟨t,j,h4⟩)
   ·exact .inl h
   ·exact .inr ⟨s,H8 ..,h⟩
   exact .inr ⟨t,IG _ j,h4⟩
  rintro(h|⟨t,j,h4⟩)
  ·exact .inl (.inl h)
  rcases FK.1 j with rfl|j
  ·exact .inl (.inr h4)
  exact .inr ⟨t,j,h4⟩
def aj2 (l:A8 AV) (bH:A8 (A8 BJ)):Inc (allOf l bH):=(aN9 l bH [] .nil).1
def anx {l:A8 AV} {bH:A8 (A8 BJ)} {x:Int}:x∈allOf l bH↔∃s∈bH,x∈Gu l s:=by
 unfold allOf;rw[(aN9 l bH [] .nil).2 x];simp
def al0 (l:A8 AV) (bH:A8 (A8 BJ)):Inc (TP l bH):=(aj2 l bH).sublist Qo
def aVE {bH:A8 (A8 BJ)} {x:BJ}:JM bH x=true↔∀s∈bH,(IY s x.Kind x.Key).2=true/\(IY s x.Kind x.Key).1=x.Id:=by
 unfold JM;rw[El];simp
def aDI (l:A8 AV):∀(bH:A8 (A8 BJ)) (a:A8 Int),(∀s∈bH,s.length<=100)->(bH.foldl (fun a s=>Il a (Gu l s)) a).length<=a.length+bH.length*(100+l.length)
 | [],a,_=>Bh
 |s::bH,a,h=>by
  rw[Gt];have j:=aDI l bH (Il a (Gu l s)) fun t ht=>h t (IG _ ht);have q:=aJL a (Gu l s);have u:=sF l s;have z:=h s (H8 ..);rw[HY,Uk];omega
def aYP {l:A8 AV} {bH:A8 (A8 BJ)} (hs:OU bH) (hl:l.length<=1000):(TP l bH).length<=110000:=by
 have j:=aDI l bH [] fun s h=>(hs.2 s h).1;have q:=hs.1;have u:=Jr (fun x=>KU l bH x<bH.length) (allOf l bH);have z:bH.length*(100+l.length)<=100*1100:=a0R q AB;unfold TP;unfold allOf at u ⊢;simp only[NM]at j;omega
def aia {s:A8 BJ} (h:KE s) {x:BJ} (I:x∈s):IY s x.Kind x.Key=(x.Id,true):=by
 unfold IY;cases z:s.find? (fun y=>Gz y ⟨x.Kind,x.Key,0⟩)with
 |none=>
  have :=aAW.1 z x I;unfold Gz at this;simp at this
 |some y=>
  have J:=aIe z;have O:=ZY z;have L:Gz y x=true:=by unfold Gz at J ⊢;exact J
  have :y=x:=by
   obtain⟨i,hi,rfl⟩:=I5 I;obtain⟨j,M,rfl⟩:=I5 O;rcases aC6 i j with q|q|q
   ·have u:=KC.1 h i j hi M q;have U:Gz s[i] s[j]=true:=by obtain⟨a,b⟩:=Vw.1 L;exact Vw.2 ⟨a.symm,b.symm⟩
    rw[yR U]at u;cases u
   ·subst q;rfl
   have u:=KC.1 h j i M hi q;rw[yR L]at u;cases u
  rw[this]
def acv {s:A8 BJ} {k:Int} {key:BD} {n:Int} (h:IY s k key=(n,true)):(⟨k,key,n⟩:BJ)∈s:=by
 unfold IY at h;cases j:s.find? (fun y=>Gz y ⟨k,key,0⟩)with
 |none=>rw[j]at h;cases h
 |some y=>
  rw[j]at h;have u:Gz y ⟨k,key,0⟩=true:=by have :=aIe j;exact this
  have q:=Vw.1 u;have z:=ZY j;obtain⟨a,b,c⟩:=y;cases h;simp only at q;rw[←q.1,←q.2];exact z
def afJ {bH:A8 (A8 BJ)} {x:BJ} (j:JM bH x=true) {s:A8 BJ} (hs:s∈bH):x∈s:=by
 obtain⟨q,u⟩:=aVE.1 j s hs;exact acv (s:=s) (k:=x.Kind) (key:=x.Key) (n:=x.Id) (by rw[←q,←u])
def aaB {bH:A8 (A8 BJ)} (h:OU bH) {x:BJ} (j:∀s∈bH,x∈s):JM bH x=true:=
 aVE.2 fun s hs=>by rw[aia (h.2 s hs).2 (j s hs)];exact⟨rfl,rfl⟩
def aaS {bH:A8 (A8 BJ)} (h:OU bH) (q:bH≠[]) {x:BJ}:x∈Ih bH↔∀s∈bH,x∈s:=by
 cases bH with
 |nil=>exact absurd rfl q
 |cons s bH=>
  show x∈s.filter (JM (s::bH))↔_;rw[Hy];exact⟨fun j t ht=>afJ j.2 ht,fun j=>⟨j s (H8 ..),aaB h j⟩⟩
def aQ6 (l:A8 Int) (h:l.length<=1099511627776):((Me l).bind fun x=>(X4 x).bind fun y=>some y)=some (Ee l):=by
 unfold Me X4;have j:(Qc l).length<=1099511627776:=by rw[(UJ l).length_eq];exact h
 simp[h,aLz,aKR]
def aYJ (s:A8 BJ):s.foldl (fun r x=>r++[x.Id]) []=Un s:=by
 rw[foldl_append (fun x:BJ=>[x.Id])];unfold Un;rw[Iq]
 induction s with
 |nil=>rfl
 |cons x s j=>rw[OD,j];rfl
def ag1 (l:A8 AV) (s:A8 BJ) (hl:l.length<=1000) (ha:RI l) (hs:s.length<=100):aAK l s=some (Gu l s):=by
 unfold aAK
 have hm:Iw 8 (0:Int) 0 (s.length:Int)=some []:=by
  unfold Iw;rw[Di aFS];rfl
 rw[hm];simp only[Ad];unfold aY0;rw[IZ s AB (fun r x=>r++[x.Id]) (fun i r=>r.length<=i) (fun r=>(YA l r).bind fun u=>(DU 8 r u).bind fun z=>(Me z).bind fun j=>(X4 j).bind fun q=>some q) Bh]
 ·have J:=eB l (Un s);have L:=aHp s;rw[aYJ,aIJ l _ hl ha AB];simp only[Ad];rw[EC AB];simp only[Ad];rw[aQ6 _ La];unfold Gu;rw[rW]
 ·intro k a i h I;refine⟨aB0,?_⟩;unfold aGl;rw[DR h,EC GZ];rfl
 intro k a I;unfold aGl;rw[EF]
def aZW (l:A8 AV) (s:A8 BJ) (hl:l.length<=1000) (ha:RI l) (hs:s.length<=100):aCF l s=some (Gu l s):=by
 unfold aCF aPV;rw[IZ s AB (fun r x=>r++[x.Id]) (fun i r=>r.length<=i) (fun r=>(bK l r).bind fun j=>(Yh r j).bind fun q=>some q) Bh]
 ·have z:=eB l (Un s);have I:=aHp s;rw[aYJ,aH2 l _ hl ha AB];simp only[Ad];rw[a0p _ _ AB AB];rfl
 ·intro k a i h u;refine⟨aB0,?_⟩;unfold aKY;rw[dec_lt h,Cx h];simp only[Bz,Ad];rw[EC GZ];rfl
 intro k a u;unfold aKY;rw[Dy];rfl
def stepM (m:A8 (Int×Int)) (x:Int):A8 (Int×Int):=F8 m x (Aw (((DX m x).getD 0)+1))
structure NI (m:List (Int×Int)) (f:Int->Nat):Prop where
 nodup:(m.map (·.1)).Nodup
 find:∀x,DX m x=if f x=0 then none else some (f x:Int)
def abB {m:A8 (Int×Int)} {k v y:Int}:y∈(F8 m k v).map (·.1)↔y=k\/y∈m.map (·.1):=by
 induction m with
 |nil=>simp[F8]
 |cons p m j=>
  unfold F8;cases h:k==p.1 with
  |true=>
   have q:k=p.1:=KY
   simp only[Bz,JR,FK];rw[q];simp
  |false=>
   simp only[BX,JR,FK,j];exact⟨fun h=>h.elim (fun e=>.inr (.inl e)) fun h=>h.elim .inl fun h=>.inr (.inr h),fun h=>h.elim (fun e=>.inr (.inl e)) fun h=>h.elim .inl fun h=>.inr (.inr h)⟩
def abp {m:A8 (Int×Int)} {k v:Int} (h:(m.map (·.1)).Nodup):((F8 m k v).map (·.1)).Nodup:=by
 induction m with
 |nil=>simp[F8]
 |cons p m u=>
  have h':=NY.1 h;unfold F8;cases q:k==p.1 with
  |true=>
   have j:k=p.1:=OQ
   simp only[Bz,JR];rw[j];exact h
  |false=>
   have j:k≠p.1:=OQ
   simp only[BX,JR];refine NY.2 ⟨fun hm=>?_,u h'.2⟩;rcases abB.1 hm with e|hm
   ·exact j e.symm
   exact h'.1 hm
def aj0 (m:A8 (Int×Int)) (k v:Int):(F8 m k v).length<=m.length+1:=by
 induction m with
 |nil=>simp[F8]
 |cons p m j=>
  unfold F8;cases k==p.1 with
  |true=>simp
  |false=>simp only[BX,HY];omega
def NI.step {m:A8 (Int×Int)} {f:Int->Nat} (h:NI m f) (x:Int) (u:f x<=1000000):NI (stepM m x) (fun y=>f y+if y=x then 1 else 0):=by
 refine⟨abp h.nodup,fun y=>?_⟩;unfold stepM;rw[Ql,h.find x]
 have e:Aw (((if f x=0 then none else some (f x:Int)).getD 0)+1)=((f x+1:Nat):Int):=by
  by_cases j:f x=0
  ·rw[Di j,j];rfl
  rw[Dp j];show Aw ((f x:Int)+1)=_;exact wrap_succ _ AB
 by_cases q:y=x
 ·subst q;simp only[TW,Bz,Ku];rw[e,Dp AB]
 have :(y==x)=false:=OQ
 rw[this];simp only[BX,Dp q,PE];exact h.find y
def NI.fold:∀(c:A8 Int) {m:A8 (Int×Int)} {f:Int->Nat},c.Nodup->NI m f->(∀x,f x<=1000)->NI (c.foldl stepM m) (fun y=>f y+if y∈c then 1 else 0)
 | [],m,f,_,h,_=>by
   refine⟨h.nodup,fun x=>?_⟩;simp only[List.foldl_nil,G5,KP,PE];exact h.find x
 |x::c,m,f,q,h,M=>by
  have j:=NY.1 q
  have key:∀(c:A8 Int) (m:A8 (Int×Int)) (g:Int->Nat),c.Nodup->NI m g->(∀x∈c,g x<=1000)->NI (c.foldl stepM m) (fun y=>g y+if y∈c then 1 else 0):=by
   intro c
   induction c with
   |nil=>intro m g _ h _;refine⟨h.nodup,fun x=>?_⟩;simp only[List.foldl_nil,G5,KP,PE];exact h.find x
   |cons z c O=>
    intro m g q h I;have j:=NY.1 q
    have J:=O (stepM m z) (fun y=>g y+if y=z then 1 else 0) j.2 (h.step z (by have :=I z (H8 ..);omega)) fun y L=>by
     have u:y≠z:=fun e=>j.1 (e▸L);simp only[Dp u,PE];exact I y (IG _ L)
    refine⟨J.nodup,fun y=>?_⟩;rw[Gt,J.find y]
    have :(g y+if y=z then 1 else 0)+(if y∈c then 1 else 0)=g y+if y∈z::c then 1 else 0:=by
     by_cases e:y=z
     ·subst e;simp[j.1]
     simp[e]
    simp only[this]
  exact key (x::c) m f q h fun y _=>M y
def aNj :∀(c:A8 Int) (m:A8 (Int×Int)),(c.foldl stepM m).length<=m.length+c.length
 | [],m=>Bh
 |x::c,m=>by
  have j:=aNj c (stepM m x);have q:=aj0 m x (Aw (((DX m x).getD 0)+1));rw[Gt,HY];unfold stepM at j ⊢;omega
def VQ {l:A8 Int} (h:Inc l):l.Nodup:=h.imp fun h=>AB
def NI.mem {m:A8 (Int×Int)} {f:Int->Nat} (h:NI m f) {x n:Int}:(x,n)∈m↔f x≠0/\n=f x:=by
 have key:∀m:A8 (Int×Int),(m.map (·.1)).Nodup->((x,n)∈m↔DX m x=some n):=by
  intro m
  induction m with
  |nil=>intro _;simp[DX]
  |cons p m I=>
   intro J;have j:=NY.1 J;unfold DX;rw[FK];cases z:x==p.1 with
   |true=>
    have q:x=p.1:=N8
    simp only[Bz,Mc];constructor
    ·rintro(e|hm)
     ·rw[←e]
     exact absurd (Fh.2 ⟨_,hm,q⟩) j.1
    intro e;left;rw[q,←e]
   |false=>
    have q:x≠p.1:=N8
    simp only[BX];rw[←I j.2];exact⟨fun h=>h.elim (fun e=>absurd (by rw[←e]) q) id,.inr⟩
 rw[key m h.nodup,h.find x];by_cases u:f x=0
 ·simp[u]
 rw[Dp u];simp only[Mc,ne_eq,u,not_false_eq_true,true_and];exact eq_comm
def aPU {l:A8 Int} (h:l.Nodup):Qc l=Ee l:=by
 refine Ci ?_ (KW l) fun x=>by rw[KN];exact(UJ l).mem_iff
 have j:=tH l;have q:(Qc l).Nodup:=(UJ l).nodup_iff.2 h;exact(j.and q).imp fun h=>AB
def aGu (n:Int):∀(m:A8 (Int×Int)) (r:A8 Int) (bH:A8 (A8 BJ)),(bH.length:Int)=n->r.length+m.length<=1000000->List.foldlM (XT bH) r m=some (r++(m.filter fun p=>p.2<n).map (·.1))
 | [],r,bH,_,_=>Bh
 |p::m,r,bH,hs,q=>by
  simp only[HY]at q;have e:XT bH r p=(bif p.2<n then(DU 8 r [p.1]).bind fun j=>some j else some r):=by unfold XT;rw[hs]
  rw[Ui,e];cases hd:decide (p.2<n)with
  |true=>
   simp only[Bz];rw[EC GZ];simp only[Ad];show List.foldlM (XT bH) (r++[p.1]) m=_;rw[aGu n m (r++[p.1]) bH hs Uh,Rn,Di hd];simp
  |false=>
   simp only[BX];show List.foldlM (XT bH) r m=_;rw[aGu n m r bH hs AB,Rn,Dp (by simp[hd])]
def aWh (l:A8 AV) (bH:A8 (A8 BJ)) (x:Int):KU l bH x<=bH.length:=List.countP_le_length
def NI.of_eq {m:A8 (Int×Int)} {f g:Int->Nat} (h:NI m f) (e:∀x,f x=g x):NI m g:=⟨h.nodup,fun x=>by rw[h.find,e]⟩
def ain (l:A8 AV) (bH:A8 (A8 BJ)) (hl:l.length<=1000) (ha:RI l) (hs:OU bH):oH l bH=some (TP l bH):=by
 unfold oH aRb;have hsl:=hs.len;rw[jA (a0:=[]) bH AB (fun m s=>(Gu l s).foldl stepM m) (fun i m=>NI m (KU l (bH.take i))/\m.length<=1100*i) (fun v2=>(Iw 8 (0:Int) 0 (v2.length:Int)).bind fun L=>(List.foldlM (XT bH) L v2).bind jg) ⟨⟨bY,fun x=>rfl⟩,Ea _⟩]
 ·obtain⟨J,hlen⟩:NI (bH.foldl (fun m s=>(Gu l s).foldl stepM m) []) (KU l bH)/\(bH.foldl (fun m s=>(Gu l s).foldl stepM m) []).length<=1100*bH.length:=by
   have key:∀(b a:A8 (A8 BJ)) (m:A8 (Int×Int)),(∀s∈b,s.length<=100)->a.length+b.length<=100->NI m (KU l a)->m.length<=1100*a.length->NI (b.foldl (fun m s=>(Gu l s).foldl stepM m) m) (KU l (a++b))/\(b.foldl (fun m s=>(Gu l s).foldl stepM m) m).length<=1100*(a.length+b.length):=by
    intro b
    induction b with
    |nil=>intro a m _ _ z I;simpa using⟨z,I⟩
    |cons s b ih=>
     intro a m hb M z I;rw[Gt,List.append_cons];have hc:=sF l s;have q:=hb s (H8 ..);have O:=aNj (Gu l s) m;simp only[HY]at M ⊢;have :=ih (a++[s]) ((Gu l s).foldl stepM m) (fun t ht=>hb t (IG _ ht)) Uh ?_ Uh
     ·simpa[Rk,YE 1]using this
     refine(NI.fold (Gu l s) (VQ (aUd l s)) z fun x=>by have :=aWh l a x;omega).of_eq fun x=>?_;unfold KU;rw[List.countP_append,List.countP_singleton];by_cases u:x∈Gu l s
     ·rw[Di u,Di (LZ.2 u)]
     rw[Dp u,Dp (by rw[P9.2 u];simp)]
   have :=key bH [] [] (fun s h=>(hs.each s h).1) (by simpa using hs.len) ⟨bY,fun x=>rfl⟩ (Ea _);simpa using this
  generalize bH.foldl (fun m s=>(Gu l s).foldl stepM m) []=m at J hlen
  have hm:Iw 8 (0:Int) 0 (m.length:Int)=some []:=by
   unfold Iw;rw[Di aFS];rfl
  rw[hm];simp only[Ad];rw[aGu (bH.length:Int) m [] bH rfl VO];simp only[Ad,Iq];have U:((m.filter fun p=>p.2<(bH.length:Int)).map (·.1)).Nodup:=J.nodup.sublist (Qo.map _);have hle:((m.filter fun p=>p.2<(bH.length:Int)).map (·.1)).length<=m.length:=by rw[Dc];exact Jr _ _
  unfold jg Me;rw[Di AB];simp only[Ad];congr 1;rw[aPU U];refine Ci (KW _) (al0 _ _) fun x=>?_;rw[KN,Fh];unfold TP;rw[Hy,anx];constructor
  ·rintro⟨⟨y,n⟩,hp,rfl⟩;rw[Hy]at hp;obtain⟨z,I⟩:=J.mem.1 hp.1;have O:n<(bH.length:Int):=by simpa using hp.2
   subst I;refine⟨?_,EW⟩;have :0<KU l bH y:=AB
   obtain⟨s,Y,Z⟩:=List.countP_pos_iff.1 this;exact⟨s,Y,LZ.1 Z⟩
  rintro⟨⟨s,z,I⟩,O⟩;have h4:0<KU l bH x:=List.countP_pos_iff.2 ⟨s,z,LZ.2 I⟩;refine⟨(x,(KU l bH x:Int)),Hy.2 ⟨J.mem.2 ⟨AB,rfl⟩,?_⟩,rfl⟩;have h5:KU l bH x<bH.length:=aCe
  simp;omega
 ·intro k m i h hI;have hc:=sF l bH[i];have q:=(hs.each bH[i] (Ew h)).1;refine⟨⟨?_,?_⟩,?_⟩
  ·refine(NI.fold (Gu l bH[i]) (VQ (aUd l bH[i])) hI.1 fun x=>by have :=aWh l (bH.take i) x;rw[GK]at this;omega).of_eq fun x=>?_;rw[Ot h];unfold KU;rw[List.countP_append,List.countP_singleton];by_cases u:x∈Gu l bH[i]
   ·rw[Di u,Di (LZ.2 u)]
   rw[Dp u,Dp (by rw[P9.2 u];simp)]
  ·have :=aNj (Gu l bH[i]) m;have :=hI.2;omega
  unfold aF7;rw[DR h,ag1 l _ hl ha q];simp only[Ad];unfold aUN;rw[jA (Gu l bH[i]) AB stepM (fun _ _=>True) (fun v8=>k (Aw ((i:Int)+1)) v8) trivial]
  ·intro k2 a j hj _;refine⟨trivial,?_⟩;unfold aAE;rw[DR hj];rfl
  intro k2 a _;unfold aAE;rw[EF]
 intro k m hI;unfold aF7;rw[EF]
def ahW {R A B α:Type} {body:(A->B->Int->AL R)->A->B->Int->AL R} (l:A8 α) (hl:l.length<=1099511627776) (f:A->B->α->A) (g:A->B->α->B) (I:Nat->A->B->Prop) (j:A->B->AL R) {Q:R->Prop} {a0:A} {q:B} (u:I 0 a0 q)
 (z:∀k a b (i:Nat) (h:i<l.length),I i a b->I (i+1) (f a b l[i]) (g a b l[i])/\body k a b (i:Int)=k (f a b l[i]) (g a b l[i]) (Aw ((i:Int)+1)))
 (J:∀k a b,I l.length a b->body k a b (l.length:Int)=j a b) (L:∀a b,I l.length a b->eP (j a b) Q):eP (jf body Ap a0 q 0) Q:=by
 refine Qr (body:=body) (Q:=Q) (fun m a b c=>∃i:Nat,c=i/\i+m=l.length/\I i a b) ?_ Ap l.length a0 q 0 (fuel_lt hl) ⟨0,rfl,AB,u⟩;rintro m a b c k ⟨i,rfl,hm,hi⟩ M;by_cases e:i<l.length
 ·obtain⟨O,U⟩:=z k a b i e hi;rw[U,wrap_succ i AB];exact M (m-1) _ _ _ AB ⟨i+1,rfl,AB,O⟩
 have :i=l.length:=AB
 subst this;rw[J _ _ _ hi];exact L a b hi
def aNe (x:Int):∀(cs:A8 (A8 Int)) (n:Nat),n+cs.length<=1000000->cs.foldl (fun(n:Int) c=>bif ER c x then Aw (n+1)else n) (n:Int)=((n+cs.countP (fun c=>ER c x):Nat):Int)
 | [],n,_=>Bh
 |c::cs,n,h=>by
  rw[HY]at h;rw[Gt,List.countP_cons];cases j:ER c x with
  |true=>
   simp only[Bz,Ku];rw[wrap_succ n AB,aNe x cs (n+1) AB];congr 1;omega
  |false=>
   simp only[BX,Qq,KP,PE];exact aNe x cs n AB
def ac3 (l:A8 AV) (bH:A8 (A8 BJ)) (hl:l.length<=1000) (ha:RI l) (hs:OU bH):a0v l bH=some (TP l bH):=by
 refine eP.eq ?_;unfold a0v aTt;have M:=hs.len
 have z:∀i,(allOf l (bH.take i)).length<=1100*i:=by
  intro i;have O:=aDI l (bH.take i) [] fun s h=>(hs.each s (lN h)).1;rw[GK,NM]at O;have h2:min i bH.length*(100+l.length)<=i*1100:=a0R (aMf _ _) AB;unfold allOf;omega
 refine ahW bH AB (fun a _ s=>a++[Gu l s]) (fun _ b s=>Il b (Gu l s)) (fun i a b=>a=(bH.take i).map (Gu l)/\b=allOf l (bH.take i)) (fun a b=>aLg b a [] 0) ⟨rfl,rfl⟩ ?_ ?_ ?_
 ·rintro k a b i h ⟨rfl,rfl⟩;have U:=sF l bH[i];have q:=(hs.each bH[i] (Ew h)).1;have u:bH.take (i+1)=bH.take i++[bH[i]]:=Ot h;refine⟨⟨by rw[u,LP];rfl,by rw[u];unfold allOf;rw[Ve];rfl⟩,?_⟩;unfold aL6;rw[dec_lt h,Cx h];simp only[Bz,Ad];rw[aZW l _ hl ha q];simp only[Ad];rw[EC (by simp only[Dc,GK,QO];omega)];simp only[Ad];have :=z i;rw[a0p _ _ AB AB];rfl
 ·rintro k a b ⟨rfl,rfl⟩;unfold aL6;rw[Dy];rfl
 rintro a b ⟨rfl,rfl⟩;rw[Gg];refine eP.of ?_;have Y:=z bH.length;rw[Gg]at Y;unfold aLg;rw[IZ (allOf l bH) AB (fun r x=>bif KU l bH x<bH.length then r++[x]else r) (fun i r=>r.length<=i) (fun r=>some r) (EZ _)]
 ·congr 1;unfold TP
  have key:∀(S r:A8 Int),S.foldl (fun r x=>bif KU l bH x<bH.length then r++[x]else r) r=r++S.filter (fun x=>KU l bH x<bH.length):=by
   intro S
   induction S with
   |nil=>intro r;simp
   |cons x S Z=>
    intro r;rw[Gt,Z,Rn];cases decide (KU l bH x<bH.length)<;>simp
  simpa using key (allOf l bH) []
 ·intro k r i h hI;refine⟨?_,?_⟩
  ·cases decide (KU l bH (allOf l bH)[i]<bH.length)with
   |false=>show r.length<=i+1;omega
   |true=>show(r++[(allOf l bH)[i]]).length<=i+1;simp;omega
  unfold aK2;rw[dec_lt h];simp only[Bz];unfold aUA
  rw[IZ (bH.map (Gu l)) WL (fun(n:Int) c=>bif ER c (allOf l bH)[i]then Aw (n+1)else n) (fun _ _=>True)
   (fun n=>bif n<((bH.map (Gu l)).length:Int) then k (r++[(allOf l bH)[i]]) (Aw ((i:Int)+1))else k r (Aw ((i:Int)+1))) trivial]
  ·have I:=aNe (allOf l bH)[i] (bH.map (Gu l)) 0 WL;rw[show((0:Nat):Int)=0 from rfl]at I;rw[I,List.countP_map,Dc,Kz]
   have e:decide (((bH.countP ((fun c=>ER c (allOf l bH)[i])∘Gu l):Nat):Int)<(bH.length:Int))=decide (KU l bH (allOf l bH)[i]<bH.length):=by
    unfold KU;rw[jU];exact Int.ofNat_lt
   rw[e];cases decide (KU l bH (allOf l bH)[i]<bH.length)<;>rfl
  ·intro k2 n j J _;refine⟨trivial,?_⟩;have L:j<bH.length:=by rw[Dc]at J;exact J
   have U:=sF l bH[j];have q:=(hs.each bH[j] (Ew L)).1;unfold aL0;rw[dec_lt J,Cx J,Cx h];simp only[Bz,Ad];rw[Vt _ _ (by rw[TV];omega)];simp only[Ad];cases ER (bH.map (Gu l))[j] (allOf l bH)[i]<;>rfl
  intro k2 n _;unfold aL0;rw[Dy];simp only[BX];rw[Cx h];simp only[Ad];rw[EC GZ];cases decide (n<((bH.map (Gu l)).length:Int))<;>rfl
 intro k r _;unfold aK2;rw[Dy];rfl
def aZD (l:A8 AV) (bH:A8 (A8 BJ)) (hl:l.length<=1000) (ha:RI l) (hs:OU bH):aEl l bH=some (MK l bH):=by
 have j:=aEm hs;have q:=MG (TA bH);have u:=aYP hs hl;unfold aEl;rw[aUY bH hs,ain l bH hl ha hs];simp only[Ad];rw[EC AB];simp only[Ad];rw[aQ6 _ La];unfold MK;rw[rW]
def aeL (l:A8 AV) (bH:A8 (A8 BJ)) (hl:l.length<=1000) (ha:RI l) (hs:OU bH):a05 l bH=some (MK l bH):=by
 have j:=aEm hs;have q:=MG (TA bH);have u:=aYP hs hl;unfold a05;rw[aYB bH hs,ac3 l bH hl ha hs];simp only[Ad];rw[a0p _ _ AB AB];rfl
def E9 (l:A8 AV):Prop:=∀e∈l,FD e
def E9.akx {l:A8 AV} (h:E9 l):RI l:=fun e j=>(h e j).auth
def aIW {R A α:Type} {body:(A->Int->AL R)->A->Int->AL R} (l:A8 α) (hl:l.length<Ap) (p:α->AZ) (g:Nat->AL R) (rest:AL R) (a0:A)
 (u:∀k (i:Nat) (h:i<l.length),body k a0 (i:Int)=bif p l[i]then g i else k a0 (Aw ((i:Int)+1))) (z:∀k,body k a0 (l.length:Int)=rest):
 aU body Ap a0 0=if l.findIdx p<l.length then g (l.findIdx p)else rest:=by
 have J:Ap=9223372036854775808:=rfl
 have key:∀n (i:Nat),i+n=l.length->∀m,n<m->aU body m a0 (i:Int)=if(l.drop i).findIdx p+i<l.length then g ((l.drop i).findIdx p+i)else rest:=by
  intro n
  induction n with
  |zero=>
   intro i hi m hm;obtain⟨m,rfl⟩:∃q,m=q+1:=⟨m-1,AB⟩
   have :i=l.length:=AB
   subst this;show body (aU body m) _ _=_;rw[z,PZ,Dp Bh]
  |succ n I=>
   intro i hi m hm;obtain⟨m,rfl⟩:∃q,m=q+1:=⟨m-1,AB⟩
   have j:i<l.length:=AB
   show body (aU body m) _ _=_;rw[u _ i j,wrap_succ i AB,I (i+1) AB m AB,Lh j,Tj];cases p l[i]with
   |true=>simp only[Bz,Kz];rw[Di j]
   |false=>
    simp only[BX];rw[show(l.drop (i+1)).findIdx p+(i+1)=(l.drop (i+1)).findIdx p+1+i by omega]
 have :=key l.length 0 AB Ap hl;simpa using this
def Ud {s:A8 BJ} {k:Int} {key:BD} {id:Int} {x:BJ} (h:x∈Gm s k key id):x=⟨k,key,id⟩\/x∈s:=by
 unfold Gm at h;rcases Iy.1 h with h|h
 ·exact .inr (lN h)
 rcases FK.1 h with h|h
 ·exact .inl h
 exact .inr (qY h)
def vK (s:A8 BJ):Prop:=∀x∈s,x.Id=0
def Zy {s:A8 BJ} {k:Int} {key:BD} (h:vK s):vK (Gm s k key 0):=fun x j=>by
 rcases Ud j with rfl|j
 ·rfl
 exact h x j
def rX (l:A8 BJ) (k:Int) (key:BD) (j:Int):AL BZ:=
 (bif j<(l.length:Int) then(Ak l j).bind fun q=>some (q.Kind==k)else some false).bind fun u=>(bif u then(Ak l j).bind fun z=>some (z.Key.toList==key.toList)else some false).bind fun I=>(bif I then some l else(IB l 0 j).bind fun J=>(DU 32 [] J).bind fun L=>(DU 32 L [(⟨k,key,0⟩:BJ)]).bind fun M=>(IB l j ((l).length)).bind fun O=>(DU 32 M O).bind fun U=>some U)
def tY (s:A8 BJ) (k:Int) (key:BD) (hs:s.length<=1000000) (u:vK s):XY s k key=some (Gm s k key 0):=by
 unfold XY aW8
 have j:rX s k key ((FW s ⟨k,key,0⟩:Nat):Int)=some (Gm s k key 0):=by
  have hp:=jy s ⟨k,key,0⟩;unfold rX Gm
  have q:((IB s 0 ((FW s ⟨k,key,0⟩:Nat):Int)).bind fun z=>(DU 32 [] z).bind fun I=>(DU 32 I [(⟨k,key,0⟩:BJ)]).bind fun J=>(IB s ((FW s ⟨k,key,0⟩:Nat):Int) ((s).length)).bind fun L=>(DU 32 J L).bind fun M=>some M)=some (s.take (FW s ⟨k,key,0⟩)++⟨k,key,0⟩::s.drop (FW s ⟨k,key,0⟩)):=by
   rw[rQ hp];simp only[Ad];rw[EC EW];simp only[Ad,Iq];rw[EC EW];simp only[Ad];rw[Uj hp];simp only[Ad];rw[EC EW];simp
  rw[q];by_cases hl:FW s ⟨k,key,0⟩<s.length
  ·rw[dec_lt hl,Cx hl];simp only[Bz,Ad]
   have O:L9 s ⟨k,key,0⟩=(s[FW s ⟨k,key,0⟩].Kind==k&&(s[FW s ⟨k,key,0⟩].Key=key)):=by
    unfold L9;rw[EL hl];rfl
   rw[O,Ir];cases Y:s[FW s ⟨k,key,0⟩].Kind==k with
   |false=>rfl
   |true=>
    simp only[Bz,Ad,Gw];cases hd:decide (s[FW s ⟨k,key,0⟩].Key=key)with
    |true=>
     simp only[Bz];have Z:s[FW s ⟨k,key,0⟩].Kind=k:=Vj
     have h2:s[FW s ⟨k,key,0⟩].Key=key:=by simpa using hd
     have h3:=u _ (Ew hl)
     have h4:(⟨k,key,0⟩:BJ)=s[FW s ⟨k,key,0⟩]:=by
      have :∀(y:BJ),y.Kind=k->y.Key=key->y.Id=0->(⟨k,key,0⟩:BJ)=y:=fun y a b c=>by cases y;simp only at a b c;rw[a,b,c]
      exact this _ Z h2 h3
     congr 1
     conv=>rhs;arg 2;arg 1;rw[h4]
     rw[←Lh hl,Rs]
    |false=>rfl
  have u:FW s ⟨k,key,0⟩=s.length:=AB
  have O:L9 s ⟨k,key,0⟩=false:=by unfold L9;rw[u,J5 (EZ _)]
  rw[O,u,Dy];rfl
 rw[Kv s (fuel_lt AB) (fun x=> !Fr x ⟨k,key,0⟩) (fun i=>rX s k key (i:Int)) (rX s k key (s.length:Int))]
 ·split
  ·exact j
  rename_i h;have u:FW s ⟨k,key,0⟩=s.length:=aR1
  rw[u]at j;exact j
 ·intro k2 i h;unfold aKJ
  have e:(bif (i:Int)<(s.length:Int) then(Ak s (i:Int)).bind fun x5=>(bif x5.Kind<k then some true else(Ak s (i:Int)).bind fun x8=>(bif (x8.Kind==k)then(Ak s (i:Int)).bind fun U=>some (Op.bytesLess (U.Key.toList) (key.toList))else some false).bind fun x9=>some x9).bind fun x6=>some x6 else some false)=some (Fr s[i] ⟨k,key,0⟩):=by
   rw[dec_lt h,Cx h];simp only[Bz,Ad];unfold Fr;cases decide (s[i].Kind<k)<;>cases s[i].Kind==k<;>rfl
  rw[e];simp only[Ad];cases Fr s[i] ⟨k,key,0⟩<;>rfl
 intro k2;unfold aKJ;rw[Dy];simp only[BX,Ad];unfold rX;rw[Dy];rfl
def MX (e:AV):A8 BJ:=Gm (Gm (Gm [] 1 CS 0) 3 CS 0) 2 e.bF 0
def keysOf (e:AV):A8 BJ:=
 bif e.Kind==1 then[]else bif e.Kind==2 then(bif e.Content.N==3||e.Content.N==1||e.Content.N==2 then Gm (Gm (MX e) 2 e.Key 0) 4 CS 0 else Gm (MX e) 2 e.Key 0)else MX e
def aLR (e:AV):(MX e).length<=3:=by
 have j:=QH [] 1 CS 0;have q:=QH (Gm [] 1 CS 0) 3 CS 0;have u:=QH (Gm (Gm [] 1 CS 0) 3 CS 0) 2 e.bF 0;unfold MX;simp only[NM]at j;omega
def aSX (e:AV):vK (MX e):=Zy (Zy (Zy fun x j=>absurd j G5))
def RS (e:AV):(keysOf e).length<=5:=by
 have j:=aLR e;have q:=QH (MX e) 2 e.Key 0;have u:=QH (Gm (MX e) 2 e.Key 0) 4 CS 0;unfold keysOf;cases e.Kind==1<;>cases e.Kind==2<;>cases(e.Content.N==3||e.Content.N==1||e.Content.N==2)<;>simp only[Bz,BX,NM]<;>omega
def aPs (e:AV):uG e=some (keysOf e):=by
 have q:=aLR e;have u:=QH (MX e) 2 e.Key 0;have j:=QH [] 1 CS 0;have z:=QH (Gm [] 1 CS 0) 3 CS 0;simp only[NM]at j;unfold uG keysOf;rw[Yd [] 1 CS 0 Bh];simp only[Ad];rw[Yd _ 3 CS 0 AB];simp only[Ad];rw[Yd _ 2 e.bF 0 AB];simp only[Ad];show(bif e.Kind==1 then some []else bif e.Kind==2 then(TD (MX e) 2 e.Key 0).bind _ else gY (MX e))=_;rw[Yd (MX e) 2 e.Key 0 AB];simp only[Ad];rw[Yd _ 4 CS 0 AB];unfold gY;cases e.Kind==1<;>cases e.Kind==2<;>cases e.Content.N==3<;>cases e.Content.N==1<;>cases e.Content.N==2<;>rfl
def aD4 (e:AV):Zu e=some (keysOf e):=by
 have z:=aLR e;have I:=QH (MX e) 2 e.Key 0;have q:=QH [] 1 CS 0;have J:=QH (Gm [] 1 CS 0) 3 CS 0;have z0:vK []:=fun x u=>absurd u G5;simp only[NM]at q;unfold Zu keysOf;rw[tY [] 1 CS Bh z0];simp only[Ad];rw[tY _ 3 CS AB (Zy z0)];simp only[Ad];rw[tY _ 2 e.bF AB (Zy (Zy z0))];simp only[Ad];show(bif e.Kind==1 then some []else bif e.Kind != 2 then some (MX e)else(XY (MX e) 2 e.Key).bind _)=_;rw[tY (MX e) 2 e.Key AB (aSX e)];simp only[Ad];rw[tY _ 4 CS AB (Zy (aSX e))];unfold a0u;have j:(e.Kind != 2)= !(e.Kind==2):=rfl;rw[j];cases e.Kind==1<;>cases e.Kind==2<;>cases e.Content.N==3<;>cases e.Content.N==1<;>cases e.Content.N==2<;>rfl
def FV (k:BJ) (x:AV):AZ:=x.Kind==k.Kind&&(x.Key=k.Key)
def WU (l:A8 AV) (e:AV):A8 AV:=(keysOf e).flatMap fun k=>((ofIds l e.bQ).find? (FV k)).toList
def flat_length {α β:Type} {f:α->A8 β} {n:Nat} (h:∀x,(f x).length<=n):∀l:A8 α,(l.flatMap f).length<=n*l.length
 | []=>Bh
 |x::l=>by
  have j:=h x;have q:=flat_length h l;rw[OD,En,HY,Nat.mul_succ];omega
def aD0 (l:A8 AV) (e:AV):(WU l e).length<=5:=by
 have j:=flat_length (f:=fun k=>((ofIds l e.bQ).find? (FV k)).toList) (n:=1) (fun k=>toList_le _) (keysOf e);have q:=RS e;unfold WU;omega
def a0J {l:A8 AV} {ids:A8 Int} {x:AV} (h:x∈ofIds l ids):x∈l:=by
 obtain⟨i,_,h⟩:=VA.1 h;exact NW h
def aYv {l:A8 AV} {e x:AV} (h:x∈WU l e):x∈l:=by
 obtain⟨k,_,h⟩:=Vy.1 h;have :(ofIds l e.bQ).find? (FV k)=some x:=KY
 exact a0J (ZY this)
def J3 (x:BJ):QN:=⟨x.Kind,x.Key⟩
def aND (e:AV):nD e=some ((keysOf e).map J3):=by
 unfold nD;rw[aPs];simp only[Ad];have q:=RS e;unfold aVN;rw[IZ (keysOf e) AB (fun r x=>r++[J3 x]) (fun i r=>r.length<=i) (fun r=>some r) (EZ _)]
 ·rw[foldl_append (fun x=>[J3 x]),Iq];congr 1
  induction keysOf e with
  |nil=>rfl
  |cons x s j=>rw[OD,j];rfl
 ·intro k r i h u;refine⟨aB0,?_⟩;unfold aMb;rw[DR h,EC GZ];rfl
 intro k r _;unfold aMb;rw[EF]
def aUK (l:A8 AV) (p:AV->AZ):∀ids:A8 Int,(ofIds l ids).find? p=(ids.find? fun i=>match Ef l i with |some x=>p x|none=>false).bind (Ef l)
 | []=>rfl
 |i::ids=>by
  have j:=aUK l p ids;unfold ofIds at j ⊢;rw[QM,VD];cases q:Ef l i with
  |none=>exact j
  |some x=>
   simp only;rw[VD];cases p x with
   |true=>exact q.symm
   |false=>exact j
def aPu (l:A8 AV) (e:AV) (hl:l.length<=1000) (I:e.bQ.length<=40):qg l e=some (WU l e):=by
 unfold qg;rw[aND];simp only[Ad];have J:=RS e;unfold aSz;rw[IZ (a0:=[]) ((keysOf e).map J3) WL (fun r k=>r++((ofIds l e.bQ).find? fun x=>x.Kind==k.Ya&&(x.Key=k.Yb)).toList) (fun i r=>r.length<=i) (fun r=>some r) (EZ _)]
 ·congr 1;rw[foldl_append (fun k:QN=>((ofIds l e.bQ).find? fun x=>x.Kind==k.Ya&&(x.Key=k.Yb)).toList),Iq,aK5];rfl
 ·intro k r i h L;have ht:=toList_le ((ofIds l e.bQ).find? fun x=>x.Kind==((keysOf e).map J3)[i].Ya&&(x.Key=((keysOf e).map J3)[i].Yb));refine⟨La,?_⟩;have hi:i<5:=by rw[Dc]at h;omega
  unfold aHn;rw[DR h];generalize((keysOf e).map J3)[i]=K;unfold aUt
  rw[aIW e.bQ (fuel_lt AB) (fun id=>match Ef l id with |some x=>x.Kind==K.Ya&&(x.Key=K.Yb)|none=>false)
   (fun j=>yu k (i:Int) (r++(match e.bQ[j]? with |some id=>(Ef l id).toList|none=>[]))) (yu k (i:Int) r)]
  ·rw[aUK,LD];by_cases q:e.bQ.findIdx (fun id=>match Ef l id with |some x=>x.Kind==K.Ya&&(x.Key=K.Yb)|none=>false)<e.bQ.length
   ·rw[Di q,EL q];rfl
   rw[Dp q,J5 AB];simp only[Option.bind_none,aIu,PK];rfl
  ·intro k2 j u;unfold aKP;rw[DR u,PY l _ AB,EL u];simp only[Ad];cases z:Ef l e.bQ[j]with
   |none=>rw[SI z];rfl
   |some x=>
    rw[OE z];simp only[Bz,RD];unfold Xg;rw[Ir];rw[EC GZ];cases x.Kind==K.Ya<;>cases decide (x.Key=K.Yb)<;>rfl
  intro k2;unfold aKP;rw[EF]
 intro k r _;unfold aHn;rw[EF]
def aTc (l:A8 AV) (e:AV) (hl:l.length<=1000) (Y:e.bQ.length<=40):oZ l e=some (WU l e):=by
 unfold oZ;rw[aD4,aIV l _ hl AB];simp only[Ad];have Z:=RS e;have L:=Z8 l e.bQ;unfold aR6;rw[IZ (a0:=[]) (keysOf e) AB (fun r k=>r++((ofIds l e.bQ).find? (FV k)).toList) (fun i r=>r.length<=i) (fun r=>some r) (EZ _)]
 ·rw[foldl_append (fun k:BJ=>((ofIds l e.bQ).find? (FV k)).toList),Iq];rfl
 ·intro k r i h hI;have ht:=toList_le ((ofIds l e.bQ).find? (FV (keysOf e)[i]));refine⟨La,?_⟩;have hi:i<5:=AB
  unfold aIl;rw[dec_lt h];simp only[Bz];generalize ofIds l e.bQ=O at L ht;unfold aWW
  have u:∀m (a:A8 AV) (j:Int),0<m->jf (RN O (keysOf e) (i:Int) k) m a true j=k a (Aw ((i:Int)+1)):=by
   intro m a j hm;obtain⟨m,rfl⟩:∃I,m=I+1:=⟨m-1,AB⟩
   show RN O (keysOf e) (i:Int) k (jf (RN O (keysOf e) (i:Int) k) m) a true j=_;unfold RN;cases decide (j<(O.length:Int))<;>rfl
  have key:∀n (j:Nat),j+n=O.length->∀m,n+1<m->jf (RN O (keysOf e) (i:Int) k) m r false (j:Int)=k (r++((O.drop j).find? (FV (keysOf e)[i])).toList) (Aw ((i:Int)+1)):=by
   intro n
   induction n with
   |zero=>
    intro j M m hm;obtain⟨m,rfl⟩:∃I,m=I+1:=⟨m-1,AB⟩
    have :j=O.length:=AB
    subst this;show RN O (keysOf e) (i:Int) k (jf (RN O (keysOf e) (i:Int) k) m) r false _=_;unfold RN;rw[Dy,PZ];simp
   |succ n U=>
    intro j M m hm;obtain⟨m,rfl⟩:∃I,m=I+1:=⟨m-1,AB⟩
    have z:j<O.length:=AB
    have J:=U (j+1) AB m AB;show RN O (keysOf e) (i:Int) k (jf (RN O (keysOf e) (i:Int) k) m) r false _=_;have q:=u m;generalize jf (RN O (keysOf e) (i:Int) k) m=K at J q;unfold RN a1A aFg;rw[dec_lt z,Cx z,Cx h];simp only[Bz,JC,Ad];rw[Ir,wrap_succ j AB,Lh z,VD,J];rw[EC GZ];simp only[Ad];rw[q _ _ AB];unfold FV;cases O[j].Kind==(keysOf e)[i].Kind<;>cases decide (O[j].Key=(keysOf e)[i].Key)<;>rfl
  have :=key O.length 0 AB Ap gV;exact this
 intro k r _;unfold aIl;rw[Dy];rfl
def Wu (c:BD):Cc:=bif !(c.toList==CS.toList)then{ XO with Users:=[⟨c,100⟩] }else XO
def Xo (l:A8 AV):BD:=match l.find? fun x=>x.Kind==1 with |some x=>x.bF|none=>CS
def Gn (l:A8 AV):Cc:=match l.find? fun x=>x.Kind==3 with |some x=>x.Content.Levels|none=>Wu (Xo l)
def aZp (c:BD):aEk c=some (Wu c):=by
 unfold aEk Wu aBo;cases c.toList==CS.toList<;>rfl
def aef (c:BD):aA5 c=some (Wu c):=by
 unfold aA5 Wu aDd;cases c.toList==CS.toList<;>rfl
def aP6 (l:A8 AV) (k:Int) (hl:l.length<=1000):uw l k=some (if l.findIdx (fun e=>e.Kind==k)<l.length then((l.findIdx (fun e=>e.Kind==k):Nat):Int)else -1):=by
 unfold uw;rw[aJ3 l AB (fun a0=>aAL a0 k) (fun e=>e.Kind==k) fun _=>rfl];rfl
def aNb (l:A8 AV) (hl:l.length<=1000) (hs:E9 l):o8 l=some (Gn l,Xo l):=by
 have q:∀c,iq l c=some (match l.find? fun x=>x.Kind==3 with |some x=>x.Content.Levels|none=>Wu c,c):=by
  intro c;unfold iq;rw[aP6 l 3 hl,LD];simp only[Ad];by_cases h:l.findIdx (fun e=>e.Kind==3)<l.length
  ·rw[Di h,show decide (((l.findIdx (fun e=>e.Kind==3):Nat):Int)>=0)=true by simp,Cx h,EL h];simp only[Bz,Ad];have u:=hs _ (Ew h);have z:=u.users;have I:=u.kinds;unfold a0w a1F;rw[EC VO,EC VO];rfl
  rw[Dp h,J5 AB,aZp];rfl
 unfold o8;rw[aP6 l 1 hl];simp only[Ad];by_cases h:l.findIdx (fun e=>e.Kind==1)<l.length
 ·have j:Xo l=l[l.findIdx (fun e=>e.Kind==1)].bF:=by unfold Xo;rw[LD,EL h]
  rw[Di h,show decide (((l.findIdx (fun e=>e.Kind==1):Nat):Int)>=0)=true by simp,Cx h];simp only[Bz,Ad];rw[q,←j];rfl
 have j:Xo l=CS:=by unfold Xo;rw[LD,J5 AB]
 rw[Dp h];show iq l CS=_;rw[q,←j];rfl
def aHh (l:A8 AV) (hl:l.length<=1000):nM l=some (Gn l,Xo l):=by
 have I:∀c,aEr l c 0 Js=some (match l.find? fun x=>x.Kind==3 with |some x=>x.Content.Levels|none=>Wu c,c):=by
  intro c;unfold aEr
  have O:∀{R:Type} {body:(Int->Cc->AL R)->Int->Cc->AL R} (p:AV->AZ) (g:Nat->AL R) (rest:AL R) (a0:Cc)
   (Y:∀k (i:Nat) (h:i<l.length),body k (i:Int) a0=bif p l[i]then g i else k (Aw ((i:Int)+1)) a0) (Z:∀k,body k (l.length:Int) a0=rest),
   aU body Ap 0 a0=if l.findIdx p<l.length then g (l.findIdx p)else rest:=by
   intro R body p g rest a0 Y Z;have hf:Ap=9223372036854775808:=rfl
   have key:∀n (i:Nat),i+n=l.length->∀m,n<m->aU body m (i:Int) a0=if(l.drop i).findIdx p+i<l.length then g ((l.drop i).findIdx p+i)else rest:=by
    intro n
    induction n with
    |zero=>
     intro i hi m hm;obtain⟨m,rfl⟩:∃z,m=z+1:=⟨m-1,AB⟩
     have :i=l.length:=AB
     subst this;show body (aU body m) _ _=_;rw[Z,PZ,Dp Bh]
    |succ n U=>
     intro i hi m hm;obtain⟨m,rfl⟩:∃z,m=z+1:=⟨m-1,AB⟩
     have q:i<l.length:=AB
     show body (aU body m) _ _=_;rw[Y _ i q,wrap_succ i AB,U (i+1) AB m AB,Lh q,Tj];cases p l[i]with
     |true=>simp only[Bz,Kz];rw[Di q]
     |false=>
      simp only[BX];rw[show(l.drop (i+1)).findIdx p+(i+1)=(l.drop (i+1)).findIdx p+1+i by omega]
   have :=key l.length 0 AB Ap AB;simpa using this
  rw[O (fun x=>x.Kind==3) (fun i=>some ((match l[i]? with |some x=>x.Content.Levels|none=>Js),c)) (some (Wu c,c))]
  ·rw[LD];by_cases h:l.findIdx (fun e=>e.Kind==3)<l.length
   ·rw[Di h,EL h]
   rw[Dp h,J5 AB]
  ·intro k i h;unfold aKw;rw[DR h,Cx h,EL h];rfl
  intro k;unfold aKw;rw[EF,aef];rfl
 unfold nM aUa;obtain⟨F,M⟩:∃F:BD->AL (Cc×BD),∀c,aEr l c 0 Js=F c:=⟨_,fun _=>rfl⟩
 simp only[M]at I
 have J:∀m (c:BD) (j:Int),0<m->jf (RF l) m c true j=F c:=by
  intro m c j hm;obtain⟨m,rfl⟩:∃z,m=z+1:=⟨m-1,AB⟩
  show RF l (jf (RF l) m) c true j=_;unfold RF;simp only[M];cases decide (j<(l.length:Int))<;>rfl
 have key:∀n (j:Nat),j+n=l.length->∀m,n+1<m->jf (RF l) m CS false (j:Int)=F (match(l.drop j).find? fun x=>x.Kind==1 with |some x=>x.bF|none=>CS):=by
  intro n
  induction n with
  |zero=>
   intro j hj m hm;obtain⟨m,rfl⟩:∃z,m=z+1:=⟨m-1,AB⟩
   have :j=l.length:=AB
   subst this;show RF l (jf (RF l) m) CS false _=_;unfold RF;simp only[M];rw[Dy,PZ];rfl
  |succ n U=>
   intro j hj m hm;obtain⟨m,rfl⟩:∃z,m=z+1:=⟨m-1,AB⟩
   have q:j<l.length:=AB
   have L:=U (j+1) AB m AB;show RF l (jf (RF l) m) CS false _=_;have u:=J m;generalize jf (RF l) m=K at L u;unfold RF a0m;simp only[M];rw[dec_lt q,Cx q];simp only[Bz,JC,Ad];rw[wrap_succ j AB,Lh q,VD,L,u _ _ AB];cases l[j].Kind==1<;>rfl
 have :=key l.length 0 AB Ap gV;rw[show((0:Nat):Int)=0 from rfl]at this;rw[this,I];rfl
def Ec (v:Cc) (u:BD):Int:=match v.Users.find? fun x=>decide (x.User=u)with |some x=>x.N|none=>v.User
def dc (v:Cc) (u:BD) (h:v.Users.length<=1000):Ti v u=some (Ec v u):=by
 unfold Ti aWo Ec;rw[Kv v.Users (fuel_lt AB) (fun x=>x.User=u) (fun i=>some (match v.Users[i]? with |some x=>x.N|none=>0)) (some v.User)]
 ·rw[LD];by_cases h:v.Users.findIdx (fun x=>x.User=u)<v.Users.length
  ·rw[Di h,EL h]
  rw[Dp h,J5 AB]
 ·intro k i h;unfold aHV;rw[DR h,Ir,EL h]
 intro k;unfold aHV;rw[EF]
def YR (v:Cc) (u:BD) (h:v.Users.length<=1000):Tq v u=some (Ec v u):=by
 unfold Tq aXh Ec;rw[Kv v.Users (fuel_lt AB) (fun x=>x.User=u) (fun i=>some (match v.Users[i]? with |some x=>x.N|none=>0)) (some v.User)]
 ·rw[LD];by_cases h:v.Users.findIdx (fun x=>x.User=u)<v.Users.length
  ·rw[Di h,EL h]
  rw[Dp h,J5 AB]
 ·intro k i h;unfold aM9;rw[DR h,Ir,EL h,Cx h];rfl
 intro k;unfold aM9;rw[EF]
def nV {l:A8 AV} (h:E9 l):(Gn l).Users.length<=100/\(Gn l).Kinds.length<=100:=by
 unfold Gn;cases j:l.find? fun x=>x.Kind==3 with
 |some x=>
  have :=h x (ZY j);exact⟨this.users,this.kinds⟩
 |none=>
  simp only;unfold Wu;cases(Xo l).toList==CS.toList with
  |true=>
   show XO.Users.length<=100/\XO.Kinds.length<=100;exact⟨Bj,Bj⟩
  |false=>
   show 1<=100/\XO.Kinds.length<=100;exact⟨Bj,Bj⟩
def uS (l:A8 AV) (e:AV):Int:=Ec (Gn (WU l e)) e.bF
def E9.from {l:A8 AV} (h:E9 l) (e:AV):E9 (WU l e):=fun x j=>h x (aYv j)
def afM (l:A8 AV) (e:AV) (hl:l.length<=1000) (hs:E9 l) (j:e.bQ.length<=40):a1t l e=some (uS l e):=by
 have q:=aD0 l e;have u:=(nV (hs.from e)).1;unfold a1t;rw[aPu l e hl j];simp only[Ad];rw[aNb _ AB (hs.from e)];simp only[Ad];rw[dc _ _ AB];rfl
def aXI (l:A8 AV) (e:AV) (hl:l.length<=1000) (hs:E9 l) (j:e.bQ.length<=40):qL l e=some (uS l e):=by
 have q:=aD0 l e;have u:=(nV (hs.from e)).1;unfold qL;rw[aTc l e hl j];simp only[Ad];rw[aHh _ AB];simp only[Ad];rw[YR _ _ AB];rfl
def TL (e:AV):AZ:=bif e.Kind==2 then(e.Content.N==0||e.Content.N==4)&& !(decide (e.Key=e.bF))else e.Kind==3||e.Kind==4
def agT (e:AV):aBW e=some (TL e):=by
 unfold aBW aEP TL;rw[Ir];by_cases q:e.Kind=2
 ·simp[q];cases e.Content.N==0<;>cases e.Content.N==4<;>rfl
 have j:(e.Kind==2)=false:=OQ
 rw[j];cases e.Kind==3<;>cases e.Kind==4<;>rfl
def alu (e:AV):aDq e=some (TL e):=by
 unfold aDq TL;rw[Ir];cases e.Kind==2<;>cases e.Content.N==0<;>cases e.Content.N==4<;>cases e.Kind==3<;>cases e.Kind==4<;>rfl
def aTb (l:A8 Int) (x:Int) (h:l.length<=1099511627776):EvC l x=some (if l.findIdx (· ==x)<l.length then((l.findIdx (· ==x):Nat):Int)else -1):=by
 unfold EvC aY8;rw[Kv l (fuel_lt h) (· ==x) (fun i=>some (i:Int)) (some (-1))]
 ·split<;>rfl
 ·intro k i hi;unfold aLm;rw[DR hi];have :(x==l[i])=(l[i]==x):=by rw[Ph];simp only[PU];exact eq_comm
  rw[this]
 intro k;unfold aLm;rw[EF]
def aPD (l:A8 Int) (x:Int):decide (l.findIdx (· ==x)<l.length)=ER l x:=by
 rw[Ph,LZ,I8,qM];exact⟨fun⟨y,j,q⟩=>by rw[←(by simpa using q:y=x)];exact j,fun h=>⟨x,h,Bh⟩⟩
def wC (l:A8 Int) (x:Int) (h:l.length<=1099511627776):nR l x=some (ER l x):=by
 unfold nR;rw[aTb l x h,←aPD];by_cases hl:l.findIdx (· ==x)<l.length
 ·rw[Di hl,JG hl];simp
 rw[Dp hl,JK hl];rfl
def aXM (l:A8 Int) (x:Int) (h:l.length<=1099511627776):nI l x=some (ER l x):=by
 unfold nI;rw[wC l x h];rfl
def ev (l:A8 AV) (id:Int):AV:=(He l id).1
def Yc (l:A8 AV) (id:Int):AZ:=dQ l id&&TL (ev l id)
def PI (l:A8 AV) (full:A8 Int):A8 Int:=full.filter (Yc l)
def YK (l:A8 AV) (full:A8 Int):A8 Int:=Ee (PI l full++full.filter (ER (chainOf l (PI l full))))
def aLt {l:A8 AV} {full:A8 Int} {x:Int}:x∈YK l full↔x∈full/\(Yc l x=true\/OG l (PI l full) x):=by
 unfold YK;rw[KN,Iy,Hy,LZ,aNR];unfold PI;rw[Hy];exact⟨fun h=>h.elim (fun h=>⟨h.1,.inl h.2⟩) fun h=>⟨h.1,.inr h.2⟩,fun⟨h,k⟩=>k.elim (fun k=>.inl ⟨h,k⟩) fun k=>.inr ⟨h,k⟩⟩
def aRQ (l:A8 AV) (full:A8 Int):Inc (YK l full):=KW _
def aLa (p:Int->AZ):∀(S r:A8 Int),S.foldl (fun r x=>bif p x then r++[x]else r) r=r++S.filter p
 | [],r=>Bh
 |x::S,r=>by
  rw[Gt,aLa p S,Rn];cases p x<;>simp
def ak2 (l:A8 AV) (full:A8 Int) (hl:l.length<=1000) (hs:E9 l) (I:full.length<=120000) (j:(PI l full).length<=100000):aBa l full=some (YK l full):=by
 unfold aBa aRO;rw[IZ (a0:=[]) full AB (fun r x=>bif Yc l x then r++[x]else r) (fun i r=>r.length<=i) (fun r=>(YA l r).bind fun q=>aMY full q r 0) (EZ _)]
 ·have z:full.foldl (fun r x=>bif Yc l x then r++[x]else r) []=PI l full:=by rw[aLa];rfl
  have J:=eB l (PI l full);rw[z,aIJ l _ hl hs.akx j];simp only[Ad];unfold aMY;rw[IZ full AB (fun r x=>bif ER (chainOf l (PI l full)) x then r++[x]else r) (fun i r=>r.length<=(PI l full).length+i) (fun r=>some (Ee r)) (EZ _)]
  ·rw[aLa];rfl
  ·intro k r i h u;refine⟨?_,?_⟩
   ·cases ER (chainOf l (PI l full)) full[i]with
    |false=>show r.length<=(PI l full).length+(i+1);omega
    |true=>show(r++[full[i]]).length<=(PI l full).length+(i+1);simp;omega
   unfold aFz aDw;rw[DR h,aXM _ _ AB];simp only[Ad];rw[EC GZ];cases ER (chainOf l (PI l full)) full[i]<;>rfl
  intro k r u;unfold aFz;rw[EF,ZM _ AB];rfl
 ·intro k r i h u;refine⟨?_,?_⟩
  ·cases Yc l full[i]with
   |false=>show r.length<=i+1;omega
   |true=>show(r++[full[i]]).length<=i+1;simp;omega
  unfold aO0 aAj;rw[DR h,PY l _ AB];simp only[Ad];rw[EC GZ];unfold Yc dQ ev;rw[agT,Pn];cases(Ef l full[i]).isSome<;>cases TL (He l full[i]).1<;>rfl
 intro k r _;unfold aO0;rw[EF]
def OG.aFN {l:A8 AV} {ids:A8 Int} {i x:Int} (hi:i∈ids) (h:OG l [i] x):OG l ids x:=by
 induction h with
 |one h j q=>rw[Md.1 h]at j;exact .one hi j q
 |more h j q u=>exact .more u j q
def OG.split {l:A8 AV} {ids:A8 Int} {x:Int}:OG l ids x↔∃i∈ids,OG l [i] x:=by
 constructor
 ·intro h
  induction h with
  |one h j q=>exact⟨_,h,.one (Md.2 rfl) j q⟩
  |more h j q I=>obtain⟨i,u,z⟩:=I;exact⟨i,u,.more z j q⟩
 rintro⟨i,u,z⟩;exact .aFN u z
def OG.dQ {l:A8 AV} {ids:A8 Int} {x:Int} (h:OG l ids x):dQ l x=true:=by cases h<;>assumption
def ZV (h r:A8 Int) (y:Int):A8 Int:=bif ER h y then put r y else r
def aCH (h:A8 Int):∀(c r:A8 Int),Inc r->Inc (c.foldl (ZV h) r)/\∀x,x∈c.foldl (ZV h) r↔x∈r\/x∈c/\x∈h
 | [],r,q=>⟨q,fun x=>Bh⟩
 |y::c,r,q=>by
  rw[Gt];unfold ZV;cases J:ER h y with
  |true=>
   obtain⟨u,z⟩:=aCH h c (put r y) (SN q);refine⟨u,fun x=>(z x).trans ?_⟩;rw[Wx,FK];constructor
   ·rintro((j|rfl)|j)
    ·exact .inl j
    ·exact .inr ⟨.inl rfl,LZ.1 J⟩
    exact .inr ⟨.inr j.1,j.2⟩
   rintro(j|⟨rfl|j,I⟩)
   ·exact .inl (.inl j)
   ·exact .inl (.inr rfl)
   exact .inr ⟨j,I⟩
  |false=>
   obtain⟨u,z⟩:=aCH h c r q;refine⟨u,fun x=>(z x).trans ⟨fun j=>j.imp id fun j=>⟨IG _ j.1,j.2⟩,fun j=>j.imp id fun j=>⟨?_,j.2⟩⟩⟩;rcases FK.1 j.1 with rfl|I
   ·exact absurd j.2 (P9.1 J)
   exact I
def cu (l:A8 AV) (h r:A8 Int) (x:Int):A8 Int:=bif TL (ev l x)then(chainOf l [x]).foldl (ZV h) (put r x)else r
def aKS (l:A8 AV) (h:A8 Int):∀(c r:A8 Int),Inc r->Inc (c.foldl (cu l h) r)/\∀x,x∈c.foldl (cu l h) r↔x∈r\/∃i∈c,TL (ev l i)=true/\(x=i\/OG l [i] x/\x∈h)
 | [],r,z=>⟨z,fun x=>Bh⟩
 |y::c,r,z=>by
  rw[Gt];unfold cu;cases I:TL (ev l y)with
  |true=>
   obtain⟨M,O⟩:=aCH h (chainOf l [y]) (put r y) (SN z);obtain⟨J,L⟩:=aKS l h c _ M;refine⟨J,fun x=>(L x).trans ?_⟩;rw[O x,Wx,aNR];constructor
   ·rintro(((j|rfl)|j)|⟨i,j,u⟩)
    ·exact .inl j
    ·exact .inr ⟨x,H8 ..,I,.inl rfl⟩
    ·exact .inr ⟨y,H8 ..,I,.inr j⟩
    exact .inr ⟨i,IG _ j,u⟩
   rintro(j|⟨i,j,u,q⟩)
   ·exact .inl (.inl (.inl j))
   rcases FK.1 j with rfl|j
   ·rcases q with rfl|q
    ·exact .inl (.inl (.inr rfl))
    exact .inl (.inr q)
   exact .inr ⟨i,j,u,q⟩
  |false=>
   obtain⟨J,L⟩:=aKS l h c r z;refine⟨J,fun x=>(L x).trans ⟨fun j=>j.imp id fun⟨i,u,q⟩=>⟨i,IG _ u,q⟩,fun j=>j.imp id fun⟨i,u,q,U⟩=>⟨i,?_,q,U⟩⟩⟩;rcases FK.1 u with rfl|u
   ·rw[I]at q;cases q
   exact u
def ah1 (l:A8 AV) (full:A8 Int):(G8 l full).foldl (cu l (G8 l full)) []=YK l full:=by
 obtain⟨I,J⟩:=aKS l (G8 l full) (G8 l full) [] .nil;refine Ci I (aRQ _ _) fun x=>(J x).trans ?_;rw[aLt,O1,OG.split];unfold PI Yc;constructor
 ·rintro(z|⟨i,z,j,u⟩)
  ·exact absurd z G5
  have q:=O1.1 z;rcases u with rfl|u
  ·exact⟨q.1,.inl (by rw[q.2,j];rfl)⟩
  exact⟨u.2.1,.inr ⟨i,Hy.2 ⟨q.1,by rw[q.2,j];rfl⟩,u.1⟩⟩
 rintro⟨z,j|⟨i,j,u⟩⟩
 ·rw[Du]at j;exact .inr ⟨x,O1.2 ⟨z,j.1⟩,j.2,.inl rfl⟩
 rw[Hy,Du]at j;exact .inr ⟨i,O1.2 ⟨j.1,j.2.1⟩,j.2.2,.inr ⟨u,z,u.dQ⟩⟩
def aZi (l:A8 AV) (full:A8 Int) (hl:l.length<=1000) (hs:E9 l) (M:full.length<=100000):aDX l full=some (YK l full):=by
 unfold aDX;rw[aWI l full hl M];simp only[Ad];have O:(G8 l full).length<=l.length:=kY (dK l full) fun x q=>(O1.1 q).2;unfold aXf;rw[IZ (a0:=[]) (G8 l full) AB (cu l (G8 l full)) (fun _ r=>Inc r/\∀x∈r,dQ l x=true) (fun r=>some r) ⟨.nil,fun x q=>absurd q G5⟩]
 ·rw[ah1]
 ·intro k r i h z;have I:dQ l (G8 l full)[i]=true:=(O1.1 (Ew h)).2;have U:=kY z.1 z.2;have g:=aCH (G8 l full) (chainOf l [(G8 l full)[i]]) (put r (G8 l full)[i]) (SN z.1);refine⟨?_,?_⟩
  ·unfold cu;cases TL (ev l (G8 l full)[i])with
   |false=>exact z
   |true=>
    refine⟨g.1,fun x q=>?_⟩;rcases(g.2 x).1 q with u|u
    ·rcases Wx.1 u with u|rfl
     ·exact z.2 x u
     exact I
    exact(O1.1 u.2).2
  unfold aGD pK;rw[DR h,Lc l _ AB];simp only[Ad];rw[alu,Cx h];simp only[Ad];rw[dz _ _ AB];simp only[Ad];rw[aH2 l _ hl hs.akx Bh];simp only[Ad];unfold cu;show(bif TL (ev l (G8 l full)[i])then _ else _)=_;cases TL (ev l (G8 l full)[i])with
  |false=>rfl
  |true=>
   simp only[Bz];have hc:=eB l [(G8 l full)[i]];unfold aRw
   rw[IZ (chainOf l [(G8 l full)[i]]) AB (ZV (G8 l full)) (fun _ r=>Inc r/\∀x∈r,dQ l x=true) (fun r=>k r (Aw ((i:Int)+1))) ⟨SN z.1,fun x q=>by
    rcases Wx.1 q with u|rfl
    ·exact z.2 x u
    exact I⟩]
   ·intro k2 Y j L J;have Z:=kY J.1 J.2;refine⟨?_,?_⟩
    ·unfold ZV;cases hh:ER (G8 l full) (chainOf l [(G8 l full)[i]])[j]with
     |false=>exact J
     |true=>
      refine⟨SN J.1,fun x q=>?_⟩;rcases Wx.1 q with u|rfl
      ·exact J.2 x u
      exact(O1.1 (LZ.1 hh)).2
    unfold aNu aBI;rw[DR L,Vt _ _ AB,Cx L];simp only[Ad];rw[dz _ _ AB];unfold ZV;cases ER (G8 l full) (chainOf l [(G8 l full)[i]])[j]<;>rfl
   intro k2 Y _;unfold aNu pK;rw[EF]
 intro k r _;unfold aGD;rw[EF]
def aFk (l:A8 AV) (full:A8 Int):(YK l full).length<=l.length:=
 kY (aRQ l full) fun x j=>by
  rcases(aLt.1 j).2 with h|h
  ·unfold Yc at h;rw[Du]at h;exact h.1
  exact h.dQ
def GN (l:A8 AV) (id:Int):RZ:=⟨id,uS l (ev l id),(ev l id).Time,chainOf l [id]⟩
def jc (l:A8 AV) (left:A8 Int) (x:Int):AZ:= !left.any fun y=>ER (chainOf l [x]) y
def cO (a b:RZ):AZ:=bif a.I4 != b.I4 then decide (a.I4>b.I4)else decide (a.BM<b.BM)
def Ja (l:A8 AV) (left:A8 Int) (b:AL Int) (x:Int):AL Int:=bif jc l left x&&(match b with |none=>true|some y=>cO (GN l x) (GN l y))then some x else b
def Ue (l:A8 AV) (left:A8 Int):AL Int:=left.foldl (Ja l left) none
def Oi (l:A8 AV):Nat->A8 Int->A8 Int
 |0,_=>[]
 |n+1,left=>match Ue l left with
  |none=>[]
  |some b=>b::Oi l n (left.filter (· != b))
def aTP (l:A8 AV):∀ids:A8 Int,ids.flatMap (fun id=>bif dQ l id then[GN l id]else[])=(ids.filter (dQ l)).map (GN l)
 | []=>rfl
 |i::ids=>by
  rw[OD,aTP l ids,Rn];cases dQ l i<;>simp
def afb (l:A8 AV) (ids:A8 Int) (hl:l.length<=1000) (hs:E9 l) (hi:ids.length<=100000):aEt l ids=some ((G8 l ids).map (GN l)):=by
 unfold aEt;rw[ZM ids AB];simp only[Ad];have u:=MG ids;unfold aTp;rw[IZ (a0:=[]) (Ee ids) AB (fun r id=>r++bif dQ l id then[GN l id]else[]) (fun i r=>r.length<=i) (fun r=>some r) (EZ _)]
 ·rw[foldl_append (fun id=>bif dQ l id then[GN l id]else[]),Iq,aTP];rfl
 ·intro k r i h I;refine⟨?_,?_⟩
  ·cases dQ l (Ee ids)[i]<;>simp <;>omega
  unfold aN8 a0z;rw[DR h,PY l _ AB];simp only[Ad];unfold dQ;cases j:Ef l (Ee ids)[i]with
  |none=>rw[SI j];simp
  |some e=>
   have z:=hs e (NW j);have q:ev l (Ee ids)[i]=e:=by unfold ev;rw[OE j]
   rw[OE j];simp only[Bz,Option.isSome_some];rw[afM l e hl hs z.auth,aIJ l _ hl hs.akx Bh];simp only[Ad];rw[EC GZ];unfold GN;rw[q];rfl
 intro k r _;unfold aN8;rw[EF]
def aPY (l:A8 AV) (left:A8 Int):∀(c:A8 Int) (b:AL Int) {x:Int},c.foldl (Ja l left) b=some x->b=some x\/x∈c
 | [],b,x,h=>.inl h
 |y::c,b,x,h=>by
  rw[Gt]at h;rcases aPY l left c _ h with j|j
  ·have key:∀c:AZ,(bif c then some y else b)=some x->b=some x\/x=y:=fun c q=>by
    cases c with
    |true=>simp only[Bz,Mc]at q;exact .inr q.symm
    |false=>exact .inl q
   rcases key _ j with u|u
   ·exact .inl u
   exact .inr (u▸H8 ..)
  exact .inr (IG _ j)
def agd {l:A8 AV} {left:A8 Int} {x:Int} (h:Ue l left=some x):x∈left:=by
 rcases aPY l left left none h with h|h
 ·cases h
 exact h
def aWw {left:A8 Int} (I:left.Nodup) {j:Nat} (J:j<left.length):left.take j++left.drop (j+1)=left.filter (· != left[j]):=by
 have e:left=left.take j++left[j]::left.drop (j+1):=by rw[←Lh J,Rs]
 have q:(left.take j++left[j]::left.drop (j+1)).Nodup:=by rw[←e];exact I
 have z:=aCT.1 q;have L:=NY.1 z.2.1
 have M:(left.take j).filter (· != left[j])=left.take j:=nC.2 fun x u=>by
  have :=z.2.2 x u left[j] (H8 ..);simpa using this
 have O:(left.drop (j+1)).filter (· != left[j])=left.drop (j+1):=nC.2 fun x u=>by
  have :x≠left[j]:=fun e=>L.1 (e▸u);simpa using this
 have :(left.take j++left[j]::left.drop (j+1)).filter (· != left[j])=left.take j++left.drop (j+1):=by
  rw[Py,Rn,M,O];simp
 rw[←e]at this;exact this.symm
def aQy {left:A8 Int} (q:left.Nodup) {b:Int} (u:b∈left):(left.filter (· != b)).length+1=left.length:=by
 obtain⟨j,z,rfl⟩:=I5 u;rw[←aWw q z,En,GK,L6];omega
def aey {left:A8 Int} (h:Inc left) (b:Int):Pe left [b]=left.filter (· != b):=by
 unfold Pe;rw[aYg h];congr 1;funext x;by_cases e:x=b
 ·subst e;simp[ER]
 simp[ER,e]
def aYh (l:A8 AV) (hl:l.length<=1000):∀(m:Nat) (left acc:A8 Int) (N:Nat),left.length=m->Inc left->(∀x∈left,dQ l x=true)->acc.length+left.length<=1000000->m<N->aU Yl N (left.map (GN l)) acc=some (acc++Oi l m left):=by
 intro m
 induction m with
 |zero=>
  intro left acc N hm hi hk hacc hN;obtain⟨N,rfl⟩:∃N',N=N'+1:=⟨N-1,AB⟩
  have :left=[]:=Hg hm;subst this;show Yl _ _ _=_;unfold Yl Oi;simp
 |succ m ih=>
  intro left acc N hm hi hk hacc hN;obtain⟨N,rfl⟩:∃N',N=N'+1:=⟨N-1,AB⟩
  have hll:=kY hi hk;refine eP.eq ?_;show eP (Yl (aU Yl N) _ _) _;have ih':=fun Z acc' h1 h2 h3 h4=>ih Z acc' N h1 h2 h3 h4 AB;generalize aU Yl N=K at ih';unfold Yl;rw[show decide (((left.map (GN l)).length:Int)>0)=true by rw[Dc];simp;omega];simp only[Bz];unfold aWE;refine Qr (body:=aKi (left.map (GN l)) K) (fun m2 a b c=>∃i:Nat,b=i/\i+m2=left.length/\c=acc/\((a= -1/\(left.take i).foldl (Ja l left) none=none)\/∃(j:Nat) (z:j<left.length),a=(j:Int)/\(left.take i).foldl (Ja l left) none=some left[j])) ?_ Ap left.length (-1) 0 acc (fuel_lt AB) ⟨0,rfl,AB,rfl,.inl ⟨rfl,rfl⟩⟩;rintro m2 a b c k ⟨i,rfl,hm2,rfl,hI⟩ I;unfold aKi;by_cases J:i<left.length
  ·have O:i<(left.map (GN l)).length:=by rw[Dc];exact J
   rw[dec_lt O,Cx O,TV];simp only[Bz,Ad]
   have hst:(left.take (i+1)).foldl (Ja l left) none=Ja l left ((left.take i).foldl (Ja l left) none) left[i]:=by
    rw[Ot J,Ve];rfl
   unfold aWq;have hc:=eB l [left[i]]
   have hin:∀(k2:Int->Int->A8 Int->AL (A8 Int)),aU (Xn (left.map (GN l)) (GN l left[i]) k2 (i:Int) a) Ap 0 c=bif jc l left left[i]then(bif a<0 then Yo k2 (i:Int) a true c else(Ak (left.map (GN l)) a).bind fun x27=>(bG (GN l left[i]) x27).bind fun x28=>Yo k2 (i:Int) a x28 c)else dR k2 (i:Int) a c:=by
    intro k2
    have key:∀n (j:Nat),j+n=left.length->∀m,n<m->aU (Xn (left.map (GN l)) (GN l left[i]) k2 (i:Int) a) m (j:Int) c=bif !(left.drop j).any (fun y=>ER (chainOf l [left[i]]) y)then(bif a<0 then Yo k2 (i:Int) a true c else(Ak (left.map (GN l)) a).bind fun x27=>(bG (GN l left[i]) x27).bind fun x28=>Yo k2 (i:Int) a x28 c)else dR k2 (i:Int) a c:=by
     intro n
     induction n with
     |zero=>
      intro j z m hm;obtain⟨m,rfl⟩:∃m',m=m'+1:=⟨m-1,AB⟩
      have :j=left.length:=AB
      subst this;show Xn _ _ _ _ _ _ _ _=_;unfold Xn;rw[show decide ((left.length:Int)<((left.map (GN l)).length:Int))=false by rw[Dc];exact Dy _,PZ];rfl
     |succ n ihn=>
      intro j z m hm;obtain⟨m,rfl⟩:∃m',m=m'+1:=⟨m-1,AB⟩
      have hjl:j<left.length:=AB
      have aHK:j<(left.map (GN l)).length:=by rw[Dc];exact hjl
      have U:=ihn (j+1) AB m AB;show Xn _ _ _ _ _ (aU _ m) _ _=_;generalize aU (Xn (left.map (GN l)) (GN l left[i]) k2 (i:Int) a) m=L at U;unfold Xn;rw[DR aHK,TV];show((nI (chainOf l [left[i]]) left[j]).bind _)=_;rw[aXM _ _ AB,wrap_succ j AB,Lh hjl,Zm];simp only[Ad];cases ER (chainOf l [left[i]]) left[j]with
      |true=>rfl
      |false=>
       simp only[BX,Nr];exact U
    exact key left.length 0 AB Ap (fuel_lt AB)
   rw[hin];have hw:=wrap_succ i AB;unfold Yo dR;rw[hw];cases M:jc l left left[i]with
   |false=>
    simp only[BX];refine I (m2-1) _ _ _ AB ⟨i+1,rfl,AB,rfl,?_⟩;have e:Ja l left ((left.take i).foldl (Ja l left) none) left[i]=(left.take i).foldl (Ja l left) none:=by unfold Ja;rw[M];rfl
    rw[hst,e];exact hI
   |true=>
    simp only[Bz];rcases hI with⟨rfl,Y⟩|⟨j,z,rfl,Y⟩
    ·rw[show decide ((-1:Int)<0)=true by decide];simp only[Bz];refine I (m2-1) _ _ _ AB ⟨i+1,rfl,AB,rfl,.inr ⟨i,J,rfl,?_⟩⟩;rw[hst,Y];unfold Ja;rw[M];rfl
    have q:j<(left.map (GN l)).length:=by rw[Dc];exact z
    rw[show decide ((j:Int)<0)=false by simp,Cx q,TV];simp only[BX,Ad]
    have e1:bG (GN l left[i]) (GN l left[j])=some (cO (GN l left[i]) (GN l left[j])):=by
     unfold bG cO;cases(GN l left[i]).I4 != (GN l left[j]).I4<;>rfl
    rw[e1];simp only[Ad];cases ha:cO (GN l left[i]) (GN l left[j])with
    |true=>
     simp only[Bz];refine I (m2-1) _ _ _ AB ⟨i+1,rfl,AB,rfl,.inr ⟨i,J,rfl,?_⟩⟩;rw[hst,Y];unfold Ja;rw[M];simp only[ha];rfl
    |false=>
     simp only[BX];refine I (m2-1) _ _ _ AB ⟨i+1,rfl,AB,rfl,.inr ⟨j,z,rfl,?_⟩⟩;rw[hst,Y];unfold Ja;rw[M];simp only[ha];rfl
  have hie:i=left.length:=AB
  subst hie;rw[show decide ((left.length:Int)<((left.map (GN l)).length:Int))=false by rw[Dc];exact Dy _];simp only[BX];rw[Gg]at hI;have u:Oi l (m+1) left=match Ue l left with |none=>[]|some b=>b::Oi l m (left.filter (· != b)):=rfl
  rcases hI with⟨rfl,Y⟩|⟨j,z,rfl,Y⟩
  ·rw[show decide ((-1:Int)<0)=true by decide];refine .ret ?_;have h1:Ue l left=none:=Y;rw[u,h1];simp
  have q:j<(left.map (GN l)).length:=by rw[Dc];exact z
  rw[show decide ((j:Int)<0)=false by simp,Cx q,TV];simp only[BX,Ad];have h1:Ue l left=some left[j]:=Y;rw[EC GZ];simp only[Ad];rw[rQ (Nat.le_of_lt q),wrap_succ j AB,Uj q];simp only[Ad];rw[EC (by rw[GK,L6,Dc];omega)];simp only[Ad]
  have e2:(left.map (GN l)).take j++(left.map (GN l)).drop (j+1)=(left.filter (· != left[j])).map (GN l):=by
   rw[←aWw (VQ hi) z,LP,aK,iC]
  rw[e2];have hwl:=aQy (VQ hi) (Ew z);rw[ih' (left.filter (· != left[j])) (c++[(GN l left[j]).ng]) AB (hi.sublist Qo) (fun x hx=>hk x ((Hy.1 hx).1)) Uh];refine .ret ?_;rw[u,h1,Jd];rfl
def alf (l:A8 AV) (ids:A8 Int) (hl:l.length<=1000) (hs:E9 l) (hi:ids.length<=100000):Sim l ids=some (Oi l (G8 l ids).length (G8 l ids)):=by
 have q:(G8 l ids).length<=l.length:=kY (dK l ids) fun x j=>(O1.1 j).2;unfold Sim;rw[afb l ids hl hs hi];simp only[Ad];unfold aX3;rw[aYh l hl _ (G8 l ids) [] Ap rfl (dK l ids) (fun x j=>(O1.1 j).2) VO (fuel_lt AB)];rfl
def acy (l:A8 AV) (left:A8 Int) (x:Int) (hl:l.length<=1000) (hs:E9 l) (j:left.length<=100000):aA7 l left x=some (jc l left x):=by
 unfold aA7;rw[aH2 l _ hl hs.akx Bh];simp only[Ad];have q:=eB l [x];unfold aPc;rw[Hz (chainOf l [x]) (fuel_lt AB) (fun y=>ER left y) false (some true)]
 ·unfold jc
  have e:(chainOf l [x]).any (fun y=>ER left y)=left.any fun y=>ER (chainOf l [x]) y:=by
   rw[Ph,Iu,Iu];simp only[LZ];exact⟨fun⟨y,a,b⟩=>⟨y,b,a⟩,fun⟨y,a,b⟩=>⟨y,b,a⟩⟩
  rw[e];cases left.any fun y=>ER (chainOf l [x]) y<;>rfl
 ·intro k i h;unfold aM5;rw[DR h,Vt _ _ AB];simp only[Ad]
 intro k;unfold aM5;rw[EF]
def aME {R A B C D:Type} {Q:R->Prop} {body:(A->B->C->D->AL R)->A->B->C->D->AL R} (I:Nat->A->B->C->D->Prop) (hs:∀m a b c d k,I m a b c d->(∀j a' q u z,j<m->I j a' q u z->eP (k a' q u z) Q)->eP (body k a b c d) Q):
 ∀n m a b c d,m<n->I m a b c d->eP (Ul body n a b c d) Q
 |0,m,_,_,_,_,h,_=>AB
 |n+1,m,a,b,c,d,h,hi=>hs m a b c d _ hi fun j a' q u z h' J=>aME I hs n j a' q u z AB J
def OL {l:A8 AV} {x:Int} (h:dQ l x=true):Ef l x=some (ev l x)/\(ev l x).Id=x:=by
 unfold dQ at h;obtain⟨e,j⟩:=SP.1 h;have :ev l x=e:=by unfold ev;rw[OE j]
 rw[this];exact⟨j,aV6 j⟩
def aaD (l:A8 AV) (x y:Int) (hl:l.length<=1000) (hs:E9 l) (j:dQ l x=true) (q:dQ l y=true) (u:y<x):aDB l (ev l x) (ev l y)=some (cO (GN l x) (GN l y)):=by
 obtain⟨z,I⟩:=OL j;obtain⟨J,L⟩:=OL q;unfold aDB;rw[aXI l _ hl hs (hs _ (NW z)).auth,aXI l _ hl hs (hs _ (NW J)).auth];simp only[Ad];unfold cO GN;simp only;cases uS l (ev l x) != uS l (ev l y)with
 |true=>rfl
 |false=>
  simp only[BX];rw[I,L];by_cases ht:(ev l x).Time=(ev l y).Time
  ·rw[ht];simp;omega
  have :((ev l x).Time != (ev l y).Time)=true:=aBl
  rw[this];rfl
def aiG (l:A8 AV) (hl:l.length<=1000) (hs:E9 l):∀(m:Nat) (left acc:A8 Int) (N:Nat),left.length=m->Inc left->(∀x∈left,dQ l x=true)->acc.length+left.length<=1000000->m<N->aU (Xt l) N left acc=some (acc++Oi l m left):=by
 intro m
 induction m with
 |zero=>
  intro left acc N hm hi U Z hN;obtain⟨N,rfl⟩:∃N',N=N'+1:=⟨N-1,AB⟩
  have :left=[]:=Hg hm;subst this;show Xt _ _ _ _=_;unfold Xt Oi;simp
 |succ m ih=>
  intro left acc N hm hi U Z hN;obtain⟨N,rfl⟩:∃N',N=N'+1:=⟨N-1,AB⟩
  have hll:=kY hi U;refine eP.eq ?_;show eP (Xt l (aU (Xt l) N) _ _) _;have ih':=fun M acc' h1 h2 h3 h4=>ih M acc' N h1 h2 h3 h4 AB;generalize aU (Xt l) N=K at ih';unfold Xt;rw[show decide ((left.length:Int)>0)=true by simp;omega];simp only[Bz];unfold aUc;refine aME (body:=aHY left l K) (fun Y a b c d=>∃i:Nat,b=i/\i+Y=left.length/\c=acc/\((a=false/\(left.take i).foldl (Ja l left) none=none)\/∃(j:Nat) (I:j<left.length),j<i/\a=true/\d=ev l left[j]/\(left.take i).foldl (Ja l left) none=some left[j])) ?_ Ap left.length false 0 acc DI (fuel_lt AB) ⟨0,rfl,AB,rfl,.inl ⟨rfl,rfl⟩⟩;rintro Y a b c d k ⟨i,rfl,hm2,rfl,hI⟩ J;unfold aHY;by_cases q:i<left.length
  ·rw[dec_lt q,Cx q];simp only[Bz,Ad];rw[Lc l _ AB];simp only[Ad];rw[acy l left _ hl hs AB];simp only[Ad]
   have hst:(left.take (i+1)).foldl (Ja l left) none=Ja l left ((left.take i).foldl (Ja l left) none) left[i]:=by
    rw[Ot q,Ve];rfl
   unfold a0f;rw[wrap_succ i AB];cases L:jc l left left[i]with
   |false=>
    simp only[BX,Ad];refine J (Y-1) _ _ _ _ AB ⟨i+1,rfl,AB,rfl,?_⟩;have e:Ja l left ((left.take i).foldl (Ja l left) none) left[i]=(left.take i).foldl (Ja l left) none:=by unfold Ja;rw[L];rfl
    rw[hst,e];rcases hI with u|⟨j,I,O,u⟩
    ·exact .inl u
    exact .inr ⟨j,I,AB,u⟩
   |true=>
    simp only[Bz];rcases hI with⟨rfl,u⟩|⟨j,I,O,rfl,rfl,u⟩
    ·simp only[JC,Bz,Ad];refine J (Y-1) _ _ _ _ AB ⟨i+1,rfl,AB,rfl,.inr ⟨i,q,AB,rfl,rfl,?_⟩⟩;rw[hst,u];unfold Ja;rw[L];rfl
    simp only[FB,BX];have hlt2:left[j]<left[i]:=KC.1 hi j i I q O;have e1:=aaD l left[i] left[j] hl hs (U _ (Ew q)) (U _ (Ew I)) hlt2;rw[show(He l left[i]).1=ev l left[i]from rfl,e1];simp only[Ad];cases ha:cO (GN l left[i]) (GN l left[j])with
    |true=>
     simp only[Bz];refine J (Y-1) _ _ _ _ AB ⟨i+1,rfl,AB,rfl,.inr ⟨i,q,AB,rfl,rfl,?_⟩⟩;rw[hst,u];unfold Ja;rw[L];simp only[ha];rfl
    |false=>
     simp only[BX];refine J (Y-1) _ _ _ _ AB ⟨i+1,rfl,AB,rfl,.inr ⟨j,I,AB,rfl,rfl,?_⟩⟩;rw[hst,u];unfold Ja;rw[L];simp only[ha];rfl
  have hie:i=left.length:=AB
  subst hie;rw[Dy];simp only[BX];rw[Gg]at hI;have z:Oi l (m+1) left=match Ue l left with |none=>[]|some b=>b::Oi l m (left.filter (· != b)):=rfl
  rcases hI with⟨rfl,u⟩|⟨j,I,O,rfl,rfl,u⟩
  ·refine .ret ?_;have h1:Ue l left=none:=u;rw[z,h1];simp
  simp only[FB,BX];have h1:Ue l left=some left[j]:=u;have hid:=(OL (U _ (Ew I))).2;rw[hid,EC GZ];simp only[Ad];rw[aBK _ _ AB Bh,aey hi];simp only[Ad];have hwl:=aQy (VQ hi) (Ew I);rw[ih' (left.filter (· != left[j])) (c++[left[j]]) AB (hi.sublist Qo) (fun x hx=>U x ((Hy.1 hx).1)) Uh];refine .ret ?_;rw[z,h1,Jd];rfl
def abv (l:A8 AV) (ids:A8 Int) (hl:l.length<=1000) (hs:E9 l) (hi:ids.length<=100000):aC4 l ids=some (Oi l (G8 l ids).length (G8 l ids)):=by
 have q:(G8 l ids).length<=l.length:=kY (dK l ids) fun x j=>(O1.1 j).2;unfold aC4;rw[aWI l ids hl hi];simp only[Ad];unfold aOe;rw[aiG l hl hs _ (G8 l ids) [] Ap rfl (dK l ids) (fun x j=>(O1.1 j).2) VO (fuel_lt AB)];rfl
def aRr (l:A8 AV):∀(n:Nat) (left:A8 Int) {x:Int},x∈Oi l n left->x∈left
 |0,_,_,h=>absurd h G5
 |n+1,left,x,h=>by
  unfold Oi at h;cases j:Ue l left with
  |none=>rw[j]at h;exact absurd h G5
  |some b=>
   rw[j]at h;rcases FK.1 h with rfl|h
   ·exact agd j
   exact(Hy.1 (aRr l n _ h)).1
def aX2 (l:A8 AV):∀(n:Nat) (left:A8 Int),(Oi l n left).length<=n
 |0,_=>EZ _
 |n+1,left=>by
  unfold Oi;cases Ue l left with
  |none=>exact Ea _
  |some b=>have :=aX2 l n (left.filter (· != b));simp only[HY];omega
def SL (l:A8 AV) (e:AV):Option Int:=e.bQ.find? fun id=>dQ l id&&(ev l id).Kind==3
def fQ (l:A8 AV) (e:AV):Int×AZ:=match SL l e with |some x=>(x,true)|none=>(0,false)
def aRY (l:A8 AV) (e:AV) (hl:l.length<=1000) (j:e.bQ.length<=40):xB l e=some (fQ l e):=by
 unfold xB aVZ;rw[Kv e.bQ (fuel_lt AB) (fun id=>dQ l id&&(ev l id).Kind==3) (fun i=>some (match e.bQ[i]? with |some x=>(x,true)|none=>(0,false))) (some (0,false))]
 ·unfold fQ SL;rw[LD];by_cases h:e.bQ.findIdx (fun id=>dQ l id&&(ev l id).Kind==3)<e.bQ.length
  ·rw[Di h]
  rw[Dp h,J5 AB]
 ·intro k i h;unfold aIY;rw[DR h,PY l _ AB,EL h];simp only[Ad];unfold dQ ev;rw[Pn];cases(Ef l e.bQ[i]).isSome<;>rfl
 intro k;unfold aIY;rw[EF]
def abP (l:A8 AV) (e:AV) (hl:l.length<=1000) (j:e.bQ.length<=40):aBU l e=some (fQ l e):=by
 unfold aBU aVf;rw[Kv e.bQ (fuel_lt AB) (fun id=>dQ l id&&(ev l id).Kind==3) (fun i=>some (match e.bQ[i]? with |some x=>(x,true)|none=>(0,false))) (some (0,false))]
 ·unfold fQ SL;rw[LD];by_cases h:e.bQ.findIdx (fun id=>dQ l id&&(ev l id).Kind==3)<e.bQ.length
  ·rw[Di h]
  rw[Dp h,J5 AB]
 ·intro k i h;unfold aI7;rw[DR h,Lc l _ AB,EL h,Cx h];simp only[Ad];unfold dQ ev;rw[Pn];cases(Ef l e.bQ[i]).isSome<;>rfl
 intro k;unfold aI7;rw[EF]
def Ou (l:A8 AV):Nat->A8 Int->Int->A8 Int
 |0,seen,_=>seen
 |n+1,seen,id=>bif ER seen id|| !dQ l id then seen else match SL l (ev l id)with
  |none=>seen++[id]
  |some x=>Ou l n (seen++[id]) x
def nE (l:A8 AV) (id:Int):A8 Int:=Ou l l.length [] id
structure VK (l:List AV) (seen:List Int):Prop where
 nodup:seen.Nodup
 known:∀x∈seen,dQ l x=true
def VK.length {l:A8 AV} {seen:A8 Int} (h:VK l seen):seen.length<=l.length:=by
 rw[←(UJ seen).length_eq,aPU h.nodup];exact kY (KW _) fun x j=>h.known x (KN.1 j)
def VK.snoc {l:A8 AV} {seen:A8 Int} (h:VK l seen) {id:Int} (q:id∉seen) (u:dQ l id=true):VK l (seen++[id]):=by
 refine⟨aCT.2 ⟨h.nodup,Bh,fun a ha b z=>?_⟩,fun x j=>?_⟩
 ·rw[Md.1 z];exact fun e=>q (e▸ha)
 rcases Iy.1 j with j|j
 ·exact h.known x j
 rw[Md.1 j];exact u
def aTY (l:A8 AV):∀(n:Nat) (seen:A8 Int) (id:Int),VK l seen->VK l (Ou l n seen id)
 |0,_,_,h=>h
 |n+1,seen,id,h=>by
  unfold Ou;cases j:ER seen id|| !dQ l id with
  |true=>exact h
  |false=>
   rw[ZA,P9]at j;have q:=h.snoc j.1 (by simpa using j.2);simp only[BX];cases SL l (ev l id)with
   |none=>exact q
   |some x=>exact aTY l n _ x q
def aWa (l:A8 AV):∀(n:Nat) (seen:A8 Int) (id:Int),∃t,Ou l n seen id=seen++t
 |0,seen,_=>⟨[],by simp[Ou]⟩
 |n+1,seen,id=>by
  unfold Ou;cases ER seen id|| !dQ l id with
  |true=>exact⟨[],Bh⟩
  |false=>
   simp only[BX];cases SL l (ev l id)with
   |none=>exact⟨[id],rfl⟩
   |some x=>
    obtain⟨t,ht⟩:=aWa l n (seen++[id]) x;exact⟨id::t,by simp only[ht,Jd];rfl⟩
def aTC (l:A8 AV) (id:Int):(nE l id).length<=l.length:=(aTY l _ [] id ⟨bY,fun x j=>absurd j G5⟩).length
def ads (l:A8 AV) (hl:l.length<=1000) (hs:E9 l) (Z v9:A8 Int):∀(m:Nat) (seen:A8 Int) (id:Int) (N:Nat),seen.length+m=l.length->VK l seen->m<N->FN Yq N seen seen Z v9 id l=some (Ou l m seen id):=by
 intro m
 induction m with
 |zero=>
  intro seen id N hm u hN;obtain⟨N,rfl⟩:∃N',N=N'+1:=⟨N-1,AB⟩
  have I:=u.length;show Yq _ _ _ _ _ _ _=_;unfold Yq;rw[wC _ _ AB,PY l _ AB];simp only[Ad];rw[Pn];cases J:ER seen id with
  |true=>rfl
  |false=>
   cases q:(Ef l id).isSome with
   |false=>rfl
   |true=>
    have L:=(u.snoc (P9.1 J) q).length;simp only[En,QO]at L;omega
 |succ m ih=>
  intro seen id N hm u hN;obtain⟨N,rfl⟩:∃N',N=N'+1:=⟨N-1,AB⟩
  have I:=u.length;show Yq (FN Yq N) _ _ _ _ _ _=_;have z:=fun j M h1 L=>ih j M N h1 L AB;generalize FN Yq N=K at z;unfold Yq Ou;rw[wC _ _ AB,PY l _ AB];simp only[Ad];rw[Pn];cases J:ER seen id with
  |true=>rfl
  |false=>
   cases q:(Ef l id).isSome with
   |false=>rw[show dQ l id=false from q];rfl
   |true=>
    obtain⟨e,Y⟩:=SP.1 q;rw[show dQ l id=true from q];simp only[JC,FB,ML,Bz,BX];rw[EC GZ];simp only[Ad];unfold aBx;simp only[BX];rw[EC GZ];simp only[Ad];have O:(He l id).1=ev l id:=rfl
    have U:(ev l id).bQ.length<=40:=by
     have :ev l id=e:=by unfold ev;rw[OE Y]
     rw[this];exact(hs e (NW Y)).auth
    rw[O,aRY l _ hl U];simp only[Ad];unfold fQ;cases SL l (ev l id)with
    |none=>rfl
    |some x=>exact z (seen++[id]) x Uh (u.snoc (P9.1 J) q)
def aZ2 (l:A8 AV) (id:Int) (hl:l.length<=1000) (hs:E9 l):a1w l id=some (nE l id):=by
 unfold a1w pz aXq;exact ads l hl hs [] [] l.length [] id Ap Bh ⟨bY,fun x j=>absurd j G5⟩ (fuel_lt AB)
def agZ (l:A8 AV) (hl:l.length<=1000) (hs:E9 l):∀(m:Nat) (seen:A8 Int) (id:Int) (i N:Nat),i+m=l.length->seen.length<=i->m<N->jf (YC l) N seen id (i:Int)=some (Ou l m seen id):=by
 intro m
 induction m with
 |zero=>
  intro seen id i N hm M O;obtain⟨N,rfl⟩:∃N',N=N'+1:=⟨N-1,AB⟩
  have :i=l.length:=AB
  subst this;show YC _ _ _ _ _=_;unfold YC;rw[Dy];rfl
 |succ m U=>
  intro seen id i N hm M O;obtain⟨N,rfl⟩:∃N',N=N'+1:=⟨N-1,AB⟩
  show YC _ (jf (YC l) N) _ _ _=_;have q:=fun j u Y Z h2=>U j u Y N Z h2 AB;generalize jf (YC l) N=K at q;unfold YC Ou;rw[dec_lt AB,Lc l _ AB,Vt _ _ AB];simp only[Bz,Ad];rw[Pn];cases z:(Ef l id).isSome with
  |false=>rw[show dQ l id=false from z];cases ER seen id<;>rfl
  |true=>
   rw[show dQ l id=true from z];cases hh:ER seen id with
   |true=>rfl
   |false=>
    obtain⟨e,L⟩:=SP.1 z;simp only[FB,ML,BX,Ad];rw[EC GZ];simp only[Ad];have I:(He l id).1=ev l id:=rfl
    have J:(ev l id).bQ.length<=40:=by
     have :ev l id=e:=by unfold ev;rw[OE L]
     rw[this];exact(hs e (NW L)).auth
    rw[I,abP l _ hl J,wrap_succ i AB];simp only[Ad];unfold fQ;cases SL l (ev l id)with
    |none=>rfl
    |some x=>exact q (seen++[id]) x (i+1) AB Uh
def aVh (l:A8 AV) (id:Int) (hl:l.length<=1000) (hs:E9 l):zO l id=some (nE l id):=by
 unfold zO aXG;exact agZ l hl hs l.length [] id 0 Ap Bh (EZ _) (fuel_lt AB)
def dF (j way:A8 Int):Int:=match way.find? (ER j)with |some x=>((j.findIdx (· ==x):Nat):Int)|none=>(j.length:Int)
def NT (l:A8 AV) (j:A8 Int) (id:Int):Int:=dF j (nE l id)
def acU (l:A8 AV) (j:A8 Int) (hl:l.length<=1000) (hs:E9 l) (hm:j.length<=100000):∀(m:Nat) (seen:A8 Int) (z id:Int) (N:Nat),seen.length+m=l.length->VK l seen->seen.find? (ER j)=none->m<N->FM Y7 N seen j z id l=some (dF j (Ou l m seen id)):=by
 have q:∀seen:A8 Int,seen.find? (ER j)=none->dF j seen=(j.length:Int):=fun seen h=>by unfold dF;rw[h]
 intro m
 induction m with
 |zero=>
  intro seen z id N hm Y M hN;obtain⟨N,rfl⟩:∃N',N=N'+1:=⟨N-1,AB⟩
  have hwl:=Y.length;show Y7 _ _ _ _ _ _=_;unfold Y7;rw[wC _ _ AB,PY l _ AB];simp only[Ad];rw[Pn];have he:dF j (Ou l 0 seen id)=(j.length:Int):=q seen M;rw[he];cases O:ER seen id with
  |true=>rfl
  |false=>
   cases U:(Ef l id).isSome with
   |false=>rfl
   |true=>
    have h2:=(Y.snoc (P9.1 O) U).length;simp only[En,QO]at h2;omega
 |succ m ih=>
  intro seen z id N hm Y M hN;obtain⟨N,rfl⟩:∃N',N=N'+1:=⟨N-1,AB⟩
  have hwl:=Y.length;show Y7 (FM Y7 N) _ _ _ _ _=_;have Z:=fun J z' id' h1 h2 h3=>ih J z' id' N h1 h2 h3 AB;generalize FM Y7 N=K at Z;unfold Y7 uK;rw[wC _ _ AB,PY l _ AB,aTb _ _ AB];simp only[Ad];rw[Pn];have L:Ou l (m+1) seen id=bif ER seen id|| !dQ l id then seen else match SL l (ev l id)with |none=>seen++[id]|some x=>Ou l m (seen++[id]) x:=rfl
  cases O:ER seen id with
  |true=>rw[L,O];simp only[Bool.true_or,Bz,FB,BX];rw[q seen M]
  |false=>
   cases U:(Ef l id).isSome with
   |false=>rw[L,O,show dQ l id=false from U];simp only[Nr,JC,Bz];rw[q seen M]
   |true=>
    obtain⟨e,he⟩:=SP.1 U;rw[L,O,show dQ l id=true from U];simp only[JC,FB,ML,Bz,BX];have u:=aPD j id;by_cases I:j.findIdx (· ==id)<j.length
    ·rw[Di I,show decide (((j.findIdx (· ==id):Nat):Int)>=0)=true by simp];simp only[Bz];rw[JG I]at u
     have hex:∃t,(match SL l (ev l id)with |none=>seen++[id]|some x=>Ou l m (seen++[id]) x)=seen++[id]++t:=by
      cases SL l (ev l id)with
      |none=>exact⟨[],Bh⟩
      |some x=>exact aWa l m (seen++[id]) x
     obtain⟨t,ht⟩:=hex;rw[ht];unfold dF;rw[Zt,Zt,M];simp[←u]
    rw[Dp I,show decide ((-1:Int)>=0)=false by decide];simp only[BX];rw[JK I]at u;rw[EC GZ];simp only[Ad];have hev:(He l id).1=ev l id:=rfl
    have hea:(ev l id).bQ.length<=40:=by
     have :ev l id=e:=by unfold ev;rw[OE he]
     rw[this];exact(hs e (NW he)).auth
    have hf2:(seen++[id]).find? (ER j)=none:=by rw[Zt,M];simp[←u]
    rw[hev,aRY l _ hl hea];simp only[Ad];unfold fQ;cases SL l (ev l id)with
    |none=>simp only[JC,Bz];rw[q _ hf2]
    |some x=>exact Z (seen++[id]) z x Uh (Y.snoc (P9.1 O) U) hf2
def abT (l:A8 AV) (j:A8 Int) (id:Int) (hl:l.length<=1000) (hs:E9 l) (hm:j.length<=100000):aCQ l j id=some (NT l j id):=by
 unfold aCQ pz aQG;exact acU l j hl hs hm l.length [] 0 id Ap Bh ⟨bY,fun x q=>absurd q G5⟩ rfl (fuel_lt AB)
def aZd (l:A8 Int) (x:Int) (h:l.length<=100000):aDJ l x=some ((l.findIdx (· ==x):Nat):Int):=by
 unfold aDJ aST;rw[Kv l (fuel_lt AB) (· ==x) (fun i=>some (i:Int)) (some (l.length:Int))]
 ·split
  ·rfl
  rename_i h;have :l.findIdx (· ==x)<=l.length:=tC;congr 2;omega
 ·intro k i hi;unfold aJ2;rw[DR hi]
 intro k;unfold aJ2;rw[EF]
def aXi (l:A8 AV) (j:A8 Int) (id:Int) (hl:l.length<=1000) (hs:E9 l) (hm:j.length<=100000):sK l j id=some (NT l j id):=by
 unfold sK;rw[aVh l id hl hs];simp only[Ad];have q:=aTC l id;unfold aQB NT dF;generalize nE l id=W at q;rw[Kv W (fuel_lt AB) (ER j) (fun i=>some (match W[i]? with |some x=>((j.findIdx (· ==x):Nat):Int)|none=>0)) (some (j.length:Int))]
 ·rw[LD];by_cases h:W.findIdx (ER j)<W.length
  ·rw[Di h,EL h]
  rw[Dp h,J5 AB]
 ·intro k i h;unfold aIU;rw[DR h,Vt _ _ AB,Cx h,EL h];simp only[Ad];rw[aZd _ _ hm];rfl
 intro k;unfold aIU;rw[EF]
def FH (l:A8 AV) (j:A8 Int) (id:Int):LJ:=⟨id,NT l j id,(ev l id).Time⟩
def uD (x:LJ):Int×Int×Int:=(x.ng,x.zH,x.BM)
def IV (x y:LJ):AZ:=Le (uD x) (uD y)
def VX (l:A8 AV) (j ids:A8 Int):A8 Int:=(MZ IV ((ids.filter (dQ l)).map (FH l j))).map (·.ng)
def aQR (l:A8 AV) (j:A8 Int):∀ids:A8 Int,ids.flatMap (fun id=>bif dQ l id then[FH l j id]else[])=(ids.filter (dQ l)).map (FH l j)
 | []=>rfl
 |i::ids=>by
  rw[OD,aQR l j ids,Rn];cases dQ l i<;>simp
def af8 (s:A8 LJ) (hs:s.length<=1000000) (z:(s.map (·.ng)).Nodup):kQ s=some s:=by
 unfold kQ;by_cases L:s.length<2
 ·rw[show decide ((s.length:Int)<2)=true by simp;omega];rfl
 rw[show decide ((s.length:Int)<2)=false by simp;omega];simp only[BX];unfold aSu;refine eP.eq ?_;refine Yr (body:=aFD) (fun m a b=>∃i:Nat,a=i/\i+m=s.length/\0<i/\b=s) ?_ Ap (s.length-1) 1 s (fuel_lt AB) ⟨1,rfl,AB,AB,rfl⟩;rintro m a b k ⟨i,rfl,hm,hi,rfl⟩ I;unfold aFD;by_cases j:i<b.length
 ·rw[dec_lt j,Cx j];simp only[Bz,Ad];have w:Aw ((i:Int)-1)=((i-1:Nat):Int):=YQ
  have q:i-1<b.length:=AB
  rw[w,Cx q];simp only[Ad]
  have u:b[i].ng≠b[i-1].ng:=by
   have :=KC.1 z (i-1) i WL WL AB;simp only[TV]at this;exact fun e=>this e.symm
  have J:xY b[i] b[i-1]=false:=by
   unfold xY;rw[show(b[i].ng==b[i-1].ng)=false by simpa using u];rfl
  rw[J,wrap_succ i AB];exact I (m-1) _ _ AB ⟨i+1,rfl,AB,AB,rfl⟩
 have :i=b.length:=AB
 subst this;rw[Dy];exact .ret rfl
def aN0 (l:A8 AV) (j:A8 Int) (ids:A8 Int):(ids.map (FH l j)).map (·.ng)=ids:=by
 rw[Yx];exact List.map_id' ids
def anX (l:A8 AV) (j ids:A8 Int) (hl:l.length<=1000) (hs:E9 l) (hm:j.length<=100000) (hi:ids.length<=100000) (L:ids.Nodup):a1d l j ids=some (VX l j ids):=by
 unfold a1d aQe;rw[IZ (a0:=[]) ids AB (fun r id=>r++bif dQ l id then[FH l j id]else[]) (fun i r=>r.length<=i) (fun M=>(a1c M).bind fun z=>(kQ z).bind fun I=>aKE I [] 0) (EZ _)]
 ·rw[foldl_append (fun id=>bif dQ l id then[FH l j id]else[]),Iq,aQR];have O:=Jr (dQ l) ids;have J:((ids.filter (dQ l)).map (FH l j)).length<=100000:=WL
  unfold a1c aBr;rw[Di AB];simp only[Ad];have e:(MZ (fun x y:LJ=>Le (x.ng,x.zH,x.BM) (y.ng,y.zH,y.BM)) ((ids.filter (dQ l)).map (FH l j)))=MZ IV ((ids.filter (dQ l)).map (FH l j)):=rfl;rw[e];unfold VX;have hp:=V4 IV ((ids.filter (dQ l)).map (FH l j))
  have q:((MZ IV ((ids.filter (dQ l)).map (FH l j))).map (·.ng)).Nodup:=by
   rw[(hp.map (·.ng)).nodup_iff,aN0];exact L.sublist Qo
  have u:(MZ IV ((ids.filter (dQ l)).map (FH l j))).length<=100000:=by rw[hp.length_eq];exact J
  generalize MZ IV ((ids.filter (dQ l)).map (FH l j))=S at q u;rw[af8 S AB q];simp only[Ad];unfold aKE;rw[IZ (a0:=[]) S AB (fun r x=>r++[x.ng]) (fun i r=>r.length<=i) (fun r=>some r) (EZ _)]
  ·rw[foldl_append (fun x:LJ=>[x.ng]),Iq];congr 1;clear q u
   induction S with
   |nil=>rfl
   |cons x S U=>rw[OD,U];rfl
  ·intro k r i h Y;refine⟨aB0,?_⟩;unfold aJH;rw[DR h,EC GZ];rfl
  intro k r _;unfold aJH;rw[EF]
 ·intro k r i h Y;refine⟨?_,?_⟩
  ·cases dQ l ids[i]<;>simp <;>omega
  unfold aKy aF4;rw[DR h,PY l _ AB];simp only[Ad];rw[Pn,abT l j _ hl hs hm];simp only[Ad];rw[EC GZ];unfold dQ;cases(Ef l ids[i]).isSome with
  |true=>rfl
  |false=>simp
 intro k r _;unfold aKy;rw[EF]
def alv (l:A8 AV) (j:A8 Int) (a b:Int) (hl:l.length<=1000) (hs:E9 l) (hm:j.length<=100000):aEV l j a b=some (!IV (FH l j b) (FH l j a)):=by
 unfold aEV;rw[aXi l j a hl hs hm,aXi l j b hl hs hm,Lc l a AB,Lc l b AB];simp only[Ad]
 have q:(!IV (FH l j b) (FH l j a))=decide (NT l j b<NT l j a\/NT l j a=NT l j b/\((ev l a).Time<(ev l b).Time\/(ev l a).Time=(ev l b).Time/\a<b)):=by
  rw[Ph,ND,I8];exact aOQ (uD (FH l j b)) (uD (FH l j a))
 rw[q];show(bif NT l j a != NT l j b then some (decide (NT l j a>NT l j b))else bif (ev l a).Time != (ev l b).Time then some (decide ((ev l a).Time<(ev l b).Time))else some (decide (a<b)))=_;by_cases u:NT l j a=NT l j b
 ·rw[show(NT l j a != NT l j b)=false by simp[u]];simp only[BX];by_cases z:(ev l a).Time=(ev l b).Time
  ·rw[show((ev l a).Time != (ev l b).Time)=false by simp[z]];simp only[BX];congr 1;rw[jU];constructor
   ·intro h;exact .inr ⟨u,.inr ⟨z,h⟩⟩
   rintro(h|⟨_,h|⟨_,h⟩⟩)
   ·omega
   ·omega
   exact h
  rw[show((ev l a).Time != (ev l b).Time)=true by simp[z]];simp only[Bz];congr 1;rw[jU];constructor
  ·intro h;exact .inr ⟨u,.inl h⟩
  rintro(h|⟨_,h|⟨h,_⟩⟩)
  ·omega
  ·exact h
  exact absurd h z
 rw[show(NT l j a != NT l j b)=true by simp[u]];simp only[Bz];congr 1;rw[jU];constructor
 ·intro h;exact .inl h
 rintro(h|⟨h,_⟩)
 ·exact h
 exact absurd h u
def aFs (x y z:LJ) (h:IV x y=true) (k:IV y z=true):IV x z=true:=aOA _ _ _ h k
def aTl (x y:LJ) (h:IV x y=false):IV y x=true:=aUH _ _ h
def ag3 (x y:LJ) (h:IV x y=true) (k:IV y x=true):x=y:=by
 have :=aVP _ _ h k;unfold uD at this;cases x;cases y;simp only[RV]at this;obtain⟨a,b,c⟩:=this;subst a b c;rfl
def YD (l:A8 AV) (j:A8 Int) (q:A8 Int) (x:Int):A8 Int:=q.take (q.findIdx fun a=>IV (FH l j x) (FH l j a))++x::q.drop (q.findIdx fun a=>IV (FH l j x) (FH l j a))
def aQs (l:A8 AV) (j q:A8 Int) (x:Int):(YD l j q x).Perm (x::q):=by
 unfold YD;refine aEi.trans ?_;rw[Rs]
def ab8 (l:A8 AV) (j q:A8 Int) (x:Int) (h:q.Pairwise fun a b=>IV (FH l j a) (FH l j b)=true):(YD l j q x).Pairwise fun a b=>IV (FH l j a) (FH l j b)=true:=by
 unfold YD
 have J:∀a∈q.take (q.findIdx fun a=>IV (FH l j x) (FH l j a)),IV (FH l j a) (FH l j x)=true:=by
  intro a ha;obtain⟨i,hi,rfl⟩:=I5 ha;have z:i<q.findIdx fun a=>IV (FH l j x) (FH l j a):=by simp at hi;omega
  have :=aJV z;rw[kP];exact aTl _ _ aMi
 have ha:∀d∈q.drop (q.findIdx fun a=>IV (FH l j x) (FH l j a)),IV (FH l j x) (FH l j d)=true:=by
  intro d hd;obtain⟨i,hi,rfl⟩:=I5 hd;rw[L6]at hi;have u:(q.findIdx fun a=>IV (FH l j x) (FH l j a))<q.length:=AB
  have L:=aAv (w:=u);rw[iO];rcases XP i with rfl|hp
  ·simpa using L
  exact aFs _ _ _ L (KC.1 h _ _ u AB AB)
 refine lM.2 ⟨h.sublist (aFv _ _),Pj.2 ⟨ha,h.sublist (aA1 _ _)⟩,fun a M b I=>?_⟩;rcases FK.1 I with rfl|I
 ·exact J a M
 exact aFs _ _ _ (J a M) (ha b I)
def Yw (l:A8 AV) (j:A8 Int) (q:A8 Int) (x:Int):A8 Int:=bif dQ l x then YD l j q x else q
def alM (l:A8 AV) (j ids:A8 Int):ids.foldl (Yw l j) []=VX l j ids:=by
 have key:∀(ids q:A8 Int),q.Pairwise (fun a b=>IV (FH l j a) (FH l j b)=true)->(ids.foldl (Yw l j) q).Pairwise (fun a b=>IV (FH l j a) (FH l j b)=true)/\(ids.foldl (Yw l j) q).Perm (ids.filter (dQ l)++q):=by
  intro ids
  induction ids with
  |nil=>intro q h;exact⟨h,.refl _⟩
  |cons x ids I=>
   intro q h;rw[Gt,Rn];unfold Yw;cases dQ l x with
   |false=>exact I q h
   |true=>
    obtain⟨z,u⟩:=I (YD l j q x) (ab8 l j q x h);refine⟨z,u.trans ?_⟩;simp only[Ku,aF];exact((aQs l j q x).append_left _).trans aEi
 obtain⟨z,u⟩:=key ids [] .nil;rw[PK]at u;unfold VX
 have J:(ids.foldl (Yw l j) []).map (FH l j)=MZ IV ((ids.filter (dQ l)).map (FH l j)):=
  aQO aFs aTl ag3 (u.map _) (cD.2 z)
 rw[←J,aN0]
def ae4 (l:A8 AV) (q ids:A8 Int) (hl:l.length<=1000) (hs:E9 l) (hm:q.length<=100000) (hi:ids.length<=100000) (O:ids.Nodup):a0I l q ids=some (VX l q ids):=by
 unfold a0I aQV;rw[IZ (a0:=[]) ids AB (Yw l q) (fun i r=>r.length<=i/\∀x∈r,x∈ids.take i) (fun r=>some r) ⟨EZ _,fun x J=>absurd J G5⟩]
 ·rw[alM]
 ·intro k r i h ⟨U,L⟩;have u:ids.take (i+1)=ids.take i++[ids[i]]:=Ot h
  have M:ER r ids[i]=false:=P9.2 fun hm=>by
   obtain⟨j,z,e⟩:=I5 (L _ hm);rw[kP]at e;rw[GK]at z;exact KC.1 O j i AB h AB e
  refine⟨?_,?_⟩
  ·unfold Yw;cases dQ l ids[i]with
   |false=>exact⟨by show r.length<=i+1;omega,fun x J=>by rw[u];exact iR _ (L x J)⟩
   |true=>
    have hp:=aQs l q r ids[i];refine⟨?_,fun x J=>?_⟩
    ·show(YD l q r ids[i]).length<=i+1;rw[hp.length_eq,HY];omega
    rw[u];rcases FK.1 (hp.mem_iff.1 J)with rfl|J
    ·exact aFd _ (Md.2 rfl)
    exact iR _ (L x J)
  unfold aHW vk;rw[DR h,Lc l _ AB,Cx h];simp only[Ad];rw[Vt _ _ AB,M,Pn];unfold Yw dQ;cases(Ef l ids[i]).isSome with
  |false=>rfl
  |true=>
   simp only[FB,BX,Ad,Bz];unfold aWn
   have I:∀(k2:Int->AL (A8 Int)) (j:Nat),j<=r.length->rD k2 (j:Int) r ids (i:Int) k false=k (r.take j++ids[i]::r.drop j) (Aw ((i:Int)+1)):=by
    intro k2 j z;unfold rD vk;simp only[BX];rw[Uj z];simp only[Ad];rw[EC EW];simp only[Ad,Iq];rw[rQ z,Cx h];simp only[Ad];rw[EC EW];simp only[Ad];rw[EC EW];simp
   rw[Kv r (fuel_lt AB) (fun a=>IV (FH l q ids[i]) (FH l q a)) (fun j=>k (r.take j++ids[i]::r.drop j) (Aw ((i:Int)+1))) (k (r.take r.length++ids[i]::r.drop r.length) (Aw ((i:Int)+1)))]
   ·unfold YD;split
    ·rfl
    rename_i Y
    have :(r.findIdx fun a=>IV (FH l q ids[i]) (FH l q a))=r.length:=by
     have :=tC (p:=fun a=>IV (FH l q ids[i]) (FH l q a)) (xs:=r);omega
    rw[this]
   ·intro k2 j z;unfold aJd;rw[dec_lt z,Cx z,Cx h];simp only[Bz,Ad];rw[alv l q _ _ hl hs hm];simp only[Ad];cases IV (FH l q ids[i]) (FH l q r[j])with
    |true=>simp only[FB,Bz];rw[I k2 j (Nat.le_of_lt z)]
    |false=>rfl
   intro k2;unfold aJd;rw[Dy];simp only[BX];rw[I k2 r.length (EZ _)]
 intro k r _;unfold aHW;rw[EF]
def acg {l:A8 AV} {j ids:A8 Int} {x:Int}:x∈VX l j ids↔x∈ids/\dQ l x=true:=by
 unfold VX;rw[((V4 IV ((ids.filter (dQ l)).map (FH l j))).map (·.ng)).mem_iff,aN0,Hy]
def ank (l:A8 AV) (j ids:A8 Int):(VX l j ids).length<=ids.length:=by
 unfold VX;rw[Dc,(V4 _ _).length_eq,Dc];exact Jr _ _
def LH (c:Int):AZ:=(decide (c>=97)&&(c<=122))||(decide (c>=48)&&(c<=57))
def aWX (c:Int):jW c=some (LH c):=by
 unfold jW LH;cases decide (c>=97)<;>cases decide (c<=122)<;>cases decide (c>=48)<;>cases decide (c<=57)<;>rfl
def aIO (c:Int):aC c=some (LH c):=by
 unfold aC LH;cases decide (c>=97)<;>cases decide (c<=122)<;>cases decide (c>=48)<;>cases decide (c<=57)<;>rfl
def Qg (l:A8 Int) (p:Int->AZ):AZ:=decide ((l.length:Int)>=1)&&((l.length:Int)<=32)&&l.all fun c=>LH c||p c
def isLocal (c:Int):AZ:=c==95||c==46||c==45||c==61
def VF (c:Int):AZ:=c==46||c==45
def Wv (l:A8 Int):AZ:=Qg l isLocal
def Yg (l:A8 Int):AZ:=Qg l VF&&LH (l.getD 0 0)&&LH (l.getD (l.length-1) 0)
def aH0 {n:Nat} (h:n<=9223372036854775807):n<Ap:=gV
def aSB {s:BD} (hs:s.size<=9223372036854775807) (f:Int->AL AZ) (p:Int->AZ) (j:∀c,f c=some (p c)):dI s f=some (Qg (CU s) p):=by
 have hl:aIw s f 0=some ((CU s).all fun c=>LH c||p c):=by
  unfold aIw;rw[Hz (CU s) Z5 (fun c=> !(LH c||p c)) false (some true) ?_ ?_,KO,s0]
  ·intro k i h;have h':i<s.size:=X0
   simp only[aL4,dec_lt h',Bz,VR h,aWX,j,Ad];cases LH (CU s)[i]<;>cases p (CU s)[i]<;>rfl
  intro k;simp only[aL4,Ij,Dy,BX]
 unfold dI Qg;rw[hl,Ij];have q:decide ((s.size:Int)>=1)= !decide ((s.size:Int)<1):=aO4
 have u:decide ((s.size:Int)<=32)= !decide ((s.size:Int)>32):=aHc
 rw[q,u];cases decide ((s.size:Int)<1)<;>cases decide ((s.size:Int)>32)<;>rfl
def aib {s:BD} (hs:s.size<=9223372036854775807):dI s (fun a0=>qx a0)=some (Qg (CU s) isLocal):=aSB hs _ isLocal (fun c=>by unfold qx isLocal;cases c==95<;>cases c==46<;>cases c==45<;>cases c==61<;>rfl)
def aco {s:BD} (hs:s.size<=9223372036854775807):dI s (fun a0=>xg a0)=some (Qg (CU s) VF):=aSB hs _ VF (fun c=>by unfold xg VF;cases c==46<;>cases c==45<;>rfl)
def agE {s:BD} (hs:s.size<=9223372036854775807):aEj s=some (Wv (CU s)):=by
 unfold aEj Wv;rw[aib hs];rfl
def a09 {s:BD} (h:0<s.size):IL s 0=some ((CU s).getD 0 0):=by
 have h':0<(CU s).length:=aAC
 rw[alQ h'];simp[List.getD,h']
def aWZ {s:BD} (h:0<s.size) (hs:s.size<=9223372036854775807):IL s (Aw ((s.size:Int)-1))=some ((CU s).getD ((CU s).length-1) 0):=by
 have h':s.size-1<(CU s).length:=by rw[Ij];omega
 rw[O8 AB AB,show(s.size:Int)-1=((s.size-1:Nat):Int) by omega,VR h'];have j:(CU s).length-1=s.size-1:=by rw[Ij]
 rw[j];simp[List.getD,h']
def aXY {l:A8 Int} {p:Int->AZ} (h:Qg l p=true):0<l.length/\l.length<=32:=by
 unfold Qg at h;simp only[Du,I8]at h;omega
def abx {s:BD} (hs:s.size<=9223372036854775807):aEK s=some (Yg (CU s)):=by
 unfold aEK Yg;rw[aco hs];simp only[Ad];cases j:Qg (CU s) VF with
 |false=>rfl
 |true=>
  have hp:0<s.size:=by have :=(aXY j).1;rwa [Ij]at this
  simp only[Bz,a09 hp,aWZ hp hs,aWX,Ad];cases LH ((CU s).getD 0 0)<;>simp
def anN {s:BD} (hs:s.size<=9223372036854775807):aFJ s=some (bif Yg (CU s)then 0 else 3):=by
 have hl:aIq s 0=some (bif (CU s).all fun c=>LH c||VF c then 0 else 3):=by
  unfold aIq;rw[Hz (CU s) Z5 (fun c=> !(LH c||VF c)) 3 (some 0) ?_ ?_,KO,←s0]
  ·cases((CU s).any fun c=> !(LH c||VF c))<;>rfl
  ·intro k i h;have h':i<s.size:=X0
   simp only[aNX,dec_lt h',Bz,VR h,aIO,Ad,VF,bne];cases LH (CU s)[i]<;>cases(CU s)[i]==46<;>cases(CU s)[i]==45<;>rfl
  intro k;simp only[aNX,Ij,Dy,BX]
 have j:decide ((s.size:Int)>=1)= !decide ((s.size:Int)<1):=aO4
 have q:decide ((s.size:Int)<=32)= !decide ((s.size:Int)>32):=aHc
 unfold aFJ Yg Qg;rw[hl];rw[show((CU s).length:Int)=(s.size:Int) by rw[Ij],j,q];by_cases u:(s.size:Int)<1
 ·simp[u]
 have hp:0<s.size:=AB
 simp only[a09 hp,aWZ hp hs,aIO,Ad];cases decide ((s.size:Int)<1)<;>cases decide ((s.size:Int)>32)<;>cases LH ((CU s).getD 0 0)<;>cases LH ((CU s).getD ((CU s).length-1) 0)<;>cases((CU s).all fun c=>LH c||VF c)<;>rfl
def afw {s:BD} (hs:s.size<=9223372036854775807):aEG s=some (Wv (CU s)):=by
 unfold aEG aX7;rw[Hz (CU s) Z5 (fun c=> !(LH c||isLocal c)) false (some (decide ((s.size:Int)>=1)&&((s.size:Int)<=32))) ?_ ?_]
 ·unfold Wv Qg;rw[←s0,Ij];cases((CU s).any fun c=> !(LH c||isLocal c))<;>cases decide ((s.size:Int)>=1)<;>cases decide ((s.size:Int)<=32)<;>rfl
 ·intro k i h;have h':i<s.size:=X0
  simp only[aLo,dec_lt h',Bz,VR h,aIO,Ad,isLocal,bne];cases LH (CU s)[i]<;>cases(CU s)[i]==95<;>cases(CU s)[i]==46<;>cases(CU s)[i]==45<;>cases(CU s)[i]==61<;>rfl
 intro k;simp only[aLo,Ij,Dy,BX];cases decide ((s.size:Int)>=1)<;>cases decide ((s.size:Int)<=32)<;>rfl
def aPF (s:BD):(CU s).length=s.data.toList.length:=by simp[CU]
def Gf (s:BD):Nat:=(CU s).findIdx (· ==58)
def aIx (s:BD):Gf s<=s.size:=by unfold Gf;rw[←Ij];exact tC
def aWx {s:BD} (hs:s.size<=9223372036854775807):uH s=some (Gf s:Int):=by
 unfold uH aS6;rw[Kv (CU s) Z5 (· ==58) (fun i=>some (i:Int)) (some (s.size:Int)) ?_ ?_]
 ·have :=aIx s;by_cases h:(CU s).findIdx (· ==58)<(CU s).length
  ·rw[Di h];rfl
  rw[Dp h];congr 2;unfold Gf at this ⊢;rw[Ij]at h;omega
 ·intro k i h;have h':i<s.size:=X0
  simp only[aGr,dec_lt h',Bz,VR h,Ad,bne];cases(CU s)[i]==58<;>rfl
 intro k;simp only[aGr,Ij,Dy,BX,Ad]
def Vh (s:BD):BD:=s.extract 1 (Gf s)
def QC (s:BD):BD:=s.extract (Gf s+1) s.size
def UH (s:BD):AZ:=decide (Gf s<s.size)&&Wv (CU (Vh s))&&Yg (CU (QC s))
def Ht (s:BD) (m:Int):AZ:=decide (0<s.size)&&(CU s).getD 0 0==m&&UH s
def extract_size (s:BD) (a b:Nat):(s.extract a b).size<=s.size:=by rw[aC1];omega
def aSA {s:BD} (h:0<s.size) (hm:(CU s).getD 0 0≠58):1<=Gf s:=by
 unfold Gf;have hl:0<(CU s).length:=aAC
 match j:CU s with
 | []=>rw[j]at hl;simp at hl
 |c::l=>
  rw[j]at hm;simp only[List.getD_cons_zero]at hm;rw[Tj,show(c==58)=false from by simpa using hm];simp
def a1C {s:BD} (hs:s.size<=9223372036854775807) {m:Int} (hm:m≠58):aN s m=some (Ht s m):=by
 unfold aN Ht;by_cases j:0<s.size
 ·rw[show decide ((s.size:Int)<1)=false from by simp;omega,show decide (0<s.size)=true by simpa using j];simp only[BX,a09 j,Ad,bne];cases z:(CU s).getD 0 0==m with
  |false=>rfl
  |true=>
   have u:(CU s).getD 0 0=m:=N8
   have I:=aSA j (by rw[u];exact hm);have J:=aIx s;simp only[FB,BX,aWx hs,Ad,Gw];unfold UH;by_cases q:Gf s<s.size
   ·have L:OM s 1 (Gf s:Int)=some (Vh s):=lU (lo:=1) I J
    have M:OM s (Aw ((Gf s:Int)+1)) (s.size:Int)=some (QC s):=by
     rw[O8 AB AB,show(Gf s:Int)+1=((Gf s+1:Nat):Int) by omega];exact lU AB (EZ _)
    rw[show decide ((Gf s:Int)<(s.size:Int))=true from by simpa using q,show decide (Gf s<s.size)=true by simpa using q];have O:(Vh s).size<=9223372036854775807:=FC (extract_size _ _ _) hs;have U:(QC s).size<=9223372036854775807:=FC (extract_size _ _ _) hs;simp only[Bz,L,M,afw O,anN U,Ad];cases Wv (CU (Vh s))<;>cases Yg (CU (QC s))<;>rfl
   rw[show decide ((Gf s:Int)<(s.size:Int))=false from by simpa using q,show decide (Gf s<s.size)=false by simpa using q];rfl
 rw[show decide ((s.size:Int)<1)=true from by simp;omega,show decide (0<s.size)=false by simpa using j];rfl
def splitB (s:BD) (b:AZ):BD×BD×AZ:=bif b then(Vh s,QC s,true)else(CS,CS,false)
def afG (b c:UInt8):(b==c)=(((b.toNat:Nat):Int)==((c.toNat:Nat):Int)):=by
 by_cases h:b=c
 ·subst h;simp
 have :¬b.toNat=c.toNat:=fun e=>h (UInt8.toNat_inj.1 e);have j:(b==c)=false:=KY
 rw[j];symm;simp;omega
def aYC (s:BD) (c:UInt8):s.data.toList.findIdx (· ==c)=(CU s).findIdx (· ==((c.toNat:Nat):Int)):=by
 unfold CU;rw[List.findIdx_map];congr 1;funext b;exact afG b c
def akC (s:BD):∀x∈CU s,0<=x/\x<256:=by
 intro x j;unfold CU at j;rw[Fh]at j;obtain⟨c,_,rfl⟩:=j;have :=c.toNat_lt;omega
def getD_mem {s:BD} (h:0<s.size):(CU s).getD 0 0∈CU s:=by
 have hl:0<(CU s).length:=aAC
 have e:(CU s).getD 0 0=(CU s)[0]:=by simp[List.getD,hl]
 rw[e];exact Ew hl
def ano (marks:BD) {c:Int} (u:0<=c) (z:c<256):decide (Lib.indexByte marks.data.toList c.toNat.toUInt8<0)= !(CU marks).contains c:=by
 have e:(((c.toNat.toUInt8).toNat:Nat):Int)=c:=by
  rw[Nat.toUInt8,UInt8.toNat_ofNat'];omega
 rw[aJz,aYC,e,←aPF marks];by_cases hm:c∈CU marks
 ·have j:(CU marks).findIdx (· ==c)<(CU marks).length:=List.findIdx_lt_length_of_exists ⟨c,hm,Bh⟩;rw[Di j,show(CU marks).contains c=true by simpa using hm];simp
 have q:¬(CU marks).findIdx (· ==c)<(CU marks).length:=fun h=>by
  have :=aAv (w:=h);simp only[PU]at this;exact hm (this▸Ew h)
 rw[Dp q,show(CU marks).contains c=false by simpa using hm];rfl
def aPH (s:BD) (a b:Nat):(s.extract 1 s.size).extract a b=s.extract (1+a) (min (1+b) s.size):=by
 refine bytes_inj ?_;simp only[aOR];have :(CU s).take s.size=CU s:=Qj (by rw[Ij];omega);rw[this,List.take_drop,aKM];congr 1;have :min (1+b) s.size=min (1+b) (CU s).length:=by rw[Ij]
 rw[this,List.take_eq_take_min]
def aZm {s:BD} (h:0<s.size) (hm:(CU s).getD 0 0≠58):(CU (s.extract 1 s.size)).findIdx (· ==58)+1=Gf s:=by
 unfold Gf;rw[aOR];have :(CU s).take s.size=CU s:=Qj (by rw[Ij];omega);rw[this];have hl:0<(CU s).length:=aAC
 match j:CU s with
 | []=>rw[j]at hl;simp at hl
 |c::l=>
  rw[j]at hm;simp only[List.getD_cons_zero]at hm;rw[Tj,show(c==58)=false from by simpa using hm];rfl
def alz {s:BD} (hs:s.size<=9223372036854775807) (h:0<s.size) (hm:(CU s).getD 0 0≠58):∃a b,strings_Cut (s.extract 1 s.size) gI=some (a,b,decide (Gf s<s.size))/\(Gf s<s.size->a=Vh s/\b=QC s):=by
 have J:=aSA h hm;have L:=aIx s;have M:=aZm h hm;have q:(s.extract 1 s.size).size=s.size-1:=by rw[aC1];omega
 have u:a0Q (s.extract 1 s.size) gI=some (if Gf s<s.size then((Gf s-1:Nat):Int)else -1):=by
  show some (Lib.indexByte (s.extract 1 s.size).data.toList 58)=_;rw[aJz,aYC,←aPF (s.extract 1 s.size)];show some (if(CU (s.extract 1 s.size)).findIdx (· ==58)<_ then(((CU (s.extract 1 s.size)).findIdx (· ==58):Nat):Int)else -1)=_;rw[Ij,q];have e:(CU (s.extract 1 s.size)).findIdx (· ==58)=Gf s-1:=AB
  rw[e];congr 1;by_cases j:Gf s<s.size
  ·rw[Di j,Di AB]
  rw[Dp j,Dp AB]
 unfold strings_Cut aOD;rw[u,Ad];by_cases j:Gf s<s.size
 ·rw[Di j,show decide (((Gf s-1:Nat):Int)>=0)=true from by simp,show decide (Gf s<s.size)=true by simpa using j];have z:OM (s.extract 1 s.size) 0 ((Gf s-1:Nat):Int)=some ((s.extract 1 s.size).extract 0 (Gf s-1)):=lU (lo:=0) AB AB
  have I:OM (s.extract 1 s.size) (Aw (((Gf s-1:Nat):Int)+(gI.size:Int))) ((s.extract 1 s.size).size:Int)=some ((s.extract 1 s.size).extract (Gf s) (s.size-1)):=by
   rw[show(gI.size:Int)=1 from rfl,O8 AB AB,show((Gf s-1:Nat):Int)+1=((Gf s:Nat):Int) by omega,q];exact lU AB AB
  simp only[Bz,z,I,Ad];refine⟨_,_,rfl,fun _=>⟨?_,?_⟩⟩
  ·rw[aPH];unfold Vh;congr 1;omega
  rw[aPH];unfold QC;rw[YE 1 (Gf s)];congr 1;omega
 rw[Dp j,show decide ((-1:Int)>=0)=false from rfl,show decide (Gf s<s.size)=false by simpa using j];exact⟨_,_,rfl,fun h=>absurd h j⟩
def aIR {s:BD} (hs:s.size<=9223372036854775807) {marks:BD} (u:∀m∈CU marks,m≠58):jR s marks=some (splitB s ((CU marks).any fun m=>Ht s m)):=by
 unfold jR;by_cases q:0<s.size
 ·have z:(s.toList==CS.toList)=false:=by
   rw[Ir];simp only[Qv];intro e;rw[e]at q;exact absurd q Bj
  have I:=akC s _ (getD_mem q)
  have j:((CU marks).any fun m=>Ht s m)=((CU marks).contains ((CU s).getD 0 0)&&UH s):=by
   unfold Ht;rw[show decide (0<s.size)=true by simpa using q]
   induction CU marks with
   |nil=>rfl
   |cons m l J=>rw[Zm,J,List.contains_cons];cases(CU s).getD 0 0==m<;>cases UH s<;>simp
  rw[z,j];simp only[BX,a09 q,Ad,strings_IndexByte,ano marks I.1 I.2];cases L:(CU marks).contains ((CU s).getD 0 0)with
  |false=>rfl
  |true=>
   have hm:(CU s).getD 0 0≠58:=u _ YM;obtain⟨a,b,M,O⟩:=alz hs q hm;have U:OM s 1 (s.size:Int)=some (s.extract 1 s.size):=lU (lo:=1) AB (EZ _);simp only[FB,BX,U,M,Ad,Gw];unfold UH;cases Y:decide (Gf s<s.size)with
   |false=>rfl
   |true=>
    obtain⟨rfl,rfl⟩:=O (SG Y);have Z:(Vh s).size<=9223372036854775807:=FC (extract_size _ _ _) hs;have g2:(QC s).size<=9223372036854775807:=FC (extract_size _ _ _) hs;simp only[FB,BX,agE Z,abx g2,Ad];cases Wv (CU (Vh s))<;>cases Yg (CU (QC s))<;>rfl
 have hz:s.size=0:=AB
 have he:s=CS:=bytes_inj (by
  have h1:CU s=[]:=Hg (by rw[Ij];exact hz)
  rw[h1];rfl)
 have j:((CU marks).any fun m=>Ht s m)=false:=by
  rw[List.any_eq_false];intro m _;unfold Ht;rw[show decide (0<s.size)=false by simpa using q];simp
 rw[j,he,show(CS.toList==CS.toList)=true from by simp];rfl
def Jt (s:BD):AZ:=Ht s 64||(Ht s 33||false)
def ahy {s:BD} (hs:s.size<=9223372036854775807):jR s zW=some (splitB s (Jt s)):=
 aIR hs (marks:=zW) (by rw[show CU zW=[64,33]from rfl];intro m hm;simp only[FK,G5,iY]at hm;omega)
def aYX {s:BD} (h:UH s=true):Gf s<s.size:=by unfold UH at h;simp only[Du,I8]at h;exact h.1.1
def Xj {s:BD} (hs:s.size<=9223372036854775807):eK s=some (splitB s (Jt s)).2.1/\fJ s=some (splitB s (Jt s)).2.1:=by
 have z:Gf s<s.size->OM s (Aw ((Gf s:Int)+1)) (s.size:Int)=some (QC s):=fun I=>by
  rw[O8 AB AB,show(Gf s:Int)+1=((Gf s+1:Nat):Int) by omega];exact lU AB (EZ _)
 unfold eK fJ;rw[ahy hs,a1C hs Bj,a1C hs Bj,aWx hs];refine⟨rfl,?_⟩;unfold Jt;cases j:Ht s 64 with
 |true=>
  have u:=aYX (s:=s) (by unfold Ht at j;simp only[Du]at j;exact j.2);simp only[Ad,FB,BX,z u,Bool.true_or];rfl
 |false=>
  cases q:Ht s 33 with
  |true=>
   have u:=aYX (s:=s) (by unfold Ht at q;simp only[Du]at q;exact q.2);simp only[Ad,FB,JC,BX,Bz,z u,Nr,Bool.true_or];rfl
  |false=>rfl
def aNM {R A α:Type} {body:(Int->A->AL R)->Int->A->AL R} (l:A8 α) (hl:l.length<Ap) (p:α->AZ) (g:Nat->AL R) (rest:AL R) (a0:A)
 (u:∀k (i:Nat) (h:i<l.length),body k (i:Int) a0=bif p l[i]then g i else k (Aw ((i:Int)+1)) a0) (z:∀k,body k (l.length:Int) a0=rest):
 aU body Ap 0 a0=if l.findIdx p<l.length then g (l.findIdx p)else rest:=by
 have J:Ap=9223372036854775808:=rfl
 have key:∀n (i:Nat),i+n=l.length->∀m,n<m->aU body m (i:Int) a0=if(l.drop i).findIdx p+i<l.length then g ((l.drop i).findIdx p+i)else rest:=by
  intro n
  induction n with
  |zero=>
   intro i hi m hm;obtain⟨m,rfl⟩:∃q,m=q+1:=⟨m-1,AB⟩
   have :i=l.length:=AB
   subst this;show body (aU body m) _ _=_;rw[z,PZ,Dp Bh]
  |succ n I=>
   intro i hi m hm;obtain⟨m,rfl⟩:∃q,m=q+1:=⟨m-1,AB⟩
   have j:i<l.length:=AB
   show body (aU body m) _ _=_;rw[u _ i j,wrap_succ i AB,I (i+1) AB m AB,Lh j,Tj];cases p l[i]with
   |true=>simp only[Bz,Kz];rw[Di j]
   |false=>
    simp only[BX];rw[show(l.drop (i+1)).findIdx p+(i+1)=(l.drop (i+1)).findIdx p+1+i by omega]
 have :=key l.length 0 AB Ap hl;simpa using this
def Ky (l:A8 AV):AV×AZ:=match l.find? fun x=>x.Kind==1 with |some x=>(x,true)|none=>(DI,false)
def aMx (l:A8 AV) (p:AV->AZ):(if l.findIdx p<l.length then(some (match l[l.findIdx p]? with |some x=>(x,true)|none=>(DI,false)))else some (DI,false))=some (match l.find? p with |some x=>(x,true)|none=>(DI,false)):=by
 rw[LD];by_cases h:l.findIdx p<l.length
 ·rw[Di h]
 rw[Dp h,J5 AB]
def aWN (l:A8 AV) (hl:l.length<=1000):oV l=some (Ky l):=by
 unfold oV aOx;rw[aNM l (fuel_lt AB) (fun x=>x.Kind==1) (fun i=>some (match l[i]? with |some x=>(x,true)|none=>(DI,false))) (some (DI,false))]
 ·exact aMx l _
 ·intro k i h;unfold aJe;rw[DR h,EL h]
 intro k;unfold aJe;rw[EF]
def aRo (l:A8 AV) (hl:l.length<=1000):yQ l=some (Ky l):=by
 unfold yQ aOT;rw[aNM l (fuel_lt AB) (fun x=>x.Kind==1) (fun i=>some (match l[i]? with |some x=>(x,true)|none=>(DI,false))) (some (DI,false))]
 ·exact aMx l _
 ·intro k i h;unfold aJY;rw[DR h,Cx h,EL h];rfl
 intro k;unfold aJY;rw[EF]
def QV (u:BD) (x:AV):AZ:=x.Kind==2&&(x.Key=u)
def MQ (l:A8 AV) (u:BD):Int:=match l.find? (QV u)with |some x=>x.Content.N|none=>0
def aBh (u:BD) (x:AV):(bif (x.Kind==2)then some (x.Key.toList==u.toList)else some false)=some (QV u x):=by
 unfold QV;rw[Ir];cases x.Kind==2<;>rfl
def aJh (l:A8 AV) (u:BD) (hl:l.length<=1000):gQ l u=some (MQ l u):=by
 unfold gQ aV5 MQ;rw[Kv l (fuel_lt AB) (QV u) (fun i=>some (match l[i]? with |some x=>x.Content.N|none=>0)) (some 0)]
 ·rw[LD];by_cases h:l.findIdx (QV u)<l.length
  ·rw[Di h]
  rw[Dp h,J5 AB]
 ·intro k i h;unfold aJl;rw[DR h,Cx h,EL h];simp only[Ad];rw[aBh];rfl
 intro k;unfold aJl;rw[EF]
def aH8 (l:A8 AV) (u:BD) (hl:l.length<=1000):lS l u=some (MQ l u):=by
 unfold lS aYa MQ;rw[Kv l (fuel_lt AB) (QV u) (fun i=>some (match l[i]? with |some x=>x.Content.N|none=>0)) (some 0)]
 ·rw[LD];by_cases h:l.findIdx (QV u)<l.length
  ·rw[Di h]
  rw[Dp h,J5 AB]
 ·intro k i h;unfold aLc;rw[DR h,Cx h,EL h];simp only[Ad];rw[aBh];rfl
 intro k;unfold aLc;rw[EF]
def lC (e:AV) (l:A8 AV):AZ:=
 (Ky l).2&&(e.bI.length==1&&(e.bI.getD 0 0==(Ky l).1.Id&&(decide (e.bF=(Ky l).1.bF)&&(decide (e.Key=(Ky l).1.bF)&&(e.Content.N==3&& !l.any (QV e.Key))))))
def amE (e:AV) (l:A8 AV) (hl:l.length<=1000):aEN e l=some (lC e l):=by
 have z:aNm l e 0=some (!l.any (QV e.Key)):=by
  unfold aNm;rw[Hz l (fuel_lt AB) (QV e.Key) false (some true)]
  ·cases l.any (QV e.Key)<;>rfl
  ·intro k i h;unfold aLn;rw[DR h,aBh];rfl
  intro k;unfold aLn;rw[EF]
 unfold aEN lC Yp;rw[aWN l hl];simp only[Ad];rw[z,Ir,Ir];cases(Ky l).2 with
 |false=>rfl
 |true=>
  by_cases hp:e.bI.length=1
  ·have u:0<e.bI.length:=AB
   have j:((e.bI.length:Int) != 1)=false:=by rw[hp];rfl
   have q:(e.bI.length==1)=true:=aCS
   have I:Ak e.bI 0=some (e.bI.getD 0 0):=by
    have :Ak e.bI ((0:Nat):Int)=some e.bI[0]:=Cx u;rw[show((0:Nat):Int)=0 from rfl]at this;rw[this];simp[List.getD,u]
   rw[j,q,I];simp only[Ad,bne];cases e.bI.getD 0 0==(Ky l).1.Id<;>cases decide (e.bF=(Ky l).1.bF)<;>cases decide (e.Key=(Ky l).1.bF)<;>cases e.Content.N==3<;>rfl
  have j:((e.bI.length:Int) != 1)=true:=EW
  have q:(e.bI.length==1)=false:=aCS
  rw[j,q];rfl
def al8 (e:AV) (l:A8 AV) (hl:l.length<=1000):aCV e l=some (lC e l):=by
 have z:aA8 l e.Key=some (l.any (QV e.Key)):=by
  unfold aA8 aVn;rw[Hz l (fuel_lt AB) (QV e.Key) true (some false)]
  ·cases l.any (QV e.Key)<;>rfl
  ·intro k i h;unfold aN3;rw[DR h,Cx h];simp only[Ad];rw[aBh];rfl
  intro k;unfold aN3;rw[EF]
 unfold aCV lC Wn;rw[aRo l hl];simp only[Ad];rw[z,Ir,Ir];cases(Ky l).2 with
 |false=>rfl
 |true=>
  by_cases hp:e.bI.length=1
  ·have u:0<e.bI.length:=AB
   have j:((e.bI.length:Int)==1)=true:=by rw[hp];rfl
   have q:(e.bI.length==1)=true:=aCS
   have I:Ak e.bI 0=some (e.bI.getD 0 0):=by
    have :Ak e.bI ((0:Nat):Int)=some e.bI[0]:=Cx u;rw[show((0:Nat):Int)=0 from rfl]at this;rw[this];simp[List.getD,u]
   rw[j,q,I];simp only[Ad];cases e.bI.getD 0 0==(Ky l).1.Id<;>cases decide (e.bF=(Ky l).1.bF)<;>cases decide (e.Key=(Ky l).1.bF)<;>cases e.Content.N==3<;>rfl
  have j:((e.bI.length:Int)==1)=false:=EW
  have q:(e.bI.length==1)=false:=aCS
  rw[j,q];rfl
def moveB (f t:Int) (s:AZ):AZ:=
 bif decide (f<0)||decide (f>4)then false else bif t==3 then s&&f != 4 else bif t==0 then f==1||f==2||f==3||(f==4&& !s)else bif t==2 then s&&(f==0||f==2)else bif t==1 then !s&&(f==0||f==2||f==1)else bif t==4 then !s else false
def aW7 (f t:Int) (s:AZ):WR f t s=some (moveB f t s):=by
 unfold WR moveB;simp only[KO,Ad,dW,Tv]
def acE (f t:Int) (s:AZ):Zq f t s=some (moveB f t s):=by
 rw[←aW7];by_cases j:f<0
 ·unfold Zq WR;rw[JG j];rfl
 by_cases q:f>4
 ·unfold Zq WR;rw[JG q];cases decide (f<0)<;>rfl
 by_cases u:t<0
 ·unfold Zq WR;rw[JG u,JK j,JK q,show(t==3)=false by simp;omega,show(t==0)=false by simp;omega,show(t==2)=false by simp;omega,show(t==1)=false by simp;omega,show(t==4)=false by simp;omega];rfl
 by_cases z:t>4
 ·unfold Zq WR;rw[JG z,JK u,JK j,JK q,show(t==3)=false by simp;omega,show(t==0)=false by simp;omega,show(t==2)=false by simp;omega,show(t==1)=false by simp;omega,show(t==4)=false by simp;omega];rfl
 have I:f=0\/f=1\/f=2\/f=3\/f=4:=AB
 have ht:t=0\/t=1\/t=2\/t=3\/t=4:=AB
 rcases I with rfl|rfl|rfl|rfl|rfl<;>rcases ht with rfl|rfl|rfl|rfl|rfl<;>cases s<;>decide
def lZ (l:A8 AV):Int×A8 BD:=match l.find? fun x=>x.Kind==4 with |some x=>(x.Content.N,x.Content.Allow)|none=>(0,[])
def anE (l:A8 AV) (hl:l.length<=1000) (hs:E9 l):aFh l=some (lZ l):=by
 unfold aFh aQu lZ;rw[Kv l (fuel_lt AB) (fun x=>x.Kind==4) (fun i=>some (match l[i]? with |some x=>(x.Content.N,x.Content.Allow)|none=>(0,[]))) (some (0,[]))]
 ·rw[LD];by_cases h:l.findIdx (fun x=>x.Kind==4)<l.length
  ·rw[Di h]
  rw[Dp h,J5 AB]
 ·intro k i h;have ha:=(hs _ (Ew h)).allow;unfold aGv;rw[DR h,EL h,EC VO];rfl
 intro k;unfold aGv;rw[EF]
def abk (l:A8 AV) (hl:l.length<=1000) (hs:E9 l):a0g l=some (lZ l):=by
 unfold a0g aQp lZ;rw[Kv l (fuel_lt AB) (fun x=>x.Kind==4) (fun i=>some (match l[i]? with |some x=>(x.Content.N,x.Content.Allow)|none=>(0,[]))) (some (0,[]))]
 ·rw[LD];by_cases h:l.findIdx (fun x=>x.Kind==4)<l.length
  ·rw[Di h]
  rw[Dp h,J5 AB]
 ·intro k i h;have ha:=(hs _ (Ew h)).allow;unfold aKF;rw[DR h,Cx h,EL h];simp only[Ad];rw[EC VO];rfl
 intro k;unfold aKF;rw[EF]
def zS (j now:Int):Int:=bif now==3||j==1 then 0 else bif now==1&&(j==0||j==2||j==3)then 0 else 21
def qE (j now:Int):Int:=bif j==2&&(now==0||now==2)then 0 else 21
def ah9 (r n:Int):a1k r n=some (zS r n):=by
 unfold a1k pU aAi zS;cases n==3<;>cases r==1<;>cases r==2<;>cases r==3<;>cases r==0<;>cases n==1<;>rfl
def abK (r n:Int):a03 r n=some (zS r n):=by
 unfold a03 zS;cases n==3<;>cases r==1<;>cases r==2<;>cases r==3<;>cases r==0<;>cases n==1<;>rfl
def abU (r n:Int):aBY r n=some (qE r n):=by
 unfold aBY aCE qE bne;cases r==2<;>cases n==0<;>cases n==2<;>rfl
def aiL (r n:Int):aBZ r n=some (qE r n):=by
 unfold aBZ qE;cases r==2<;>cases n==0<;>cases n==2<;>rfl
def oG (m now:Int) (l:A8 AV):Int:=bif m==3 then zS (lZ l).1 now else bif m==2 then qE (lZ l).1 now else 0
def afn (m now:Int) (l:A8 AV) (hl:l.length<=1000) (hs:E9 l):aAY m now l=some (oG m now l):=by
 unfold aAY oG;rw[anE l hl hs];simp only[Ad];rw[ah9,abU];cases m==3<;>cases m==2<;>rfl
def alU (e:AV) (now:Int) (l:A8 AV) (hl:l.length<=1000) (hs:E9 l):aCd e l now=some (oG e.Content.N now l):=by
 unfold aCd oG;rw[abk l hl hs];simp only[Ad];rw[abK,aiL];cases e.Content.N==3<;>cases e.Content.N==2<;>rfl
def I7 (k:Int):AZ:=decide (k>=1)&&(k<=10)
def aKb (k:Int):ZP k=some (I7 k):=by
 unfold ZP I7;cases decide (k>=1)<;>rfl
def yV (k:Int):SK k=some (I7 k):=by
 unfold SK I7;cases decide (k>=1)<;>rfl
def XM (v:Cc) (k:Int):Int:=match v.Kinds.find? fun x=>x.Kind==k with |some x=>x.N|none=>bif I7 k then v.State else v.Message
def aKK (v:Cc) (k:Int) (h:v.Kinds.length<=1000):gu v k=some (XM v k):=by
 unfold gu aTO XM;rw[Kv v.Kinds (fuel_lt AB) (fun x=>x.Kind==k) (fun i=>some (match v.Kinds[i]? with |some x=>x.N|none=>0)) (some (bif I7 k then v.State else v.Message))]
 ·rw[LD];by_cases h:v.Kinds.findIdx (fun x=>x.Kind==k)<v.Kinds.length
  ·rw[Di h,EL h]
  rw[Dp h,J5 AB]
 ·intro k2 i h;unfold aJP;rw[DR h,EL h]
 intro k2;unfold aJP;rw[EF,aKb];cases I7 k<;>rfl
def zJ (v:Cc) (k:Int) (h:v.Kinds.length<=1000):jT v k=some (XM v k):=by
 unfold jT aTR XM;rw[Kv v.Kinds (fuel_lt AB) (fun x=>x.Kind==k) (fun i=>some (match v.Kinds[i]? with |some x=>x.N|none=>0)) (some (bif I7 k then v.State else v.Message))]
 ·rw[LD];by_cases h:v.Kinds.findIdx (fun x=>x.Kind==k)<v.Kinds.length
  ·rw[Di h,EL h]
  rw[Dp h,J5 AB]
 ·intro k2 i h;unfold aO3;rw[DR h,Cx h,EL h];rfl
 intro k2;unfold aO3;rw[EF,yV];cases I7 k<;>rfl
def V5 (j q u:Int):AZ:=q==u||(decide (q<=j)&&(u<=j))
def numsOf (v:Cc):A8 Int:=[v.User,v.Message,v.State,v.gy,v.jL,v.lV,v.gW]
def sI (j:Int) (p:Int×Int):AZ:= !V5 j p.1 p.2
def VN (j:Int) (q new:Cc) (x:Jc):AZ:= !V5 j (XM q x.Kind) (XM new x.Kind)
def JE (q:Int) (j new:Cc) (u:BD) (x:IJ):AZ:= !(V5 q (Ec j x.User) (Ec new x.User)&&(Ec j x.User==Ec new x.User||(x.User=u)||(Ec j x.User<q)))
def y8 (j new:Cc) (q:BD):Int:=
 bif ((numsOf j).zip (numsOf new)).any (sI (Ec j q))then 20 else bif (j.Kinds++new.Kinds).any (VN (Ec j q) j new)then 20 else bif (j.Users++new.Users).any (JE (Ec j q) j new q)then 20 else 0
def aLX (j q u:Int):Xb q u j=some (!V5 j q u):=by
 unfold Xb V5;have z:(q != u)= !(q==u):=rfl;have I:decide (q>j)= !decide (q<=j):=by by_cases h:q<=j<;>simp[h]<;>omega
 have J:decide (u>j)= !decide (u<=j):=by by_cases h:u<=j<;>simp[h]<;>omega
 rw[z,I,J];cases q==u<;>cases decide (q<=j)<;>cases decide (u<=j)<;>rfl
def aCI (q j u:Int):lT j u q=some (V5 q j u):=by
 unfold lT V5;cases j==u<;>cases decide (j<=q)<;>rfl
structure Xu (v:Cc):Prop where
 users:v.Users.length<=100
 kinds:v.Kinds.length<=100
def xq (a b:Cc):((numsOf a).zip (numsOf b)).length=7:=rfl
def ajc (q new:Cc) (u:BD) (Z:Xu q) (hn:Xu new):zU q new u=some (y8 q new u):=by
 have o1:=Z.users;have o2:=Z.kinds;have n1:=hn.users;have n2:=hn.kinds;unfold zU;rw[dc q u AB];unfold aBA;simp only[Ad];unfold y8;generalize hown:Ec q u=z
 have hU:aBi q new z u false 0=some (bif (q.Users++new.Users).any (JE z q new u)then 20 else 0):=by
  unfold aBi;rw[aIW ([q.Users,new.Users]:A8 (A8 IJ)) (fuel_lt Bh) (fun us=>us.any (JE z q new u)) (fun _=>some 20) (some 0) false]
  ·have e:(q.Users++new.Users).any (JE z q new u)=([q.Users,new.Users]:A8 (A8 IJ)).any (fun us=>us.any (JE z q new u)):=Bh
   rw[e]
   have hf:∀L:A8 (A8 IJ),(if L.findIdx (fun us=>us.any (JE z q new u))<L.length then some (20:Int)else some 0)=some (bif L.any (fun us=>us.any (JE z q new u))then 20 else 0):=fun L=>by
    by_cases h:L.findIdx (fun us=>us.any (JE z q new u))<L.length
    ·rw[Di h];have :L.any (fun us=>us.any (JE z q new u))=true:=Iu.2 ((qM).1 h);rw[this];rfl
    rw[Dp h]
    have :L.any (fun us=>us.any (JE z q new u))=false:=by
     rw[Bool.eq_false_iff];exact fun k=>h (qM.2 (Iu.1 k))
    rw[this];rfl
   exact hf _
  ·intro k i h
   have O:([q.Users,new.Users]:A8 (A8 IJ))[i].length<=100:=by
    have :([q.Users,new.Users]:A8 (A8 IJ))[i]∈[q.Users,new.Users]:=Ew h;simp only[FK,G5,iY]at this;rcases this with e|e<;>rw[e]<;>assumption
   unfold aDC;rw[show decide ((i:Int)<2)=true by simp only[HY,NM]at h;simp;omega,Cx h];simp only[Bz,Ad];generalize([q.Users,new.Users]:A8 (A8 IJ))[i]=us at O;unfold aSO;rw[aIW us (fuel_lt AB) (JE z q new u) (fun _=>some 20) (k false (Aw ((i:Int)+1))) false]
   ·by_cases J:us.findIdx (JE z q new u)<us.length
    ·rw[Di J];have :us.any (JE z q new u)=true:=Iu.2 ((qM).1 J);rw[this];rfl
    rw[Dp J]
    have :us.any (JE z q new u)=false:=by
     rw[Bool.eq_false_iff];exact fun k=>J (qM.2 (Iu.1 k))
    rw[this];rfl
   ·intro k2 j U;unfold aAe iK;rw[DR U,dc q _ AB,dc new _ AB];simp only[Ad];rw[aLX,Ir];unfold JE;have J:decide (Ec q us[j].User>=z)= !decide (Ec q us[j].User<z):=by by_cases h:Ec q us[j].User<z<;>simp[h]<;>omega
    have h3:(Ec q us[j].User != Ec new us[j].User)= !(Ec q us[j].User==Ec new us[j].User):=rfl;simp only[Ad];rw[J,h3];cases V5 z (Ec q us[j].User) (Ec new us[j].User)<;>cases Ec q us[j].User==Ec new us[j].User<;>cases decide (us[j].User=u)<;>cases decide (Ec q us[j].User<z)<;>rfl
   intro k2;unfold aAe;rw[EF]
  intro k;unfold aDC iK;rw[show decide (((([q.Users,new.Users]:A8 (A8 IJ)).length:Nat):Int)<2)=false from rfl];rfl
 have hK:aDh q new z u 0=some (bif (q.Kinds++new.Kinds).any (VN z q new)then 20 else bif (q.Users++new.Users).any (JE z q new u)then 20 else 0):=by
  unfold aDh;rw[Hz ([q.Kinds,new.Kinds]:A8 (A8 Jc)) (fuel_lt Bh) (fun I=>I.any (VN z q new)) 20 (aBi q new z u false 0)]
  ·rw[hU];have e:(q.Kinds++new.Kinds).any (VN z q new)=([q.Kinds,new.Kinds]:A8 (A8 Jc)).any (fun I=>I.any (VN z q new)):=Bh
   rw[e];cases([q.Kinds,new.Kinds]:A8 (A8 Jc)).any (fun I=>I.any (VN z q new))<;>rfl
  ·intro k i h
   have Y:([q.Kinds,new.Kinds]:A8 (A8 Jc))[i].length<=100:=by
    have :([q.Kinds,new.Kinds]:A8 (A8 Jc))[i]∈[q.Kinds,new.Kinds]:=Ew h;simp only[FK,G5,iY]at this;rcases this with e|e<;>rw[e]<;>assumption
   unfold a1y;rw[show decide ((i:Int)<2)=true by simp only[HY,NM]at h;simp;omega,Cx h];simp only[Bz,Ad];generalize([q.Kinds,new.Kinds]:A8 (A8 Jc))[i]=I at Y;unfold aQQ;rw[Hz I (fuel_lt AB) (VN z q new) 20 (k (Aw ((i:Int)+1)))]
   ·intro k2 j U;unfold aFa;rw[DR U,aKK q _ AB,aKK new _ AB];simp only[Ad];rw[aLX];rfl
   intro k2;unfold aFa;rw[EF]
  intro k;unfold a1y;rw[show decide (((([q.Kinds,new.Kinds]:A8 (A8 Jc)).length:Nat):Int)<2)=false from rfl];rfl
 unfold aXu;rw[Hz ((numsOf q).zip (numsOf new)) aOq (sI z) 20 (aDh q new z u 0)]
 ·rw[hK];cases((numsOf q).zip (numsOf new)).any (sI z)<;>rfl
 ·intro k i h;have M:i<7:=by rw[xq]at h;exact h
  have e1:Ak [q.User,q.Message,q.State,q.gy,q.jL,q.lV,q.gW] (i:Int)=some ((numsOf q)[i]'(M)):=Cx (l:=numsOf q) M;have e2:Ak [new.User,new.Message,new.State,new.gy,new.jL,new.lV,new.gW] (i:Int)=some ((numsOf new)[i]'(M)):=Cx (l:=numsOf new) M;unfold aCM;rw[show decide ((i:Int)<7)=true by simp;omega,e1,e2];simp only[Bz,Ad];rw[aLX,aKG];rfl
 intro k;unfold aCM;rw[xq,show decide (((7:Nat):Int)<7)=false from rfl];rfl
def aaG (j new:Cc) (u q:BD) (z:Xu j) (I:Xu new):kT j new u q=some (V5 (Ec j q) (Ec j u) (Ec new u)&&(Ec j u==Ec new u||(u=q)||(Ec j u<Ec j q))):=by
 have J:=z.users;have L:=I.users;unfold kT;rw[YR j q AB,YR j u AB,YR new u AB];simp only[Ad];rw[aCI,Ir];simp only[Ad];cases V5 (Ec j q) (Ec j u) (Ec new u)<;>cases Ec j u==Ec new u<;>cases decide (u=q)<;>cases decide (Ec j u<Ec j q)<;>rfl
def amK (j new:Cc) (q:BD) (J:Xu j) (L:Xu new):a0Z j new q=some (y8 j new q):=by
 have o1:=J.users;have o2:=J.kinds;have n1:=L.users;have n2:=L.kinds;unfold a0Z;rw[YR j q AB];unfold aEb;simp only[Ad];unfold y8
 have z:∀x:IJ,(kT j new x.User q)=some (!JE (Ec j q) j new q x):=fun x=>by
  rw[aaG j new _ _ J L];unfold JE;rw[rU]
 generalize O:Ec j q=u at z
 have M:aKz new j q 0=some (bif new.Users.any (JE u j new q)then 20 else 0):=by
  unfold aKz;rw[Hz new.Users (fuel_lt AB) (JE u j new q) 20 (some 0)]
  ·cases new.Users.any (JE u j new q)<;>rfl
  ·intro k i h;unfold aHr;rw[DR h,z];simp only[Ad,rU]
  intro k;unfold aHr;rw[EF]
 have Y:aKZ j new q 0=some (bif (j.Users++new.Users).any (JE u j new q)then 20 else 0):=by
  unfold aKZ;rw[Hz j.Users (fuel_lt AB) (JE u j new q) 20 (some (bif new.Users.any (JE u j new q)then 20 else 0))]
  ·rw[aGh];cases j.Users.any (JE u j new q)<;>rfl
  ·intro k i h;unfold aIF;rw[DR h,z];simp only[Ad,rU]
  intro k;unfold aIF;rw[EF,M]
 have Z:aEs j new u q 0=some (bif (j.Kinds++new.Kinds).any (VN u j new)then 20 else bif (j.Users++new.Users).any (JE u j new q)then 20 else 0):=by
  unfold aEs;have U:Aw ((j.Kinds.length:Int)+(new.Kinds.length:Int))=(((j.Kinds++new.Kinds).length:Nat):Int):=by rw[En,bg];omega
  rw[Hz (j.Kinds++new.Kinds) (fuel_lt La) (VN u j new) 20 (some (bif (j.Users++new.Users).any (JE u j new q)then 20 else 0))]
  ·cases(j.Kinds++new.Kinds).any (VN u j new)<;>rfl
  ·intro k i h;unfold aM3 aE8;rw[U,dec_lt h];simp only[Bz];by_cases hi:i<j.Kinds.length
   ·rw[dec_lt hi,Cx hi];simp only[Bz,Ad];rw[zJ j _ AB,zJ new _ AB];simp only[Ad];rw[aCI,aIv hi];rfl
   have hj:i-j.Kinds.length<new.Kinds.length:=by rw[En]at h;omega
   have w:Aw ((i:Int)-(j.Kinds.length:Int))=((i-j.Kinds.length:Nat):Int):=by rw[En]at h;rw[bg];omega
   rw[show decide ((i:Int)<(j.Kinds.length:Int))=false by simp;omega,w,Cx hj];simp only[BX,Ad];rw[zJ j _ AB,zJ new _ AB];simp only[Ad];rw[aCI,aPg AB];rfl
  intro k;unfold aM3;rw[U,Dy,Y];rfl
 unfold aSs;rw[Hz ((numsOf j).zip (numsOf new)) aOq (sI u) 20 (aEs j new u q 0)]
 ·rw[Z];cases((numsOf j).zip (numsOf new)).any (sI u)<;>rfl
 ·intro k i h;have I:i<7:=by rw[xq]at h;exact h
  have e1:Ak [j.User,j.Message,j.State,j.gy,j.jL,j.lV,j.gW] (i:Int)=some ((numsOf j)[i]'(I)):=Cx (l:=numsOf j) I;have e2:Ak [new.User,new.Message,new.State,new.gy,new.jL,new.lV,new.gW] (i:Int)=some ((numsOf new)[i]'(I)):=Cx (l:=numsOf new) I;unfold aOG;rw[show decide ((i:Int)<(([j.User,j.Message,j.State,j.gy,j.jL,j.lV,j.gW]:A8 Int).length:Int))=true from dec_lt (n:=7) I,e1,e2];simp only[Bz,Ad];rw[aCI,aKG];rfl
 intro k;unfold aOG;rw[xq];rfl
def zZ (e:AV) (l:A8 AV) (now:Int):Int:=
 bif !(MQ l e.bF==3)then 18 else
 bif e.Content.N==1&&decide (Ec (Gn l) e.bF<(Gn l).gy)then 20 else
 bif e.Content.N==0&&((now==4&&(Ec (Gn l) e.bF<(Gn l).lV))||(Ec (Gn l) e.bF<(Gn l).jL)||(Ec (Gn l) e.Key>=Ec (Gn l) e.bF))then 20 else
 bif e.Content.N==4&&(decide (Ec (Gn l) e.bF<(Gn l).lV)||(Ec (Gn l) e.Key>=Ec (Gn l) e.bF))then 20 else 0
def rO (e:AV) (l:A8 AV):Int:=
 bif lC e l then 0 else
 bif decide (e.Key=e.bF)&&MQ l e.Key==4 then 19 else
 bif !moveB (MQ l e.Key) e.Content.N (decide (e.Key=e.bF))then 18 else
 bif e.Key=e.bF then oG e.Content.N (MQ l e.Key) l else zZ e l (MQ l e.Key)
def wW (e:AV) (l:A8 AV):Int:=
 bif Ec (Gn l) e.bF<XM (Gn l) e.Kind then 20 else bif e.Kind==3 then y8 (Gn l) e.Content.Levels e.bF else 0
def XF (s:BD):BD:=(splitB s (Jt s)).2.1
def NR (e:AV) (l:A8 AV):Int:=
 bif e.Kind==1 then(bif !(Ky l).2&&(XF e.bF).toList==(XF e.Room).toList then 0 else 17)else
 bif !(Ky l).2 then 17 else bif e.Kind==2 then rO e l else bif !(MQ l e.bF==3)then 18 else wW e l
def aWu {l:A8 AV} (h:E9 l):Xu (Gn l):=⟨(nV h).1,(nV h).2⟩
def FD.levels {e:AV} (h:FD e):Xu e.Content.Levels:=⟨h.users,h.kinds⟩
def ahv (e:AV) (l:A8 AV) (hl:l.length<=1000) (hs:E9 l) (q:FD e):aD3 e l=some (wW e l):=by
 have j:=aWu hs;have u:=j.users;have z:=j.kinds;unfold aD3 wW;rw[aNb l hl hs];simp only[Ad];rw[dc _ _ AB,aKK _ _ AB];simp only[Ad];rw[ajc _ _ _ j q.levels];cases decide (Ec (Gn l) e.bF<XM (Gn l) e.Kind)<;>cases e.Kind==3<;>rfl
def ai5 (e:AV) (l:A8 AV) (hl:l.length<=1000) (hs:E9 l) (q:FD e):aCg e l=some (wW e l):=by
 have j:=aWu hs;have u:=j.users;have z:=j.kinds;unfold aCg wW;rw[aHh l hl];simp only[Ad];rw[YR _ _ AB,zJ _ _ AB];simp only[Ad];rw[amK _ _ _ j q.levels];cases decide (Ec (Gn l) e.bF<XM (Gn l) e.Kind)<;>cases e.Kind==3<;>rfl
def je (x:Int):Except Au Unit:=.error (.iface 165 (.agg #[.int .i64 x]))
def aU7 (x:Int):Zl x=some (je x):=rfl
def aKH (b:AZ) (x:Int):RH b x=some (bif b then .ok ()else je x):=by cases b<;>rfl
def aNL (b:AZ) (x:Int) (f:Unit->AL (Except Au Unit)):Ll (bif b then .ok ()else je x) f=bif b then f ()else some (je x):=by cases b<;>rfl
def aXp (x:Int) (f:Unit->AL (Except Au Unit)):Ll (je x) f=some (je x):=rfl
def aaE (a b:Int):decide (a>=b)= !decide (a<b):=by by_cases h:a<b<;>simp[h]<;>omega
def aeu (e:AV) (l:A8 AV) (now:Int) (hl:l.length<=1000) (hs:E9 l):(iF l e now).bind Ty=some (zZ e l now):=by
 have z:=(nV hs).1;unfold iF zZ;rw[aJh l _ hl,aNb l hl hs];simp only[Ad];rw[dc _ _ AB,dc _ _ AB];simp only[aKH,Ad,aNL,aaE]
 have I:decide (Ec (Gn l) e.Key<Ec (Gn l) e.bF)= !decide (Ec (Gn l) e.bF<=Ec (Gn l) e.Key):=by
  by_cases h:Ec (Gn l) e.Key<Ec (Gn l) e.bF<;>simp[h]<;>omega
 have u:(now != 4)= !(now==4):=rfl;rw[u];generalize decide (Ec (Gn l) e.Key<Ec (Gn l) e.bF)=t;generalize decide (Ec (Gn l) e.bF<(Gn l).gy)=i;generalize decide (Ec (Gn l) e.bF<(Gn l).lV)=b;generalize decide (Ec (Gn l) e.bF<(Gn l).jL)=k;generalize(now==4)=n;cases MQ l e.bF==3 with
 |false=>rfl
 |true=>
  by_cases j:e.Content.N=1
  ·rw[j];cases i<;>rfl
  rw[show(e.Content.N==1)=false by simpa using j];by_cases q:e.Content.N=0
  ·rw[q];cases n<;>cases b<;>cases k<;>cases t<;>rfl
  rw[show(e.Content.N==0)=false by simpa using q];cases e.Content.N==4<;>cases b<;>cases t<;>rfl
def abn (e:AV) (l:A8 AV) (now:Int) (hl:l.length<=1000) (hs:E9 l):a0s e l now=some (zZ e l now):=by
 have j:=(nV hs).1;unfold a0s zZ;rw[aH8 l _ hl,aHh l hl];simp only[Ad];rw[YR _ _ AB,YR _ _ AB];simp only[Ad,KO,dW,Tv,bne]
def adz (e:AV) (l:A8 AV) (hl:l.length<=1000) (hs:E9 l):aFC e l=some (rO e l):=by
 unfold aFC rO;rw[amE e l hl];simp only[Ad];cases lC e l with
 |true=>rfl
 |false=>
  simp only[BX]
  have q:∀o:AL (Except Au Unit),(o.bind fun u=>(Ty u).bind fun z=>some z)=o.bind Ty:=fun o=>by
   cases o with
   |none=>rfl
   |some x=>cases h:Ty x<;>simp[h]
  rw[q];have j:=aeu e l (MQ l e.Key) hl hs;unfold aJw;rw[aJh l _ hl,Ir];simp only[Ad];rw[acE,afn _ _ _ hl hs];simp only[Ad,aKH,aU7,aNL,aXp,KO];have I:(MQ l e.Key != 4)= !(MQ l e.Key==4):=rfl;rw[I];generalize iF l e (MQ l e.Key)=J at j;generalize decide (e.Key=e.bF)=s;cases s with
  |true=>
   cases MQ l e.Key==4 with
   |true=>rfl
   |false=>cases moveB (MQ l e.Key) e.Content.N true<;>rfl
  |false=>
   cases moveB (MQ l e.Key) e.Content.N false with
   |false=>rfl
   |true=>exact j
def anf (e:AV) (l:A8 AV) (hl:l.length<=1000) (hs:E9 l):aAB e l=some (rO e l):=by
 unfold aAB rO;rw[al8 e l hl,aH8 l _ hl];simp only[Ad];rw[aW7,alU e _ l hl hs,abn e l _ hl hs,Ir];simp only[Ad,KO,Tv]
def aBE (e:AV) (l:A8 AV) (hl:l.length<=1000) (hs:E9 l) (j:FD e):Ws e l=some (NR e l):=by
 have I:=j.sender;have J:=j.room;unfold Ws NR
 have q:∀o:AL (Except Au Unit),(o.bind fun u=>(Ty u).bind fun z=>some z)=o.bind Ty:=fun o=>by
  cases o with
  |none=>rfl
  |some x=>cases h:Ty x<;>simp[h]
 rw[q];unfold aGB aEZ aFB aFR;rw[aWN l hl,(Xj (s:=e.bF) AB).1,(Xj (s:=e.Room) AB).1,aJh l _ hl,ahv e l hl hs j,adz e l hl hs];simp only[Ad,aKH,aU7,aNL,aXp];show _=some (bif e.Kind==1 then(bif !(Ky l).2&&(splitB e.bF (Jt e.bF)).2.1.toList==(splitB e.Room (Jt e.Room)).2.1.toList then 0 else 17)else _);cases e.Kind==1 with
 |true=>
  cases(Ky l).2 with
  |true=>rfl
  |false=>cases(splitB e.bF (Jt e.bF)).2.1.toList==(splitB e.Room (Jt e.Room)).2.1.toList<;>rfl
 |false=>
  cases(Ky l).2 with
  |false=>rfl
  |true=>
   cases e.Kind==2 with
   |true=>rfl
   |false=>cases MQ l e.bF==3<;>rfl
def aEe (e:AV) (l:A8 AV) (hl:l.length<=1000) (hs:E9 l) (j:FD e):ZB e l=some (NR e l):=by
 have q:=j.sender;have u:=j.room;unfold ZB a0C NR;rw[aRo l hl,(Xj (s:=e.bF) AB).2,(Xj (s:=e.Room) AB).2,aH8 l _ hl,ai5 e l hl hs j,anf e l hl hs];simp only[Ad];show _=some (bif e.Kind==1 then(bif !(Ky l).2&&(splitB e.bF (Jt e.bF)).2.1.toList==(splitB e.Room (Jt e.Room)).2.1.toList then 0 else 17)else _);cases e.Kind==1 with
 |true=>
  cases(Ky l).2 with
  |true=>rfl
  |false=>cases(splitB e.bF (Jt e.bF)).2.1.toList==(splitB e.Room (Jt e.Room)).2.1.toList<;>rfl
 |false=>
  cases(Ky l).2 with
  |false=>rfl
  |true=>
   cases e.Kind==2 with
   |true=>rfl
   |false=>unfold bne;cases MQ l e.bF==3<;>rfl
end
end Go.Proofs.YtkkdimcnpacjhaaGreat
