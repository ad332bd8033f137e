/- Part 3 of the laws' proofs (short forms by wip/shrink2.py). -/
import Derived.Test.YtfmoknlmaldmlaaGreatEa2
set_option linter.defProp false
set_option linter.unnecessarySimpa false
set_option linter.unusedSectionVars false
set_option linter.unusedVariables false
set_option linter.unusedSimpArgs false
namespace Go.Proofs.YtfmoknlmaldmlaaGreat
open Go.RowKit Go.Proofs.Tryz
section
set_option maxRecDepth 20000
set_option maxHeartbeats 4000000
def Sl (h:Dj) (j:BH):AB (Dj×Int×Int):=(WE j).bind fun m=>(bif (m.2 != 0)then some (h,0,m.2)else(bif (!(m.1.Room.toList==h.Id.toList))then some (h,0,13)else none))
def ael (jV F9 r) (h:Sl jV F9=some r):BL 20 [LU jV,ET F9] [] (.gV [LU r.1,Ag r.2.1,Ag r.2.2]) []:=by
 refine BO func20 rfl ?_;unfold Sl at h;refine EM<|.aM 5 ?_;obtain⟨n,j,h⟩:=EF h;refine AV 1<|.X (ac3 F9 n j)<|Ae<|AU<|DW h (fun h=>?_) fun h=>?_
 ·refine AU<|J4 ?_;rw[←IK h];exact⟨[LU jV,Ag 0,Ag n.2],[],⟨⟨2,Bc (Hf jV),true,9,A8,A8,A8,bM,Ir A8,(by intro m;cases m),A8⟩,QN A8,QN A8,trivial⟩,A8,A8,A8⟩
 refine BK.skip<|Ae<|AU<|DW h (fun h=>?_) fun h=>?_
 ·refine AU<|J4 ?_;rw[←IK h];exact⟨[LU jV,Ag 0,Ag 13],[],⟨⟨2,Bc (Hf jV),true,9,A8,A8,A8,bM,Ir A8,(by intro m;cases m),A8⟩,QN A8,QN A8,trivial⟩,A8,A8,A8⟩
 refine BK.skip<|Ae ?_;cases h
def gy (h:Ap) (j:Ap) (n:(Int->AB AO)):Int->AB AO:=fun m=>(bif m<(h.length:Int) then(BI h m).bind fun q=>(BI j m).bind fun r=>(bif (q != r)then some false else n (IntKind.i64.wrap (m+1)))else some true)
def xM (h:Ap) (j:Ap):Int->AB AO:=aS (gy h j) Am
def Uj (h:Ap) (j:Ap):AB AO:=(bif ((h.length:Int) != (j.length:Int))then some false else xM h j 0)
def mV (bn bG r) (h:Uj bn bG=some r):BL 43 [Eu bn,Eu bG] [] (Aa r) []:=BO func43 rfl<|AU<|Ae<|AV 1<|.p (BX Aq bn Ei rfl)<|.a 1<|.Z (BX Aq bG Ei rfl)<|BR h Ba fun h=>Ae<|AU<|BP<|Dx (fun q=>⟨Bo 26 [(0,Eu bn),(1,Eu bG),(5,Ag q)],[],0⟩) _ _ _ (Ah 26 35 []) h<|fun s u j q h=>Ae<|AV 2<|.Z (BX Aq bn Ei rfl)<|CZ h (fun h=>Ae<|BP<|D6 h fun z m I n h=>FI A8 A8 A8 (.a 2<|.p (CG Aq m Ei EY rfl)<|.a 3<|.p (CG Aq n Ei EY rfl)<|.a 2<|.nil _)<|BR h Ba fun h=>Bg<|.a 3<|bK) fun h=>El
def Yr (h:Dw) (j:Dw) (n:(Int->AB AO)):Int->AB AO:=fun m=>(bif m<(h.length:Int) then(BI h m).bind fun q=>(BI j m).bind fun r=>(bif (!(q.toList==r.toList))then some false else n (IntKind.i64.wrap (m+1)))else some true)
def YL (h:Dw) (j:Dw):Int->AB AO:=aS (Yr h j) Am
def Kv (h:Dw) (j:Dw):AB AO:=(bif ((h.length:Int) != (j.length:Int))then some false else YL h j 0)
def pI (bn bG r) (h:Kv bn bG=some r):BL 181 [FM bn,FM bG] [] (Aa r) []:=BO func181 rfl<|AU<|Ae<|AV 1<|.p (BX BZ bn EL rfl)<|.a 1<|.Z (BX BZ bG EL rfl)<|BR h Ba fun h=>Ae<|AU<|BP<|Dx (fun q=>⟨Bo 26 [(0,FM bn),(1,FM bG),(5,Ag q)],[],0⟩) _ _ _ (Ah 26 35 []) h<|fun s u j q h=>Ae<|AV 2<|.Z (BX BZ bn EL rfl)<|CZ h (fun h=>Ae<|BP<|D6 h fun z m I n h=>FI A8 A8 A8 (.a 2<|.p (CG BZ m EL G5 rfl)<|.a 3<|.p (CG BZ n EL G5 rfl)<|.a 2<|.nil _)<|BR h Ba fun h=>Bg<|.a 3<|bK) fun h=>El
def Vp (h:(Int->AB AO)) (j:Int) (m:AO):AB AO:=(bif m then some false else h (IntKind.i64.wrap (j+1)))
def XR (h:(Int->AB AO)) (j:Int) (m:AO):AB AO:=(bif m then some false else h (IntKind.i64.wrap (j+1)))
def Yg (h:Dl) (j:Dl) (n:(Int->AB AO)):Int->AB AO:=fun m=>(bif m<(h.Kinds.length:Int) then(BI h.Kinds m).bind fun q=>(BI j.Kinds m).bind fun r=>(bif (q.Kind != r.Kind)then XR n m true else(BI h.Kinds m).bind fun s=>(BI j.Kinds m).bind fun u=>XR n m (s.N != u.N))else(bif (h.User==j.User)then some (h.Message==j.Message)else some false).bind fun z=>(bif z then some (h.State==j.State)else some false).bind fun I=>(bif I then some (h.iD==j.iD)else some false).bind fun J=>(bif J then some (h.lS==j.lS)else some false).bind fun L=>(bif L then some (h.qm==j.qm)else some false).bind fun M=>(bif M then some (h.iE==j.iE)else some false).bind fun O=>some O)
def Ub (h:Dl) (j:Dl):Int->AB AO:=aS (Yg h j) Am
def Xv (h:Dl) (j:Dl) (u:(Int->AB AO)):Int->AB AO:=fun m=>(bif m<(h.Users.length:Int) then(BI h.Users m).bind fun n=>(BI j.Users m).bind fun q=>(bif (!(n.User.toList==q.User.toList))then Vp u m true else(BI h.Users m).bind fun r=>(BI j.Users m).bind fun s=>Vp u m (r.N != s.N))else Ub h j 0)
def XU (h:Dl) (j:Dl):Int->AB AO:=aS (Xv h j) Am
def PZ (h:Dl) (j:Dl):AB AO:=(bif ((h.Users.length:Int) != (j.Users.length:Int))then some true else some ((h.Kinds.length:Int) != (j.Kinds.length:Int))).bind fun m=>(bif m then some false else XU h j 0)
def acy (bn bG r) (h:PZ bn bG=some r):BL 182 [PV bn,PV bG] [] (Aa r) []:=BO func182 rfl<|AU<|Ae<|AV 2<|.p (BX E9 bn.Users En rfl)<|.a 2<|.p (BX E9 bG.Users En rfl)<|.a 1<|AQ h fun x1 hx1 h=>.mg 14 8 (Aa x1) (.bi hx1 (k2:=fun h=>.a 2<|.p (BX EH bn.Kinds FD rfl)<|.a 2<|.Z (BX EH bG.Kinds FD rfl)<|CJ))<|.dQ<|BR h Ba fun h=>Ae<|AU<|BP<|Dx (fun v4=>⟨Bo 140 [(2,.ptr 0 0),(3,.ptr 1 0),(5,Ag v4)],[.box (Bc (IL bn)),.box (Bc (IL bG))],0⟩) _ _ _ (Ah 140 44 [Ak 0,Ak 1]) h<|fun J39 k5 hk5 v4 h=>Ae<|AV 3<|.Z (BX E9 bn.Users En rfl)<|CZ h (fun h=>Ae<|BP<|Dq (fun s=>∃(v7:AO),DI s ⟨Bo 140 [(2,.ptr 0 0),(3,.ptr 1 0),(5,Ag v4),(57,Aa v7)],[.box (Bc (IL bn)),.box (Bc (IL bG))],0⟩/\Vp k5 v4 v7=some r) (by rintro s ⟨v7,hs,h⟩;exact Dk hs<|BR h Ba fun h=>Bg<|.a 3<|.nil<|hk5 _ _ (Ah 140 44 [Ak 0,Ak 1]) h)<|fun K9=>D6 h fun x10 q x11 u h=>JJ h (fun j h=>Fr A8 A8 A8 (.a 3<|.p (CG E9 q En JC rfl)<|.a 5<|.p (CG E9 u En JC rfl)<|.a 3<|.c (CO some j)<|.a 14<|.nil _)<|K9 _ ⟨true,Ah 140 144115188075855916 [Ak 0,Ak 1],h⟩) fun j h=>D6 h fun VP L x14 M h=>Fr A8 A8 A8 (.a 3<|.p (CG E9 q En JC rfl)<|.a 5<|.p (CG E9 u En JC rfl)<|.a 3<|.c (CO some j)<|.a 3<|.p (CG E9 L En JC rfl)<|.a 5<|.p (CG E9 M En JC rfl)<|.a 4<|.nil _)<|K9 _ ⟨(VP.N != x14.N),Ah 140 144115188075855916 [Ak 0,Ak 1],h⟩) fun h=>FB<|Ae<|AU<|BP<|Dx (fun n=>⟨Bo 140 [(2,.ptr 0 0),(3,.ptr 1 0),(6,Ag n)],[.box (Bc (IL bn)),.box (Bc (IL bG))],0⟩) _ _ _ (Ah 140 76 [Ak 0,Ak 1]) h<|fun J38 k16 O n h=>Ae<|AV 3<|.Z (BX EH bn.Kinds FD rfl)<|CZ h (fun h=>Ae<|BP<|Dq (fun s=>∃(J:AO),DI s ⟨Bo 140 [(2,.ptr 0 0),(3,.ptr 1 0),(6,Ag n),(92,Aa J)],[.box (Bc (IL bn)),.box (Bc (IL bG))],0⟩/\XR k16 n J=some r) (by rintro s ⟨J,hs,h⟩;exact Dk hs<|BR h Ba fun h=>Bg<|.a 3<|.nil<|O _ _ (Ah 140 76 [Ak 0,Ak 1]) h)<|fun S=>D6 h fun x21 z Fj I h=>JJ h (fun m h=>Fr A8 A8 A8 (.a 3<|.p (CG EH z FD Jp rfl)<|.a 5<|.p (CG EH I FD Jp rfl)<|.a 3<|.c (CO some m)<|.a 14<|.nil _)<|S _ ⟨true,Ah 140 4951760157141521099596496972 [Ak 0,Ak 1],h⟩) fun m h=>D6 h fun x24 U x25 Y h=>Fr A8 A8 A8 (.a 3<|.p (CG EH z FD Jp rfl)<|.a 5<|.p (CG EH I FD Jp rfl)<|.a 3<|.c (CO some m)<|.a 3<|.p (CG EH U FD Jp rfl)<|.a 5<|.p (CG EH Y FD Jp rfl)<|.a 4<|.nil _)<|S _ ⟨(x24.N != x25.N),Ah 140 4951760157141521099596496972 [Ak 0,Ak 1],h⟩) fun h=>FB<|AV 5<|AQ h fun OH Z h=>.mg 98 6 (Aa OH) (.bi Z)<|.a 1<|AQ h fun x28 hx28 h=>.mg 106 5 (Aa x28) (Bh hx28)<|.a 1<|AQ h fun Tt Xl h=>.mg 113 5 (Aa Tt) (Bh Xl)<|.a 1<|AQ h fun x32 hx32 h=>.mg 120 5 (Aa x32) (Bh hx32)<|.a 1<|AQ h fun x34 hx34 h=>.mg 127 5 (Aa x34) (Bh hx34)<|.a 1<|AQ h fun x36 abD h=>.mg 134 5 (Aa x36) (Bh abD)<|.aW<|CX
def NP (h:BF) (j:BF):AB AO:=(bif (h.Text.toList==j.Text.toList)then some (h.N==j.N)else some false).bind fun u=>(bif u then some (h.Target==j.Target)else some false).bind fun z=>(bif z then some (h.Thread==j.Thread)else some false).bind fun I=>(bif I then some (h.Via.toList==j.Via.toList)else some false).bind fun J=>(bif J then(Kv h.Allow j.Allow).bind fun m=>some m else some false).bind fun L=>(bif L then(Kv h.dw j.dw).bind fun n=>some n else some false).bind fun q=>(bif q then(PZ h.Levels j.Levels).bind fun r=>some r else some false).bind fun s=>some s
def yO (bn bG r) (h:NP bn bG=some r):BL 106 [Gw bn,Gw bG] [] (Aa r) []:=BO func106 rfl<|AU<|AV 5<|AQ h fun Z u h=>.mg 10 6 (Aa Z) (.bi u)<|.a 1<|AQ h fun x3 z h=>.mg 18 5 (Aa x3) (Bh z)<|.a 1<|AQ h fun x5 I h=>.mg 25 5 (Aa x5) (Bh I)<|.a 1<|AQ h fun x7 J h=>.mg 32 5 (Aa x7) (Bh J)<|.a 1<|AQ h fun x9 L h=>.mg 39 5 (Aa x9) (Bh L (fun e i=>by subst e;have h:=i;exact AQ h fun M j h=>.a 4<|.X (pI bn.Allow bG.Allow M j)<|CJ))<|.a 1<|AQ h fun O m h=>.mg 46 5 (Aa O) (Bh m (fun e i=>by subst e;have h:=i;exact AQ h fun S n h=>.a 4<|.X (pI bn.dw bG.dw S n)<|CJ))<|.a 1<|AQ h fun U q h=>.mg 53 5 (Aa U) (Bh q (fun e i=>by subst e;have h:=i;exact AQ h fun Y s h=>.a 4<|.X (acy bn.Levels bG.Levels Y s)<|CJ))<|.aW<|CX
def Xq (h:BH) (j:BH):AB AO:=(bif (h.Id==j.Id)then some (h.Room.toList==j.Room.toList)else some false).bind fun O=>(bif O then some (h.aQ.toList==j.aQ.toList)else some false).bind fun S=>(bif S then some (h.Kind==j.Kind)else some false).bind fun U=>(bif U then some (h.State==j.State)else some false).bind fun Y=>(bif Y then some (h.Key.toList==j.Key.toList)else some false).bind fun Z=>(bif Z then some (h.Time==j.Time)else some false).bind fun m=>(bif m then some (h.Depth==j.Depth)else some false).bind fun n=>(bif n then(Uj h.iM j.iM).bind fun q=>some q else some false).bind fun r=>(bif r then(Uj h.iT j.iT).bind fun s=>some s else some false).bind fun u=>(bif u then(NP h.Content j.Content).bind fun z=>some z else some false).bind fun I=>(bif I then some (h.Hash==j.Hash)else some false).bind fun J=>(bif J then some (h.eu.Server.toList==j.eu.Server.toList)else some false).bind fun L=>(bif L then some (h.eu.Sum==j.eu.Sum)else some false).bind fun M=>some M
def yS (bn bG r) (h:Xq bn bG=some r):BL 36 [ET bn,ET bG] [] (Aa r) []:=BO func36 rfl<|AU<|AV 5<|AQ h fun x1 O h=>.mg 10 6 (Aa x1) (.bi O)<|.a 1<|AQ h fun x3 S h=>.mg 18 5 (Aa x3) (Bh S)<|.a 1<|AQ h fun x5 U h=>.mg 25 5 (Aa x5) (Bh U)<|.a 1<|AQ h fun x7 Y h=>.mg 32 5 (Aa x7) (Bh Y)<|.a 1<|AQ h fun x9 Z h=>.mg 39 5 (Aa x9) (Bh Z)<|.a 1<|AQ h fun x11 j h=>.mg 46 5 (Aa x11) (Bh j)<|.a 1<|AQ h fun VP m h=>.mg 53 5 (Aa VP) (Bh m)<|.a 1<|AQ h fun x15 n h=>.mg 60 5 (Aa x15) (Bh n (fun e i=>by subst e;have h:=i;exact AQ h fun x17 q h=>.a 4<|.X (mV bn.iM bG.iM x17 q)<|CJ))<|.a 1<|AQ h fun x18 s h=>.mg 67 5 (Aa x18) (Bh s (fun e i=>by subst e;have h:=i;exact AQ h fun uI u h=>.a 4<|.X (mV bn.iT bG.iT uI u)<|CJ))<|.a 1<|AQ h fun x21 z h=>.mg 74 5 (Aa x21) (Bh z (fun e i=>by subst e;have h:=i;exact AQ h fun x23 I h=>.a 4<|.X (yO bn.Content bG.Content x23 I)<|CJ))<|.a 1<|AQ h fun x24 J h=>.mg 81 5 (Aa x24) (Bh J)<|.a 1<|AQ h fun OH L h=>.mg 88 7 (Aa OH) (Bh L)<|.a 1<|AQ h fun x28 M h=>.mg 97 7 (Aa x28) (Bh M)<|.aW<|CX
def ji (h:Ji) (j:Ji) (n:(Int->AB AO)):Int->AB AO:=fun m=>(bif m<(h.length:Int) then(BI h m).bind fun q=>(BI j m).bind fun r=>(Xq q r).bind fun s=>(bif (!s)then some false else n (IntKind.i64.wrap (m+1)))else some true)
def oG (h:Ji) (j:Ji):Int->AB AO:=aS (ji h j) Am
def SS (h:Ji) (j:Ji):AB AO:=(bif ((h.length:Int) != (j.length:Int))then some false else oG h j 0)
def lX (bn bG r) (h:SS bn bG=some r):BL 69 [OM bn,OM bG] [] (Aa r) []:=BO func69 rfl<|AU<|Ae<|AV 1<|.p (BX DT bn GR rfl)<|.a 1<|.Z (BX DT bG GR rfl)<|BR h Ba fun h=>Ae<|AU<|BP<|Dx (fun s=>⟨Bo 27 [(0,OM bn),(1,OM bG),(5,Ag s)],[],0⟩) _ _ _ (Ah 27 35 []) h<|fun J L j s h=>Ae<|AV 2<|.Z (BX DT bn GR rfl)<|CZ h (fun h=>Ae<|BP<|Qr h fun u m z n I q h=>FI A8 A8 A8 (.a 2<|.p (CG DT m GR Gy rfl)<|.a 3<|.p (CG DT n GR Gy rfl)<|.a 1<|.ca (yS u z I q)<|.a 1<|.nil _)<|BR h Ba fun h=>Bg<|.a 3<|.nil<|j _ _ (Ah 27 35 []) h) fun h=>El
abbrev Qd:=AA Lp
def ZV (h:Qd) (j:Qd) (n:(Int->AB AO)):Int->AB AO:=fun m=>(bif m<(h.length:Int) then(BI h m).bind fun q=>(BI j m).bind fun r=>(bif (!WU q r)then some false else n (IntKind.i64.wrap (m+1)))else some true)
def wo (h:Qd) (j:Qd):Int->AB AO:=aS (ZV h j) Am
def Yf (h:Qd) (j:Qd):AB AO:=(bif ((h.length:Int) != (j.length:Int))then some false else wo h j 0)
def aaq (bn bG r) (h:Yf bn bG=some r):BL 70 [.d ((Bj Ja) bn),.d ((Bj Ja) bG)] [] (Aa r) []:=BO func70 rfl<|AU<|Ae<|AV 1<|.p (BX Ja bn Qv rfl)<|.a 1<|.Z (BX Ja bG Qv rfl)<|BR h Ba fun h=>Ae<|AU<|BP<|Dx (fun u=>⟨Bo 26 [(0,.d ((Bj Ja) bn)),(1,.d ((Bj Ja) bG)),(5,Ag u)],[],0⟩) _ _ _ (Ah 26 35 []) h<|fun z I n u h=>Ae<|AV 2<|.Z (BX Ja bn Qv rfl)<|CZ h (fun h=>Ae<|BP<|D6 h fun j q m s h=>FI A8 A8 A8 (.a 2<|.p (CG Ja q Qv fH rfl)<|.a 3<|.p (CG Ja s Qv fH rfl)<|.a 1<|.p (x:=(Aa (!WU j m))) (RY [.int .i64 j.Pos,.int .i64 j.Id,.int .i64 j.Status,.bool j.Gone] [.int .i64 m.Pos,.int .i64 m.Id,.int .i64 m.Status,.bool m.Gone] (zQ j m) BQ agE rfl)<|.nil _)<|BR h Ba fun h=>Bg<|.a 3<|.nil<|n _ _ (Ah 26 35 []) h) fun h=>El
def aC (h:Ap) (j:Ap) (n:(Int->AB AO)):Int->AB AO:=fun m=>(bif m<(h.length:Int) then(BI h m).bind fun q=>(BI j m).bind fun r=>(bif (q != r)then some false else n (IntKind.i64.wrap (m+1)))else some true)
def rP (h:Ap) (j:Ap):Int->AB AO:=aS (aC h j) Am
def Xg (h:Ap) (j:Ap):AB AO:=(bif ((h.length:Int) != (j.length:Int))then some false else rP h j 0)
def aeP (bn bG r) (h:Xg bn bG=some r):BL 37 [Eu bn,Eu bG] [] (Aa r) []:=BO func37 rfl<|AU<|Ae<|AV 1<|.p (BX Aq bn Ei rfl)<|.a 1<|.Z (BX Aq bG Ei rfl)<|BR h Ba fun h=>Ae<|AU<|BP<|Dx (fun q=>⟨Bo 26 [(0,Eu bn),(1,Eu bG),(5,Ag q)],[],0⟩) _ _ _ (Ah 26 35 []) h<|fun s u j q h=>Ae<|AV 2<|.Z (BX Aq bn Ei rfl)<|CZ h (fun h=>Ae<|BP<|D6 h fun z m I n h=>FI A8 A8 A8 (.a 2<|.p (CG Aq m Ei EY rfl)<|.a 3<|.p (CG Aq n Ei EY rfl)<|.a 2<|.nil _)<|BR h Ba fun h=>Bg<|.a 3<|bK) fun h=>El
def TR (h:(Int->AB AO)) (j:Int) (m:AO):AB AO:=(bif m then some false else h (IntKind.i64.wrap (j+1)))
abbrev RV:=AA Q9
def jI (h:RV) (j:RV) (n:(Int->AB AO)):Int->AB AO:=fun m=>(bif m<(h.length:Int) then(BI h m).bind fun z=>(BI j m).bind fun I=>(bif (z.Kind != I.Kind)then TR n m true else(BI h m).bind fun q=>(BI j m).bind fun r=>(bif (!(q.Key.toList==r.Key.toList))then TR n m true else(BI h m).bind fun s=>(BI j m).bind fun u=>TR n m (s.Id != u.Id)))else some true)
def rM (h:RV) (j:RV):Int->AB AO:=aS (jI h j) Am
def WW (h:RV) (j:RV):AB AO:=(bif ((h.length:Int) != (j.length:Int))then some false else rM h j 0)
def adU (bn bG r) (h:WW bn bG=some r):BL 71 [.d ((Bj Em) bn),.d ((Bj Em) bG)] [] (Aa r) []:=BO func71 rfl<|AU<|Ae<|AV 1<|.p (BX Em bn Gg rfl)<|.a 1<|.Z (BX Em bG Gg rfl)<|BR h Ba fun h=>Ae<|AU<|BP<|Dx (fun L=>⟨Bo 54 [(0,.d ((Bj Em) bn)),(1,.d ((Bj Em) bG)),(5,Ag L)],[],0⟩) _ _ _ (Ah 54 35 []) h<|fun Y Z M L h=>Ae<|AV 2<|.Z (BX Em bn Gg rfl)<|CZ h (fun h=>Ae<|BP<|Dq (fun s=>∃(O:AO),DI s ⟨Bo 54 [(0,.d ((Bj Em) bn)),(1,.d ((Bj Em) bG)),(5,Ag L),(53,Aa O)],[],0⟩/\TR Z L O=some r) (by rintro s ⟨O,hs,h⟩;exact Dk hs<|BR h Ba fun h=>Bg<|.a 3<|.nil<|M _ _ (Ah 54 35 []) h)<|fun K7=>D6 h fun x8 u x9 z h=>JJ h (fun j h=>Fr A8 A8 A8 (.a 2<|.p (CG Em u Gg Il rfl)<|.a 4<|.p (CG Em z Gg Il rfl)<|.a 3<|.c (CO some j)<|.a 25<|.nil _)<|K7 _ ⟨true,Ah 54 9007199254741027 [],h⟩) fun j h=>D6 h fun x11 n x12 q h=>JJ h (fun m h=>Fr A8 A8 A8 (.a 2<|.p (CG Em u Gg Il rfl)<|.a 4<|.p (CG Em z Gg Il rfl)<|.a 3<|.c (CO some j)<|.a 2<|.p (CG Em n Gg Il rfl)<|.a 4<|.p (CG Em q Gg Il rfl)<|.a 4<|.c (CO some m)<|.a 12<|.nil _)<|K7 _ ⟨true,Ah 54 9007199254741027 [],h⟩) fun m h=>D6 h fun S I U J h=>Fr A8 A8 A8 (.a 2<|.p (CG Em u Gg Il rfl)<|.a 4<|.p (CG Em z Gg Il rfl)<|.a 3<|.c (CO some j)<|.a 2<|.p (CG Em n Gg Il rfl)<|.a 4<|.p (CG Em q Gg Il rfl)<|.a 4<|.c (CO some m)<|.a 2<|.p (CG Em I Gg Il rfl)<|.a 4<|.p (CG Em J Gg Il rfl)<|.a 4<|.nil _)<|K7 _ ⟨(S.Id != U.Id),Ah 54 9007199254741027 [],h⟩) fun h=>El
def jw (j:Dj) (m:Dj) (n:(Int->AB AO)):Int->AB AO:=fun h=>(bif h<(j.jF.length:Int) then(BI j.jF h).bind fun q=>(BI m.jF h).bind fun r=>(bif (!WB q r)then some false else n (IntKind.i64.wrap (h+1)))else some true)
def jm (h:Dj) (j:Dj):Int->AB AO:=aS (jw h j) Am
def Zr (h:Dj) (j:Dj) (n:(Int->AB AO)):Int->AB AO:=fun m=>(bif m<(h.gq.length:Int) then(BI h.gq m).bind fun q=>(BI j.gq m).bind fun r=>(bif (!WR q r)then some false else n (IntKind.i64.wrap (m+1)))else jm h j 0)
def l7 (h:Dj) (j:Dj):Int->AB AO:=aS (Zr h j) Am
def Un (h:Dj) (j:Dj):AB AO:=(bif ((h.gq.length:Int) != (j.gq.length:Int))then some true else some ((h.jF.length:Int) != (j.jF.length:Int))).bind fun m=>(bif m then some false else l7 h j 0)
def adb (bn bG r) (h:Un bn bG=some r):BL 72 [LU bn,LU bG] [] (Aa r) []:=BO func72 rfl<|AU<|Ae<|AV 2<|.p (BX Ls bn.gq O9 rfl)<|.a 2<|.p (BX Ls bG.gq O9 rfl)<|.a 1<|AQ h fun U J h=>.mg 14 8 (Aa U) (.bi J (k2:=fun h=>.a 2<|.p (BX La bn.jF OY rfl)<|.a 2<|.Z (BX La bG.jF OY rfl)<|CJ))<|.dQ<|BR h Ba fun h=>Ae<|AU<|BP<|Dx (fun S=>⟨Bo 59 [(2,.ptr 0 0),(3,.ptr 1 0),(5,Ag S)],[.box (Bc (Hf bn)),.box (Bc (Hf bG))],0⟩) _ _ _ (Ah 59 44 [Ak 0,Ak 1]) h<|fun Y k5 L S h=>Ae<|AV 3<|.Z (BX Ls bn.gq O9 rfl)<|CZ h (fun h=>Ae<|BP<|D6 h fun n M q O h=>FI A8 A8 A8 (.a 3<|.p (CG Ls M O9 Z4 rfl)<|.a 4<|.p (CG Ls O O9 Z4 rfl)<|.a 1<|.p (x:=(Aa (!WR n q))) (RY [.string n.User,.int .i64 n.Thread,.int .i64 n.Id,.int .i64 n.Time] [.string q.User,.int .i64 q.Thread,.int .i64 q.Id,.int .i64 q.Time] (ad2 n q) BQ aaE rfl)<|.nil _)<|BR h Ba fun h=>Bg<|.a 3<|.nil<|L _ _ (Ah 59 44 [Ak 0,Ak 1]) h) fun h=>FB<|Ae<|AU<|BP<|Dx (fun s=>⟨Bo 59 [(2,.ptr 0 0),(3,.ptr 1 0),(6,Ag s)],[.box (Bc (Hf bn)),.box (Bc (Hf bG))],0⟩) _ _ _ (Ah 59 76 [Ak 0,Ak 1]) h<|fun Z k11 u s h=>Ae<|AV 3<|.Z (BX La bn.jF OY rfl)<|CZ h (fun h=>Ae<|BP<|D6 h fun j z m I h=>FI A8 A8 A8 (.a 3<|.p (CG La z OY Y2 rfl)<|.a 4<|.p (CG La I OY Y2 rfl)<|.a 1<|.p (x:=(Aa (!WB j m))) (RY [.string j.User,.int .i64 j.Until] [.string m.User,.int .i64 m.Until] (acH j m) BQ agc rfl)<|.nil _)<|BR h Ba fun h=>Bg<|.a 3<|.nil<|u _ _ (Ah 59 76 [Ak 0,Ak 1]) h) fun h=>El
def SP (h:Dj) (j:Dj):AB AO:=(bif (h.Id.toList==j.Id.toList)then some (h.Next==j.Next)else some false).bind fun I=>(bif I then(SS h.Events j.Events).bind fun J=>some J else some false).bind fun L=>(bif L then(SS h.Waiting j.Waiting).bind fun M=>some M else some false).bind fun O=>(bif O then(Yf h.Rows j.Rows).bind fun m=>some m else some false).bind fun S=>(bif S then(Xg h.vJ j.vJ).bind fun n=>some n else some false).bind fun q=>(bif q then(WW h.State j.State).bind fun r=>some r else some false).bind fun s=>(bif s then(Un h j).bind fun u=>some u else some false).bind fun z=>some z
def adw (bn bG r) (h:SP bn bG=some r):BL 21 [LU bn,LU bG] [] (Aa r) []:=BO func21 rfl<|AU<|AV 5<|AQ h fun x1 I h=>.mg 10 6 (Aa x1) (.bi I)<|.a 1<|AQ h fun x3 J h=>.mg 18 5 (Aa x3) (Bh J (fun e i=>by subst e;have h:=i;exact AQ h fun x5 L h=>.a 4<|.X (lX bn.Events bG.Events x5 L)<|CJ))<|.a 1<|AQ h fun x6 M h=>.mg 25 5 (Aa x6) (Bh M (fun e i=>by subst e;have h:=i;exact AQ h fun x8 O h=>.a 4<|.X (lX bn.Waiting bG.Waiting x8 O)<|CJ))<|.a 1<|AQ h fun x9 S h=>.mg 32 5 (Aa x9) (Bh S (fun e i=>by subst e;have h:=i;exact AQ h fun U j h=>.a 4<|.X (aaq bn.Rows bG.Rows U j)<|CJ))<|.a 1<|AQ h fun Y m h=>.mg 39 5 (Aa Y) (Bh m (fun e i=>by subst e;have h:=i;exact AQ h fun Z n h=>.a 4<|.X (aeP bn.vJ bG.vJ Z n)<|CJ))<|.a 1<|AQ h fun x15 q h=>.mg 46 5 (Aa x15) (Bh q (fun e i=>by subst e;have h:=i;exact AQ h fun x17 s h=>.a 4<|.X (adU bn.State bG.State x17 s)<|CJ))<|.a 1<|AQ h fun x18 u h=>.mg 53 3 (Aa x18) (Bh u (fun e i=>by subst e;have h:=i;exact AQ h fun uI z h=>.a 2<|.X (adb bn bG uI z)<|CJ))<|.aW<|CX
def Zc :BH:={ IQ with Room:=ae3,aQ:=abt,Kind:=11,Time:=5,Depth:=2,iM:=[1],Content:={ DC with Text:=afC } }
def Yk  :AB BH:=some Zc
def iy  (r:BH) (h:Yk=some r):BL 73 [] [] (ET r) []:=BO func73 rfl<|AU<|EM<|.Z (Et RN zero3 [Aq 1] rfl)<|J4<|by rw[←IK h];exact⟨[ET Zc],[],⟨⟨0,Bc (DT Zc),true,29,A8,A8,A8,Gy,Ir A8,Sv,A8⟩,trivial⟩,A8,A8,A8⟩
def ag7 (j:Ji) (h:AY) (k2:(Int->AB AO)):Int->AB AO:=fun m=>(bif m<(j.length:Int) then(BI j m).bind fun n=>(JO n).bind fun q=>(bif (q==0)then(SA n.aQ).bind fun r=>some (!(r.toList==h.toList))else some false).bind fun s=>(bif s then some false else k2 (IntKind.i64.wrap (m+1)))else some true)
def afi (j:Ji) (h:AY):Int->AB AO:=aS (ag7 j h) Am
def gZ (h:AY) (j:Ji):AB AO:=afi j h 0
def qR (Ip dD r) (h:gZ Ip dD=some r):BL 75 [Ce Ip,OM dD] [] (Aa r) []:=BO func75 rfl<|AU<|Ae<|AV 1<|.Z (BX DT dD GR rfl)<|BP<|Dx (fun u=>⟨Bo 24 [(0,Ce Ip),(7,OM dD),(8,Ag (dD.length:Int)),(9,Ag u)],[],0⟩) _ _ _ (Ah 24 897 []) h<|fun I k2 j u h=>AU<|Ae<|CZ h (fun h=>Ae<|BP<|AQ h fun z m h=>EM<|.Z (CG DT m GR Gy rfl)<|AQ h fun J n h=>AV 1<|.ca (U9 z J n)<|.a 1<|AQ h fun L q h=>.mg 16 6 (Aa L) (.bi q (fun h=>AQ h fun M s h=>.a 2<|.X (aF z.aQ M s)<|CJ))<|.dQ<|BR h Ba fun h=>Bg<|.a 2<|.nil<|j _ _ (Ah 24 897 []) h) fun h=>El
def Jk (h:AO):AB AO:=some h
def Ko (h:(OA×Int)) (x4:(OA×Int)) (x6:(OA×Int)) (v7:AO):AB AO:=(bif v7 then some false else(BI h.1 0).bind fun j=>(BI j.Events 0).bind fun m=>(bif (m.aQ.toList==tC.toList)then(BI h.1 0).bind fun n=>(bif (n.From.toList==Js.toList)then(BI h.1 0).bind fun q=>(bif (q.To.toList==JX.toList)then(BI h.1 0).bind fun r=>(BI r.Events 0).bind fun s=>(JO s).bind fun u=>(bif (u==0)then(BI x4.1 0).bind fun z=>(BI z.Events 0).bind fun I=>(JO I).bind fun J=>(bif (J==12)then(BI x6.1 0).bind fun L=>(BI L.Events 0).bind fun M=>(JO M).bind fun O=>(bif (O==12)then(RG ({ PW with Name:=Js }) (⟨7,JX,IQ⟩:Ey)).bind fun S=>(bif (S==2)then(RG ({ PW with Name:=Js }) (⟨1,Js,IQ⟩:Ey)).bind fun U=>(bif (U==1)then(BI h.1 0).bind fun Y=>(gZ Js Y.Events).bind fun Z=>(bif Z then(BI h.1 0).bind fun VR=>(gZ JX VR.Events).bind fun x38=>Jk (!x38)else Jk false)else Jk false)else Jk false)else Jk false)else Jk false)else Jk false)else Jk false)else Jk false)else Jk false))
def QO  :AB AO:=(Yk).bind fun s=>(PL ({ PW with Name:=Js }) (⟨1,JX,s⟩:Ey)).bind fun h=>(Yk).bind fun u=>(PL ({ PW with Name:=Js }) (⟨2,JX,u⟩:Ey)).bind fun j=>(Yk).bind fun z=>(PL ({ PW with Name:=Js }) (⟨4,JX,z⟩:Ey)).bind fun m=>(bif (h.2 != 0)then Ko h j m true else(bif (j.2 != 0)then Ko h j m true else(bif (m.2 != 0)then Ko h j m true else(bif ((h.1.length:Int) != 1)then Ko h j m true else(bif ((j.1.length:Int) != 1)then Ko h j m true else(bif ((m.1.length:Int) != 1)then Ko h j m true else(BI h.1 0).bind fun n=>(bif ((n.Events.length:Int) != 1)then Ko h j m true else(BI j.1 0).bind fun q=>(bif ((q.Events.length:Int) != 1)then Ko h j m true else(BI m.1 0).bind fun r=>Ko h j m ((r.Events.length:Int) != 1)))))))))
def zF (h:QO=some true):BL 22 [] [] (Aa true) []:=by
 refine BO func22 rfl ?_;unfold QO at h;refine AV 1<|.dQ ?_;refine AV 3<|.dQ ?_;obtain⟨x1,hx1,h⟩:=EF h;obtain⟨x2,hx2,h⟩:=EF h;refine FI A8 A8 A8 (.a 1<|.ca (iy  x1 hx1)<|.a 1<|.ca (Wp _ (⟨1,JX,x1⟩:Ey) x2 hx2)<|.a 5<|.nil _) ?_;obtain⟨x3,hx3,h⟩:=EF h;obtain⟨x4,hx4,h⟩:=EF h;refine FI A8 A8 A8 (.a 1<|.ca (iy  x3 hx3)<|.a 1<|.ca (Wp _ (⟨2,JX,x3⟩:Ey) x4 hx4)<|.a 5<|.nil _) ?_;obtain⟨x5,hx5,h⟩:=EF h;obtain⟨x6,hx6,h⟩:=EF h;refine FI A8 A8 A8 (.a 1<|.ca (iy  x5 hx5)<|.a 1<|.ca (Wp _ (⟨4,JX,x5⟩:Ey) x6 hx6)<|.a 5<|.nil _) ?_;refine Ae ?_;refine Dq (fun s=>∃(v7:AO),DI s ⟨Bo 158 [(1,.ptr 0 0),(2,.d ((Bj Dy) x2.1)),(4,.d ((Bj Dy) x4.1)),(6,.d ((Bj Dy) x6.1)),(78,Aa v7)],[.box (Bc (JH ({ PW with Name:=Js })))],0⟩/\Ko x2 x4 x6 v7=some true) ?_ ?_
 ·clear h;rintro s ⟨v7,hs,h⟩;refine Dk hs ?_;clear hs;unfold Ko at h;refine BK.cond v7 A8 (fun hb8=>?_) (fun hb8=>?_)
  ·replace h:=GU hb8 h;exact absurd (DU h) BQ
  replace h:=GI hb8 h;refine BK.skip ?_;refine Dq (fun s=>∃(v9:AO),DI s ⟨Bo 158 [(0,Aa v9)],[],0⟩/\Jk v9=some true) ?_ ?_
  ·clear h;rintro s ⟨v9,hs,h⟩;refine Dk hs ?_;clear hs;unfold Jk at h;refine J4 ?_;rw[←DU h];exact⟨[Aa v9],[],⟨QN A8,trivial⟩,A8,A8,A8⟩
  intro K10;obtain⟨x11,abE,h⟩:=EF h;obtain⟨x12,abG,h⟩:=EF h;refine Bg<|.a 1<|.p (IC (k:=.i64) Dy abE Hd IZ A8 rfl)<|.a 2<|.p (IC (k:=.i64) DT abG GR Gy A8 rfl)<|.a 3<|?_;rcases I5 (x12.aQ.toList==tC.toList)with L|L
  ·replace h:=GU L h;obtain⟨x14,abH,h⟩:=EF h;refine .c (CO some L)<|.a 1<|.p (IC (k:=.i64) Dy abH Hd IZ A8 rfl)<|.a 4<|?_;rcases I5 (x14.From.toList==Js.toList)with M|M
   ·replace h:=GU M h;obtain⟨x16,hx16,h⟩:=EF h;refine .c (CO some M)<|.a 1<|.p (IC (k:=.i64) Dy hx16 Hd IZ A8 rfl)<|.a 4<|?_;rcases I5 (x16.To.toList==JX.toList)with O|O
    ·replace h:=GU O h;obtain⟨x18,abI,h⟩:=EF h;obtain⟨x19,Xi,h⟩:=EF h;obtain⟨uI,QL,h⟩:=EF h;refine .c (CO some O)<|.a 1<|.p (IC (k:=.i64) Dy abI Hd IZ A8 rfl)<|.a 2<|.p (IC (k:=.i64) DT Xi GR Gy A8 rfl)<|.a 1<|.ca (U9 x19 uI QL)<|.a 2<|?_;rcases I5 (uI==0)with S|S
     ·replace h:=GU S h;obtain⟨Fj,Xj,h⟩:=EF h;obtain⟨x23,QJ,h⟩:=EF h;obtain⟨x24,hx24,h⟩:=EF h;refine .c (CO some S)<|.a 1<|.p (IC (k:=.i64) Dy Xj Hd IZ A8 rfl)<|.a 2<|.p (IC (k:=.i64) DT QJ GR Gy A8 rfl)<|.a 1<|.ca (U9 x23 x24 hx24)<|.a 2<|?_;rcases I5 (x24==12)with U|U
      ·replace h:=GU U h;obtain⟨OH,Xk,h⟩:=EF h;obtain⟨x27,hx27,h⟩:=EF h;obtain⟨x28,hx28,h⟩:=EF h;refine .c (CO some U)<|.a 1<|.p (IC (k:=.i64) Dy Xk Hd IZ A8 rfl)<|.a 2<|.p (IC (k:=.i64) DT hx27 GR Gy A8 rfl)<|.a 1<|.ca (U9 x27 x28 hx28)<|.a 2<|?_;rcases I5 (x28==12)with Y|Y
       ·replace h:=GU Y h;obtain⟨Tt,Xl,h⟩:=EF h;refine .c (CO some Y)<|.a 2<|.ca (fV _ (⟨7,JX,IQ⟩:Ey) Tt Xl)<|.a 2<|?_;rcases I5 (Tt==2)with Z|Z
        ·replace h:=GU Z h;obtain⟨x32,hx32,h⟩:=EF h;refine .c (CO some Z)<|.a 2<|.ca (fV _ (⟨1,Js,IQ⟩:Ey) x32 hx32)<|.a 2<|?_;rcases I5 (x32==1)with Ux|Ux
         ·replace h:=GU Ux h;obtain⟨x34,hx34,h⟩:=EF h;obtain⟨x35,abJ,h⟩:=EF h;refine .c (CO some Ux)<|.a 1<|.p (IC (k:=.i64) Dy hx34 Hd IZ A8 rfl)<|.a 2<|.ca (qR Js x34.Events x35 abJ)<|.a 2<|?_;cases x35 with
          |true=>
           replace h:=GU rfl h;obtain⟨VR,abK,h⟩:=EF h;obtain⟨x38,hx38,h⟩:=EF h;refine .a 1<|.p (IC (k:=.i64) Dy abK Hd IZ A8 rfl)<|.a 2<|.ca (qR JX VR.Events x38 hx38)<|.a 3<|.nil ?_;exact K10 _ ⟨(!x38),Ah 158 1 [],h⟩
          |false=>
           replace h:=GI rfl h;exact absurd (DU (show some false=some true from h)) BQ
         replace h:=GI Ux h;exact absurd (DU (show some false=some true from h)) BQ
        replace h:=GI Z h;exact absurd (DU (show some false=some true from h)) BQ
       replace h:=GI Y h;exact absurd (DU (show some false=some true from h)) BQ
      replace h:=GI U h;exact absurd (DU (show some false=some true from h)) BQ
     replace h:=GI S h;exact absurd (DU (show some false=some true from h)) BQ
    replace h:=GI O h;exact absurd (DU (show some false=some true from h)) BQ
   replace h:=GI M h;exact absurd (DU (show some false=some true from h)) BQ
  replace h:=GI L h;exact absurd (DU (show some false=some true from h)) BQ
 intro j;refine Bg<|.a 2<|?_;rcases I5 (x2.2 != 0)with m|m
 ·replace h:=GU m h;refine .c (CO some m)<|.a 46<|.nil ?_;exact j _ ⟨true,Ah 158 302231454903657293676630 [Ak 0],h⟩
 replace h:=GI m h;refine .c (CO some m)<|.a 3<|?_;rcases I5 (x4.2 != 0)with n|n
 ·replace h:=GU n h;refine .c (CO some n)<|.a 42<|.nil ?_;exact j _ ⟨true,Ah 158 302231454903657293676630 [Ak 0],h⟩
 replace h:=GI n h;refine .c (CO some n)<|.a 3<|?_;rcases I5 (x6.2 != 0)with q|q
 ·replace h:=GU q h;refine .c (CO some q)<|.a 38<|.nil ?_;exact j _ ⟨true,Ah 158 302231454903657293676630 [Ak 0],h⟩
 replace h:=GI q h;refine .c (CO some q)<|.a 1<|.p (BX Dy x2.1 Hd rfl)<|.a 2<|?_;rcases I5 ((x2.1.length:Int) != 1)with r|r
 ·replace h:=GU r h;refine .c (CO some r)<|.a 33<|.nil ?_;exact j _ ⟨true,Ah 158 302231454903657293676630 [Ak 0],h⟩
 replace h:=GI r h;refine .c (CO some r)<|.a 1<|.p (BX Dy x4.1 Hd rfl)<|.a 2<|?_;rcases I5 ((x4.1.length:Int) != 1)with u|u
 ·replace h:=GU u h;refine .c (CO some u)<|.a 28<|.nil ?_;exact j _ ⟨true,Ah 158 302231454903657293676630 [Ak 0],h⟩
 replace h:=GI u h;refine .c (CO some u)<|.a 1<|.p (BX Dy x6.1 Hd rfl)<|.a 2<|?_;rcases I5 ((x6.1.length:Int) != 1)with z|z
 ·replace h:=GU z h;refine .c (CO some z)<|.a 23<|.nil ?_;exact j _ ⟨true,Ah 158 302231454903657293676630 [Ak 0],h⟩
 replace h:=GI z h;obtain⟨x46,abL,h⟩:=EF h;refine .c (CO some z)<|.a 1<|.p (IC (k:=.i64) Dy abL Hd IZ A8 rfl)<|.a 2<|.p (BX DT x46.Events GR rfl)<|.a 2<|?_;rcases I5 ((x46.Events.length:Int) != 1)with I|I
 ·replace h:=GU I h;refine .c (CO some I)<|.a 15<|.nil ?_;exact j _ ⟨true,Ah 158 302231454903657293676630 [Ak 0],h⟩
 replace h:=GI I h;obtain⟨x48,abM,h⟩:=EF h;refine .c (CO some I)<|.a 1<|.p (IC (k:=.i64) Dy abM Hd IZ A8 rfl)<|.a 2<|.p (BX DT x48.Events GR rfl)<|.a 2<|?_;rcases I5 ((x48.Events.length:Int) != 1)with J|J
 ·replace h:=GU J h;refine .c (CO some J)<|.a 7<|.nil ?_;exact j _ ⟨true,Ah 158 302231454903657293676630 [Ak 0],h⟩
 replace h:=GI J h;obtain⟨x50,abN,h⟩:=EF h;refine .c (CO some J)<|.a 1<|.p (IC (k:=.i64) Dy abN Hd IZ A8 rfl)<|.a 2<|.p (BX DT x50.Events GR rfl)<|.a 2<|.nil ?_;exact j _ ⟨((x50.Events.length:Int) != 1),Ah 158 302231454903657293676630 [Ak 0],h⟩
def mX :QO=some true:=A8
def zu (r) (h:QO=some r):BL 22 [] [] (Aa r) []:=by
 obtain rfl:=IK (h.symm.trans mX);exact zF mX
def iq (h:(Int->AB AO)) (j:Int):AB AO:=h (IntKind.i64.wrap (j+1))
def kH (O:(OA×Int)) (s:Int) (n:Fp) (j:Dj) (S:(Int->AB AO)) (q:(Int->AB AO)):Int->AB AO:=fun h=>(BI O.1 s).bind fun u=>(bif h<(u.Events.length:Int) then(BI O.1 s).bind fun z=>(BI z.Events h).bind fun r=>(TT r.aQ).bind fun I=>(bif (I.toList==n.Name.toList)then iq q h else(Sl j r).bind fun m=>(bif (m.2.2==0)then some true else some (m.2.1 != 0)).bind fun J=>(bif J then some true else(SP m.1 j).bind fun L=>some (!L)).bind fun M=>(bif M then some false else iq q h))else S (IntKind.i64.wrap (s+1)))
def rJ (m:(OA×Int)) (n:Int) (h:Fp) (j:Dj) (q:(Int->AB AO)):Int->AB AO:=aS (kH m n h j q) Am
def dH (n:(OA×Int)) (h:Fp) (j:Dj) (r:(Int->AB AO)):Int->AB AO:=fun q=>(bif q<(n.1.length:Int) then rJ n q h j r 0 else(QO).bind fun m=>some m)
def xK (m:(OA×Int)) (h:Fp) (j:Dj):Int->AB AO:=aS (dH m h j) Am
def jY (j:Dj) (h:Fp) (m:Ey):AB AO:=(XD j 12).bind fun n=>(bif n then some true else(X8 h m).bind fun q=>some q).bind fun r=>(bif r then some true else(PL h m).bind fun s=>xK s h j 0)
def ae8 (jV nD Uy r) (h:jY jV nD Uy=some r):BL 4 [LU jV,.d (JH nD),.d (Nc Uy)] [] (Aa r) []:=BO func4 rfl<|AU<|Ae<|AQ h fun x1 hx1 h=>AV 1<|.ca (acs jV 12 x1 hx1)<|.a 1<|AQ h fun x2 hx2 h=>.mg 18 3 (Aa x2) (Bh hx2 (k2:=fun e i=>by subst e;have h:=i;exact AQ h fun x4 hx4 h=>.a 2<|.X (Opn nD Uy x4 hx4)<|CJ))<|.dQ<|BR h Ba fun h=>AQ h fun m hx6 h=>AV 2<|.X (Wp nD Uy m hx6)<|Ae<|AU<|BP<|Dx (fun v7=>⟨Bo 78 [(3,.ptr 0 0),(4,.ptr 1 0),(7,.d ((Bj Dy) m.1)),(9,Ag v7)],[.box (Bc (Hf jV)),.box (Bc (JH nD))],0⟩) _ _ _ (Ah 78 664 [Ak 0,Ak 1]) h<|fun J28 k8 hk8 v7 h=>Ae<|AV 2<|.Z (BX Dy m.1 Hd rfl)<|CZ h (fun h=>Ae<|BP<|AU<|BP<|Dx (fun j=>⟨Bo 78 [(3,.ptr 0 0),(4,.ptr 1 0),(7,.d ((Bj Dy) m.1)),(9,Ag v7),(10,Ag j)],[.box (Bc (Hf jV)),.box (Bc (JH nD))],0⟩) _ _ _ (Ah 78 1688 [Ak 0,Ak 1]) h<|fun J26 k11 n j h=>Ae<|AQ h fun x12 q h=>AV 3<|.p (CG Dy q Hd IZ rfl)<|.a 2<|.Z (BX DT x12.Events GR rfl)<|CZ h (fun h=>Dq (fun s=>DI s ⟨Bo 78 [(3,.ptr 0 0),(4,.ptr 1 0),(7,.d ((Bj Dy) m.1)),(9,Ag v7),(10,Ag j)],[.box (Bc (Hf jV)),.box (Bc (JH nD))],0⟩/\iq k11 j=some r) (by rintro s ⟨hs,h⟩;exact Dk hs<|Bg<|.a 3<|.nil<|n _ _ (Ah 78 1688 [Ak 0,Ak 1]) h)<|fun u=>BP<|D6 h fun x15 z I J h=>AV 2<|.p (CG Dy z Hd IZ rfl)<|.a 3<|.Z (CG DT J GR Gy rfl)<|Ae<|AQ h fun x17 L h=>FI A8 A8 A8 (.a 2<|.ca (adZ I.aQ x17 L)<|.a 3<|.nil _)<|BR h (fun h=>FB<|u _ ⟨Ah 78 1688 [Ak 0,Ak 1],h⟩) fun h=>AQ h fun M O h=>AV 2<|.X (ael jV I M O)<|AV 2<|AQ h fun uI S h=>.mg 67 3 (Aa uI) (.bi S)<|.a 1<|AQ h fun Fj U h=>.mg 72 4 (Aa Fj) (Bh U (k2:=fun e i=>by subst e;have h:=i;exact AQ h fun x24 Y h=>.a 2<|.X (adw M.1 jV x24 Y)<|CJ))<|.dQ<|BR h Ba fun h=>u _ ⟨Ah 78 1688 [Ak 0,Ak 1],h⟩) fun h=>FB<|Bg<|.a 3<|.nil<|hk8 _ _ (Ah 78 664 [Ak 0,Ak 1]) h) fun h=>FB<|AQ h fun x27 Z h=>EM<|.X (zu  x27 Z)<|CX
def MH  (n:(Int->Ap->AB Ap)):Int->Ap->AB Ap:=fun h m=>(bif h>=128 then(PY h 128).bind fun q=>(F6 1 m [IntKind.u8.wrap (IntKind.u64.wrap (q+128))]).bind fun r=>(iC .u64 h 128).bind fun s=>n s r else(F6 1 m [IntKind.u8.wrap h]).bind fun j=>some j)
def qV  :Int->Ap->AB Ap:=bZ (MH) Am
def jl (h:Int):AB Ap:=qV h []
def YB (h:Int):AB Ap:=(Le .shl .u64 (IntKind.u64.wrap h) 1).bind fun j=>(bif h<0 then jl (QV .u64 j)else jl j)
def Fq (h:Ap) (j:Int):AB Ap:=(F6 1 [] h).bind fun m=>(YB j).bind fun n=>(F6 1 m n).bind fun q=>some q
def JW (j:Ap) (h:AY):AB Ap:=(Fq j (h.size:Int)).bind fun m=>(F6 1 m (Aj h)).bind fun n=>some n
def V9 (j:Ap) (h:AO):AB Ap:=(F6 1 [] j).bind fun m=>(bif h then(F6 1 m [1]).bind fun n=>some n else(F6 1 m [0]).bind fun q=>some q)
def OT (h:Dw) (n:(Ap->Int->AB Ap)):Ap->Int->AB Ap:=fun m j=>(bif j<(h.length:Int) then(BI h j).bind fun q=>(JW m q).bind fun r=>n r (IntKind.i64.wrap (j+1))else some m)
def um (h:Dw):Ap->Int->AB Ap:=bZ (OT h) Am
def Ul (j:Ap) (h:Dw):AB Ap:=(Fq j (h.length:Int)).bind fun m=>um h m 0
def qZ (h:Dl):AB Ap:=some [h.User,h.Message,h.State,h.iD,h.lS,h.qm,h.iE]
def X3 (j:Ap) (n:(Ap->Int->AB Ap)):Ap->Int->AB Ap:=fun m h=>(bif h<(j.length:Int) then(BI j h).bind fun q=>(Fq m q).bind fun r=>n r (IntKind.i64.wrap (h+1))else some m)
def jC (h:Ap):Ap->Int->AB Ap:=bZ (X3 h) Am
def YH (h:BF) (n:(Ap->Int->AB Ap)):Ap->Int->AB Ap:=fun m j=>(bif j<(h.Levels.Kinds.length:Int) then(BI h.Levels.Kinds j).bind fun q=>(Fq m q.Kind).bind fun r=>(BI h.Levels.Kinds j).bind fun s=>(Fq r s.N).bind fun u=>n u (IntKind.i64.wrap (j+1))else(qZ h.Levels).bind fun z=>jC z m 0)
def dW (h:BF):Ap->Int->AB Ap:=bZ (YH h) Am
def Yv (h:BF) (m:(Ap->Int->AB Ap)):Ap->Int->AB Ap:=fun z j=>(bif j<(h.Levels.Users.length:Int) then(BI h.Levels.Users j).bind fun n=>(JW z n.User).bind fun q=>(BI h.Levels.Users j).bind fun r=>(Fq q r.N).bind fun s=>m s (IntKind.i64.wrap (j+1))else(Fq z (h.Levels.Kinds.length:Int)).bind fun u=>dW h u 0)
def qx (h:BF):Ap->Int->AB Ap:=bZ (Yv h) Am
def WH (h:BF):AB Ap:=(JW [] h.Text).bind fun j=>(Fq j h.N).bind fun m=>(Fq m h.Target).bind fun n=>(V9 n h.Thread).bind fun q=>(JW q h.Via).bind fun r=>(Ul r h.Allow).bind fun s=>(Ul s h.dw).bind fun u=>(Fq u (h.Levels.Users.length:Int)).bind fun z=>qx h z 0
def su  :AB Int:=some 860922984064492325
def jX (h:Ap) (n:(Int->Int->AB Int)):Int->Int->AB Int:=fun m j=>(bif j<(h.length:Int) then(BI h j).bind fun q=>(PY (IntKind.u64.wrap ((CY .xor .u64 m (IntKind.u64.wrap q))*1099511628211)) 4611686018427387904).bind fun r=>n r (IntKind.i64.wrap (j+1))else some (IntKind.i64.wrap m))
def mQ (h:Ap):Int->Int->AB Int:=bZ (jX h) Am
def uZ (h:Int) (j:Ap):AB Int:=(PY (IntKind.u64.wrap h) 4611686018427387904).bind fun m=>mQ j m 0
def XJ (h:Ap):AB Int:=(su).bind fun j=>(uZ j h).bind fun m=>some m
def kP (h:BH):AB Int:=(WH h.Content).bind fun j=>(XJ j).bind fun m=>some m
def vk (h:BH):AB AO:=(kP h).bind fun j=>some (j==h.Hash)
def fG (j:Int) (h:BF):AB BF:=(bif (j==1)then some h else(bif (j==2)then some ({ DC with N:=h.N,Via:=h.Via })else(bif (j==3)then some ({ DC with Levels:=h.Levels })else(bif (j==4)then some ({ DC with N:=h.N,Allow:=h.Allow })else(bif (j==5)then some ({ DC with N:=h.N })else(bif (j==6)then some ({ DC with Allow:=h.Allow,dw:=h.dw })else(bif (j==14)then some ({ DC with Target:=h.Target })else some DC)))))))
def Zo (h:BH):AB BH:=(fG h.Kind h.Content).bind fun j=>some ({ h with Content:=j })
def Xp (h:Int):AB AO:=(bif h>=1 then some (decide (h<=10))else some false).bind fun j=>some j
def Xr (h:AY):AB Int:=(Pj h 33).bind fun j=>(bif (!j)then some 3 else some 0)
def Ry (h:AY):AB Int:=(Pj h 64).bind fun j=>(bif (!j)then some 3 else some 0)
def dM (h:AY) (r:(Int->AB AO)):Int->AB AO:=fun j=>(bif j<(h.size:Int) then(EC h j).bind fun m=>(bif m<33 then some true else(EC h j).bind fun n=>some (decide (n>126))).bind fun q=>(bif q then some false else r (IntKind.i64.wrap (j+1)))else some true)
def gW (h:AY):Int->AB AO:=aS (dM h) Am
def cV (j:Int) (h:AY):AB AO:=(bif (j==2)then(Ry h).bind fun m=>some (m==0)else(bif (j != 9)then some true else(bif (h.size:Int)<1 then some true else some (decide ((h.size:Int)>32))).bind fun n=>(bif n then some false else gW h 0)))
def Yd (k2:(Int->AB AO)) (h:Int) (j:AO):AB AO:=(bif j then some false else k2 (IntKind.i64.wrap (h+1)))
def gQ (h:Ap) (k2:(Int->AB AO)):Int->AB AO:=fun j=>(bif j<(h.length:Int) then(BI h j).bind fun q=>(bif q<0 then Yd k2 j true else(bif j>0 then(BI h j).bind fun m=>(BI h (IntKind.i64.wrap (j-1))).bind fun n=>Yd k2 j (decide (m<=n))else Yd k2 j false))else some true)
def tu (h:Ap):Int->AB AO:=aS (gQ h) Am
def Xd (h:Ap):AB AO:=tu h 0
def OJ (h:BH) (L:AO):AB Int:=(bif L then some 1 else(Xr h.Room).bind fun M=>(bif (M != 0)then some true else(Ry h.aQ).bind fun O=>some (O != 0)).bind fun S=>(bif S then some true else(cV h.Kind h.Key).bind fun U=>some (!U)).bind fun Y=>(bif Y then some 3 else(bif h.Time<0 then some true else some (decide (h.Time>1000000000))).bind fun j=>(bif j then some true else some (decide (h.Depth<1))).bind fun m=>(bif m then some true else some (decide (h.Depth>100000))).bind fun n=>(bif n then some 2 else(bif (h.iM.length:Int)>10 then some true else some (decide ((h.iT.length:Int)>8))).bind fun q=>(bif q then some 7 else(Xd h.iM).bind fun r=>(bif (!r)then some true else(Xd h.iT).bind fun s=>some (!s)).bind fun u=>(bif u then some 8 else(bif ((h.iM.length:Int)==0)then some (h.Kind != 1)else some false).bind fun z=>(bif z then some 9 else(bif (h.Kind==1)then(bif (h.iM.length:Int)>0 then some true else some (decide ((h.iT.length:Int)>0))).bind fun I=>some I else some false).bind fun J=>(bif J then some 6 else some 0)))))))
def wF (h:BH):AB Int:=(bif h.Kind<1 then OJ h true else(bif h.Kind>14 then OJ h true else(Xp h.Kind).bind fun j=>(bif (!(h.State==j))then OJ h true else(bif (!(h.Key.toList==Bd.toList))then(bif (h.Kind != 2)then OJ h (h.Kind != 9)else OJ h false)else OJ h false))))
def UQ (h:Int):AB AO:=(bif h>=1 then some (decide (h<=14))else some false).bind fun j=>some j
def aJ (h:AO):AB Dw:=(bif h then some [FV,FC]else some [])
def fB (h:Int) (j:AO):AB Dw:=(bif j then some [FY]else(bif (h==6)then some [GV,Gl]else(bif (h==7)then some [FV]else(bif (h==9)then some [FV,FY]else(bif (h==11)then some [FV,FC,GY]else(bif (h==12)then aJ (h==12)else(bif (h==13)then aJ (h==13)else aJ (h==14))))))))
def yT (h:Int):AB Dw:=(bif (h==2)then some [FV,FY,Gu]else(bif (h==3)then some [Gs]else(bif (h==4)then some [FY,GV]else(bif (h==5)then fB h (h==5)else(bif (h==8)then fB h (h==8)else fB h (h==10))))))
def afB (m:Dw) (h:AY) (n:(Int->AB AO)):Int->AB AO:=fun j=>(bif j<(m.length:Int) then(BI m j).bind fun q=>(bif (q.toList==h.toList)then some true else n (IntKind.i64.wrap (j+1)))else some false)
def abP (j:Dw) (h:AY):Int->AB AO:=aS (afB j h) Am
def Au (j:Int) (h:AY):AB AO:=(yT j).bind fun m=>abP m h 0
def dR (h:Dl):AB AO:=(PZ h Jb).bind fun j=>some j
def Wh (h:Int) (j:BF):AB AO:=(bif (j.Text.toList==Bd.toList)then some true else(Au h FV).bind fun x3=>some x3).bind fun x1=>(bif x1 then(bif (j.N==0)then some true else(Au h FY).bind fun x8=>some x8).bind fun x6=>some x6 else some false).bind fun x4=>(bif x4 then(bif (j.Target==0)then some true else(Au h FC).bind fun m=>some m).bind fun n=>some n else some false).bind fun x9=>(bif x9 then(bif (!j.Thread)then some true else(Au h GY).bind fun q=>some q).bind fun r=>some r else some false).bind fun s=>(bif s then(bif (j.Via.toList==Bd.toList)then some true else(Au h Gu).bind fun u=>some u).bind fun z=>some z else some false).bind fun I=>(bif I then(bif ((j.Allow.length:Int)==0)then some true else(Au h GV).bind fun J=>some J).bind fun L=>some L else some false).bind fun M=>(bif M then(bif ((j.dw.length:Int)==0)then some true else(Au h Gl).bind fun O=>some O).bind fun S=>some S else some false).bind fun U=>(bif U then(dR j.Levels).bind fun Y=>(bif Y then some true else(Au h Gs).bind fun Z=>some Z).bind fun VR=>some VR else some false).bind fun x34=>some x34
def aX (h:Int):AB AO:=(bif (h==7)then some true else some (h==8)).bind fun m=>(bif m then some true else some (h==9)).bind fun n=>(bif n then some true else some (h==10)).bind fun q=>(bif q then some true else some (h==11)).bind fun r=>(bif r then some true else some (h==12)).bind fun s=>(bif s then some true else some (h==13)).bind fun j=>some j
def aT (h:AY) (m:(Int->AB Int)):Int->AB Int:=fun j=>(bif j<(h.size:Int) then(EC h j).bind fun n=>(bif n<33 then some true else(EC h j).bind fun q=>some (decide (q>126))).bind fun r=>(bif r then some 3 else m (IntKind.i64.wrap (j+1)))else some 0)
def jd (h:AY):Int->AB Int:=aS (aT h) Am
def WI (h:AY):AB Int:=(bif ((h.size:Int)==0)then some 9 else(bif (h.size:Int)>64 then some 7 else jd h 0))
def Qn (j:Int) (h:BF):AB Int:=(bif (j==9)then(bif (h.Text.toList==Bd.toList)then some 0 else(WI h.Text).bind fun m=>some m)else(bif (j==12)then some (h.Text.toList==Bd.toList)else some false).bind fun n=>(bif n then some 9 else(bif (h.Text.size:Int)>400 then some true else(bif (j==12)then some (decide ((h.Text.size:Int)>32))else some false).bind fun q=>some q).bind fun r=>(bif r then some 7 else some 0)))
def QT (h:AO):AB Int:=(bif (!h)then some 2 else some 0)
def vU (h:Int) (j:Int) (s:AO):AB Int:=(bif s then(bif h>=0 then some (decide (h<=3))else some false).bind fun u=>QT u else(bif (j==8)then(bif h>=0 then some (decide (h<=1000000000))else some false).bind fun m=>QT m else(bif (j==10)then(bif h>=1 then some (decide (h<=10000))else some false).bind fun n=>QT n else(bif (j==9)then(bif (h==1)then some true else some (h==2)).bind fun q=>(bif q then some true else some (h==6)).bind fun r=>QT r else QT true))))
def IB (h:Int) (j:Int):AB Int:=(bif (h==2)then(bif j>=0 then some (decide (j<=4))else some false).bind fun m=>QT m else(bif (h==4)then vU j h (h==4)else vU j h (h==5)))
def NV (j:Int) (h:BF):AB Int:=(Au j FC).bind fun m=>(bif m then(bif h.Target<0 then some true else(bif (h.Target==0)then some (j != 11)else some false).bind fun n=>some n).bind fun q=>some q else some false).bind fun r=>(bif r then some 2 else(bif h.Thread then some (h.Target==0)else some false).bind fun s=>(bif s then some 1 else some 0))
def SI (h:BF):AB Int:=(bif (h.Via.toList==Bd.toList)then some 0 else(bif (h.N != 3)then some 1 else(Ry h.Via).bind fun j=>some j))
def aA (j:(Int->AB Int)) (m:Int) (h:AO):AB Int:=(bif h then some 8 else j (IntKind.i64.wrap (m+1)))
def aV (h:BF) (q:(Int->AB Int)):Int->AB Int:=fun j=>(bif j<(h.Allow.length:Int) then(BI h.Allow j).bind fun r=>(Xr r).bind fun s=>(bif (s != 0)then some 3 else(bif j>0 then(BI h.Allow j).bind fun m=>(BI h.Allow (IntKind.i64.wrap (j-1))).bind fun n=>aA q j (Op.bytesLess (m.toList) (n.toList)||m.toList==n.toList)else aA q j false))else some 0)
def qO (h:BF):Int->AB Int:=aS (aV h) Am
def XK (h:BF):AB Int:=(bif (h.Allow.length:Int)>0 then some (h.N != 3)else some false).bind fun j=>(bif j then some 1 else(bif (h.Allow.length:Int)>100 then some 7 else qO h 0))
def YI (h:Dw) (n:(Int->AB Int)):Int->AB Int:=fun j=>(bif j<(h.length:Int) then(BI h j).bind fun q=>(WI q).bind fun m=>(bif (m != 0)then some m else n (IntKind.i64.wrap (j+1)))else some 0)
def ay (h:Dw):Int->AB Int:=aS (YI h) Am
def MJ (h:Dw):AB Int:=(bif (h.length:Int)>100 then some 7 else ay h 0)
def KX (h:Int):AB AO:=(bif h<(-1000) then some true else some (decide (h>1000))).bind fun j=>some j
def iJ (h:J5) (n:Int) (q:(Int->AB Int)) (r:AO):AB Int:=(bif r then some 8 else(BI h n).bind fun j=>(KX j.N).bind fun m=>(bif m then some 2 else q (IntKind.i64.wrap (n+1))))
def Yx (h:J5) (q:(Int->AB Int)):Int->AB Int:=fun j=>(bif j<(h.length:Int) then(BI h j).bind fun r=>(Ry r.User).bind fun s=>(bif (s != 0)then some 3 else(bif j>0 then(BI h j).bind fun m=>(BI h (IntKind.i64.wrap (j-1))).bind fun n=>iJ h j q (Op.bytesLess (m.User.toList) (n.User.toList)||m.User.toList==n.User.toList)else iJ h j q false))else some 0)
def eS (h:J5):Int->AB Int:=aS (Yx h) Am
def Ud (h:J5):AB Int:=(bif (h.length:Int)>100 then some 7 else eS h 0)
def gI (h:J7) (n:Int) (q:(Int->AB Int)) (r:AO):AB Int:=(bif r then some 8 else(BI h n).bind fun j=>(KX j.N).bind fun m=>(bif m then some 2 else q (IntKind.i64.wrap (n+1))))
def Vq (h:J7) (q:(Int->AB Int)):Int->AB Int:=fun j=>(bif j<(h.length:Int) then(BI h j).bind fun r=>(UQ r.Kind).bind fun s=>(bif (!s)then some 1 else(bif j>0 then(BI h j).bind fun m=>(BI h (IntKind.i64.wrap (j-1))).bind fun n=>gI h j q (decide (m.Kind<=n.Kind))else gI h j q false))else some 0)
def fO (h:J7):Int->AB Int:=aS (Vq h) Am
def Uo (h:J7):AB Int:=(bif (h.length:Int)>100 then some 7 else fO h 0)
def QX (h:Dl):AB Int:=(Ud h.Users).bind fun J=>(bif (J != 0)then some J else(Uo h.Kinds).bind fun L=>(bif (L != 0)then some L else(KX h.User).bind fun M=>(bif M then some true else(KX h.Message).bind fun O=>some O).bind fun S=>(bif S then some true else(KX h.State).bind fun j=>some j).bind fun U=>(bif U then some true else(KX h.iD).bind fun m=>some m).bind fun n=>(bif n then some true else(KX h.lS).bind fun q=>some q).bind fun r=>(bif r then some true else(KX h.qm).bind fun s=>some s).bind fun u=>(bif u then some true else(KX h.iE).bind fun z=>some z).bind fun I=>(bif I then some 2 else some 0)))
def Fl (j:Int) (h:BF):AB Int:=(UQ j).bind fun J=>(bif (!J)then some true else(Wh j h).bind fun L=>some (!L)).bind fun M=>(bif M then some 1 else(aX j).bind fun O=>(bif O then(NP h DC).bind fun S=>some S else some false).bind fun U=>(bif U then some 0 else(Qn j h).bind fun m=>(bif (m != 0)then some m else(IB j h.N).bind fun n=>(bif (n != 0)then some n else(NV j h).bind fun q=>(bif (q != 0)then some q else(SI h).bind fun r=>(bif (r != 0)then some r else(bif (j==4)then(XK h).bind fun z=>some z else(MJ h.Allow).bind fun s=>(bif (s != 0)then some s else(MJ h.dw).bind fun u=>(bif (u != 0)then some u else(QX h.Levels).bind fun I=>some I)))))))))
def tq (h:BH):AB Int:=(wF h).bind fun j=>(bif (j != 0)then some j else(Fl h.Kind h.Content).bind fun m=>some m)
def jy (h:Ap) (n:(Ap->Int->AB Ap)):Ap->Int->AB Ap:=fun m j=>(bif j<(h.length:Int) then(BI h j).bind fun q=>(YB q).bind fun r=>(F6 1 m r).bind fun s=>n s (IntKind.i64.wrap (j+1))else some m)
def sO (h:Ap):Ap->Int->AB Ap:=bZ (jy h) Am
def SY (j:Ap) (h:Ap):AB Ap:=(Fq j (h.length:Int)).bind fun m=>sO h m 0
def Xo (h:BH):AB Ap:=(Fq [] h.Id).bind fun u=>(JW u h.Room).bind fun z=>(JW z h.aQ).bind fun I=>(Fq I h.Kind).bind fun J=>(V9 J h.State).bind fun L=>(JW L h.Key).bind fun M=>(Fq M h.Time).bind fun O=>(Fq O h.Depth).bind fun S=>(SY S h.iM).bind fun U=>(SY U h.iT).bind fun j=>(WH h.Content).bind fun m=>(JW j (Es m)).bind fun n=>(Fq n h.Hash).bind fun q=>(JW q h.eu.Server).bind fun r=>(Fq r h.eu.Sum).bind fun s=>some s
def kJ (h:BH):AB Int:=(Zo h).bind fun j=>(Xo ({ { j with Id:=0 }with eu:=JI })).bind fun m=>(XJ m).bind fun n=>some n
def cD (h:AO):AB Int:=(bif h then some 12 else some 0)
def lW (h:BH) (m:AO):AB Int:=(bif m then some 6 else(kJ h).bind fun n=>(bif (n != h.Id)then some 11 else(TT h.aQ).bind fun j=>(bif (!(h.eu.Server.toList==j.toList))then cD true else cD (h.eu.Sum != h.Id))))
end
section
variable {α:Type}
def H7 {R:Type} (c:AO) (x y:R):(bif c then some x else some y)=some (bif c then x else y):=by cases c<;>rfl
def Wx {A R:Type} (c:AO) (x y:AB A) (f:A->AB R):(bif c then x else y).bind f=bif c then x.bind f else y.bind f:=by cases c<;>rfl
def Qp (a b:AO):(bif a then true else b)=(a||b):=by cases a<;>rfl
def TD (a b:AO):(bif a then b else false)=(a&&b):=by cases a<;>rfl
def LY {s:AY} {i:Nat} (h:i<(Aj s).length):EC s (i:Int)=some (Aj s)[i]:=by
 unfold EC;rw[EX (jT i)];have h':i<s.size:=MI
 have e:s[i]? =some s[i]:=by simp[h']
 simp only[Int.toNat_natCast,e,Ic,Aj,List.getElem_map];rfl
def adx {s:AY} (h:0<(Aj s).length):EC s 0=some (Aj s)[0]:=LY (i:=0) h
def IW {R α:Type} {body:(Int->AB R)->Int->AB R} (l:AA α) (s:l.length<Am) (p:α->AO) (j:R) (rest:AB R)
 (u:∀k (i:Nat) (h:i<l.length),body k (i:Int)=bif p l[i]then some j else k (IntKind.i64.wrap ((i:Int)+1))) (z:∀k,body k (l.length:Int)=rest):
 aS body Am 0=bif l.any p then some j else rest:=by
 have M:Am=9223372036854775808:=rfl
 have key:∀n (i:Nat),i+n=l.length->∀m,n<m->aS body m (i:Int)=bif (l.drop i).any p then some j else rest:=by
  intro n
  induction n with
  |zero=>
   intro i I m J;obtain⟨m,rfl⟩:∃r,m=r+1:=⟨m-1,AL⟩
   have :i=l.length:=AL
   subst this;show body (aS body m) _=_;rw[z,Ob];rfl
  |succ n L=>
   intro i I m J;obtain⟨m,rfl⟩:∃r,m=r+1:=⟨m-1,AL⟩
   have q:i<l.length:=AL
   show body (aS body m) _=_;rw[u _ i q,wrap_succ i AL,L (i+1) AL m AL,Rq q,List.any_cons];cases p l[i]<;>rfl
 have :=key l.length 0 AL Am s;simpa using this
def bytes_inj {s t:AY} (h:Aj s=Aj t):s=t:=by
 have hd:s.data.toList=t.data.toList:=by
  unfold Aj at h;refine List.map_inj_right (f:=fun c:UInt8=>(c.toNat:Int)) (fun a b j=>?_) |>.1 h;exact UInt8.toNat_inj.1 AL
 obtain⟨⟨a⟩⟩:=s;obtain⟨⟨b⟩⟩:=t;simp only at hd;rw[hd]
def toList_inj {s t:AY} (h:s.toList=t.toList):s=t:=by
 rw[ByteArray.toList_eq,ByteArray.toList_eq]at h;obtain⟨⟨a⟩⟩:=s;obtain⟨⟨b⟩⟩:=t;simp only at h;rw[h]
def wJ {s t:AY}:(s.toList==t.toList)=decide (s=t):=by
 by_cases h:s=t
 ·subst h;simp
 have :s.toList≠t.toList:=fun e=>h (toList_inj e);simp[h,this]
def aaH {R α:Type} {body:(Int->AB R)->Int->AB R} (l:AA α) (s:l.length<Am) (q:α->AO) (g:Nat->AB R) (rest:AB R)
 (u:∀k (i:Nat) (h:i<l.length),body k (i:Int)=bif q l[i]then g i else k (IntKind.i64.wrap ((i:Int)+1))) (z:∀k,body k (l.length:Int)=rest):
 aS body Am 0=if l.findIdx q<l.length then g (l.findIdx q)else rest:=by
 have M:Am=9223372036854775808:=rfl
 have key:∀n (i:Nat),i+n=l.length->∀m,n<m->aS body m (i:Int)=if(l.drop i).findIdx q+i<l.length then g ((l.drop i).findIdx q+i)else rest:=by
  intro n
  induction n with
  |zero=>
   intro i I m J;obtain⟨m,rfl⟩:∃r,m=r+1:=⟨m-1,AL⟩
   have :i=l.length:=AL
   subst this;show body (aS body m) _=_;rw[z,Ob,EW AL]
  |succ n L=>
   intro i I m J;obtain⟨m,rfl⟩:∃r,m=r+1:=⟨m-1,AL⟩
   have j:i<l.length:=AL
   show body (aS body m) _=_;rw[u _ i j,wrap_succ i AL,L (i+1) AL m AL,Rq j,Vx];cases q l[i]with
   |true=>simp[j]
   |false=>simp only[Az];rw[show(l.drop (i+1)).findIdx q+(i+1)=(l.drop (i+1)).findIdx q+1+i by omega]
 have :=key l.length 0 AL Am s;simpa using this
def Rx {s:AY} {lo h:Nat} (j:lo<=h) (m:h<=s.size):Hl s (lo:Int) (h:Int)=some (s.extract lo h):=by
 unfold Hl;rw[EX ⟨AL,AL,AL⟩];simp
def oM (s:AY) (a b:Nat):Aj (s.extract a b)=((Aj s).take b).drop a:=by
 simp[Aj,ByteArray.data_extract,List.map_drop,List.map_take,List.extract_eq_drop_take']
def bU (l:AA α) (q:α->AO):(bif l.any (fun c=> !q c)then false else true)=l.all q:=by
 have :l.any (fun c=> !q c)= !l.all q:=by simp[List.not_all_eq_any_not]
 rw[this];cases l.all q<;>rfl
def bP :∀(l:AA UInt8) (c:UInt8),Lib.indexByte l c=if l.findIdx (· ==c)<l.length then((l.findIdx (· ==c):Nat):Int)else -1
 | [],c=>rfl
 |b::l,c=>by
  unfold Lib.indexByte;rw[Vx];cases h:b==c with
  |true=>simp
  |false=>
   rw[bP l c];simp only[Bool.false_eq_true,O6,Az,PN];by_cases j:l.findIdx (· ==c)<l.length
   ·simp only[j,Kr,show l.findIdx (· ==c)+1<l.length+1 by omega];have :(((l.findIdx (· ==c):Nat):Int)== -1)=false:=Bf
    simp[this]
   simp[j,show ¬l.findIdx (· ==c)+1<l.length+1 by omega]
end
section
structure Cx (e:BH):Prop where
 prev:e.iM.length<=40
 auth:e.iT.length<=40
 allow:e.Content.Allow.length<=100
 deny:e.Content.dw.length<=100
 users:e.Content.Levels.Users.length<=100
 kinds:e.Content.Levels.Kinds.length<=100
 room:e.Room.size<=2000
 sender:e.aQ.size<=2000
 key:e.Key.size<=2000
 text:e.Content.Text.size<=2000
 via:e.Content.Via.size<=2000
 server:e.eu.Server.size<=2000
 allows:∀x∈e.Content.Allow,x.size<=2000
 denies:∀x∈e.Content.dw,x.size<=2000
 names:∀x∈e.Content.Levels.Users,x.User.size<=2000
def FH {a b:Int} (h:decide (a>b)=false):a<=b:=by have :=of_decide_eq_false h;omega
def xk {α:Type} {l:AA α} {P:α->Prop} (h:∀j,(hl:j<l.length)->P l[j]):∀x∈l,P x:=fun x m=>by
 obtain⟨j,n,rfl⟩:=VA m;exact h j n
def QU {α:Type} {body:(Int->AB AO)->Int->AB AO} (l:AA α) (s:l.length<Am) (m:α->AO) (rest:AB AO) {P:Prop}
 (u:∀(k:Int->AB AO) (i:Nat) (h:i<l.length),body k (i:Int)=bif m l[i]then some true else k (IntKind.i64.wrap ((i:Int)+1))) (z:∀k,body k (l.length:Int)=rest)
 (I:(∀x∈l,m x=false)->DK rest (fun b=>b=false->P)):DK (aS body Am 0) (fun b=>b=false->P):=by
 refine nC l.length s (fun i=>∀j,(n:j<i)->(s:j<l.length)->m l[j]=false) (fun j n=>AL) ?_ ?_
 ·intro i k J q L;have O:Am=9223372036854775808:=rfl;rw[u k i J,wrap_succ i AL];refine DK.bif (fun _=>.ret (fun h=>Ed)) fun e=>L fun j n r=>?_;by_cases M:j=i
  ·subst M;exact e
  exact q j AL r
 intro k q;rw[z];exact I (xk fun j n=>q j n n)
def KA {α R:Type} {l:AA α} {i:Nat} (h:i<l.length) (f:α->AB R) (z:AB R):(bif (i:Int)<(l.length:Int) then(BI l (i:Int)).bind f else z)=f l[i]:=by
 rw[show decide ((i:Int)<(l.length:Int))=true by simpa using h,DV h];rfl
def Ol {α R:Type} {l:AA α} (y z:AB R):(bif (l.length:Int)<(l.length:Int) then y else z)=z:=by
 rw[show decide ((l.length:Int)<(l.length:Int))=false by simp];rfl
def pJ (e:BH):DK (TK e) (fun b=>b=false->Cx e):=by
 have hf:Am=9223372036854775808:=rfl;have m:∀{P:Prop},DK (some true) (fun b=>b=false->P):=.ret fun h=>Ed
 unfold TK;simp only[H7,AX,Qp];refine DK.bif (fun _=>m) fun a=>?_;refine DK.bif (fun _=>m) fun b=>?_;simp only[bg]at a b;obtain⟨⟨⟨⟨⟨n,q⟩,r⟩,s⟩,u⟩,z⟩:=a;obtain⟨⟨⟨⟨⟨I,J⟩,L⟩,M⟩,O⟩,S⟩:=b;have n:=FH n;have q:=FH q;have r:=FH r;have s:=FH s;have u:=FH u;have z:=FH z;have I:=FH I;have J:=FH J;have L:=FH L;have M:=FH M;have O:=FH O;have S:=FH S;unfold vW;refine QU e.Content.Allow AL (fun x=>(x.size:Int)>2000) (gG e 0) (fun k i h=>?_) (fun k=>?_) fun U=>?_
 ·unfold ZM;rw[KA h]
 ·unfold ZM;rw[Ol]
 unfold gG;refine QU e.Content.dw AL (fun x=>(x.size:Int)>2000) (gX e 0) (fun k i h=>?_) (fun k=>?_) fun Y=>?_
 ·unfold eF;rw[KA h]
 ·unfold eF;rw[Ol]
 unfold gX;refine QU e.Content.Levels.Users AL (fun x=>(x.User.size:Int)>2000) (some false) (fun k i h=>?_) (fun k=>?_) fun Z=>?_
 ·unfold ZX;rw[KA h]
 ·unfold ZX;rw[Ol]
 refine .ret fun _=>⟨AL,AL,AL,AL,AL,AL,AL,AL,AL,AL,AL,AL,fun x j=>?_,fun x j=>?_,fun x j=>?_⟩
 ·have :=FH (U x j);omega
 ·have :=FH (Y x j);omega
 have :=FH (Z x j);omega
def fuel_lt {n:Nat} (h:n<=1099511627776):n<Am:=jM
def dec_lt {i n:Nat} (h:i<n):decide ((i:Int)<(n:Int))=true:=QG
def DJ (n:Nat):decide ((n:Int)<(n:Int))=false:=Bf
def fM {R A α:Type} {body:(A->Int->AB R)->A->Int->AB R} (l:AA α) (s:l.length<=1099511627776) (step:A->α->A) (I:Nat->A->Prop) (j:A->AB R) {a0:A} (u:I 0 a0)
 (z:∀k a (i:Nat) (h:i<l.length),I i a->I (i+1) (step a l[i])/\body k a (i:Int)=k (step a l[i]) (IntKind.i64.wrap ((i:Int)+1)))
 (J:∀k a,I l.length a->body k a (l.length:Int)=j a):bZ body Am a0 0=j (l.foldl step a0):=by
 have key:∀n (i:Nat) (a:A),i+n=l.length->I i a->∀m,n<m->bZ body m a (i:Int)=j ((l.drop i).foldl step a):=by
  intro n
  induction n with
  |zero=>
   intro i a L ha m M;obtain⟨m,rfl⟩:∃r,m=r+1:=⟨m-1,AL⟩
   have :i=l.length:=AL
   subst this;show body (bZ body m) _ _=_;rw[J _ _ ha,Ob];rfl
  |succ n O=>
   intro i a L ha m M;obtain⟨m,rfl⟩:∃r,m=r+1:=⟨m-1,AL⟩
   have q:i<l.length:=AL
   obtain⟨S,U⟩:=z (bZ body m) a i q ha;show body (bZ body m) _ _=_;rw[U,wrap_succ i AL,O (i+1) _ AL S m AL,Rq q,XP]
 have :=key l.length 0 a0 AL u Am (fuel_lt s);simpa using this
def fC (l:AA BH) (id:Int):Option BH:=l.find? fun e=>e.Id==id
def foldl_append {α β:Type} (f:α->AA β):∀(l:AA α) (a:AA β),l.foldl (fun r x=>r++f x) a=a++l.flatMap f
 | [],a=>Bf
 |x::l,a=>by rw[XP,foldl_append f l,Y6,HY]
def vZ (l:AA BH) (id:Int):AO:=(fC l id).isSome
def sB (l:AA BH) (m:AA (Int×Int)):Prop:=∀id,(ZI m id=none/\fC l id=none)\/∃(n:Nat) (e:BH),ZI m id=some (n:Int)/\fC l id=some e/\l[n]? =some e
def sB.isSome {l:AA BH} {m:AA (Int×Int)} (h:sB l m) (id:Int):(ZI m id).isSome=vZ l id:=by
 unfold vZ;rcases h id with⟨j,q⟩|⟨n,e,j,q,_⟩<;>rw[j,q]<;>rfl
def Fb (c:Int):AO:=(decide (c>=97)&&(c<=122))||(decide (c>=48)&&(c<=57))
def lg (c:Int):Qu c=some (Fb c):=by
 unfold Qu Fb;cases decide (c>=97)<;>cases decide (c<=122)<;>cases decide (c>=48)<;>cases decide (c<=57)<;>rfl
def bT (c:Int):QF c=some (Fb c):=by
 unfold QF Fb;cases decide (c>=97)<;>cases decide (c<=122)<;>cases decide (c>=48)<;>cases decide (c<=57)<;>rfl
def Jv (l:AA Int) (p:Int->AO):AO:=decide ((l.length:Int)>=1)&&((l.length:Int)<=32)&&l.all fun c=>Fb c||p c
def isLocal (c:Int):AO:=c==95||c==46||c==45||c==61
def LV (c:Int):AO:=c==46||c==45
def Jr (l:AA Int):AO:=Jv l isLocal
def Ig (l:AA Int):AO:=Jv l LV&&Fb (l.getD 0 0)&&Fb (l.getD (l.length-1) 0)
def Qw {n:Nat} (h:n<=9223372036854775807):n<Am:=jM
def uT {s:AY} (j:s.size<=9223372036854775807) (f:Int->AB AO) (p:Int->AO) (m:∀c,f c=some (p c)):Ox s f=some (Jv (Aj s) p):=by
 have n:eB s f 0=some ((Aj s).all fun c=>Fb c||p c):=by
  unfold eB;rw[IW (Aj s) Oe (fun c=> !(Fb c||p c)) false (some true) ?_ ?_,H7,bU]
  ·intro k i h;have h':i<s.size:=MI
   simp only[bD,dec_lt h',Bq,LY h,lg,m,AX];cases Fb (Aj s)[i]<;>cases p (Aj s)[i]<;>rfl
  intro k;simp only[bD,EJ,DJ,Az]
 unfold Ox Jv;rw[n,EJ];have q:decide ((s.size:Int)>=1)= !decide ((s.size:Int)<1):=dN
 have r:decide ((s.size:Int)<=32)= !decide ((s.size:Int)>32):=kU
 rw[q,r];cases decide ((s.size:Int)<1)<;>cases decide ((s.size:Int)>32)<;>rfl
def zT {s:AY} (h:s.size<=9223372036854775807):Ox s (fun a0=>Uu a0)=some (Jv (Aj s) isLocal):=uT h _ isLocal (fun c=>by unfold Uu isLocal;cases c==95<;>cases c==46<;>cases c==45<;>cases c==61<;>rfl)
def aaI {s:AY} (h:s.size<=9223372036854775807):Ox s (fun a0=>TS a0)=some (Jv (Aj s) LV):=uT h _ LV (fun c=>by unfold TS LV;cases c==46<;>cases c==45<;>rfl)
def mG {s:AY} (h:s.size<=9223372036854775807):Uh s=some (Jr (Aj s)):=by
 unfold Uh Jr;rw[zT h];rfl
def Yo {s:AY} (h:0<s.size):EC s 0=some ((Aj s).getD 0 0):=by
 have h':0<(Aj s).length:=YK
 rw[adx h'];simp[List.getD,h']
def tX {s:AY} (h:0<s.size) (m:s.size<=9223372036854775807):EC s (IntKind.i64.wrap ((s.size:Int)-1))=some ((Aj s).getD ((Aj s).length-1) 0):=by
 have h':s.size-1<(Aj s).length:=by rw[EJ];omega
 rw[Jl AL AL,show(s.size:Int)-1=((s.size-1:Nat):Int) by omega,LY h'];have j:(Aj s).length-1=s.size-1:=by rw[EJ]
 rw[j];simp[List.getD,h']
def dP {l:AA Int} {p:Int->AO} (h:Jv l p=true):0<l.length/\l.length<=32:=by
 unfold Jv at h;simp only[CS,Gj]at h;omega
def bQ {s:AY} (h:s.size<=9223372036854775807):Qs s=some (Ig (Aj s)):=by
 unfold Qs Ig;rw[aaI h];simp only[AX];cases m:Jv (Aj s) LV with
 |false=>rfl
 |true=>
  have j:0<s.size:=by have :=(dP m).1;rwa [EJ]at this
  simp only[Bq,Yo j,tX j h,lg,AX];cases Fb ((Aj s).getD 0 0)<;>simp
def ae0 {s:AY} (j:s.size<=9223372036854775807):Xm s=some (bif Ig (Aj s)then 0 else 3):=by
 have n:eI s 0=some (bif (Aj s).all fun c=>Fb c||LV c then 0 else 3):=by
  unfold eI;rw[IW (Aj s) Oe (fun c=> !(Fb c||LV c)) 3 (some 0) ?_ ?_,H7,←bU]
  ·cases((Aj s).any fun c=> !(Fb c||LV c))<;>rfl
  ·intro k i h;have h':i<s.size:=MI
   simp only[bY,dec_lt h',Bq,LY h,bT,AX,LV,bne];cases Fb (Aj s)[i]<;>cases(Aj s)[i]==46<;>cases(Aj s)[i]==45<;>rfl
  intro k;simp only[bY,EJ,DJ,Az]
 have q:decide ((s.size:Int)>=1)= !decide ((s.size:Int)<1):=dN
 have r:decide ((s.size:Int)<=32)= !decide ((s.size:Int)>32):=kU
 unfold Xm Ig Jv;rw[n];rw[show((Aj s).length:Int)=(s.size:Int) by rw[EJ],q,r];by_cases u:(s.size:Int)<1
 ·simp[u]
 have m:0<s.size:=AL
 simp only[Yo m,tX m j,bT,AX];cases decide ((s.size:Int)<1)<;>cases decide ((s.size:Int)>32)<;>cases Fb ((Aj s).getD 0 0)<;>cases Fb ((Aj s).getD ((Aj s).length-1) 0)<;>cases((Aj s).all fun c=>Fb c||LV c)<;>rfl
def adh {s:AY} (j:s.size<=9223372036854775807):Yh s=some (Jr (Aj s)):=by
 unfold Yh uH;rw[IW (Aj s) Oe (fun c=> !(Fb c||isLocal c)) false (some (decide ((s.size:Int)>=1)&&((s.size:Int)<=32))) ?_ ?_]
 ·unfold Jr Jv;rw[←bU,EJ];cases((Aj s).any fun c=> !(Fb c||isLocal c))<;>cases decide ((s.size:Int)>=1)<;>cases decide ((s.size:Int)<=32)<;>rfl
 ·intro k i h;have h':i<s.size:=MI
  simp only[kn,dec_lt h',Bq,LY h,bT,AX,isLocal,bne];cases Fb (Aj s)[i]<;>cases(Aj s)[i]==95<;>cases(Aj s)[i]==46<;>cases(Aj s)[i]==45<;>cases(Aj s)[i]==61<;>rfl
 intro k;simp only[kn,EJ,DJ,Az];cases decide ((s.size:Int)>=1)<;>cases decide ((s.size:Int)<=32)<;>rfl
def uD (s:AY):(Aj s).length=s.data.toList.length:=by simp[Aj]
def DR (s:AY):Nat:=(Aj s).findIdx (· ==58)
def fJ (s:AY):DR s<=s.size:=by unfold DR;rw[←EJ];exact List.findIdx_le_length
def qP {s:AY} (j:s.size<=9223372036854775807):Ti s=some (DR s:Int):=by
 unfold Ti uf;rw[aaH (Aj s) Oe (· ==58) (fun i=>some (i:Int)) (some (s.size:Int)) ?_ ?_]
 ·have :=fJ s;by_cases h:(Aj s).findIdx (· ==58)<(Aj s).length
  ·rw[EX h];rfl
  rw[EW h];congr 2;unfold DR at this ⊢;rw[EJ]at h;omega
 ·intro k i h;have h':i<s.size:=MI
  simp only[jA,dec_lt h',Bq,LY h,AX,bne];cases(Aj s)[i]==58<;>rfl
 intro k;simp only[jA,EJ,DJ,Az,AX]
def NH (s:AY):AY:=s.extract 1 (DR s)
def JV (s:AY):AY:=s.extract (DR s+1) s.size
def JZ (s:AY):AO:=decide (DR s<s.size)&&Jr (Aj (NH s))&&Ig (Aj (JV s))
def Ec (s:AY) (m:Int):AO:=decide (0<s.size)&&(Aj s).getD 0 0==m&&JZ s
def extract_size (s:AY) (a b:Nat):(s.extract a b).size<=s.size:=by rw[ByteArray.size_extract];omega
def xE {s:AY} (h:0<s.size) (j:(Aj s).getD 0 0≠58):1<=DR s:=by
 unfold DR;have m:0<(Aj s).length:=YK
 match n:Aj s with
 | []=>rw[n]at m;simp at m
 |c::l=>
  rw[n]at j;simp only[List.getD_cons_zero]at j;rw[Vx,show(c==58)=false from by simpa using j];simp
def Xc {s:AY} (n:s.size<=9223372036854775807) {m:Int} (r:m≠58):Pj s m=some (Ec s m):=by
 unfold Pj Ec;by_cases h:0<s.size
 ·rw[show decide ((s.size:Int)<1)=false from by simp;omega,show decide (0<s.size)=true by simpa using h];simp only[Az,Yo h,AX,bne];cases u:(Aj s).getD 0 0==m with
  |false=>rfl
  |true=>
   have q:(Aj s).getD 0 0=m:=Pv
   have z:=xE h (by rw[q];exact r);have I:=fJ s;simp only[EU,Az,qP n,AX,F8];unfold JZ;by_cases j:DR s<s.size
   ·have J:Hl s 1 (DR s:Int)=some (NH s):=Rx (lo:=1) z I
    have L:Hl s (IntKind.i64.wrap ((DR s:Int)+1)) (s.size:Int)=some (JV s):=by
     rw[Jl AL AL,show(DR s:Int)+1=((DR s+1:Nat):Int) by omega];exact Rx AL (Gt _)
    rw[show decide ((DR s:Int)<(s.size:Int))=true from by simpa using j,show decide (DR s<s.size)=true by simpa using j];have M:(NH s).size<=9223372036854775807:=FZ (extract_size _ _ _) n;have O:(JV s).size<=9223372036854775807:=FZ (extract_size _ _ _) n;simp only[Bq,J,L,adh M,ae0 O,AX];cases Jr (Aj (NH s))<;>cases Ig (Aj (JV s))<;>rfl
   rw[show decide ((DR s:Int)<(s.size:Int))=false from by simpa using j,show decide (DR s<s.size)=false by simpa using j];rfl
 rw[show decide ((s.size:Int)<1)=true from by simp;omega,show decide (0<s.size)=false by simpa using h];rfl
def splitB (s:AY) (b:AO):AY×AY×AO:=bif b then(NH s,JV s,true)else(Bd,Bd,false)
def agB (b c:UInt8):(b==c)=(((b.toNat:Nat):Int)==((c.toNat:Nat):Int)):=by
 by_cases h:b=c
 ·subst h;simp
 have :¬b.toNat=c.toNat:=fun e=>h (UInt8.toNat_inj.1 e);have j:(b==c)=false:=QG
 rw[j];symm;simp;omega
def qB (s:AY) (c:UInt8):s.data.toList.findIdx (· ==c)=(Aj s).findIdx (· ==((c.toNat:Nat):Int)):=by
 unfold Aj;rw[List.findIdx_map];congr 1;funext b;exact agB b c
def agW (s:AY):∀x∈Aj s,0<=x/\x<256:=by
 intro x h;unfold Aj at h;rw[Pz]at h;obtain⟨c,_,rfl⟩:=h;have :=c.toNat_lt;omega
def getD_mem {s:AY} (h:0<s.size):(Aj s).getD 0 0∈Aj s:=by
 have j:0<(Aj s).length:=YK
 have e:(Aj s).getD 0 0=(Aj s)[0]:=MQ
 rw[e];exact KW j
def adI (marks:AY) {c:Int} (q:0<=c) (r:c<256):decide (Lib.indexByte marks.data.toList c.toNat.toUInt8<0)= !(Aj marks).contains c:=by
 have e:(((c.toNat.toUInt8).toNat:Nat):Int)=c:=by
  rw[Nat.toUInt8,UInt8.toNat_ofNat'];omega
 rw[bP,qB,e,←uD marks];by_cases j:c∈Aj marks
 ·have m:(Aj marks).findIdx (· ==c)<(Aj marks).length:=List.findIdx_lt_length_of_exists ⟨c,j,Bf⟩;rw[EX m,show(Aj marks).contains c=true by simpa using j];simp
 have n:¬(Aj marks).findIdx (· ==c)<(Aj marks).length:=fun h=>by
  have :=List.findIdx_getElem (w:=h);simp only[beq_iff_eq]at this;exact j (this▸KW h)
 rw[EW n,show(Aj marks).contains c=false by simpa using j];rfl
def qY (s:AY) (a b:Nat):(s.extract 1 s.size).extract a b=s.extract (1+a) (min (1+b) s.size):=by
 refine bytes_inj ?_;simp only[oM];have :(Aj s).take s.size=Aj s:=VO (by rw[EJ];omega);rw[this,List.take_drop,dB];congr 1;have :min (1+b) s.size=min (1+b) (Aj s).length:=by rw[EJ]
 rw[this,List.take_eq_take_min]
def aay {s:AY} (h:0<s.size) (j:(Aj s).getD 0 0≠58):(Aj (s.extract 1 s.size)).findIdx (· ==58)+1=DR s:=by
 unfold DR;rw[oM];have :(Aj s).take s.size=Aj s:=VO (by rw[EJ];omega);rw[this];have m:0<(Aj s).length:=YK
 match n:Aj s with
 | []=>rw[n]at m;simp at m
 |c::l=>
  rw[n]at j;simp only[List.getD_cons_zero]at j;rw[Vx,show(c==58)=false from by simpa using j];rfl
def y5 {s:AY} (z:s.size<=9223372036854775807) (h:0<s.size) (n:(Aj s).getD 0 0≠58):∃a b,strings_Cut (s.extract 1 s.size) Ie=some (a,b,decide (DR s<s.size))/\(DR s<s.size->a=NH s/\b=JV s):=by
 have I:=xE h n;have J:=fJ s;have L:=aay h n;have m:(s.extract 1 s.size).size=s.size-1:=by rw[ByteArray.size_extract];omega
 have q:YP (s.extract 1 s.size) Ie=some (if DR s<s.size then((DR s-1:Nat):Int)else -1):=by
  show some (Lib.indexByte (s.extract 1 s.size).data.toList 58)=_;rw[bP,qB,←uD (s.extract 1 s.size)];show some (if(Aj (s.extract 1 s.size)).findIdx (· ==58)<_ then(((Aj (s.extract 1 s.size)).findIdx (· ==58):Nat):Int)else -1)=_;rw[EJ,m];have e:(Aj (s.extract 1 s.size)).findIdx (· ==58)=DR s-1:=AL
  rw[e];congr 1;by_cases j:DR s<s.size
  ·rw[EX j,EX AL]
  rw[EW j,EW AL]
 unfold strings_Cut kT;rw[q,AX];by_cases j:DR s<s.size
 ·rw[EX j,show decide (((DR s-1:Nat):Int)>=0)=true from by simp,show decide (DR s<s.size)=true by simpa using j];have r:Hl (s.extract 1 s.size) 0 ((DR s-1:Nat):Int)=some ((s.extract 1 s.size).extract 0 (DR s-1)):=Rx (lo:=0) AL AL
  have u:Hl (s.extract 1 s.size) (IntKind.i64.wrap (((DR s-1:Nat):Int)+(Ie.size:Int))) ((s.extract 1 s.size).size:Int)=some ((s.extract 1 s.size).extract (DR s) (s.size-1)):=by
   rw[show(Ie.size:Int)=1 from rfl,Jl AL AL,show((DR s-1:Nat):Int)+1=((DR s:Nat):Int) by omega,m];exact Rx AL AL
  simp only[Bq,r,u,AX];refine⟨_,_,rfl,fun _=>⟨?_,?_⟩⟩
  ·rw[qY];unfold NH;congr 1;omega
  rw[qY];unfold JV;rw[SH 1 (DR s)];congr 1;omega
 rw[EW j,show decide ((-1:Int)>=0)=false from rfl,show decide (DR s<s.size)=false by simpa using j];exact⟨_,_,rfl,fun h=>absurd h j⟩
def kR {s:AY} (n:s.size<=9223372036854775807) {marks:AY} (q:∀m∈Aj marks,m≠58):PG s marks=some (splitB s ((Aj marks).any fun m=>Ec s m)):=by
 unfold PG;by_cases j:0<s.size
 ·have r:(s.toList==Bd.toList)=false:=by
   rw[wJ];simp only[jL];intro e;rw[e]at j;exact absurd j BQ
  have u:=agW s _ (getD_mem j)
  have h:((Aj marks).any fun m=>Ec s m)=((Aj marks).contains ((Aj s).getD 0 0)&&JZ s):=by
   unfold Ec;rw[show decide (0<s.size)=true by simpa using j]
   induction Aj marks with
   |nil=>rfl
   |cons m l z=>rw[List.any_cons,z,List.contains_cons];cases(Aj s).getD 0 0==m<;>cases JZ s<;>simp
  rw[r,h];simp only[Az,Yo j,AX,strings_IndexByte,adI marks u.1 u.2];cases I:(Aj marks).contains ((Aj s).getD 0 0)with
  |false=>rfl
  |true=>
   have J:(Aj s).getD 0 0≠58:=q _ (by simpa using I);obtain⟨a,b,L,M⟩:=y5 n j J;have O:Hl s 1 (s.size:Int)=some (s.extract 1 s.size):=Rx (lo:=1) AL (Gt _);simp only[EU,Az,O,L,AX,F8];unfold JZ;cases S:decide (DR s<s.size)with
   |false=>rfl
   |true=>
    obtain⟨rfl,rfl⟩:=M (RZ S);have U:(NH s).size<=9223372036854775807:=FZ (extract_size _ _ _) n;have Y:(JV s).size<=9223372036854775807:=FZ (extract_size _ _ _) n;simp only[EU,Az,mG U,bQ Y,AX];cases Jr (Aj (NH s))<;>cases Ig (Aj (JV s))<;>rfl
 have Z:s.size=0:=AL
 have he:s=Bd:=bytes_inj (by
  have h1:Aj s=[]:=IG (by rw[EJ];exact Z)
  rw[h1];rfl)
 have h:((Aj marks).any fun m=>Ec s m)=false:=by
  rw[List.any_eq_false];intro m _;unfold Ec;rw[show decide (0<s.size)=false by simpa using j];simp
 rw[h,he,show(Bd.toList==Bd.toList)=true from by simp];rfl
def Ee (s:AY):AO:=Ec s 64||(Ec s 33||false)
def uG {s:AY} (h:s.size<=9223372036854775807):PG s QE=some (splitB s (Ee s)):=
 kR h (marks:=QE) (by rw[show Aj QE=[64,33]from rfl];intro m j;simp only[Hz,LW,ND]at j;omega)
def nJ {s:AY} (h:JZ s=true):DR s<s.size:=by unfold JZ at h;simp only[CS,Gj]at h;exact h.1.1
def Z7 {s:AY} (m:s.size<=9223372036854775807):SA s=some (splitB s (Ee s)).2.1/\TT s=some (splitB s (Ee s)).2.1:=by
 have q:DR s<s.size->Hl s (IntKind.i64.wrap ((DR s:Int)+1)) (s.size:Int)=some (JV s):=fun r=>by
  rw[Jl AL AL,show(DR s:Int)+1=((DR s+1:Nat):Int) by omega];exact Rx AL (Gt _)
 unfold SA TT;rw[uG m,Xc m BQ,Xc m BQ,qP m];refine⟨rfl,?_⟩;unfold Ee;cases h:Ec s 64 with
 |true=>
  have n:=nJ (s:=s) (by unfold Ec at h;simp only[CS]at h;exact h.2);simp only[AX,EU,Az,q n,Bool.true_or];rfl
 |false=>
  cases j:Ec s 33 with
  |true=>
   have n:=nJ (s:=s) (by unfold Ec at j;simp only[CS]at j;exact j.2);simp only[AX,EU,Rt,Az,Bq,q n,LD,Bool.true_or];rfl
  |false=>rfl
end
section
def KL (n:Int):Int:=if n<0 then bits .xor .u64 IntKind.u64.max (IntKind.u64.wrap (IntKind.u64.wrap n*2))else IntKind.u64.wrap (IntKind.u64.wrap n*2)
def VD (n:Int):0<=KL n/\KL n<18446744073709551616:=by
 unfold KL;have h:∀x:Int,0<=IntKind.u64.wrap x/\IntKind.u64.wrap x<18446744073709551616:=fun x=>by rw[UC];omega
 split
 ·obtain⟨j,q⟩:=h (IntKind.u64.wrap n*2);generalize IntKind.u64.wrap (IntKind.u64.wrap n*2)=y at *;obtain⟨k,rfl⟩:=Int.eq_ofNat_of_zero_le j;have :(IntKind.u64.max:Int)=((18446744073709551615:Nat):Int):=BQ
  rw[this,bits_xor_u64_nat _ _ AL AL];have :18446744073709551615^^^k<2^64:=Nat.xor_lt_two_pow AL AL;constructor
  ·exact jT _
  have m:(2:Nat)^64=18446744073709551616:=BQ
  omega
 exact h _
def I4 (u:Nat):AA Int:=if u<128 then[(u:Int)]else((u % 128+128:Nat):Int)::I4 (u/128)
termination_by u
decreasing_by omega
def S9 {u:Nat} (h:u<128):I4 u=[(u:Int)]:=by rw[I4,EX h]
def jH {u:Nat} (h:¬u<128):I4 u=((u % 128+128:Nat):Int)::I4 (u/128):=by rw[I4,EW h]
def qX :∀(j u:Nat),u<128^(j+1)->(I4 u).length<=j+1
 |0,u,h=>by rw[S9 QG];simp
 |j+1,u,h=>by
  by_cases m:u<128
  ·rw[S9 m];simp
  rw[jH m]
  have :u/128<128^(j+1):=by
   rw[Nat.div_lt_iff_lt_mul AL];rw[Nat.pow_succ]at h;exact h
  have :=qX j (u/128) this;simp;omega
def enc (n:Int):AA Int:=I4 (KL n).toNat
def IX (n:Int):(enc n).length<=10:=by
 have h:=(VD n).2;refine qX 9 _ ?_;have :(128:Nat)^10=1180591620717411303424:=BQ
 rw[this];have :=(VD n).1;omega
def agA (k:Nat):bits .or .u8 ((k:Int) % 256) 128=((k % 128+128:Nat):Int):=by
 have h:=u8_or_nat (k % 256) 128 AL AL;rw[show((k:Int) % 256)=((k % 256:Nat):Int)from by omega];have j:(128:Int)=((128:Nat):Int):=rfl;rw[j,h];congr 1;have key:∀x,x<256->x|||128=x % 128+128:=Gi
 rw[key _ AL];omega
def VX (u c:Int):Int:=(IntKind.u64.wrap (bits .xor .u64 u (IntKind.u64.wrap c)*1099511628211)).tmod 4611686018427387904
def ru (x:Int):bits .and .u64 (IntKind.u64.wrap x) 4611686018427387903=(IntKind.u64.wrap x).tmod 4611686018427387904:=by
 rw[UC];have h:=bits_mask .u64 64 BQ (fun n m q=>by rw[UC];omega) 62 BQ (x % 18446744073709551616) AL AL;have e:((2:Int)^62-1)=4611686018427387903:=BQ
 have j:((2:Int)^62)=4611686018427387904:=BQ
 rw[qW AL];simpa[e,j]using h
def acT (u c:Int):bits .and .u64 (IntKind.u64.wrap (bits .xor .u64 u (IntKind.u64.wrap c)*1099511628211)) 4611686018427387903=VX u c:=ru _
def XT (op:BinOp) (k:IntKind) (x y:Int) (h:op=.and\/op=.or\/op=.xor):CY op k x y=bits op k x y:=by
 rcases h with rfl|rfl|rfl<;>rfl
def He {α:Type} {b:Nat} {l m:AA α} (j:b<=100) (h:(l++m).length<=1099511627776):F6 b l m=some (l++m):=by
 refine zI ?_;rw[Dp]at h;have :(l.length+m.length)*b<=1099511627776*100:=Nat.mul_le_mul h j;omega
def aeM (u:Nat):CY .or .u8 (IntKind.u8.wrap (u:Int)) 128=((u % 128+128:Nat):Int):=by
 rw[XT _ _ _ _ (.inr (.inl rfl)),show IntKind.u8.wrap (u:Int)=(u:Int) % 256 from by rw[RS],agA]
def yR (u:Nat):Le .shr .u64 (u:Int) 7=some ((u/128:Nat):Int):=by
 unfold Le;rw[EW AL];show some ((u:Int).fdiv (2^7))=_;rw[Int.fdiv_eq_ediv_of_nonneg _ BQ];congr 1
def vN {u n:Nat} (h:u<128^(n+1+1)):u/128<128^(n+1):=by
 rw[Nat.div_lt_iff_lt_mul AL];rw[Nat.pow_succ]at h;exact h
def aeG :∀(n u:Nat),u<128^(n+1)->∀m b,n<m->(b++I4 u).length<=1099511627776->bZ MS m b (u:Int)=some (b++I4 u):=by
 intro n
 induction n with
 |zero=>
  intro u q m b z j;obtain⟨m,rfl⟩:∃r,m=r+1:=⟨m-1,AL⟩
  have h:u<128:=JL
  rw[S9 h]at j ⊢;show MS (bZ MS m) b (u:Int)=_;simp only[MS,show decide ((u:Int)>=128)=false from by simp;omega,Az];rw[show IntKind.u8.wrap (u:Int)=(u:Int)from by rw[RS];omega,He AL j];rfl
 |succ n I=>
  intro u q m b z j;obtain⟨m,rfl⟩:∃r,m=r+1:=⟨m-1,AL⟩
  show MS (bZ MS m) b (u:Int)=_;by_cases h:u<128
  ·rw[S9 h]at j ⊢;simp only[MS,show decide ((u:Int)>=128)=false from by simp;omega,Az];rw[show IntKind.u8.wrap (u:Int)=(u:Int)from by rw[RS];omega,He AL j];rfl
  rw[jH h]at j ⊢;have e:(b++((u % 128+128:Nat):Int)::I4 (u/128))=(b++[((u % 128+128:Nat):Int)])++I4 (u/128):=Bf
  have s:(b++[((u % 128+128:Nat):Int)]).length<=1099511627776:=by simp only[Dp,PN,eX]at j ⊢;omega
  simp only[MS,show decide ((u:Int)>=128)=true from by simp;omega,Bq,aeM,He (show 1<=100 by omega) s,yR,AX];rw[e];exact I (u/128) (vN q) m _ AL (by rw[←e];exact j)
def abu :∀(n u:Nat),u<128^(n+1)->u<18446744073709551616->∀m b,n<m->(b++I4 u).length<=1099511627776->bZ MH m (u:Int) b=some (b++I4 u):=by
 intro n
 induction n with
 |zero=>
  intro u q _ m b z j;obtain⟨m,rfl⟩:∃r,m=r+1:=⟨m-1,AL⟩
  have h:u<128:=JL
  rw[S9 h]at j ⊢;show MH (bZ MH m) (u:Int) b=_;simp only[MH,show decide ((u:Int)>=128)=false from by simp;omega,Az];rw[show IntKind.u8.wrap (u:Int)=(u:Int)from by rw[RS];omega,He AL j];rfl
 |succ n I=>
  intro u q J m b z j;obtain⟨m,rfl⟩:∃r,m=r+1:=⟨m-1,AL⟩
  show MH (bZ MH m) (u:Int) b=_;by_cases h:u<128
  ·rw[S9 h]at j ⊢;simp only[MH,show decide ((u:Int)>=128)=false from by simp;omega,Az];rw[show IntKind.u8.wrap (u:Int)=(u:Int)from by rw[RS];omega,He AL j];rfl
  rw[jH h]at j ⊢;have e:(b++((u % 128+128:Nat):Int)::I4 (u/128))=(b++[((u % 128+128:Nat):Int)])++I4 (u/128):=Bf
  have s:(b++[((u % 128+128:Nat):Int)]).length<=1099511627776:=by simp only[Dp,PN,eX]at j ⊢;omega
  have L:PY (u:Int) 128=some ((u % 128:Nat):Int):=by unfold PY;rw[EW AL,qW AL];congr 1
  have M:iC .u64 (u:Int) 128=some ((u/128:Nat):Int):=by
   unfold iC;rw[EW AL,Int.tdiv_eq_ediv_of_nonneg AL];congr 1;rw[UC];omega
  have O:IntKind.u8.wrap (IntKind.u64.wrap (((u % 128:Nat):Int)+128))=((u % 128+128:Nat):Int):=by rw[UC,RS];omega
  simp only[MH,show decide ((u:Int)>=128)=true from by simp;omega,Bq,L,O,M,He (show 1<=100 by omega) s,AX];rw[e];exact I (u/128) (vN q) AL m _ AL (by rw[←e];exact j)
def rD (x:Int):Le .shl .u64 x 1=some (IntKind.u64.wrap (x*2)):=rfl
def tJ (x:Int):QV .u64 x=bits .xor .u64 IntKind.u64.max x:=rfl
def rV (n:Int):(KL n).toNat<128^(9+1):=by
 have h:=VD n;have :(128:Nat)^(9+1)=1180591620717411303424:=BQ
 rw[this];omega
def lZ :9<Am:=jM
def number_eq {b:AA Int} {n:Int} (h:(b++enc n).length<=1099511627776):NY b n=some (b++enc n):=by
 have q:=VD n
 have j:rF b (KL n)=some (b++enc n):=by
  have :=aeG 9 (KL n).toNat (rV n) Am b lZ h
  rwa [Int.toNat_of_nonneg q.1]at this
 unfold NY;rw[rD,AX];unfold XI;unfold KL at j;by_cases m:n<0
 ·rw[EX m]at j;rw[show decide (n<0)=true by simpa using m,Bq,tJ];exact j
 rw[EW m]at j;rw[show decide (n<0)=false by simpa using m,Az];exact j
def y8 (n:Int):([]++enc n).length<=1099511627776:=by have :=IX n;simp only[Om];omega
def o9 (n:Int):YB n=some (enc n):=by
 have m:=VD n
 have h:qV (KL n) []=some (enc n):=by
  have :=abu 9 (KL n).toNat (rV n) AL Am [] lZ (y8 n)
  rwa [Int.toNat_of_nonneg m.1]at this
 unfold YB;rw[rD,AX];unfold jl;unfold KL at h;by_cases j:n<0
 ·rw[EX j]at h;rw[show decide (n<0)=true by simpa using j,Bq,tJ];exact h
 rw[EW j]at h;rw[show decide (n<0)=false by simpa using j,Az];exact h
def VN {b:AA Int} {m:Nat} (h:b.length+m<=1099511627776):Na b (m:Int)=some b:=by
 unfold Na;rw[Jl AL AL];unfold Sm;rw[EX ⟨AL,AL,AL⟩];simp[gCopy]
def XO {a b:AA Int} (h:(a++b).length<=1099511627776):a.length<=1099511627776:=by rw[Dp]at h;omega
def Ew (s:AY):AA Int:=enc s.size++Aj s
def text_eq {b:AA Int} {s:AY} (h:(b++Ew s).length<=1099511627776):Vb b s=some (b++Ew s):=by
 unfold Ew at h ⊢;rw[←HY]at h ⊢;unfold Vb;rw[number_eq (XO h),AX,He AL h];rfl
def UW {b:AA Int} {n:Int} (h:b.length+10<=1099511627776):H6 b n=some (b++enc n):=by
 have :=IX n;unfold H6;rw[show(10:Int)=((10:Nat):Int)from rfl,VN AL,AX,number_eq JU];rfl
def OO {b:AA Int} {n:Int} (h:b.length+10<=1099511627776):Fq b n=some (b++enc n):=by
 have :=IX n;unfold Fq;rw[He AL X9,AX,o9,AX,Om,He AL JU];rfl
def Rw (s:AY):(Ew s).length<=s.size+10:=by
 have :=IX s.size;unfold Ew;rw[Dp,EJ];omega
def acG {b:AA Int} {s:AY} (h:b.length+s.size+10<=1099511627776):Jm b s=some (b++Ew s):=by
 have :=Rw s;unfold Jm;rw[Jl AL AL,show(s.size:Int)+10=((s.size+10:Nat):Int) by omega,VN AL,AX,text_eq JU];rfl
def rH {b:AA Int} {s:AY} (h:b.length+s.size+10<=1099511627776):JW b s=some (b++Ew s):=by
 have :=Rw s;unfold JW;rw[OO AL,AX,He AL (by unfold Ew at this;rw[Dp]at this;rw[Dp,Dp];omega)];simp[Ew]
def afQ {b:AA Int} {j:AO} (h:b.length+10<=1099511627776):Nh b j=some (b++[bif j then 1 else 0]):=by
 unfold Nh;rw[show(1:Int)=((1:Nat):Int)from rfl,VN AL,AX];cases j<;>simp only[Bq,Az]<;>rw[He AL eA]<;>rfl
def acw {b:AA Int} {j:AO} (h:b.length+10<=1099511627776):V9 b j=some (b++[bif j then 1 else 0]):=by
 unfold V9;rw[He AL X9,AX,Om];cases j<;>simp only[Bq,Az]<;>rw[He AL eA]<;>rfl
def Zv {α:Type} {body:(AA Int->Int->AB (AA Int))->AA Int->Int->AB (AA Int)} (l:AA α) (s:l.length<Am) (g:α->AA Int)
 (u:∀k b (i:Nat) (h:i<l.length),(b++g l[i]).length<=1099511627776->body k b (i:Int)=k (b++g l[i]) (IntKind.i64.wrap ((i:Int)+1))) (z:∀k b,body k b (l.length:Int)=some b) (b:AA Int) (j:(b++l.flatMap g).length<=1099511627776):
 bZ body Am b 0=some (b++l.flatMap g):=by
 have M:Am=9223372036854775808:=rfl
 have key:∀n (i:Nat) b,i+n=l.length->(b++(l.drop i).flatMap g).length<=1099511627776->∀m,n<m->bZ body m b (i:Int)=some (b++(l.drop i).flatMap g):=by
  intro n
  induction n with
  |zero=>
   intro i b I j m J;obtain⟨m,rfl⟩:∃r,m=r+1:=⟨m-1,AL⟩
   have :i=l.length:=AL
   subst this;show body (bZ body m) _ _=_;rw[z,Ob];simp
  |succ n L=>
   intro i b I j m J;obtain⟨m,rfl⟩:∃r,m=r+1:=⟨m-1,AL⟩
   have q:i<l.length:=AL
   rw[Rq q,Y6,←HY]at j ⊢;show body (bZ body m) _ _=_;rw[u _ _ i q (XO j),wrap_succ i AL];exact L (i+1) _ AL j m AL
 exact key l.length 0 b AL j Am s
def Ij (l:AA Int):AA Int:=enc l.length++l.flatMap enc
def Ih (l:AA AY):AA Int:=enc l.length++l.flatMap Ew
def afb {b:AA Int} {l:AA Int} (h:(b++Ij l).length<=1099511627776) (n:l.length<=1000):WJ b l=some (b++Ij l):=by
 have q:Am=9223372036854775808:=rfl;unfold Ij at h ⊢;rw[←HY]at h ⊢;unfold WJ;rw[number_eq (XO h),AX];unfold xO;refine Zv l AL enc (fun k b i j m=>?_) (fun k b=>?_) _ h
 ·simp only[je,dec_lt j,Bq,DV j,number_eq m,AX]
 simp only[je,DJ,Az]
def yP {b:AA Int} {l:AA AY} (h:(b++Ih l).length<=1099511627776) (n:l.length<=1000000000):Y1 b l=some (b++Ih l):=by
 have q:Am=9223372036854775808:=rfl;unfold Ih at h ⊢;rw[←HY]at h ⊢;unfold Y1;rw[number_eq (XO h),AX];unfold nX;refine Zv l AL Ew (fun k b i j m=>?_) (fun k b=>?_) _ h
 ·simp only[bF,dec_lt j,Bq,DV j,text_eq m,AX]
 simp only[bF,DJ,Az]
def Yz {α:Type} {g:α->AA Int} {m:Nat}:∀{l:AA α},(∀x∈l,(g x).length<=m)->(l.flatMap g).length<=l.length*m
 | [],_=>Bf
 |x::l,h=>by
  rw[Y6,Dp,PN,Pq];have :=h x OE;have :=Yz (l:=l) (fun y j=>h y (Ku _ j));omega
def bJ (l:AA Int):(Ij l).length<=l.length*10+10:=by
 have h:=IX l.length;have j:=Yz (g:=enc) (m:=10) (l:=l) (fun x _=>IX x);unfold Ij;rw[Dp];omega
def Zt {l:AA AY} {m:Nat} (h:∀s∈l,s.size<=m):(Ih l).length<=l.length*(m+10)+10:=by
 have n:=IX l.length;have q:=Yz (g:=Ew) (m:=m+10) (l:=l) (fun s j=>by have :=Rw s;have :=h s j;omega);unfold Ih;rw[Dp];omega
def agZ {b:AA Int} {l:AA Int} (j:b.length+20000<=1099511627776) (h:l.length<=1000):OW b l=some (b++Ij l):=by
 have m:=bJ l;unfold OW;rw[Jl (x:=2*(l.length:Int)) AL AL,Jl AL AL,show 2*(l.length:Int)+10=((2*l.length+10:Nat):Int) by omega,VN AL,AX,afb JU h];rfl
def adG {b:AA Int} {l:AA Int} (n:b.length+20000<=1099511627776) (q:l.length<=1000):SY b l=some (b++Ij l):=by
 have r:Am=9223372036854775808:=rfl;have s:=bJ l;have h:(b++Ij l).length<=1099511627776:=JU
 unfold Ij at h ⊢;rw[←HY]at h ⊢;unfold SY;rw[OO AL,AX];unfold sO;refine Zv l AL enc (fun k b i j m=>?_) (fun k b=>?_) _ h
 ·simp only[jy,dec_lt j,Bq,DV j,o9,He (show 1<=100 by omega) m,AX]
 simp only[jy,DJ,Az]
def agD {b:AA Int} {l:AA AY} (j:b.length+3000000<=1099511627776) (m:l.length<=1000) (h:∀s∈l,s.size<=2000):Ro b l=some (b++Ih l):=by
 have n:=Zt h;unfold Ro;rw[Jl (x:=8*(l.length:Int)) AL AL,Jl AL AL,show 8*(l.length:Int)+10=((8*l.length+10:Nat):Int) by omega,VN AL,AX,yP JU AL];rfl
def ab5 {b:AA Int} {l:AA AY} (L:b.length+3000000<=1099511627776) (M:l.length<=1000) (r:∀s∈l,s.size<=2000):Ul b l=some (b++Ih l):=by
 have O:Am=9223372036854775808:=rfl;have S:=Zt r;have h:(b++Ih l).length<=1099511627776:=JU
 have key:∀n (i:Nat) b,i+n=l.length->b.length+(n*2020)<=1099511620000->∀m,n<m->bZ (OT l) m b (i:Int)=some (b++(l.drop i).flatMap Ew):=by
  intro n
  induction n with
  |zero=>
   intro i b u z m I;obtain⟨m,rfl⟩:∃q,m=q+1:=⟨m-1,AL⟩
   have :i=l.length:=AL
   subst this;show OT l (bZ (OT l) m) _ _=_;simp only[OT,DJ,Az,Ob];simp
  |succ n J=>
   intro i b u z m I;obtain⟨m,rfl⟩:∃q,m=q+1:=⟨m-1,AL⟩
   have j:i<l.length:=AL
   have U:=r l[i] (KW j);have Y:=Rw l[i];rw[Rq j,Y6,←HY];show OT l (bZ (OT l) m) _ _=_;simp only[OT,dec_lt j,Bq,DV j,AX];rw[rH AL,AX,wrap_succ i AL];exact J (i+1) _ AL JU m AL
 unfold Ih;rw[←HY];unfold Ul;rw[OO AL,AX];unfold um;have :=key l.length 0 (b++enc l.length) AL (by have :=IX l.length;rw[Dp];omega) Am AL;exact this
structure KG (c:BF):Prop where
 allow:c.Allow.length<=100
 deny:c.dw.length<=100
 users:c.Levels.Users.length<=100
 kinds:c.Levels.Kinds.length<=100
 text:c.Text.size<=2000
 via:c.Via.size<=2000
 allows:∀x∈c.Allow,x.size<=2000
 denies:∀x∈c.dw,x.size<=2000
 names:∀x∈c.Levels.Users,x.User.size<=2000
def Cx.content {e:BH} (h:Cx e):KG e.Content:=⟨h.allow,h.deny,h.users,h.kinds,h.text,h.via,h.allows,h.denies,h.names⟩
section
variable {b:AA Int} {k:Nat}
def KZ (h:b.length<=k) (j:k<=1000000000) (n:Int):H6 b n=some (b++enc n)/\Fq b n=some (b++enc n)/\(b++enc n).length<=k+10:=by
 have :=IX n;exact⟨UW AL,OO AL,JU⟩
def mF (h:b.length<=k) (m:k<=1000000000) (j:AO):Nh b j=some (b++[bif j then 1 else 0])/\V9 b j=some (b++[bif j then 1 else 0])/\(b++[bif j then(1:Int)else 0]).length<=k+10:=
 ⟨afQ AL,acw AL,eA⟩
def Me (h:b.length<=k) (j:k<=1000000000) {s:AY} (m:Nat) (n:s.size<=m) (q:m<=1000000000):Jm b s=some (b++Ew s)/\JW b s=some (b++Ew s)/\(b++Ew s).length<=k+m+10:=by
 have :=Rw s;exact⟨acG AL,rH AL,JU⟩
def lG (h:b.length<=k) (j:k<=1000000000) {l:AA Int} (m:l.length<=100):OW b l=some (b++Ij l)/\SY b l=some (b++Ij l)/\(b++Ij l).length<=k+1010:=by
 have :=bJ l;exact⟨agZ AL AL,adG AL AL,JU⟩
def tN (h:b.length<=k) (m:k<=1000000000) {l:AA AY} (n:l.length<=100) (j:∀s∈l,s.size<=2000):Ro b l=some (b++Ih l)/\Ul b l=some (b++Ih l)/\(b++Ih l).length<=k+201010:=by
 have :=Zt j;exact⟨agD AL AL j,ab5 AL AL j,JU⟩
end
def Jo (u:Iy):AA Int:=Ew u.User++enc u.N
def Jz (u:Ii):AA Int:=enc u.Kind++enc u.N
def F5 (l:Dl):AA Int:=[l.User,l.Message,l.State,l.iD,l.lS,l.qm,l.iE]
def aem (b:AA Int) (l:Dl):AA Int:=b++enc l.Users.length++l.Users.flatMap Jo++enc l.Kinds.length++l.Kinds.flatMap Jz++(F5 l).flatMap enc
def SC (c:BF):AA Int:=aem ([]++Ew c.Text++enc c.N++enc c.Target++[bif c.Thread then 1 else 0]++Ew c.Via++Ih c.Allow++Ih c.dw) c.Levels
def adP {u:Iy} (h:u.User.size<=2000):(Jo u).length<=2020:=by
 have :=Rw u.User;have :=IX u.N;unfold Jo;rw[Dp];omega
def wH (u:Ii):(Jz u).length<=20:=by
 have :=IX u.Kind;have :=IX u.N;unfold Jz;rw[Dp];omega
def QY {R α:Type} {body:(AA Int->Int->AB R)->AA Int->Int->AB R} (l:AA α) (u:l.length<=1000) (g:α->AA Int) (m:Nat) (n:∀x∈l,(g x).length<=m) (j:AA Int->AB R) (b:AA Int)
 (q:∀k a (i:Nat) (h:i<l.length),a.length<=b.length+i*m->body k a (i:Int)=k (a++g l[i]) (IntKind.i64.wrap ((i:Int)+1)))
 (r:∀k a,a.length<=b.length+l.length*m->body k a (l.length:Int)=j a):bZ body Am b 0=j (b++l.flatMap g)/\(b++l.flatMap g).length<=b.length+l.length*m:=by
 constructor
 ·rw[fM l AL (fun a x=>a++g x) (fun i a=>a.length<=b.length+i*m) j AL (fun k a i h s=>⟨?_,q k a i h s⟩) r,foldl_append g];have :=n l[i] (KW h);rw[Dp,Pq];omega
 have :=Yz n;rw[Dp];omega
def aan (c:BF) (b:AA Int) (s:b.length<=900000):(kG c b 0=some (b++(F5 c.Levels).flatMap enc)/\jC (F5 c.Levels) b 0=some (b++(F5 c.Levels).flatMap enc))/\(b++(F5 c.Levels).flatMap enc).length<=b.length+70:=by
 have n:∀i:Nat,(h:i<(F5 c.Levels).length)->BI ([c.Levels.User,c.Levels.Message,c.Levels.State,c.Levels.iD,c.Levels.lS,c.Levels.qm,c.Levels.iE]:AA Int) (i:Int)=some (F5 c.Levels)[i]:=fun i h=>DV h
 have m:=QY (body:=au c) (F5 c.Levels) (by simp[F5]) enc 10 (fun x _=>IX x) some b (fun k a i h j=>by
  have q:i<7:=h;unfold au
  rw[PO (show(i:Int)<7 by omega),Bq,n i h,AX,UW AL,AX]) fun k a j=>rfl
 have r:=QY (body:=X3 (F5 c.Levels)) (F5 c.Levels) (by simp[F5]) enc 10 (fun x _=>IX x) some b (fun k a i h j=>by
  have q:i<7:=h;unfold X3
  rw[KA h,OO AL,AX]) fun k a j=>by unfold X3;rw[DJ];rfl
 exact⟨⟨m.1,r.1⟩,m.2⟩
def ab9 (c:BF) (b:AA Int) (u:b.length<=800000) (z:c.Levels.Kinds.length<=100):(gK c b 0=some (b++c.Levels.Kinds.flatMap Jz++(F5 c.Levels).flatMap enc)/\dW c b 0=some (b++c.Levels.Kinds.flatMap Jz++(F5 c.Levels).flatMap enc))/\(b++c.Levels.Kinds.flatMap Jz++(F5 c.Levels).flatMap enc).length<=b.length+2070:=by
 have n:=QY (body:=YU c) c.Levels.Kinds AL Jz 20 (fun x _=>wH x) (fun a=>kG c a 0) b (fun k a i h j=>by
  obtain⟨m,_,r⟩:=KZ (b:=a) (k:=900000) AL AL c.Levels.Kinds[i].Kind;unfold YU
  rw[KA h,m,AX,UW AL,AX,HY];rfl) fun k a j=>by unfold YU;rw[DJ];rfl
 have s:=QY (body:=YH c) c.Levels.Kinds AL Jz 20 (fun x _=>wH x) (fun a=>jC (F5 c.Levels) a 0) b (fun k a i h j=>by
  obtain⟨_,m,r⟩:=KZ (b:=a) (k:=900000) AL AL c.Levels.Kinds[i].Kind;unfold YH
  rw[KA h,m,AX,DV h,AX,OO AL,AX,HY];rfl) fun k a j=>by unfold YH qZ;rw[DJ,Az,AX];rfl
 have I:=n.2;have q:=aan c (b++c.Levels.Kinds.flatMap Jz) AL;exact⟨⟨n.1.trans q.1.1,s.1.trans q.1.2⟩,AL⟩
def acf (c:BF) (b:AA Int) (S:b.length<=500000) (j:KG c):(uq c b 0=some (b++c.Levels.Users.flatMap Jo++enc c.Levels.Kinds.length++c.Levels.Kinds.flatMap Jz++(F5 c.Levels).flatMap enc)/\qx c b 0=some (b++c.Levels.Users.flatMap Jo++enc c.Levels.Kinds.length++c.Levels.Kinds.flatMap Jz++(F5 c.Levels).flatMap enc))/\(b++c.Levels.Users.flatMap Jo++enc c.Levels.Kinds.length++c.Levels.Kinds.flatMap Jz++(F5 c.Levels).flatMap enc).length<=b.length+204080:=by
 have U:=j.users;have u:∀x∈c.Levels.Users,(Jo x).length<=2020:=fun x I=>adP (j.names x I)
 have z:=QY (body:=WQ c) c.Levels.Users AL Jo 2020 u (fun a=>gK c (a++enc c.Levels.Kinds.length) 0) b (fun k a i h m=>by
  have n:=j.names _ (KW h);obtain⟨q,_,J⟩:=Me (b:=a) (k:=900000) AL AL (s:=c.Levels.Users[i].User) 2000 n AL;unfold WQ
  rw[KA h,q,AX,UW AL,AX,HY];rfl) fun k a m=>by unfold WQ;rw[DJ,Az,UW AL,AX]
 have L:=QY (body:=Yv c) c.Levels.Users AL Jo 2020 u (fun a=>dW c (a++enc c.Levels.Kinds.length) 0) b (fun k a i h m=>by
  have n:=j.names _ (KW h);obtain⟨_,q,J⟩:=Me (b:=a) (k:=900000) AL AL (s:=c.Levels.Users[i].User) 2000 n AL;unfold Yv
  rw[KA h,q,AX,DV h,AX,OO AL,AX,HY];rfl) fun k a m=>by unfold Yv;rw[DJ,Az,OO AL,AX]
 have Y:=z.2;have Z:=IX (c.Levels.Kinds.length:Int);have M:(b++c.Levels.Users.flatMap Jo++enc c.Levels.Kinds.length).length=(b++c.Levels.Users.flatMap Jo).length+(enc c.Levels.Kinds.length).length:=Dp ..;have r:=ab9 c (b++c.Levels.Users.flatMap Jo++enc c.Levels.Kinds.length) AL j.kinds;have O:=r.2;rw[M]at O;exact⟨⟨z.1.trans r.1.1,L.1.trans r.1.2⟩,AL⟩
def sI {c:BF} (h:KG c):VW c=some (SC c)/\WH c=some (SC c)/\(SC c).length<=700000:=by
 obtain⟨j,m,n⟩:=Me (b:=[]) (k:=0) (Gt _) AL 2000 h.text AL;obtain⟨q,r,s⟩:=KZ n AL c.N;obtain⟨u,z,I⟩:=KZ s AL c.Target;obtain⟨J,L,M⟩:=mF I AL c.Thread;obtain⟨O,S,U⟩:=Me M AL 2000 h.via AL;obtain⟨Y,Z,h6⟩:=tN U AL h.allow h.allows;obtain⟨a7,b7,h7⟩:=tN h6 AL h.deny h.denies;obtain⟨a8,b8,h8⟩:=KZ h7 AL (c.Levels.Users.length:Int);obtain⟨⟨a9,b9⟩,h9⟩:=acf c _ (FZ h8 AL) h;refine⟨?_,?_,FZ h9 AL⟩
 ·unfold VW;rw[j,AX,q,AX,u,AX,J,AX,O,AX,Y,AX,a7,AX,a8,AX];exact a9
 unfold WH;rw[m,AX,r,AX,z,AX,L,AX,S,AX,Z,AX,b7,AX,b8,AX];exact b9
def Yu (e:BH):AA Int:=
 []++enc e.Id++Ew e.Room++Ew e.aQ++enc e.Kind++[bif e.State then 1 else 0]++Ew e.Key++enc e.Time++enc e.Depth++Ij e.iM++Ij e.iT++Ew (Es (SC e.Content))++enc e.Hash++Ew e.eu.Server++enc e.eu.Sum
def aaY (l:AA Int):(Es l).size=l.length:=by
 have key:∀(l:AA Int) (r:AY),(l.foldl (fun r n=>r.push (UInt8.ofNat n.toNat)) r).size=r.size+l.length:=by
  intro l
  induction l with
  |nil=>intro r;rfl
  |cons x l h=>intro r;rw[XP,h,ByteArray.size_push,PN];omega
 unfold Es;rw[key];simp
def Yy {S α:Type} {body:(Int->S->AB S)->Int->S->AB S} (l:AA α) (L:l.length<1000) (f:S->α->AB S)
 (r:∀k (i:Nat) (h:i<l.length) s,body k (i:Int) s=(f s l[i]).bind fun x=>k (IntKind.i64.wrap ((i:Int)+1)) x) (u:∀k s,body k (l.length:Int) s=some s) (s:S):bZ body Am 0 s=l.foldlM f s:=by
 have M:Am=9223372036854775808:=rfl
 have key:∀n (i:Nat) s,i+n=l.length->∀m,n<m->bZ body m (i:Int) s=(l.drop i).foldlM f s:=by
  intro n
  induction n with
  |zero=>
   intro i s z m I;obtain⟨m,rfl⟩:∃q,m=q+1:=⟨m-1,AL⟩
   have :i=l.length:=AL
   subst this;rw[Ob];exact u _ _
  |succ n J=>
   intro i s z m I;obtain⟨m,rfl⟩:∃q,m=q+1:=⟨m-1,AL⟩
   have j:i<l.length:=AL
   rw[Rq j,PX];show body (bZ body m) _ _=(f s l[i]).bind _;rw[r _ i j,wrap_succ i AL];congr 1;funext x;exact J (i+1) x AL m AL
 exact key l.length 0 s AL Am AL
def vX (w:D9) (l:AA Int) (j:l.length<1000):KY w l=l.foldlM SK w:=by
 unfold KY nY;exact Yy l j _ (fun k i h s=>by simp only[dX,dec_lt h,Bq,DV h,AX]) (fun k s=>by simp only[dX,DJ,Az]) w
def ou (w:D9) (l:AA AY) (j:l.length<1000):MR w l=l.foldlM Qh w:=by
 unfold MR xR;exact Yy l j _ (fun k i h s=>by simp only[Zz,dec_lt h,Bq,DV h,AX]) (fun k s=>by simp only[Zz,DJ,Az]) w
def zh (w:D9) (l:AA AO) (j:l.length<1000):UN w l=l.foldlM TU w:=by
 unfold UN rY;exact Yy l j _ (fun k i h s=>by simp only[aP,dec_lt h,Bq,DV h,AX]) (fun k s=>by simp only[aP,DJ,Az]) w
def agP (w:D9) (l:AA (AA Int)) (j:l.length<1000):VI w l=l.foldlM Rk w:=by
 unfold VI xB;exact Yy l j _ (fun k i h s=>by simp only[iY,dec_lt h,Bq,DV h,AX]) (fun k s=>by simp only[iY,DJ,Az]) w
def jr {b c:AA Int} {n:Int} (h:H6 b n=some c):SK ⟨b⟩ n=some ⟨c⟩:=by unfold SK;rw[h];rfl
def cO {b c:AA Int} {n:AY} (h:Jm b n=some c):Qh ⟨b⟩ n=some ⟨c⟩:=by unfold Qh;rw[h];rfl
def ag5 {b c:AA Int} {n:AO} (h:Nh b n=some c):TU ⟨b⟩ n=some ⟨c⟩:=by unfold TU;rw[h];rfl
def wC {b c:AA Int} {n:AA Int} (h:OW b n=some c):Rk ⟨b⟩ n=some ⟨c⟩:=by unfold Rk;rw[h];rfl
def Vs {b c:AA Int} {n:Int} (h:H6 b n=some c):KY ⟨b⟩ [n]=some ⟨c⟩:=by
 rw[vX _ _ Bf,PX,jr h];rfl
def aam {b c d:AA Int} {n m:Int} (h:H6 b n=some c) (k:H6 c m=some d):KY ⟨b⟩ [n,m]=some ⟨d⟩:=by
 rw[vX _ _ Bf,PX,jr h];show(SK ⟨c⟩ m).bind _=_;rw[jr k];rfl
def fA {b c:AA Int} {n:AY} (h:Jm b n=some c):MR ⟨b⟩ [n]=some ⟨c⟩:=by
 rw[ou _ _ Bf,PX,cO h];rfl
def yZ {b c d:AA Int} {n m:AY} (h:Jm b n=some c) (k:Jm c m=some d):MR ⟨b⟩ [n,m]=some ⟨d⟩:=by
 rw[ou _ _ Bf,PX,cO h];show(Qh ⟨c⟩ m).bind _=_;rw[cO k];rfl
def zy {b c:AA Int} {n:AO} (h:Nh b n=some c):UN ⟨b⟩ [n]=some ⟨c⟩:=by
 rw[zh _ _ Bf,PX,ag5 h];rfl
def abe {b c d:AA Int} {n m:AA Int} (h:OW b n=some c) (k:OW c m=some d):VI ⟨b⟩ [n,m]=some ⟨d⟩:=by
 rw[agP _ _ Bf,PX,wC h];show(Rk ⟨c⟩ m).bind _=_;rw[wC k];rfl
def Mem {e:BH} (h:Cx e):Tc e=some (Yu e)/\Xo e=some (Yu e)/\(Yu e).length<=1000000:=by
 obtain⟨Z,bc,hc⟩:=sI h.content;obtain⟨a1,b1,h1⟩:=KZ (b:=[]) (k:=0) (Gt _) AL e.Id;obtain⟨a2,b2,h2⟩:=Me h1 AL 2000 h.room AL;obtain⟨a3,b3,h3⟩:=Me h2 AL 2000 h.sender AL;obtain⟨a4,b4,h4⟩:=KZ h3 AL e.Kind;obtain⟨a5,b5,h5⟩:=mF h4 AL e.State;obtain⟨a6,b6,h6⟩:=Me h5 AL 2000 h.key AL;obtain⟨a7,b7,h7⟩:=KZ h6 AL e.Time;obtain⟨a8,b8,h8⟩:=KZ h7 AL e.Depth;obtain⟨a9,b9,h9⟩:=lG h8 AL (FZ h.prev AL);obtain⟨j,m,n⟩:=lG h9 AL (FZ h.auth AL);obtain⟨q,r,u⟩:=Me n AL (s:=Es (SC e.Content)) 700000 (by rw[aaY];exact hc) AL;obtain⟨z,I,J⟩:=KZ u AL e.Hash;obtain⟨L,M,O⟩:=Me J AL 2000 h.server AL;obtain⟨S,U,Y⟩:=KZ O AL e.eu.Sum;refine⟨?_,?_,FZ Y AL⟩
 ·unfold Tc
  rw[show KY Xt [e.Id]=_ from Vs a1,AX,yZ a2 a3,AX,Vs a4,AX,zy a5,AX,fA a6,AX,aam a7 a8,AX,abe a9 j,AX,
   Z,AX,fA q,AX,Vs z,AX,fA L,AX,Vs S,AX]
  rfl
 unfold Xo;rw[b1,AX,b2,AX,b3,AX,b4,AX,b5,AX,b6,AX,b7,AX,b8,AX,b9,AX,m,AX,bc,AX,r,AX,I,AX,M,AX,U,AX];rfl
def Yn (l:AA Int):Int:=IntKind.i64.wrap (l.foldl VX ((IntKind.u64.wrap 860922984064492325).tmod 4611686018427387904))
def lJ {l:AA Int} (j:l.length<=1000000):TV l=some (Yn l):=by
 unfold TV iV;rw[AX];unfold iR wZ
 rw[XT _ _ _ _ (.inl rfl),ru,fM l AL VX (fun _ _=>True) (fun s=>some (IntKind.i64.wrap s)) trivial (fun k s i h _=>⟨trivial,by
  simp only[dS,dec_lt h,Bq,DV h,AX,XT _ _ _ _ (.inl rfl),XT _ _ _ _ (.inr (.inr rfl)),acT]⟩) fun k s _=>by
  simp only[dS,DJ,Az]]
 rfl
def nH {l:AA Int} (j:l.length<=1000000):XJ l=some (Yn l):=by
 unfold XJ;rw[show su=some 860922984064492325 from rfl,AX];unfold uZ mQ
 rw[show PY (IntKind.u64.wrap 860922984064492325) 4611686018427387904=some ((IntKind.u64.wrap 860922984064492325).tmod 4611686018427387904)from rfl,AX,fM l AL VX (fun _ _=>True) (fun s=>some (IntKind.i64.wrap s)) trivial (fun k s i h _=>⟨trivial,by
  have e:PY (IntKind.u64.wrap ((CY .xor .u64 s (IntKind.u64.wrap l[i]))*1099511628211)) 4611686018427387904=some (VX s l[i]):=rfl
  simp only[jX,dec_lt h,Bq,DV h,AX,e]⟩) fun k s _=>by
  simp only[jX,DJ,Az]]
 rfl
def OL (k:Int) (c:BF):BF:=
 if k=1 then c else if k=2 then{ DC with N:=c.N,Via:=c.Via }else if k=3 then{ DC with Levels:=c.Levels }else if k=4 then{ DC with N:=c.N,Allow:=c.Allow }else
 if k=5 then{ DC with N:=c.N }else if k=6 then{ DC with Allow:=c.Allow,dw:=c.dw }else if k=14 then{ DC with Target:=c.Target }else DC
def l9 {R:Type} (a b:Int) (x y:R):(bif a==b then x else y)=if a=b then x else y:=by
 by_cases h:a=b
 ·subst h;simp
 have :(a==b)=false:=QG
 rw[this,EW h];rfl
def lI {R:Type} (p:Prop) [Decidable p] (x y:R):(if p then some x else some y)=some (if p then x else y):=by split<;>rfl
def afY (k:Int) (c:BF):fG k c=some (OL k c):=by
 unfold fG OL;simp only[l9,lI]
def texts_eq {l:AA AY} (h:l.length<=100):Jd l=some l:=by
 unfold Jd;rw[He AL X9];rfl
def sW {l:Dl} (j:l.Users.length<=100) (h:l.Kinds.length<=100):Py l=some l:=by
 unfold Py;rw[He AL X9,AX,He AL (by rw[Om];exact FZ h AL)];rfl
def Z5 (k:Int):Int:=if k=2 then 18 else if k=3 then 128 else if k=4 then 34 else if k=5 then 2 else if k=6 then 96 else if k=14 then 4 else 0
def zo (k:Int):Rh k=some (Z5 k):=by
 by_cases j:k=2
 ·subst j;rfl
 by_cases m:k=3
 ·subst m;rfl
 by_cases n:k=4
 ·subst n;rfl
 by_cases q:k=5
 ·subst q;rfl
 by_cases h:k=6
 ·subst h;rfl
 unfold Rh Qy Z5;simp only[l9,j,m,n,q,h,O6,show(k==6)=false from by simpa using h,Az,lI]
def jD (k:Int) {c:BF} (h:KG c):UF k c=some (OL k c):=by
 by_cases m:k=1
 ·subst m;show(Jd c.Allow).bind (fun z=>(Jd c.dw).bind fun I=>(Py c.Levels).bind fun J=>some ({ { { c with Allow:=z }with dw:=I }with Levels:=J }))=_;rw[texts_eq h.allow,AX,texts_eq h.deny,AX,sW h.users h.kinds];rfl
 unfold UF;rw[show(k==1)=false from by simpa using m,Az,zo,AX];by_cases n:k=2
 ·subst n;rfl
 by_cases q:k=3
 ·subst q;show(Py c.Levels).bind (fun x=>some { DC with Levels:=x })=_;rw[sW h.users h.kinds];rfl
 by_cases r:k=4
 ·subst r;show(Jd c.Allow).bind (fun x=>some { DC with N:=c.N,Allow:=x })=_;rw[texts_eq h.allow];rfl
 by_cases s:k=5
 ·subst s;rfl
 by_cases u:k=6
 ·subst u;show(Jd c.Allow).bind (fun x=>(Jd c.dw).bind fun y=>some { DC with Allow:=x,dw:=y })=_;rw[texts_eq h.allow,AX,texts_eq h.deny];rfl
 by_cases j:k=14
 ·subst j;rfl
 have L:Z5 k=0:=by unfold Z5;simp only[n,q,r,s,u,j,O6]
 have M:OL k c=DC:=by unfold OL;simp only[m,n,q,r,s,u,j,O6]
 rw[L,M];rfl
def KG.strip {c:BF} (h:KG c) (k:Int):KG (OL k c):=by
 have j:(0:Nat)<=2000:=AL
 unfold OL
 repeat' split
 all_goals first|exact h|exact⟨by simp[DC,Jb,h.allow],by simp[DC,Jb,h.deny],by simp[DC,Jb,h.users],by simp[DC,Jb,h.kinds],by first|exact h.text|exact j,by first|exact h.via|exact j,by first|exact h.allows|simp[DC],by first|exact h.denies|simp[DC],by first|exact h.names|simp[DC,Jb]⟩
def Ua (e:BH):BH:={ e with Content:=OL e.Kind e.Content }
def Kw (e:BH):Prop:=Cx { e with eu:=JI }
def Kw.content {e:BH} (h:Kw e):KG e.Content:=Cx.content (e:={ e with eu:=JI }) h
def Cx.x {e:BH} (h:Cx e):Kw e:=⟨h.prev,h.auth,h.allow,h.deny,h.users,h.kinds,h.room,h.sender,h.key,h.text,h.via,LG _,h.allows,h.denies,h.names⟩
def rX {e:BH} (h:Kw e):UU e=some (Ua e)/\Zo e=some (Ua e):=by
 unfold UU Zo;rw[jD _ h.content,afY];exact⟨rfl,rfl⟩
def Gz (e:BH):Int:=Yn (SC e.Content)
def WV (e:BH):BH:={ { Ua e with Id:=0 }with eu:=JI }
def O5 (e:BH):Int:=Yn (Yu (WV e))
def Kw.bare {e:BH} (h:Kw e):Cx (WV e):=by
 have j:=h.content.strip e.Kind;exact⟨h.prev,h.auth,j.allow,j.deny,j.users,j.kinds,h.room,h.sender,h.key,j.text,j.via,by show(0:Nat)<=2000;omega,j.allows,j.denies,j.names⟩
def Y0 {e:BH} (j:Kw e):RD e=some (Gz e)/\kP e=some (Gz e):=by
 obtain⟨a,b,h⟩:=sI j.content;unfold RD kP;rw[a,b,AX,AX,lJ AL,nH AL];exact⟨rfl,rfl⟩
def Sz {e:BH} (j:Kw e):Ou e=some (O5 e)/\kJ e=some (O5 e):=by
 obtain⟨a,b⟩:=rX j;obtain⟨c,d,h⟩:=Mem j.bare;unfold Ou kJ;rw[a,b,AX,AX];show(Tc (WV e)).bind _=_/\(Xo (WV e)).bind _=_;rw[c,d,AX,AX,lJ AL,nH AL];exact⟨rfl,rfl⟩
def Jj (e:BH) (s:AY):BH:={ e with Hash:=Gz e,Id:=O5 { e with Hash:=Gz e },eu:=⟨s,O5 { e with Hash:=Gz e }⟩ }
def Cx.hash {e:BH} (h:Cx e) (n:Int):Cx { e with Hash:=n }:=⟨h.prev,h.auth,h.allow,h.deny,h.users,h.kinds,h.room,h.sender,h.key,h.text,h.via,h.server,h.allows,h.denies,h.names⟩
def Tv (n:Int):Int:=if n< -1000000000000 then -1000000000000 else if n>1000000000000 then 1000000000000 else n
def jo (n:Int):SE n=some (Tv n):=by
 unfold SE aG Xz XZ Tv;by_cases h:n>1000000000000
 ·have :¬n< -1000000000000:=AL
  simp[h,this]
 by_cases j:n< -1000000000000<;>simp[h,j]
def iW (a b:Int):Int:=Tv (IntKind.i64.wrap (Tv a+Tv b))
def yH (a b:Int):Xa a b=some (iW a b):=by
 unfold Xa iW;rw[jo,AX,jo,AX,jo];rfl
def MW (s:AY):Int:=bif Ec s 64 then 0 else 3
def PK (s:AY):Int:=bif Ec s 33 then 0 else 3
def Qb {s:AY} (h:s.size<=9223372036854775807):Q8 s=some (MW s)/\Ry s=some (MW s):=by
 unfold Q8 VK Ry MW;rw[kR h (marks:=TY) (by rw[show Aj TY=[64]from rfl];intro m j;simp only[Hz,LW,ND]at j;omega),Xc h BQ,show((Aj TY).any fun m=>Ec s m)=(Ec s 64||false)from rfl];cases Ec s 64<;>exact⟨rfl,rfl⟩
def iw {s:AY} (h:s.size<=9223372036854775807):Tn s=some (PK s)/\Xr s=some (PK s):=by
 unfold Tn VK Xr PK;rw[kR h (marks:=VZ) (by rw[show Aj VZ=[33]from rfl];intro m j;simp only[Hz,LW,ND]at j;omega),Xc h BQ,show((Aj VZ).any fun m=>Ec s m)=(Ec s 33||false)from rfl];cases Ec s 33<;>exact⟨rfl,rfl⟩
def Zy (a b:AY):Aj (a++b)=Aj a++Aj b:=by simp[Aj,ByteArray.data_append]
def Rz (n h:AY):AY:=Es [64]++n++Ie++h
def aaF (n h:AY):Aj (Rz n h)=64::(Aj n++58::Aj h):=by
 unfold Rz;rw[Zy,Zy,Zy,show Aj (Es [64])=[64]from rfl,show Aj Ie=[58]from rfl];simp
def nV (n h:AY):(Rz n h).size=n.size+h.size+2:=by
 rw[←EJ,aaF];simp[EJ];omega
def OI (n h:AY):AY×Int:=bif Jr (Aj n)&&Ig (Aj h)then(Rz n h,0)else(Bd,3)
def afy {l:AA Int} (h:Jr l=true):(58:Int)∉l:=by
 intro j;unfold Jr Jv at h;simp only[CS,Dz]at h;have :=h.2 58 j;exact absurd this BQ
def nS (s:AY) (m:s.size<=2000):(splitB s (Ee s)).1.size<=2000/\(58:Int)∉Aj (splitB s (Ee s)).1/\(splitB s (Ee s)).2.1.size<=2000:=by
 have n:Bd.size<=2000:=BQ
 cases h:Ee s with
 |false=>exact⟨n,by show(58:Int)∉Aj Bd;decide,n⟩
 |true=>
  have j:JZ s=true:=by
   unfold Ee Ec at h;cases j:JZ s with
   |true=>rfl
   |false=>rw[j]at h;simp at h
  refine⟨FZ (extract_size _ _ _) m,afy ?_,FZ (extract_size _ _ _) m⟩;unfold JZ at j;simp only[CS]at j;exact j.1.2
def aeg {n h:AY}:(OI n h).1.size<=2000:=by
 unfold OI;cases j:Jr (Aj n)&&Ig (Aj h)with
 |false=>show Bd.size<=2000;decide
 |true=>
  simp only[CS]at j;have m:=(dP j.1).2
  have q:(Aj h).length<=32:=by
   have :=j.2;unfold Ig at this;simp only[CS]at this;exact(dP this.1.1).2
  rw[EJ]at m q;show(Rz n h).size<=2000;rw[nV];omega
def Cx.sig {e:BH} (h:Cx e) (m n:Int) (g:I8) (j:g.Server.size<=2000):Cx { e with Hash:=m,Id:=n,eu:=g }:=⟨h.prev,h.auth,h.allow,h.deny,h.users,h.kinds,h.room,h.sender,h.key,h.text,h.via,j,h.allows,h.denies,h.names⟩
def Cx.sign {e:BH} (h:Cx e) {s:AY} (j:s.size<=2000):Cx (Jj e s):=by
 unfold Jj;obtain⟨m,n⟩:∃m,m=O5 { e with Hash:=Gz e }:=⟨_,rfl⟩
 rw[←n];exact h.sig _ _ _ j
def any_false {α:Type} (l:AA α):(l.any fun _=>false)=false:=Bf
def ZW {α:Type} {body:(Int->AB AO)->Int->AB AO} (l:AA α) (n:l.length<=1000) (rest:AB AO) (j:∀k (i:Nat) (h:i<l.length),body k (i:Int)=k (IntKind.i64.wrap ((i:Int)+1))) (m:∀k,body k (l.length:Int)=rest):aS body Am 0=rest:=by
 rw[IW l (Qw AL) (fun _=>false) false rest (fun k i h=>by rw[j k i h];rfl) m,any_false];rfl
def y7 {l:AA AY} (h:l.length<=1000):Kv l l=some true:=by
 unfold Kv YL;rw[show((l.length:Int) != (l.length:Int))=false from by simp,Az];exact ZW l h _ (fun k i h=>tV) (fun k=>ig)
structure Fg (c:BF):Prop where
 allow:c.Allow.length<=9223372036854775807
 deny:c.dw.length<=9223372036854775807
 users:c.Levels.Users.length<=9223372036854775807
 kinds:c.Levels.Kinds.length<=9223372036854775807
 text:c.Text.size<=9223372036854775807
 via:c.Via.size<=9223372036854775807
 allows:∀x∈c.Allow,x.size<=9223372036854775807
 denies:∀x∈c.dw,x.size<=9223372036854775807
 names:∀x∈c.Levels.Users,x.User.size<=9223372036854775807
structure WZ (e:BH):Prop where
 prev:e.iM.length<=9223372036854775807
 auth:e.iT.length<=9223372036854775807
 room:e.Room.size<=9223372036854775807
 sender:e.aQ.size<=9223372036854775807
 key:e.Key.size<=9223372036854775807
 server:e.eu.Server.size<=9223372036854775807
 content:Fg e.Content
def KG.wide {c:BF} (h:KG c):Fg c:=by
 obtain⟨r,s,u,z,I,J,m,n,q⟩:=h;exact⟨AL,AL,AL,AL,AL,AL,fun x j=>by have :=m x j;omega,fun x j=>by have :=n x j;omega,fun x j=>by have :=q x j;omega⟩
def Cx.wide {e:BH} (h:Cx e):WZ e:=by
 have j:=h.prev;have m:=h.auth;have n:=h.room;have q:=h.sender;have r:=h.key;have s:=h.server;exact⟨AL,AL,AL,AL,AL,AL,h.content.wide⟩
def ZU (k:Int):TM k=some (decide (k>=1)&&(k<=14))/\UQ k=some (decide (k>=1)&&(k<=14)):=by
 unfold TM UQ;cases decide (k>=1)<;>cases decide (k<=14)<;>exact⟨rfl,rfl⟩
def Jt (n:Int):AO:=decide (n< -1000)||(n>1000)
def ZE (n:Int):Rl n=some (Jt n)/\KX n=some (Jt n):=by
 unfold Rl KX Jt;cases decide (n< -1000)<;>cases decide (n>1000)<;>exact⟨rfl,rfl⟩
def Ia (c:Int):AO:=decide (c<33)||(c>126)
def jv (s:AY):(s.toList==Bd.toList)=((s.size:Int)==0):=by
 rw[wJ];by_cases h:s=Bd
 ·subst h;rfl
 have :¬s.size=0:=fun j=>h (bytes_inj (by
  have m:Aj s=[]:=IG (by rw[EJ];exact j)
  rw[m];rfl))
 rw[Wu h];symm;rw[kX];omega
def fE (s:AY):Int:=if s.size=0 then 9 else if s.size>64 then 7 else bif (Aj s).any Ia then 3 else 0
def uM {s:AY} (j:s.size<=9223372036854775807):Us s=some (fE s)/\WI s=some (fE s):=by
 have q:Zw s 0=some (bif (Aj s).any Ia then 3 else 0):=by
  unfold Zw;rw[IW (Aj s) Oe Ia 3 (some 0) (fun k i h=>?_) (fun k=>?_),H7]
  ·have h':i<s.size:=MI
   simp only[Za,dec_lt h',Bq,LY h,AX,Ia];cases decide ((Aj s)[i]<33)<;>cases decide ((Aj s)[i]>126)<;>rfl
  simp only[Za,EJ,DJ,Az]
 have r:jd s 0=some (bif (Aj s).any Ia then 3 else 0):=by
  unfold jd;rw[IW (Aj s) Oe Ia 3 (some 0) (fun k i h=>?_) (fun k=>?_),H7]
  ·have h':i<s.size:=MI
   simp only[aT,dec_lt h',Bq,LY h,AX,Ia];cases decide ((Aj s)[i]<33)<;>cases decide ((Aj s)[i]>126)<;>rfl
  simp only[aT,EJ,DJ,Az]
 unfold Us WI fE;rw[jv,q,r];by_cases m:s.size=0
 ·simp[m]
 have :((s.size:Int)==0)=false:=by rw[kX];omega
 rw[this,EW m];by_cases n:s.size>64
 ·have :decide ((s.size:Int)>64)=true:=Hy
  rw[this,EX n];exact⟨rfl,rfl⟩
 have :decide ((s.size:Int)>64)=false:=Hy
 rw[this,EW n];exact⟨rfl,rfl⟩
def X6 (s:AY):AO:=decide ((s.size:Int)>=1)&&((s.size:Int)<=32)&& !(Aj s).any Ia
def agX {s:AY} (j:s.size<=9223372036854775807):YE s=some (X6 s):=by
 unfold YE lT;rw[IW (Aj s) Oe Ia false (some (decide ((s.size:Int)>=1)&&((s.size:Int)<=32))) (fun k i h=>?_) (fun k=>?_)]
 ·unfold X6;cases(Aj s).any Ia<;>cases decide ((s.size:Int)>=1)<;>cases decide ((s.size:Int)<=32)<;>rfl
 ·have h':i<s.size:=MI
  simp only[dU,dec_lt h',Bq,LY h,AX,Ia];cases decide ((Aj s)[i]<33)<;>cases decide ((Aj s)[i]>126)<;>rfl
 simp only[dU,EJ,DJ,Az];cases decide ((s.size:Int)>=1)<;>cases decide ((s.size:Int)<=32)<;>rfl
def Rj (k:Int) (s:AY):AO:=if k=2 then MW s==0 else if k=9 then X6 s else true
def acY {k:Int} {s:AY} (n:s.size<=9223372036854775807):cV k s=some (Rj k s):=by
 have q:gW s 0=some (bif (Aj s).any Ia then false else true):=by
  unfold gW;rw[IW (Aj s) (by rw[EJ];exact Qw n) Ia false (some true) (fun k i h=>?_) (fun k=>?_),H7]
  ·have h':i<s.size:=MI
   simp only[dM,dec_lt h',Bq,LY h,AX,Ia];cases decide ((Aj s)[i]<33)<;>cases decide ((Aj s)[i]>126)<;>rfl
  simp only[dM,EJ,DJ,Az]
 unfold cV Rj;rw[(Qb n).2,q];by_cases j:k=2
 ·subst j;rfl
 rw[show(k==2)=false from by simpa using j,EW j,Az];by_cases m:k=9
 ·subst m;unfold X6;have r:decide ((s.size:Int)>=1)= !decide ((s.size:Int)<1):=dN
  have u:decide ((s.size:Int)<=32)= !decide ((s.size:Int)>32):=kU
  rw[r,u];cases decide ((s.size:Int)<1)<;>cases decide ((s.size:Int)>32)<;>cases(Aj s).any Ia<;>rfl
 rw[show(k != 9)=true from by simpa using m,EW m];rfl
def lV {e:BH} (h:WZ e):Xe e=some (PK e.Room==0&&MW e.aQ==0&&Rj e.Kind e.Key):=by
 have m:=h.room;have n:=h.sender;have q:=h.key;unfold Xe Rj;rw[(iw AL).1,(Qb (s:=e.aQ) AL).1,(Qb (s:=e.Key) AL).1,agX AL];simp only[AX,bne];cases PK e.Room==0 with
 |false=>rfl
 |true=>
  cases MW e.aQ==0 with
  |false=>rfl
  |true=>
   by_cases k2:e.Kind=2
   ·rw[k2];rfl
   by_cases j:e.Kind=9
   ·rw[j];rfl
   rw[show(e.Kind==2)=false from by simpa using k2,show(e.Kind==9)=false from by simpa using j,EW k2,EW j];rfl
def C9 {R:Type} (x y:AB R):Prop:=∃r,x=some r/\y=some r
section
variable {A R:Type}
def C9.ret (r:R):C9 (some r) (some r):=⟨r,rfl,rfl⟩
def C9.bind {a b:AB A} {f g:A->AB R} (h:C9 a b) (k:∀x,C9 (f x) (g x)):C9 (a.bind f) (b.bind g):=by
 obtain⟨x,rfl,rfl⟩:=h;exact k x
def C9.bif {c:AO} {x y h j:AB R} (m:c=true->C9 x h) (n:c=false->C9 y j):C9 (bif c then x else y) (bif c then h else j):=by
 cases c with
 |true=>exact m rfl
 |false=>exact n rfl
def ER:=@C9.bif
def C9.loop {f g:(Int->AB R)->Int->AB R} (n:Nat) (u:n<=9223372036854775807) (j:∀k k' (i:Nat),i<n->C9 (k ((i+1:Nat):Int)) (k' ((i+1:Nat):Int))->C9 (f k (i:Int)) (g k' (i:Int))) (q:∀k k',C9 (f k (n:Int)) (g k' (n:Int))):C9 (aS f Am 0) (aS g Am 0):=by
 have z:Am=9223372036854775808:=rfl
 have key:∀m (i:Nat),i+m=n->∀a,m<a->C9 (aS f a (i:Int)) (aS g a (i:Int)):=by
  intro m
  induction m with
  |zero=>
   intro i r a ha;obtain⟨a,rfl⟩:∃h,a=h+1:=⟨a-1,AL⟩
   have :i=n:=AL
   subst this;exact q _ _
  |succ m s=>
   intro i r a ha;obtain⟨a,rfl⟩:∃h,a=h+1:=⟨a-1,AL⟩
   exact j _ _ i AL (s (i+1) AL a AL)
 exact key n 0 AL Am AL
end
def VY {i:Nat} (h:i<=9223372036854775806):IntKind.i64.wrap ((i:Int)+1)=((i+1:Nat):Int):=wrap_succ i AL
def YQ {α:Type} {l:AA α} {i:Nat} (h:i<l.length) (m:l.length<=9223372036854775807) (j:decide ((i:Int)>0)=true):BI l (IntKind.i64.wrap ((i:Int)-1))=some (l[i-1]' AL):=by
 have j:0<i:=JE
 rw[Jl AL AL,show(i:Int)-1=((i-1:Nat):Int) by omega];exact DV AL
def lF {l:AA Int} (j:l.length<=9223372036854775807):C9 (SL l) (Xd l):=by
 unfold SL pW Xd tu;refine C9.loop l.length j (fun k k' i h m=>?_) (fun k k'=>?_)
 ·simp only[jS,gQ,Yd,dec_lt h,Bq,DV h,AX,VY (show i<=9223372036854775806 by omega)];cases decide (l[i]<0)with
  |true=>exact .ret _
  |false=>
   simp only[Az];cases n:decide ((i:Int)>0)with
   |true=>
    simp only[Bq,YQ h j n,AX,ge_iff_le];cases decide (l[i]<=l[i-1])with
    |true=>exact .ret _
    |false=>exact m
   |false=>exact m
 simp only[jS,gQ,DJ,Az];exact .ret _
def lC {l:AA AY} (j:l.length<=9223372036854775807) (m:∀s∈l,s.size<=9223372036854775807):C9 (MK l) (MJ l):=by
 unfold MK MJ;refine ER (fun _=>.ret _) fun _=>?_;unfold wu ay;refine C9.loop l.length j (fun k k' i h n=>?_) (fun k k'=>?_)
 ·obtain⟨q,r⟩:=uM (s:=l[i]) (by have :=m _ (KW h);omega);simp only[fQ,YI,dec_lt h,Bq,DV h,AX,q,r,VY (show i<=9223372036854775806 by omega)];exact ER (fun _=>.ret _) fun _=>n
 simp only[fQ,YI,DJ,Az];exact .ret _
def aeB {c:BF} (j:Fg c):C9 (MO 4 c) (XK c):=by
 have u:=j.allow;unfold MO XK;rw[show((4:Int)==6)=false from rfl,Az];refine C9.bind (ER (fun _=>.ret _) fun _=>.ret _) fun x=>ER (fun _=>.ret _) fun _=>ER (fun _=>.ret _) fun _=>?_;unfold qJ qO;refine C9.loop c.Allow.length AL (fun k k' i h m=>?_) (fun k k'=>?_)
 ·obtain⟨n,q⟩:=iw (s:=c.Allow[i]) (by have :=j.allows _ (KW h);omega);simp only[eK,aV,aA,dec_lt h,Bq,DV h,AX,n,q,VY (show i<=9223372036854775806 by omega)];refine ER (fun _=>.ret _) fun _=>?_;cases r:decide ((i:Int)>0)with
  |true=>
   simp only[Bq,YQ h (show c.Allow.length<=9223372036854775807 by omega) r,AX];exact ER (fun _=>.ret _) fun _=>m
  |false=>exact m
 simp only[eK,aV,DJ,Az];exact .ret _
def zO {l:AA Iy} (j:l.length<=9223372036854775807) (n:∀u∈l,u.User.size<=9223372036854775807):C9 (YD l) (Ud l):=by
 unfold YD Ud;refine ER (fun _=>.ret _) fun _=>?_;unfold nP eS;refine C9.loop l.length j (fun k k' i h m=>?_) (fun k k'=>?_)
 ·obtain⟨q,r⟩:=Qb (s:=l[i].User) (by have :=n _ (KW h);omega);obtain⟨z,I⟩:=ZE l[i].N;simp only[ZP,Yx,Wi,iJ,dec_lt h,Bq,DV h,AX,q,r,z,I,VY (show i<=9223372036854775806 by omega)];refine ER (fun _=>.ret _) fun _=>?_;cases J:decide ((i:Int)>0)with
  |true=>
   simp only[Bq,YQ h j J,AX];exact ER (fun _=>.ret _) fun _=>ER (fun _=>.ret _) fun _=>m
  |false=>
   simp only[Az];exact ER (fun _=>.ret _) fun _=>m
 simp only[ZP,Yx,DJ,Az];exact .ret _
def aaJ {l:AA Ii} (j:l.length<=9223372036854775807):C9 (WX l) (Uo l):=by
 unfold WX Uo;refine ER (fun _=>.ret _) fun _=>?_;unfold lU fO;refine C9.loop l.length j (fun k k' i h m=>?_) (fun k k'=>?_)
 ·obtain⟨n,q⟩:=ZU l[i].Kind;obtain⟨r,s⟩:=ZE l[i].N;simp only[fK,Vq,Yq,gI,dec_lt h,Bq,DV h,AX,n,q,r,s,VY (show i<=9223372036854775806 by omega)];refine ER (fun _=>.ret _) fun _=>?_;cases u:decide ((i:Int)>0)with
  |true=>
   simp only[Bq,YQ h j u,AX];exact ER (fun _=>.ret _) fun _=>ER (fun _=>.ret _) fun _=>m
  |false=>
   simp only[Az];exact ER (fun _=>.ret _) fun _=>m
 simp only[fK,Vq,DJ,Az];exact .ret _
def aaG {l:Dl} (q:l.Users.length<=9223372036854775807) (r:l.Kinds.length<=9223372036854775807) (j:∀u∈l.Users,u.User.size<=9223372036854775807):C9 (PD l) (QX l):=by
 have m:eY l 0=some (bif (F5 l).any Jt then 2 else 0):=by
  unfold eY;rw[IW (F5 l) (by have :Am=9223372036854775808:=rfl;simp[F5,this]) Jt 2 (some 0) (fun k i h=>?_) (fun k=>rfl),H7];have s:i<7:=h;have n:BI ([l.User,l.Message,l.State,l.iD,l.lS,l.qm,l.iE]:AA Int) (i:Int)=some ((F5 l)[i]'(h)):=DV h;simp only[nI,show decide ((i:Int)<7)=true from by simp;omega,Bq,n,AX,(ZE _).1]
 unfold PD QX;refine C9.bind (zO AL j) fun x=>ER (fun _=>.ret _) fun _=>C9.bind (aaJ AL) fun y=>ER (fun _=>.ret _) fun _=>?_;rw[m];simp only[(ZE _).2,AX,F5,List.any_cons,List.any_nil];cases Jt l.User<;>cases Jt l.Message<;>cases Jt l.State<;>cases Jt l.iD<;>cases Jt l.lS<;>cases Jt l.qm<;>cases Jt l.iE<;>exact .ret _
def SB {α:Type} {l:AA α} (h:((l.length:Int)==0)=true):l=[]:=IG (by have :=eq_of_beq h;omega)
def Io (l:Dl):AO:=((l.Users.length:Int)==0)&&((l.Kinds.length:Int)==0)&&(l.User==0)&&(l.Message==0)&&(l.State==0)&&(l.iD==0)&&(l.lS==0)&&(l.qm==0)&&(l.iE==0)
def bare_eq (l:Dl):Vm l=some (Io l):=by
 unfold Vm Io;simp only[H7,AX,TD]
def oL (l:Dl):PZ l Jb=some (Io l):=by
 unfold PZ Io;show(bif ((l.Users.length:Int) != 0)then some true else some ((l.Kinds.length:Int) != 0)).bind _=_;simp only[bne];cases n:((l.Users.length:Int)==0)with
 |false=>rfl
 |true=>
  cases q:((l.Kinds.length:Int)==0)with
  |false=>rfl
  |true=>
   have j:=SB n;have m:=SB q
   have r:Ub l Jb 0=some ((l.User==0)&&(l.Message==0)&&(l.State==0)&&(l.iD==0)&&(l.lS==0)&&(l.qm==0)&&(l.iE==0)):=by
    unfold Ub;refine ZW l.Kinds (by rw[m];simp) _ (fun k i h=>by rw[m]at h;simp at h) (fun k=>?_);simp only[Yg,DJ,Az,H7,AX,TD];rfl
   have s:XU l Jb 0=some ((l.User==0)&&(l.Message==0)&&(l.State==0)&&(l.iD==0)&&(l.lS==0)&&(l.qm==0)&&(l.iE==0)):=by
    unfold XU;refine ZW l.Users (by rw[j];simp) _ (fun k i h=>by rw[j]at h;simp at h) (fun k=>?_);simp only[Xv,DJ,Az];exact r
   simp only[EU,Az,AX,s,F8]
def zA (l:Dl):dR l=some (Io l):=by
 unfold dR;rw[oL];rfl
def agh (l:AA AY):Kv l []=some ((l.length:Int)==0):=by
 cases h:((l.length:Int)==0)with
 |true=>rw[SB h];exact y7 (l:=[]) Bf
 |false=>
  unfold Kv;show(bif ((l.length:Int) != 0)then some false else _)=_;simp only[bne,h,Rt,Bq]
def WC (a0 h j m n q r s:AO):AO:=a0&&h&&j&&m&&n&&q&&r&&s
def acZ (c:BF):NP c DC=some (WC (c.Text.toList==Bd.toList) (c.N==0) (c.Target==0) (!c.Thread) (c.Via.toList==Bd.toList) ((c.Allow.length:Int)==0) ((c.dw.length:Int)==0) (Io c.Levels)):=by
 unfold NP WC;show(bif c.Text.toList==Bd.toList then some (c.N==0)else some false).bind _=_;simp only[show DC.Allow=[]from rfl,show DC.dw=[]from rfl,show DC.Levels=Jb from rfl,show DC.Target=0 from rfl,show DC.Thread=false from rfl,show DC.Via=Bd from rfl,agh,oL,H7,AX,TD];congr 1;cases c.Thread<;>simp
def Xn (a0 h j m n q r s:AO):Int:=
 let v:=bif !a0 then CY .or .i64 0 1 else 0
 let v:=bif !h then CY .or .i64 v 2 else v
 let v:=bif !j then CY .or .i64 v 4 else v
 let v:=bif !m then CY .or .i64 v 8 else v
 let v:=bif !n then CY .or .i64 v 16 else v
 let v:=bif !q then CY .or .i64 v 32 else v
 let v:=bif !r then CY .or .i64 v 64 else v
 bif !s then CY .or .i64 v 128 else v
def pos_eq {α:Type} (l:AA α):decide ((l.length:Int)>0)= !((l.length:Int)==0):=by
 cases h:((l.length:Int)==0)with
 |true=>have :=eq_of_beq h;rw[EU,jL];omega
 |false=>have :=ne_of_beq_false h;rw[Rt,Gj];omega
def aes (c:BF):UG c=some (Xn (c.Text.toList==Bd.toList) (c.N==0) (c.Target==0) (!c.Thread) (c.Via.toList==Bd.toList) ((c.Allow.length:Int)==0) ((c.dw.length:Int)==0) (Io c.Levels)):=by
 unfold UG Z9 Wj XH Y5 Wv Vz YZ WM Xn;rw[bare_eq,pos_eq,pos_eq];simp only[AX,bne,Bool.not_not];generalize(c.Text.toList==Bd.toList)=h;generalize(c.N==0)=j;generalize(c.Target==0)=m;generalize c.Thread=n;generalize(c.Via.toList==Bd.toList)=q;generalize((c.Allow.length:Int)==0)=r;generalize((c.dw.length:Int)==0)=s;generalize Io c.Levels=u;cases h<;>cases j<;>cases m<;>cases n<;>cases q<;>cases r<;>cases s<;>cases u<;>rfl
def yA :∀a0 h j m n q r s:AO,(Xn a0 h j m n q r s==0)=WC a0 h j m n q r s:=Gi
def GN (h j m n q r s u a0 z I J L M O S:AO):AO:=(a0||h)&&(z||j)&&(I||m)&&(J||n)&&(L||q)&&(M||r)&&(O||s)&&(S||u)
def agU {K:Int} {c:BF} {h j m n q r s u:AO} (z:Au K FV=some h) (I:Au K FY=some j) (J:Au K FC=some m) (L:Au K GY=some n) (M:Au K Gu=some q) (O:Au K GV=some r) (S:Au K Gl=some s) (U:Au K Gs=some u):Wh K c=some (GN h j m n q r s u (c.Text.toList==Bd.toList) (c.N==0) (c.Target==0) (!c.Thread) (c.Via.toList==Bd.toList) ((c.Allow.length:Int)==0) ((c.dw.length:Int)==0) (Io c.Levels)):=by
 unfold Wh GN;simp only[z,I,J,L,M,O,S,U,zA,H7,AX,Qp,TD]
def Dt (x r:AB Int):AB Int:=x.bind fun v=>bif v != 0 then some v else r
def CU {x r:AB Int} (h:x=some 0):Dt x r=r:=by rw[h];rfl
def Gp {x y r s:AB Int} (h:C9 x y) (k:C9 r s):C9 (Dt x r) (Dt y s):=C9.bind h fun _=>ER (fun _=>.ret _) fun _=>k
def Vj (x:AB Int):Dt x (some 0)=x:=by
 cases x with
 |none=>rfl
 |some v=>
  show(bif v != 0 then some v else some 0)=some v;by_cases h:v=0
  ·subst h;rfl
  rw[show(v != 0)=true from by simpa using h];rfl
def Xf {A:Type} (x:AB A):(x.bind fun v=>some v)=x:=by cases x<;>rfl
def Gx (K:Int) (c:BF):AB Int:=Dt (Qn K c) (Dt (IB K c.N) (Dt (NV K c) (Dt (SI c) (bif K==4 then XK c else Dt (MJ c.Allow) (Dt (MJ c.dw) (QX c.Levels))))))
def frame {K M kp:Int} {br:AO} {c:BF} {j m n q r s u z:AO} (S:QZ K=some M) (U:(decide (K>=1)&&(K<=14))=true) (I:Rh K=some kp) (Y:aX K=some br) (Z:Au K FV=some j) (h1:Au K FY=some m) (h2:Au K FC=some n) (h3:Au K GY=some q) (h4:Au K Gu=some r) (h5:Au K GV=some s) (h6:Au K Gl=some u) (h7:Au K Gs=some z)
 (hM:∀a0 a1 a2 a3 a4 a5 a6 a7:AO,(CY .andNot .i64 (Xn a0 a1 a2 a3 a4 a5 a6 a7) M != 0)= !GN j m n q r s u z a0 a1 a2 a3 a4 a5 a6 a7) (J:(br=true->kp=0)) (hA:kp=0->br=false->G9 M K 0 c=some 0)
 (h:GN j m n q r s u z (c.Text.toList==Bd.toList) (c.N==0) (c.Target==0) (!c.Thread) (c.Via.toList==Bd.toList) ((c.Allow.length:Int)==0) ((c.dw.length:Int)==0) (Io c.Levels)=true->C9 (G9 M K 0 c) (Gx K c)):C9 (G7 K c) (Fl K c):=by
 have ht:Fl K c=(UQ K).bind fun x1=>(bif (!x1)then some true else(Wh K c).bind fun x4=>some (!x4)).bind fun x2=>(bif x2 then some 1 else(aX K).bind fun x6=>(bif x6 then(NP c DC).bind fun x9=>some x9 else some false).bind fun x7=>(bif x7 then some 0 else Gx K c)):=by
  unfold Fl Gx Dt;simp only[Xf]
 rw[ht];unfold G7;obtain⟨O,k2⟩:=ZU K;rw[U]at O k2;rw[S,O,k2,aes,I,Y,agU Z h1 h2 h3 h4 h5 h6 h7,acZ];simp only[AX,EU,Az,hM,yA];cases ho:GN j m n q r s u z (c.Text.toList==Bd.toList) (c.N==0) (c.Target==0) (!c.Thread) (c.Via.toList==Bd.toList) ((c.Allow.length:Int)==0) ((c.dw.length:Int)==0) (Io c.Levels)with
 |false=>exact .ret _
 |true=>
  simp only[EU,Az];have h:=h ho;cases ha:WC (c.Text.toList==Bd.toList) (c.N==0) (c.Target==0) (!c.Thread) (c.Via.toList==Bd.toList) ((c.Allow.length:Int)==0) ((c.dw.length:Int)==0) (Io c.Levels)with
  |false=>
   simp only[Az,AX];cases br<;>exact h
  |true=>
   simp only[Bq,AX];cases L:kp==0 with
   |false=>
    cases br with
    |false=>exact h
    |true=>rw[J rfl]at L;cases L
   |true=>
    cases br with
    |true=>exact .ret _
    |false=>
     have e:=hA (eq_of_beq L) rfl;rw[e]at h;exact h
def JY (M b:Int) (x r:AB Int):AB Int:=bif CY .and .i64 M b==0 then r else Dt x r
def P5 {S B R:Type} (body:(S->B->AB R)->S->B->AB R) (n:Nat) (a:S) (b:B):bZ body (n+1) a b=body (bZ body n) a b:=rfl
def aaT (M K:Int) (c:BF):G9 M K 0 c=JY M 1 (J6 K c) (JY M 2 (IE K c) (JY M 4 (Jf K c) (JY M 8 (QI K c) (JY M 16 (Px K c) (JY M 32 (MO K c)
 (bif CY .and .i64 M 64 != 0 then MK c.dw else bif CY .and .i64 M 128 != 0 then PD c.Levels else some 0)))))):=by
 have h:Am=9223372036854775801+1+1+1+1+1+1+1:=rfl;have j:∀k,Nl M K k 0 c=JY M 1 (J6 K c) (k 1 c):=fun k=>rfl;have m:∀k,Nl M K k 1 c=JY M 2 (IE K c) (k 2 c):=fun k=>rfl;have n:∀k,Nl M K k 2 c=JY M 4 (Jf K c) (k 3 c):=fun k=>rfl;have q:∀k,Nl M K k 3 c=JY M 8 (QI K c) (k 4 c):=fun k=>rfl;have r:∀k,Nl M K k 4 c=JY M 16 (Px K c) (k 5 c):=fun k=>rfl;have s:∀k,Nl M K k 5 c=JY M 32 (MO K c) (k 6 c):=fun k=>rfl;have u:∀k,Nl M K k 6 c=(bif CY .and .i64 M 64 != 0 then(MK c.dw).bind fun x=>some x else bif CY .and .i64 M 128 != 0 then(PD c.Levels).bind fun x=>some x else some 0):=fun k=>rfl;unfold G9;rw[h,P5,j,P5,m,P5,n,P5,q,P5,r,P5,s,P5,u,Xf,Xf]
section
variable {c:BF} {K:Int}
def text0 (h:(c.Text.toList==Bd.toList)=true) (j:K≠12):Qn K c=some 0:=by
 have m:(c.Text.size:Int)=0:=by rw[jv]at h;exact eq_of_beq h
 unfold Qn;rw[h,m,show(K==12)=false from by simpa using j];cases K==9<;>rfl
def LZ (h:Au K FC=some false) (j:(!c.Thread)=true):NV K c=some 0:=by
 unfold NV;rw[h,show c.Thread=false from by simpa using j];rfl
def JK (h:(c.Via.toList==Bd.toList)=true):SI c=some 0:=by unfold SI;rw[h];rfl
def Ez {l:AA AY} (h:((l.length:Int)==0)=true):MJ l=some 0:=by
 rw[SB h];unfold MJ ay;show aS (YI []) Am 0=some 0;rw[IW ([]:AA AY) BQ (fun _=>false) 0 (some 0) (fun k i h=>FQ) (fun k=>rfl)];rfl
def Jq {l:Dl} (h:Io l=true):QX l=some 0:=by
 unfold Io at h;simp only[CS]at h;obtain⟨⟨⟨⟨⟨⟨⟨⟨j,m⟩,n⟩,q⟩,r⟩,s⟩,u⟩,z⟩,I⟩:=h
 have J:Ud []=some 0:=by
  unfold Ud eS;show aS (Yx []) Am 0=some 0;rw[IW ([]:AA AY) BQ (fun _=>false) 0 (some 0) (fun k i h=>FQ) (fun k=>rfl)];rfl
 have L:Uo []=some 0:=by
  unfold Uo fO;show aS (Vq []) Am 0=some 0;rw[IW ([]:AA AY) BQ (fun _=>false) 0 (some 0) (fun k i h=>FQ) (fun k=>rfl)];rfl
 unfold QX;rw[SB j,SB m,J,L,eq_of_beq n,eq_of_beq q,eq_of_beq r,eq_of_beq s,eq_of_beq u,eq_of_beq z,eq_of_beq I];rfl
def Ot (m:Fg c):C9 (J6 K c) (Qn K c):=by
 have u:=m.text;obtain⟨n,q⟩:=uM (s:=c.Text) AL;unfold J6 Yl Qn;rw[n,q];have e:=jv c.Text;by_cases j:K=9
 ·subst j;cases h:(c.Text.toList==Bd.toList)with
  |false=>exact .ret _
  |true=>
   have r:(c.Text.size:Int)=0:=by rw[e]at h;exact eq_of_beq h
   rw[r];exact .ret _
 rw[show(K==9)=false from by simpa using j];cases K==12<;>cases(c.Text.toList==Bd.toList)<;>cases decide ((c.Text.size:Int)>32)<;>cases decide ((c.Text.size:Int)>400)<;>exact .ret _
def yU (h:Fg c):C9 (Px K c) (SI c):=by
 have n:=h.via;obtain⟨j,m⟩:=Qb (s:=c.Via) AL;unfold Px SI;rw[j,m];exact ER (fun _=>.ret _) fun _=>ER (fun _=>.ret _) fun _=>.ret _
def jE (h:Au K FC=some true) (j:(!c.Thread)=true):C9 (Jf K c) (NV K c):=by
 unfold Jf NV;rw[h,show c.Thread=false from by simpa using j];cases decide (c.Target<0)<;>cases c.Target==0<;>cases K != 11<;>exact .ret _
def afH (h:Au K FC=some true):C9 (Dt (Jf K c) (QI K c)) (NV K c):=by
 unfold Jf QI NV Dt;rw[h];cases decide (c.Target<0)<;>cases c.Target==0<;>cases K != 11<;>cases c.Thread<;>exact .ret _
def acz (h:Fg c):C9 (MO 6 c) (MJ c.Allow):=by
 have j:=h.allow;have :=lC (l:=c.Allow) AL h.allows;show C9 ((MK c.Allow).bind fun x=>some x) _;rw[Xf];exact this
end
def TG (a b:Int):decide (a>=b)= !decide (a<b):=by by_cases h:a<b<;>simp[h]<;>omega
def TB (a b:Int):decide (a<=b)= !decide (a>b):=by by_cases h:a>b<;>simp[h]<;>omega
def adi {c:BF} (hc:Fg c):C9 (G7 1 c) (Fl 1 c):=by
 have n:Au 1 FV=some false:=A8
 have q:Au 1 FY=some false:=A8
 have m:Au 1 FC=some false:=A8
 have r:Au 1 GY=some false:=A8
 have s:Au 1 Gu=some false:=A8
 have u:Au 1 GV=some false:=A8
 have z:Au 1 Gl=some false:=A8
 have I:Au 1 Gs=some false:=A8
 refine frame (M:=0) (kp:=0) (br:=false) rfl rfl rfl rfl n q m r s u z I Gi (fun h=>Ed) (fun h h'=>rfl) fun j=>?_;unfold GN at j;simp only[IY,Ib,GX,F8,CS]at j;obtain⟨⟨⟨⟨⟨⟨⟨J,e1⟩,e2⟩,L⟩,O⟩,S⟩,U⟩,Y⟩:=j;have Z:G9 0 1 0 c=(some 0):=Iq
 rw[Z];unfold Gx;rw[CU (text0 J BQ),CU (show IB 1 c.N=some 0 from rfl),CU (LZ m L),CU (JK O),show((1:Int)==4)=false from rfl,Az,CU (Ez S),CU (Ez U),Jq Y];exact .ret _
def agr (c:BF):C9 (IE 2 c) (IB 2 c.N):=by
 show C9 ((bif c.N<0 then some true else some (decide (c.N>4))).bind fun h=>(bif h then some 2 else some 0)) ((bif c.N>=0 then some (decide (c.N<=4))else some false).bind fun j=>(bif (!j)then some 2 else some 0));rw[TG,TB];cases decide (c.N<0)<;>cases decide (c.N>4)<;>exact .ret _
def aeO {c:BF} (m:Fg c):C9 (G7 2 c) (Fl 2 c):=by
 have q:Au 2 FV=some true:=A8
 have r:Au 2 FY=some true:=A8
 have n:Au 2 FC=some false:=A8
 have s:Au 2 GY=some false:=A8
 have u:Au 2 Gu=some true:=A8
 have z:Au 2 GV=some false:=A8
 have I:Au 2 Gl=some false:=A8
 have J:Au 2 Gs=some false:=A8
 refine frame (M:=19) (kp:=18) (br:=false) rfl rfl rfl rfl q r n s u z I J Gi (fun h=>Ed) (fun h h'=>Ed) fun j=>?_;unfold GN at j;simp only[IY,Ib,GX,F8,CS]at j;obtain⟨⟨⟨⟨Z,L⟩,O⟩,S⟩,U⟩:=j;have Y:G9 19 2 0 c=(Dt (J6 2 c) (Dt (IE 2 c) (Dt (Px 2 c) (some 0)))):=Iq
 rw[Y];unfold Gx;rw[CU (LZ n L),show((2:Int)==4)=false from rfl,Az,CU (Ez O),CU (Ez S),Jq U];exact Gp (Ot m) (Gp (agr c) (Gp (yU m) (.ret _)))
def zD {c:BF} (j:Fg c):C9 (G7 3 c) (Fl 3 c):=by
 have q:Au 3 FV=some false:=A8
 have r:Au 3 FY=some false:=A8
 have n:Au 3 FC=some false:=A8
 have s:Au 3 GY=some false:=A8
 have u:Au 3 Gu=some false:=A8
 have z:Au 3 GV=some false:=A8
 have I:Au 3 Gl=some false:=A8
 have J:Au 3 Gs=some true:=A8
 refine frame (M:=128) (kp:=128) (br:=false) rfl rfl rfl rfl q r n s u z I J Gi (fun h=>Ed) (fun h h'=>Ed) fun m=>?_;unfold GN at m;simp only[IY,Ib,GX,F8,CS]at m;obtain⟨⟨⟨⟨⟨⟨L,e1⟩,e2⟩,O⟩,S⟩,U⟩,Y⟩:=m;have Z:G9 128 3 0 c=(PD c.Levels):=Iq
 rw[Z];unfold Gx;rw[CU (text0 L BQ),CU (show IB 3 c.N=some 0 from rfl),CU (LZ n O),CU (JK S),show((3:Int)==4)=false from rfl,Az,CU (Ez U),CU (Ez Y)];exact aaG j.users j.kinds j.names
def zi (c:BF):C9 (IE 4 c) (IB 4 c.N):=by
 show C9 ((bif c.N<0 then some true else some (decide (c.N>3))).bind fun h=>(bif h then some 2 else some 0)) ((bif c.N>=0 then some (decide (c.N<=3))else some false).bind fun j=>(bif (!j)then some 2 else some 0));rw[TG,TB];cases decide (c.N<0)<;>cases decide (c.N>3)<;>exact .ret _
def ac0 {c:BF} (n:Fg c):C9 (G7 4 c) (Fl 4 c):=by
 have q:Au 4 FV=some false:=A8
 have r:Au 4 FY=some true:=A8
 have m:Au 4 FC=some false:=A8
 have s:Au 4 GY=some false:=A8
 have u:Au 4 Gu=some false:=A8
 have z:Au 4 GV=some true:=A8
 have I:Au 4 Gl=some false:=A8
 have J:Au 4 Gs=some false:=A8
 refine frame (M:=34) (kp:=34) (br:=false) rfl rfl rfl rfl q r m s u z I J Gi (fun h=>Ed) (fun h h'=>Ed) fun j=>?_;unfold GN at j;simp only[IY,Ib,GX,F8,CS]at j;obtain⟨⟨⟨⟨⟨L,Y⟩,O⟩,S⟩,Z⟩,e7⟩:=j;have U:G9 34 4 0 c=(Dt (IE 4 c) (Dt (MO 4 c) (some 0))):=Iq
 rw[U];unfold Gx;rw[CU (text0 L BQ),CU (LZ m O),CU (JK S),show((4:Int)==4)=true from rfl,Bq];rw[Vj];exact Gp (zi c) (aeB n)
def yX (c:BF):C9 (IE 5 c) (IB 5 c.N):=by
 show C9 ((bif c.N<0 then some true else some (decide (c.N>3))).bind fun h=>(bif h then some 2 else some 0)) ((bif c.N>=0 then some (decide (c.N<=3))else some false).bind fun j=>(bif (!j)then some 2 else some 0));rw[TG,TB];cases decide (c.N<0)<;>cases decide (c.N>3)<;>exact .ret _
def ag8 {c:BF} (hc:Fg c):C9 (G7 5 c) (Fl 5 c):=by
 have n:Au 5 FV=some false:=A8
 have q:Au 5 FY=some true:=A8
 have m:Au 5 FC=some false:=A8
 have r:Au 5 GY=some false:=A8
 have s:Au 5 Gu=some false:=A8
 have u:Au 5 GV=some false:=A8
 have z:Au 5 Gl=some false:=A8
 have I:Au 5 Gs=some false:=A8
 refine frame (M:=2) (kp:=2) (br:=false) rfl rfl rfl rfl n q m r s u z I Gi (fun h=>Ed) (fun h h'=>Ed) fun j=>?_;unfold GN at j;simp only[IY,Ib,GX,F8,CS]at j;obtain⟨⟨⟨⟨⟨⟨J,e2⟩,L⟩,O⟩,S⟩,U⟩,Y⟩:=j;have Z:G9 2 5 0 c=(Dt (IE 5 c) (some 0)):=Iq
 rw[Z];unfold Gx;rw[CU (text0 J BQ),CU (LZ m L),CU (JK O),show((5:Int)==4)=false from rfl,Az,CU (Ez S),CU (Ez U),Jq Y];exact Gp (yX c) (.ret _)
def afF {c:BF} (j:Fg c):C9 (G7 6 c) (Fl 6 c):=by
 have r:Au 6 FV=some false:=A8
 have n:Au 6 FY=some false:=A8
 have q:Au 6 FC=some false:=A8
 have s:Au 6 GY=some false:=A8
 have u:Au 6 Gu=some false:=A8
 have z:Au 6 GV=some true:=A8
 have I:Au 6 Gl=some true:=A8
 have J:Au 6 Gs=some false:=A8
 refine frame (M:=96) (kp:=96) (br:=false) rfl rfl rfl rfl r n q s u z I J Gi (fun h=>Ed) (fun h h'=>Ed) fun m=>?_;unfold GN at m;simp only[IY,Ib,GX,F8,CS]at m;obtain⟨⟨⟨⟨⟨L,Z⟩,e2⟩,O⟩,S⟩,U⟩:=m;have Y:G9 96 6 0 c=(Dt (MO 6 c) (MK c.dw)):=Iq
 rw[Y];unfold Gx;rw[CU (text0 L BQ),CU (show IB 6 c.N=some 0 from rfl),CU (LZ q O),CU (JK S),show((6:Int)==4)=false from rfl,Az,Jq U];have n:=j.deny;rw[Vj];exact Gp (acz j) (lC AL j.denies)
def acB {c:BF} (n:Fg c):C9 (G7 7 c) (Fl 7 c):=by
 have q:Au 7 FV=some true:=A8
 have r:Au 7 FY=some false:=A8
 have m:Au 7 FC=some false:=A8
 have s:Au 7 GY=some false:=A8
 have u:Au 7 Gu=some false:=A8
 have z:Au 7 GV=some false:=A8
 have I:Au 7 Gl=some false:=A8
 have J:Au 7 Gs=some false:=A8
 refine frame (M:=1) (kp:=0) (br:=true) rfl rfl rfl rfl q r m s u z I J Gi (fun h=>rfl) (fun h h'=>Pg) fun j=>?_;unfold GN at j;simp only[IY,Ib,GX,F8,CS]at j;obtain⟨⟨⟨⟨⟨⟨e1,e2⟩,L⟩,O⟩,S⟩,U⟩,Y⟩:=j;have Z:G9 1 7 0 c=(Dt (J6 7 c) (some 0)):=Iq
 rw[Z];unfold Gx;rw[CU (show IB 7 c.N=some 0 from rfl),CU (LZ m L),CU (JK O),show((7:Int)==4)=false from rfl,Az,CU (Ez S),CU (Ez U),Jq Y];exact Gp (Ot n) (.ret _)
def aeY (c:BF):C9 (IE 8 c) (IB 8 c.N):=by
 show C9 ((bif c.N<0 then some true else some (decide (c.N>1000000000))).bind fun h=>(bif h then some 2 else some 0)) ((bif c.N>=0 then some (decide (c.N<=1000000000))else some false).bind fun j=>(bif (!j)then some 2 else some 0));rw[TG,TB];cases decide (c.N<0)<;>cases decide (c.N>1000000000)<;>exact .ret _
def af2 {c:BF} (hc:Fg c):C9 (G7 8 c) (Fl 8 c):=by
 have n:Au 8 FV=some false:=A8
 have q:Au 8 FY=some true:=A8
 have m:Au 8 FC=some false:=A8
 have r:Au 8 GY=some false:=A8
 have s:Au 8 Gu=some false:=A8
 have u:Au 8 GV=some false:=A8
 have z:Au 8 Gl=some false:=A8
 have I:Au 8 Gs=some false:=A8
 refine frame (M:=2) (kp:=0) (br:=true) rfl rfl rfl rfl n q m r s u z I Gi (fun h=>rfl) (fun h h'=>Pg) fun j=>?_;unfold GN at j;simp only[IY,Ib,GX,F8,CS]at j;obtain⟨⟨⟨⟨⟨⟨J,e2⟩,L⟩,O⟩,S⟩,U⟩,Y⟩:=j;have Z:G9 2 8 0 c=(Dt (IE 8 c) (some 0)):=Iq
 rw[Z];unfold Gx;rw[CU (text0 J BQ),CU (LZ m L),CU (JK O),show((8:Int)==4)=false from rfl,Az,CU (Ez S),CU (Ez U),Jq Y];exact Gp (aeY c) (.ret _)
def abb (c:BF):C9 (IE 9 c) (IB 9 c.N):=by
 show C9 ((bif (c.N==1)then some true else some (c.N==2)).bind fun h=>(bif h then some true else some (c.N==6)).bind fun j=>(bif j then some 0 else some 2)) ((bif (c.N==1)then some true else some (c.N==2)).bind fun m=>(bif m then some true else some (c.N==6)).bind fun n=>(bif (!n)then some 2 else some 0));cases c.N==1<;>cases c.N==2<;>cases c.N==6<;>exact .ret _
def agC {c:BF} (n:Fg c):C9 (G7 9 c) (Fl 9 c):=by
 have q:Au 9 FV=some true:=A8
 have r:Au 9 FY=some true:=A8
 have m:Au 9 FC=some false:=A8
 have s:Au 9 GY=some false:=A8
 have u:Au 9 Gu=some false:=A8
 have z:Au 9 GV=some false:=A8
 have I:Au 9 Gl=some false:=A8
 have J:Au 9 Gs=some false:=A8
 refine frame (M:=3) (kp:=0) (br:=true) rfl rfl rfl rfl q r m s u z I J Gi (fun h=>rfl) (fun h h'=>Pg) fun j=>?_;unfold GN at j;simp only[IY,Ib,GX,F8,CS]at j;obtain⟨⟨⟨⟨⟨e2,L⟩,O⟩,S⟩,U⟩,Y⟩:=j;have Z:G9 3 9 0 c=(Dt (J6 9 c) (Dt (IE 9 c) (some 0))):=Iq
 rw[Z];unfold Gx;rw[CU (LZ m L),CU (JK O),show((9:Int)==4)=false from rfl,Az,CU (Ez S),CU (Ez U),Jq Y];exact Gp (Ot n) (Gp (abb c) (.ret _))
def aff (c:BF):C9 (IE 10 c) (IB 10 c.N):=by
 show C9 ((bif c.N<1 then some true else some (decide (c.N>10000))).bind fun h=>(bif h then some 2 else some 0)) ((bif c.N>=1 then some (decide (c.N<=10000))else some false).bind fun j=>(bif (!j)then some 2 else some 0));rw[TG,TB];cases decide (c.N<1)<;>cases decide (c.N>10000)<;>exact .ret _
def yh {c:BF} (hc:Fg c):C9 (G7 10 c) (Fl 10 c):=by
 have n:Au 10 FV=some false:=A8
 have q:Au 10 FY=some true:=A8
 have m:Au 10 FC=some false:=A8
 have r:Au 10 GY=some false:=A8
 have s:Au 10 Gu=some false:=A8
 have u:Au 10 GV=some false:=A8
 have z:Au 10 Gl=some false:=A8
 have I:Au 10 Gs=some false:=A8
 refine frame (M:=2) (kp:=0) (br:=true) rfl rfl rfl rfl n q m r s u z I Gi (fun h=>rfl) (fun h h'=>Pg) fun j=>?_;unfold GN at j;simp only[IY,Ib,GX,F8,CS]at j;obtain⟨⟨⟨⟨⟨⟨J,e2⟩,L⟩,O⟩,S⟩,U⟩,Y⟩:=j;have Z:G9 2 10 0 c=(Dt (IE 10 c) (some 0)):=Iq
 rw[Z];unfold Gx;rw[CU (text0 J BQ),CU (LZ m L),CU (JK O),show((10:Int)==4)=false from rfl,Az,CU (Ez S),CU (Ez U),Jq Y];exact Gp (aff c) (.ret _)
def abl {c:BF} (n:Fg c):C9 (G7 11 c) (Fl 11 c):=by
 have q:Au 11 FV=some true:=A8
 have r:Au 11 FY=some false:=A8
 have m:Au 11 FC=some true:=A8
 have s:Au 11 GY=some true:=A8
 have u:Au 11 Gu=some false:=A8
 have z:Au 11 GV=some false:=A8
 have I:Au 11 Gl=some false:=A8
 have J:Au 11 Gs=some false:=A8
 refine frame (M:=13) (kp:=0) (br:=true) rfl rfl rfl rfl q r m s u z I J Gi (fun h=>rfl) (fun h h'=>Pg) fun j=>?_;unfold GN at j;simp only[IY,Ib,GX,F8,CS]at j;obtain⟨⟨⟨⟨Z,L⟩,O⟩,S⟩,U⟩:=j;have Y:G9 13 11 0 c=(Dt (J6 11 c) (Dt (Jf 11 c) (Dt (QI 11 c) (some 0)))):=Iq
 rw[Y];unfold Gx;rw[CU (show IB 11 c.N=some 0 from rfl),CU (JK L),show((11:Int)==4)=false from rfl,Az,CU (Ez O),CU (Ez S),Jq U];rw[Vj,Vj];exact Gp (Ot n) (afH m)
def yI {c:BF} (n:Fg c):C9 (G7 12 c) (Fl 12 c):=by
 have q:Au 12 FV=some true:=A8
 have r:Au 12 FY=some false:=A8
 have m:Au 12 FC=some true:=A8
 have s:Au 12 GY=some false:=A8
 have u:Au 12 Gu=some false:=A8
 have z:Au 12 GV=some false:=A8
 have I:Au 12 Gl=some false:=A8
 have J:Au 12 Gs=some false:=A8
 refine frame (M:=5) (kp:=0) (br:=true) rfl rfl rfl rfl q r m s u z I J Gi (fun h=>rfl) (fun h h'=>Pg) fun j=>?_;unfold GN at j;simp only[IY,Ib,GX,F8,CS]at j;obtain⟨⟨⟨⟨⟨e1,L⟩,O⟩,S⟩,U⟩,Y⟩:=j;have Z:G9 5 12 0 c=(Dt (J6 12 c) (Dt (Jf 12 c) (some 0))):=Iq
 rw[Z];unfold Gx;rw[CU (show IB 12 c.N=some 0 from rfl),CU (JK O),show((12:Int)==4)=false from rfl,Az,CU (Ez S),CU (Ez U),Jq Y];exact Gp (Ot n) (Gp (jE m L) (.ret _))
def zq {c:BF} (n:Fg c):C9 (G7 13 c) (Fl 13 c):=by
 have q:Au 13 FV=some true:=A8
 have r:Au 13 FY=some false:=A8
 have m:Au 13 FC=some true:=A8
 have s:Au 13 GY=some false:=A8
 have u:Au 13 Gu=some false:=A8
 have z:Au 13 GV=some false:=A8
 have I:Au 13 Gl=some false:=A8
 have J:Au 13 Gs=some false:=A8
 refine frame (M:=5) (kp:=0) (br:=true) rfl rfl rfl rfl q r m s u z I J Gi (fun h=>rfl) (fun h h'=>Pg) fun j=>?_;unfold GN at j;simp only[IY,Ib,GX,F8,CS]at j;obtain⟨⟨⟨⟨⟨e1,L⟩,O⟩,S⟩,U⟩,Y⟩:=j;have Z:G9 5 13 0 c=(Dt (J6 13 c) (Dt (Jf 13 c) (some 0))):=Iq
 rw[Z];unfold Gx;rw[CU (show IB 13 c.N=some 0 from rfl),CU (JK O),show((13:Int)==4)=false from rfl,Az,CU (Ez S),CU (Ez U),Jq Y];exact Gp (Ot n) (Gp (jE m L) (.ret _))
def aer {c:BF} (n:Fg c):C9 (G7 14 c) (Fl 14 c):=by
 have q:Au 14 FV=some true:=A8
 have r:Au 14 FY=some false:=A8
 have m:Au 14 FC=some true:=A8
 have s:Au 14 GY=some false:=A8
 have u:Au 14 Gu=some false:=A8
 have z:Au 14 GV=some false:=A8
 have I:Au 14 Gl=some false:=A8
 have J:Au 14 Gs=some false:=A8
 refine frame (M:=5) (kp:=4) (br:=false) rfl rfl rfl rfl q r m s u z I J Gi (fun h=>Ed) (fun h h'=>Ed) fun j=>?_;unfold GN at j;simp only[IY,Ib,GX,F8,CS]at j;obtain⟨⟨⟨⟨⟨e1,L⟩,O⟩,S⟩,U⟩,Y⟩:=j;have Z:G9 5 14 0 c=(Dt (J6 14 c) (Dt (Jf 14 c) (some 0))):=Iq
 rw[Z];unfold Gx;rw[CU (show IB 14 c.N=some 0 from rfl),CU (JK O),show((14:Int)==4)=false from rfl,Az,CU (Ez S),CU (Ez U),Jq Y];exact Gp (Ot n) (Gp (jE m L) (.ret _))
def zH (k:Int) {c:BF} (h:Fg c):C9 (G7 k c) (Fl k c):=by
 cases j:decide (k>=1)&&decide (k<=14)with
 |false=>
  obtain⟨m,k2⟩:=ZU k;rw[j]at m k2
  have f:∀n:Int,1<=n->n<=14->(k==n)=false:=fun n q r=>by
   rw[kX];rintro rfl;rw[PO (show k>=1 from q),PO r]at j;cases j
  have s:QZ k=some 0:=by
   unfold QZ SV VT;rw[f 2 BQ BQ,f 3 BQ BQ,f 4 BQ BQ,f 5 BQ BQ,f 8 BQ BQ,f 10 BQ BQ,f 6 BQ BQ,f 7 BQ BQ,f 9 BQ BQ,f 11 BQ BQ,f 12 BQ BQ,f 13 BQ BQ,f 14 BQ BQ];rfl
  unfold G7 Fl;rw[s,m,k2];exact .ret _
 |true=>
  simp only[CS,Gj]at j;have :k=1\/k=2\/k=3\/k=4\/k=5\/k=6\/k=7\/k=8\/k=9\/k=10\/k=11\/k=12\/k=13\/k=14:=AL
  rcases this with rfl|rfl|rfl|rfl|rfl|rfl|rfl|rfl|rfl|rfl|rfl|rfl|rfl|rfl
  ·exact adi h
  ·exact aeO h
  ·exact zD h
  ·exact ac0 h
  ·exact ag8 h
  ·exact afF h
  ·exact acB h
  ·exact af2 h
  ·exact agC h
  ·exact yh h
  ·exact abl h
  ·exact yI h
  ·exact zq h
  exact aer h
def II {α:Type} (p:α->α->AO) (a b:AA α):AO:=((a.length:Int)==(b.length:Int))&& !((a.zip b).any fun x=> !p x.1 x.2)
def Xb {α R:Type} {body:(Int->AB R)->Int->AB R} (p:α->α->AO) (a b:AA α) (ha:a.length<=1000) (n:a.length=b.length) (j:R) (rest:AB R)
 (q:∀k (i:Nat) (h:i<a.length) (h':i<b.length),body k (i:Int)=bif !p a[i] b[i]then some j else k (IntKind.i64.wrap ((i:Int)+1))) (r:∀k,body k (a.length:Int)=rest):aS body Am 0=bif (a.zip b).any fun x=> !p x.1 x.2 then some j else rest:=by
 have m:(a.zip b).length=a.length:=Hy
 refine IW (a.zip b) (by rw[m];exact Qw AL) (fun x=> !p x.1 x.2) j rest (fun k i h=>?_) (fun k=>by rw[m];exact r k);have s:i<a.length:=AL
 have u:i<b.length:=AL
 rw[q k i s u,List.getElem_zip]
def len_eq {α:Type} {a b:AA α} (h:((a.length:Int)==(b.length:Int))=true):a.length=b.length:=by have :=eq_of_beq h;omega
def MV (x y:AY):AO:=x.toList==y.toList
def Ru (x y:Iy):AO:=x.User.toList==y.User.toList&&x.N==y.N
def Qi (x y:Ii):AO:=x.Kind==y.Kind&&x.N==y.N
def sU {a b:AA AY} (ha:a.length<=1000):Sr a b=some (II MV a b)/\Kv a b=some (II MV a b):=by
 unfold Sr Kv II;simp only[bne];cases h:((a.length:Int)==(b.length:Int))with
 |false=>exact⟨rfl,rfl⟩
 |true=>
  have j:=len_eq h;simp only[EU,Az,F8];unfold uO YL
  rw[Xb MV a b ha j false (some true) (fun k i h h'=>by simp only[Zg,dec_lt h,Bq,DV h,DV h',AX];rfl) (fun k=>by simp only[Zg,DJ,Az]),
   Xb MV a b ha j false (some true) (fun k i h h'=>by simp only[Yr,dec_lt h,Bq,DV h,DV h',AX];rfl) (fun k=>ig)]
  cases(a.zip b).any fun x=> !MV x.1 x.2<;>exact⟨rfl,rfl⟩
def aeK {a b:AA Iy} (ha:a.length<=1000):YJ a b=some (II Ru a b):=by
 unfold YJ II;simp only[bne];cases h:((a.length:Int)==(b.length:Int))with
 |false=>rfl
 |true=>
  have j:=len_eq h;simp only[EU,Az,F8];unfold xP;rw[Xb Ru a b ha j false (some true) (fun k i h h'=>by simp only[Zm,dec_lt h,Bq,DV h,DV h',AX,YN,Ru,GX]) (fun k=>by simp only[Zm,DJ,Az])];cases(a.zip b).any fun x=> !Ru x.1 x.2<;>rfl
def adW {a b:AA Ii} (ha:a.length<=1000):Yw a b=some (II Qi a b):=by
 unfold Yw II;simp only[bne];cases h:((a.length:Int)==(b.length:Int))with
 |false=>rfl
 |true=>
  have j:=len_eq h;simp only[EU,Az,F8];unfold ql;rw[Xb Qi a b ha j false (some true) (fun k i h h'=>by simp only[kM,dec_lt h,Bq,DV h,DV h',AX,XG,Qi,GX]) (fun k=>by simp only[kM,DJ,Az])];cases(a.zip b).any fun x=> !Qi x.1 x.2<;>rfl
def oN (a b:Dl):AO:=(a.User==b.User)&&(a.Message==b.Message)&&(a.State==b.State)&&(a.iD==b.iD)&&(a.lS==b.lS)&&(a.qm==b.qm)&&(a.iE==b.iE)
def pO (a b:Dl):AO:=II Ru a.Users b.Users&&(II Qi a.Kinds b.Kinds&&oN a b)
def wX (a b:BF):AO:=(a.Text.toList==b.Text.toList)&&(a.N==b.N)&&(a.Target==b.Target)&&(a.Thread==b.Thread)&&(a.Via.toList==b.Via.toList)&&II MV a.Allow b.Allow&&II MV a.dw b.dw&&pO a.Levels b.Levels
def vC {a:BF} (b:BF) (ha:KG a):Vu a b=some (wX a b):=by
 have u:=ha.allow;have z:=ha.deny;have I:=ha.users;have J:=ha.kinds;unfold Vu wX pO oN;rw[(sU (a:=a.Allow) AL).1,(sU (a:=a.dw) AL).1,aeK (a:=a.Levels.Users) AL,adW (a:=a.Levels.Kinds) AL];simp only[H7,AX,TD,Qp,bne];generalize(a.Text.toList==b.Text.toList)=h;generalize(a.N==b.N)=j;generalize(a.Target==b.Target)=m;generalize(a.Thread==b.Thread)=n;generalize(a.Via.toList==b.Via.toList)=q;generalize II MV a.Allow b.Allow=r;generalize II MV a.dw b.dw=s;generalize II Ru a.Levels.Users b.Levels.Users=L;generalize II Qi a.Levels.Kinds b.Levels.Kinds=M;cases h<;>cases j<;>cases m<;>cases n<;>cases q<;>cases r<;>cases s<;>first|rfl|(simp only[EU,Bool.or_self,Az,F8,Bool.and_self,Bool.and_assoc])
def agf {e:BH} (h:WZ e) (v:AO):C9 (Lh e v) ((OJ e v).bind fun j=>(bif (j != 0)then some j else(Fl e.Kind e.Content).bind fun r=>some r)):=by
 have U:=h.room;have Y:=h.sender;have Z:=h.key;have h4:=h.prev;have h5:=h.auth;unfold Lh OJ;rw[lV h,(iw (s:=e.Room) AL).2,(Qb (s:=e.aQ) AL).2,acY AL];cases v with
 |true=>exact .ret _
 |false=>
  simp only[Az,AX,bne,H7,Qp];generalize(PK e.Room==0)=a;generalize(MW e.aQ==0)=b;generalize Rj e.Kind e.Key=u;cases a with
  |false=>exact .ret _
  |true=>
   cases b with
   |false=>exact .ret _
   |true=>
    cases u with
    |false=>exact .ret _
    |true=>
     simp only[EU,Bool.or_self,Bool.and_self,Az,Wx];refine ER (fun _=>.ret _) fun _=>ER (fun _=>.ret _) fun hlen=>?_;simp only[bg,jL]at hlen;obtain⟨z,I,J⟩:=lF (l:=e.iM) AL;obtain⟨L,M,O⟩:=lF (l:=e.iT) AL;rw[I,M,J,O];simp only[AX,H7,Qp,Wx];cases z with
     |false=>exact .ret _
     |true=>
     cases L with
     |false=>exact .ret _
     |true=>
     simp only[EU,Az]
     have S:decide ((IntKind.i64.wrap ((e.iM.length:Int)+(e.iT.length:Int)))>0)=(decide ((e.iM.length:Int)>0)||((e.iT.length:Int)>0)):=by
      rw[Jl AL AL];by_cases m:(e.iM.length:Int)>0
      ·rw[PO m,PO AL];rfl
      by_cases n:(e.iT.length:Int)>0
      ·rw[PO n,PO AL,IY]
      rw[Wu m,Wu n,Wu AL];rfl
     rw[S];generalize(bif ((e.iM.length:Int)==0)then !e.Kind==1 else false)=p;generalize(bif (e.Kind==1)then(decide ((e.iM.length:Int)>0)||((e.iT.length:Int)>0))else false)=q;cases p with
     |true=>exact .ret _
     |false=>
      cases q with
      |true=>exact .ret _
      |false=>exact C9.bind (zH e.Kind h.content) fun x=>.ret _
def oq {e:BH} (j:WZ e):C9 (Qk e) (tq e):=by
 have h:=agf j;unfold Qk tq wF;rw[show V5 e.Kind=Xp e.Kind from rfl];simp only[Wx,bne,H7,AX];refine ER (fun _=>h _) fun _=>ER (fun _=>h _) fun _=>?_;have m:∃b,Xp e.Kind=some b:=by unfold Xp;cases decide (e.Kind>=1)<;>cases decide (e.Kind<=10)<;>exact⟨_,rfl⟩
 obtain⟨b,n⟩:=m;rw[n];simp only[AX,Wx];refine ER (fun _=>h _) fun _=>ER (fun _=>?_) fun _=>h _;cases e.Kind==2 with
 |true=>exact h _
 |false=>exact h _
def bf {e:BH} (h:Kw e):Tz e=some (Gz e==e.Hash)/\vk e=some (Gz e==e.Hash):=by
 unfold Tz vk;rw[(Y0 h).1,(Y0 h).2];exact⟨rfl,rfl⟩
def aae {e:BH} (h:Kw e) (v:AO):C9 (Np e v) (lW e v):=by
 have r:e.aQ.size<=2000:=h.sender;unfold Np lW;obtain⟨j,m⟩:=Sz h;obtain⟨n,q⟩:=Z7 (s:=e.aQ) AL;rw[j,m,n,q];refine ER (fun _=>.ret _) fun _=>?_;simp only[AX];refine ER (fun _=>.ret _) fun _=>?_;unfold cD Vy;show C9 (bif !((e.eu.Server.toList==(splitB e.aQ (Ee e.aQ)).2.1.toList)&&((e.eu.Sum==e.Id)&&true))then some 12 else some 0) _;simp only[bne];cases(e.eu.Server.toList==(splitB e.aQ (Ee e.aQ)).2.1.toList)<;>cases(e.eu.Sum==e.Id)<;>exact .ret _
def acd {s:AY} (h:s.size<=9223372036854775807):YV s=some (bif Ig (Aj s)then 0 else 3):=by
 unfold YV;rw[bQ h];cases Ig (Aj s)<;>rfl
def ado (s:Fp) (d:Ey) (h:d.To.size<=9223372036854775807):∃n,RG s d=some n:=by
 unfold RG;rw[acd h];cases decide (d.Kind<1)<;>cases decide (d.Kind>6)<;>cases Ig (Aj d.To)<;>cases(d.To.toList==s.Name.toList)<;>exact⟨_,rfl⟩
def adT {s:AY} (h:s.size<=9223372036854775807):YT s=some (splitB s (Ee s)).1:=by
 unfold YT;rw[uG h];rfl
def agn {n h:AY} (L:n.size<=2000) (M:h.size<=2000) (O:(58:Int)∉Aj n):ZC 64 n h=some (OI n h):=by
 have S:=nV n h;have r:(Es [64]).size=1:=rfl;have s:(Es [64]++n).size=1+n.size:=by rw[ByteArray.size_append,r]
 have u:Ie.size=1:=rfl;have U:(Es [64]++n++Ie).size=1+n.size+1:=by rw[ByteArray.size_append,s,u]
 have z:IU (Es [64]) n=some (Es [64]++n):=by unfold IU;rw[EX AL]
 have I:IU (Es [64]++n) Ie=some (Es [64]++n++Ie):=by unfold IU;rw[EX AL]
 have J:IU (Es [64]++n++Ie) h=some (Rz n h):=by unfold IU;rw[EX AL];rfl
 unfold OI;unfold ZC;rw[mG AL,bQ AL];cases Jr (Aj n)with
 |false=>rfl
 |true=>
  cases Ig (Aj h)with
  |false=>rfl
  |true=>
   show(IU (Es [64]) n).bind (fun j=>(IU j Ie).bind fun m=>(IU m h).bind fun q=>some (q,0))=_;rw[z,AX,I,AX,J];rfl
def Ug {e:BH} (h:Cx e) (s:AY):Nk e s=some (Jj e s):=by
 have a:=(Y0 h.x).1;have c:=(Sz (h.hash (Gz e)).x).1;unfold Nk Jj;rw[a,AX];obtain⟨n,j⟩:∃n,n=O5 { e with Hash:=Gz e }:=⟨_,rfl⟩
 obtain⟨m,q⟩:∃m,m=Gz e:=⟨_,rfl⟩
 rw[←j]at c ⊢;rw[←q]at c ⊢;rw[c];rfl
def O8 (e:BH) (server:AY):BH:=bif (OI (splitB e.aQ (Ee e.aQ)).1 server).2==0 then{ e with aQ:=(OI (splitB e.aQ (Ee e.aQ)).1 server).1 }else e
def XV (e:BH):BH:={ e with Time:=iW e.Time 1 }
def Ur (s:Fp) (d:Ey) (e:BH):Nj:={ Nw with From:=s.Name,To:=d.To,Kind:=1,Events:=[e] }
def zn {s:Fp} {e:BH} (h:e.aQ.size<=2000) (j:s.Name.size<=2000):V4 s e=some (O8 e s.Name):=by
 have m:=adT (s:=e.aQ) AL;obtain⟨n,q,_⟩:=nS e.aQ h;have r:=agn n j q;unfold V4 O8;rw[m,AX,r,AX];cases(OI (splitB e.aQ (Ee e.aQ)).1 s.Name).2==0<;>rfl
def Cx.own {e:BH} (h:Cx e) (server:AY):Cx (O8 e server):=by
 unfold O8;cases(OI (splitB e.aQ (Ee e.aQ)).1 server).2==0 with
 |true=>exact⟨h.prev,h.auth,h.allow,h.deny,h.users,h.kinds,h.room,aeg,h.key,h.text,h.via,h.server,h.allows,h.denies,h.names⟩
 |false=>exact h
def Cx.later {e:BH} (h:Cx e):Cx (XV e):=⟨h.prev,h.auth,h.allow,h.deny,h.users,h.kinds,h.room,h.sender,h.key,h.text,h.via,h.server,h.allows,h.denies,h.names⟩
def pq (e:BH):SN e=some (XV e):=by
 unfold SN;rw[yH];rfl
structure Qg (name:ByteArray) (e:BH):Prop where
 small:Cx e
 sig:e.eu.Server=name\/e.eu.Sum≠e.Id\/e.eu.Server=Bd
def aeX (e:BH) (s:AY):(Jj e s).eu.Server=s:=by unfold Jj;rfl
def XC {j:AY} {e:BH} (h:Cx e) (m:j.size<=2000):Qg j (Jj e j):=⟨h.sign m,.inl (aeX e j)⟩
def ae9 {s:Fp} {d:Ey} (O:s.Name.size<=2000) (h2:d.To.size<=2000) (r:Cx d.Event):∃p,PL s d=some p/\p.1.length<=2/\∀q∈p.1,∃e,q.Events=[e]/\Qg s.Name e:=by
 obtain⟨n,r1⟩:=ado s d AL;have o1:=zn (s:=s) r.sender O;have M:=r.own s.Name;unfold PL;rw[r1,AX];cases hn:n != 0 with
 |true=>exact⟨_,rfl,Bf,Bf⟩
 |false=>
  rw[Az,o1];simp only[AX];cases k1:d.Kind==1 with
  |true=>
   have z:=Ug M s.Name;rw[Bq,z];refine⟨([Ur s d (Jj (O8 d.Event s.Name) s.Name)],0),rfl,Bf,fun q u=>?_⟩;simp only[Hz,LW,ND]at u;subst u;exact⟨_,rfl,XC M O⟩
  |false=>
   rw[Az];cases k2:d.Kind==2 with
   |true=>
    obtain⟨v1,_⟩:=Z7 (s:=d.Event.aQ) (by have :=r.sender;omega);have vz:=(nS d.Event.aQ r.sender).2.2;obtain⟨I,S⟩:∃x,x=(splitB d.Event.aQ (Ee d.Event.aQ)).2.1:=⟨_,rfl⟩
    rw[←S]at v1 vz;have z:=Ug r I;obtain⟨x,J⟩:∃x,x=Jj d.Event I:=⟨_,rfl⟩
    have j:Cx x:=J▸r.sign vz;rw[←J]at z;have U:=pq x;obtain⟨i1,_⟩:=Sz j.later.x;obtain⟨m,Y⟩:∃m,m=O5 (XV x):=⟨_,rfl⟩
    rw[←Y]at i1;rw[Bq,v1,AX,z,AX,U,AX,i1,AX];cases hi:m==x.Id with
    |true=>exact⟨_,rfl,Bf,Bf⟩
    |false=>
     refine⟨([Ur s d { x with eu:={ x.eu with Sum:=m } }],0),rfl,Bf,fun q u=>?_⟩;simp only[Hz,LW,ND]at u;subst u;refine⟨_,rfl,⟨⟨j.prev,j.auth,j.allow,j.deny,j.users,j.kinds,j.room,j.sender,j.key,j.text,j.via,j.server,j.allows,j.denies,j.names⟩,.inr (.inl ?_)⟩⟩;simpa using hi
   |false=>
    rw[Az];cases k3:d.Kind==3 with
    |true=>
     have z:=Ug M s.Name;have U:=pq (O8 d.Event s.Name);have s3:=Ug M.later s.Name;obtain⟨x,J⟩:∃x,x=Jj (O8 d.Event s.Name) s.Name:=⟨_,rfl⟩
     obtain⟨y,hy⟩:∃y,y=Jj (XV (O8 d.Event s.Name)) s.Name:=⟨_,rfl⟩
     have L:Qg s.Name x:=J▸XC M O;have Z:Qg s.Name y:=hy▸XC M.later O;rw[←J]at z;rw[←hy]at s3;refine⟨([Ur s d x,Ur s d y],0),?_,Bf,fun q u=>?_⟩
     ·rw[Bq,z];simp only[AX,P6,U,s3];rfl
     simp only[Hz,LW,ND]at u;rcases u with rfl|rfl
     ·exact⟨_,rfl,L⟩
     exact⟨_,rfl,Z⟩
    |false=>
     rw[Az];cases k4:d.Kind==4 with
     |true=>
      have z:=Ug r s.Name;obtain⟨x,J⟩:∃x,x=Jj d.Event s.Name:=⟨_,rfl⟩
      have L:Qg s.Name x:=J▸XC r O;rw[←J]at z;rw[Bq,z];refine⟨([Ur s d x],0),rfl,Bf,fun q u=>?_⟩;simp only[Hz,LW,ND]at u;subst u;exact⟨_,rfl,L⟩
     |false=>
      rw[Az];cases k6:d.Kind==6 with
      |true=>
       obtain⟨a1,_⟩:=Y0 r.x;obtain⟨a2,_⟩:=Sz (r.hash (Gz d.Event)).x;obtain⟨m,Y⟩:∃m,m=O5 { d.Event with Hash:=Gz d.Event }:=⟨_,rfl⟩
       obtain⟨h,S⟩:∃h,h=Gz d.Event:=⟨_,rfl⟩
       rw[←Y]at a2;rw[←S]at a1 a2;refine⟨([{ Nw with From:=s.Name,To:=d.To,Kind:=8,Room:=d.Event.Room,Events:=[{ d.Event with Hash:=h,Id:=m,eu:=JI }] }],0),?_,Bf,fun q u=>?_⟩
       ·rw[Bq,a1,AX,a2];rfl
       simp only[Hz,LW,ND]at u;subst u;exact⟨_,rfl,⟨⟨r.prev,r.auth,r.allow,r.deny,r.users,r.kinds,r.room,r.sender,r.key,r.text,r.via,by show Bd.size<=2000;decide,r.allows,r.denies,r.names⟩,.inr (.inr rfl)⟩⟩
      |false=>exact⟨_,rfl,Bf,Bf⟩
def abk {a:Int} {x:AB Int} (h:(bif a != 0 then some a else x)=some 0):a=0/\x=some 0:=by
 by_cases ha:a=0
 ·subst ha;exact⟨rfl,h⟩
 rw[show(a != 0)=true from by simpa using ha]at h;exact absurd (DU h) ha
def Fn2 {e:BH} (I:Cx e) (h:Qk e=some 0):Ec e.aQ 64=true:=by
 have j:∀v,Lh e v=some 0->Ec e.aQ 64=true:=by
  intro v m;unfold Lh at m;cases v with
  |true=>cases m
  |false=>
   rw[Az,lV I.wide,AX]at m;cases n:(PK e.Room==0&&MW e.aQ==0&&Rj e.Kind e.Key)with
   |false=>rw[n]at m;cases m
   |true=>
    simp only[CS,beq_iff_eq]at n;have q:=n.1.2;unfold MW at q;cases J:Ec e.aQ 64 with
    |true=>rfl
    |false=>rw[J]at q;cases q
 unfold Qk at h;simp only[H7,AX]at h;obtain⟨b,L⟩:∃b,V5 e.Kind=some b:=by unfold V5;cases decide (e.Kind>=1)<;>cases decide (e.Kind<=10)<;>exact⟨_,rfl⟩
 rw[L,AX]at h;cases r:decide (e.Kind<1)with
 |true=>rw[r,Bq]at h;exact j _ h
 |false=>
  cases s:decide (e.Kind>14)with
  |true=>rw[r,s,Az,Bq]at h;exact j _ h
  |false=>
   rw[r,s,Az,Az]at h;cases u:(!(e.State==b))with
   |true=>rw[u,Bq]at h;exact j _ h
   |false=>
    rw[u,Az]at h;cases z:(!(e.Key.toList==Bd.toList))with
    |true=>rw[z,Bq]at h;exact j _ h
    |false=>rw[z,Az]at h;exact j _ h
def agQ {e:BH} (j:Cx e):∃c,JO e=some c:=by
 have h:=j.x;have n:e.aQ.size<=2000:=j.sender;obtain⟨x,m,q⟩:=oq j.wide;unfold JO;rw[m,AX,(bf h).1,jD _ h.content];simp only[AX];rw[vC _ h.content];simp only[AX]
 have key:∀v,∃c,Np e v=some c:=fun v=>by
  obtain⟨c,r,_⟩:=aae h v;exact⟨c,r⟩
 cases s:x != 0 with
 |true=>exact⟨x,rfl⟩
 |false=>
  rw[Az];cases(!(Gz e==e.Hash))with
  |true=>rw[Bq];exact key _
  |false=>rw[Az];exact key _
def ZN {a:Int} {c:AO} {X:AB Int} (h:(bif c then some a else X)=some 0) (ha:a≠0):c=false/\X=some 0:=by
 cases c with
 |false=>exact⟨rfl,h⟩
 |true=>exact absurd (DU h) ha
def aaj {e:BH} (n:Cx e) (h:JO e=some 0):e.eu.Server=(splitB e.aQ (Ee e.aQ)).2.1/\e.eu.Sum=e.Id/\Ec e.aQ 64=true:=by
 have r:=n.x;have J:e.aQ.size<=2000:=n.sender;obtain⟨x,m,L⟩:=oq n.wide;unfold JO at h;rw[m,AX]at h;have z:=abk h;rw[z.1]at m;have M:=Fn2 n m;replace h:=z.2;rw[(bf r).1,jD _ r.content]at h;simp only[AX]at h;rw[vC _ r.content]at h;simp only[AX]at h
 have key:∀v,Np e v=some 0->e.eu.Server=(splitB e.aQ (Ee e.aQ)).2.1/\e.eu.Sum=e.Id/\Ec e.aQ 64=true:=fun v j=>by
  unfold Np at j;obtain⟨_,j⟩:=ZN j BQ;rw[(Sz r).1,AX]at j;obtain⟨_,j⟩:=ZN j BQ;rw[(Z7 (s:=e.aQ) AL).1,AX]at j;obtain⟨u,_⟩:=ZN (show(bif !((e.eu.Server.toList==(splitB e.aQ (Ee e.aQ)).2.1.toList)&&((e.eu.Sum==e.Id)&&true))then some 12 else some 0)=some (0:Int)from j) BQ;cases q:(e.eu.Server.toList==(splitB e.aQ (Ee e.aQ)).2.1.toList)with
  |false=>rw[q]at u;cases u
  |true=>
   cases p:(e.eu.Sum==e.Id)with
   |false=>rw[q,p]at u;cases u
   |true=>exact⟨toList_inj (eq_of_beq q),eq_of_beq p,M⟩
 cases I:(!(Gz e==e.Hash))with
 |true=>rw[I,Bq]at h;exact key _ h
 |false=>rw[I,Az]at h;exact key _ h
def refused {h:AY} {e:BH} (u:Cx e) (I:e.eu.Server=h\/e.eu.Sum≠e.Id\/e.eu.Server=Bd) (J:(splitB e.aQ (Ee e.aQ)).2.1≠h):
 ∃v,JO e=some v/\(v==0)=false:=by
 obtain⟨v,z⟩:=agQ u;refine⟨v,z,?_⟩;cases n:v==0 with
 |false=>rfl
 |true=>
  exfalso;have q:v=0:=eq_of_beq n;subst q;obtain⟨a,b,c⟩:=aaj u z;rcases I with m|m|m
  ·exact J (by rw[←a];exact m)
  ·exact m b
  have r:Ee e.aQ=true:=by unfold Ee;rw[c];rfl
  rw[r]at a;have s:JZ e.aQ=true:=by unfold Ec at c;simp only[CS]at c;exact c.2
  have j:Ig (Aj (JV e.aQ))=true:=by unfold JZ at s;simp only[CS]at s;exact s.2
  have n:JV e.aQ=Bd:=by rw[←m,a];rfl
  rw[n]at j;exact absurd j BQ
def Cx.strip {e:BH} (h:Cx e):Cx (Ua e):=by
 have j:=h.content.strip e.Kind;exact⟨h.prev,h.auth,j.allow,j.deny,j.users,j.kinds,h.room,h.sender,h.key,j.text,j.via,h.server,j.allows,j.denies,j.names⟩
def agd {h:AY} {e:BH} (j:Cx e) (m:e.eu.Server=h\/e.eu.Sum≠e.Id\/e.eu.Server=Bd) (n:(splitB e.aQ (Ee e.aQ)).2.1≠h):
 ∃v,JO (Ua e)=some v/\(v==0)=false:=refused j.strip m n
structure St (r:Dj):Prop where
 events:r.Events.length<=14
 small:∀e∈r.Events,Cx e
 waiting:r.Waiting.length<=14
 ac9:∀e∈r.Waiting,Cx e
 rows:r.Rows.length<=14
 heads:r.vJ.length<=40
 state:r.State.length<=60
 abR:r.gq.length<=40
 typing:r.jF.length<=40
def LM {α:Type} {body:(Int->AB AO)->Int->AB AO} (l:AA α) (z:l.length<=1000) (rest:AB AO) (j:∀k (i:Nat) (h:i<l.length),body k (i:Int)=k (IntKind.i64.wrap ((i:Int)+1))) (q:∀k,body k (l.length:Int)=rest):aS body Am 0=rest:=by
 have key:∀n (i:Nat),i+n=l.length->∀m,n<m->aS body m (i:Int)=rest:=by
  intro n
  induction n with
  |zero=>
   intro i r m s;obtain⟨m,rfl⟩:∃k,m=k+1:=⟨m-1,AL⟩
   rw[show i=l.length by omega];exact q _
  |succ n u=>
   intro i r m s;obtain⟨m,rfl⟩:∃k,m=k+1:=⟨m-1,AL⟩
   have :=j (aS body m) i AL;rw[wrap_succ i AL]at this;exact this.trans (u (i+1) AL m AL)
 exact key l.length 0 AL Am (fuel_lt AL)
def LC (n:Int):(n != n)=false:=Bf
def lY {l:AA Int} (h:l.length<=1000):Uj l l=some true:=by
 unfold Uj xM;rw[LC,Az];exact LM l h _ (fun k i h=>by simp only[gy,dec_lt h,Bq,DV h,AX,RX,Az]) (fun k=>by simp only[gy,DJ,Az])
def wz {l:AA AY} (h:l.length<=1000):Kv l l=some true:=by
 unfold Kv YL;rw[LC,Az];exact LM l h _ (fun k i h=>tV) (fun k=>ig)
def aga {l:Dl} (j:l.Users.length<=1000) (m:l.Kinds.length<=1000):PZ l l=some true:=by
 have n:Ub l l 0=some true:=by
  unfold Ub;exact LM l.Kinds m _ (fun k i h=>by simp only[Yg,dec_lt h,Bq,DV h,AX,RX,Az,XR]) (fun k=>by simp only[Yg,DJ,Az,Lu,Bq,AX])
 unfold PZ;rw[LC,LC,Az,AX,Az];unfold XU;exact LM l.Users j _ (fun k i h=>by simp only[Xv,dec_lt h,Bq,DV h,AX,Lu,EU,RX,Az,Vp]) (fun k=>by simp only[Xv,DJ,Az];exact n)
def adr {c:BF} (h:c.Allow.length<=1000) (j:c.dw.length<=1000) (m:c.Levels.Users.length<=1000) (n:c.Levels.Kinds.length<=1000):NP c c=some true:=by
 unfold NP;simp only[Lu,Bq,AX,wz h,wz j,aga m n]
def aec {e:BH} (h:Cx e):Xq e e=some true:=by
 have :=h.prev;have :=h.auth;have j:=h.allow;have m:=h.deny;have n:=h.users;have q:=h.kinds;unfold Xq;simp only[Lu,Bq,AX,lY (l:=e.iM) AL,lY (l:=e.iT) AL,adr (c:=e.Content) AL AL AL AL]
def ny {l:AA BH} (h:l.length<=1000) (j:∀e∈l,Cx e):SS l l=some true:=by
 unfold SS oG;rw[LC,Az];exact LM l h _ (fun k i h=>by simp only[ji,dec_lt h,Bq,DV h,AX,aec (j _ (KW h)),EU,Az]) (fun k=>by simp only[ji,DJ,Az])
def aev {l:AA Lp} (h:l.length<=1000):Yf l l=some true:=by
 unfold Yf wo;rw[LC,Az];exact LM l h _ (fun k i h=>by simp only[ZV,dec_lt h,Bq,DV h,AX,WU,Lu,GX,EU,Az]) (fun k=>by simp only[ZV,DJ,Az])
def aeF {l:AA Int} (h:l.length<=1000):Xg l l=some true:=by
 unfold Xg rP;rw[LC,Az];exact LM l h _ (fun k i h=>by simp only[aC,dec_lt h,Bq,DV h,AX,RX,Az]) (fun k=>by simp only[aC,DJ,Az])
def ad1 {l:AA Q9} (h:l.length<=1000):WW l l=some true:=by
 unfold WW rM;rw[LC,Az];exact LM l h _ (fun k i h=>by simp only[jI,TR,dec_lt h,Bq,DV h,AX,RX,Lu,EU,Az]) (fun k=>by simp only[jI,DJ,Az])
def af6 {r:Dj} (j:r.gq.length<=1000) (m:r.jF.length<=1000):Un r r=some true:=by
 have n:jm r r 0=some true:=by
  unfold jm;exact LM r.jF m _ (fun k i h=>by simp only[jw,dec_lt h,Bq,DV h,AX,WB,Lu,GX,EU,Az]) (fun k=>by simp only[jw,DJ,Az])
 unfold Un;rw[LC,LC,Az,AX,Az];unfold l7;exact LM r.gq j _ (fun k i h=>by simp only[Zr,dec_lt h,Bq,DV h,AX,WR,Lu,GX,EU,Az]) (fun k=>by simp only[Zr,DJ,Az];exact n)
def aeR {r:Dj} (h:St r) (rows:AA Lp) (j:rows.length<=1000):SP { r with Rows:=rows } { r with Rows:=rows }=some true:=by
 obtain⟨q,m,s,n,u,z,I,J,L⟩:=h;have e:Un { r with Rows:=rows } { r with Rows:=rows }=some true:=af6 (r:={ r with Rows:=rows }) (by show r.gq.length<=1000;omega) (by show r.jF.length<=1000;omega);unfold SP;simp only[Lu,Bq,AX,ny (l:=r.Events) AL m,ny (l:=r.Waiting) AL n,aev j,aeF (l:=r.vJ) AL,ad1 (l:=r.State) AL,e]
def xY (l:AA BH):DK (TJ l 12) (fun b=>b=false->l.length<=12/\∀e∈l,Cx e):=by
 have J:Am=9223372036854775808:=rfl;unfold TJ;refine DK.bif (fun _=>.ret fun h=>Ed) fun r=>?_;have r:=FH r;unfold mD;refine nC l.length AL (fun i=>∀j,(m:j<i)->(hl:j<l.length)->Cx l[j]) (fun j m=>AL) ?_ ?_
 ·intro i k s n u;unfold aZ;rw[KA s,wrap_succ i AL];refine(pJ l[i]).bind fun b z=>DK.bif (fun _=>.ret fun h=>Ed) fun e=>u fun j m q=>?_;by_cases I:j=i
  ·subst I;exact z e
  exact n j AL q
 intro k n;unfold aZ;rw[Ol];exact .ret fun _=>⟨AL,xk fun j m=>n j m m⟩
def ac8 (r:Dj):DK (XD r 12) (fun b=>b=false->St r):=by
 have m:Am=9223372036854775808:=rfl;have j:∀{P:Prop},DK (some true) (fun b=>b=false->P):=.ret fun h=>Ed
 have Z:∀{b:AO} {o:AB AO},(bif b then some true else o).bind (fun x=>some x)=bif b then some true else o:=fun{b o}=>by cases b<;>simp
 unfold XD;refine(xY r.Events).bind fun I J=>?_;cases I with
 |true=>simp only[Bq,AX];exact j
 |false=>
 refine DK.bind (P:=fun b=>b=false->r.Waiting.length<=12/\∀e∈r.Waiting,Cx e) ?_ fun L M=>?_
 ·rw[Az];exact(xY r.Waiting).bind fun b O=>.ret O
 cases L with
 |true=>simp only[Bq,AX];exact j
 |false=>
 simp only[Az,AX];obtain⟨w1,S⟩:=M rfl;obtain⟨v1,U⟩:=J rfl
 have step:∀{a:AO} {F:AO->AB AO},F true=some true->((a=false)->DK (F false) (fun b=>b=false->St r))->DK (F a) (fun b=>b=false->St r):=by
  intro a F Y m;cases a with
  |true=>rw[Y];exact j
  |false=>exact m rfl
 refine step (F:=fun a=>Option.bind (bif a then some true else some (decide ((r.vJ.length:Int)>40))) _) rfl fun n=>?_;simp only[Az,AX];refine step (F:=fun a=>Option.bind (bif a then some true else some (decide ((r.State.length:Int)>60))) _) rfl fun q=>?_;simp only[Az,AX];refine step (F:=fun a=>Option.bind (bif a then some true else some (decide ((r.gq.length:Int)>40))) _) rfl fun s=>?_;simp only[Az,AX];refine step (F:=fun a=>Option.bind (bif a then some true else some (decide ((r.jF.length:Int)>40))) _) rfl fun u=>?_;simp only[Az,AX];refine step (F:=fun a=>Option.bind (bif a then some true else some (decide ((r.Id.size:Int)>2000))) _) rfl fun z=>?_;simp only[Az,AX];refine DK.bif (fun _=>j) fun a6=>?_;have n:=FH n;have q:=FH q;have s:=FH s;have u:=FH u;have z:=FH z;unfold nM;refine QU r.State AL (fun x=>(x.Key.size:Int)>2000) (kQ r 0) (fun k i h=>?_) (fun k=>?_) fun c1=>?_
 ·unfold eU;rw[KA h]
 ·unfold eU;rw[Ol]
 unfold kQ;refine QU r.gq AL (fun x=>(x.User.size:Int)>2000) (fU r 0) (fun k i h=>?_) (fun k=>?_) fun c2=>?_
 ·unfold kS;rw[KA h]
 ·unfold kS;rw[Ol]
 unfold fU;refine QU r.jF AL (fun x=>(x.User.size:Int)>2000) (some false) (fun k i h=>?_) (fun k=>?_) fun c3=>?_
 ·unfold bH;rw[KA h]
 ·unfold bH;rw[Ol]
 exact .ret fun _=>⟨AL,U,AL,S,AL,AL,AL,AL,AL⟩
def ad6 (s:Fp) (d:Ey):DK (X8 s d) (fun b=>b=false->s.Name.size<=2000/\d.To.size<=2000/\Cx d.Event):=by
 unfold X8;simp only[H7,AX,Qp];refine DK.bind (P:=fun b=>b=false->s.Name.size<=2000/\d.To.size<=2000/\Cx d.Event) ?_ fun b j=>.ret j;refine DK.bif (fun _=>.ret fun h=>Ed) fun a=>?_;simp only[bg]at a;have m:=FH a.1;have n:=FH a.2;refine DK.bind (pJ d.Event) fun b j=>.ret fun h=>⟨AL,AL,j h⟩
def aaP {m:AY} {e:BH} (h:Qg m e) (s:(splitB e.aQ (Ee e.aQ)).2.1≠m) (r:Dj):∃v,Sl r e=some (r,0,v)/\(v==0)=false:=by
 have q:=h.small
 have I:∃z v,WE e=some (z,v)/\(v==0)=false:=by
  have u:∀x v,JO x=some v->(v==0)=false->Td x=some (IQ,v):=fun x v n j=>by
   unfold Td;rw[n,AX,show(v != 0)=true by simpa[bne]using j];rfl
  unfold WE;rw[(bf q.x).1,AX];cases Gz e==e.Hash with
  |true=>
   obtain⟨v,n,j⟩:=refused q h.sig s;exact⟨IQ,v,u e v n j,j⟩
  |false=>
   obtain⟨v,n,j⟩:=agd q h.sig s;refine⟨IQ,v,?_,j⟩;rw[Rt,Bq,(rX q.x).1,AX];exact u _ v n j
 obtain⟨z,v,n,j⟩:=I;refine⟨v,?_,j⟩;unfold Sl;rw[n,AX];show(bif v != 0 then _ else _)=_;rw[show(v != 0)=true by simpa[bne]using j];rfl
def ag6 :QO=some true:=A8
def adR (r:Dj) (s:Fp) (d:Ey):jY r s d=some true:=by
 unfold jY;refine DK.eq ((ac8 r).bind fun g O=>?_);refine DK.bind (P:=fun b=>b=false->St r/\s.Name.size<=2000/\d.To.size<=2000/\Cx d.Event) ?_ fun b u=>DK.bif (fun _=>.ret rfl) fun h=>?_
 ·cases g with
  |true=>exact .ret fun h=>Ed
  |false=>exact(ad6 s d).bind fun b u=>.ret fun h=>⟨O rfl,u h⟩
 obtain⟨J,S,U,Y⟩:=u h;obtain⟨p,Z,e3,e4⟩:=ae9 S U Y;rw[Z,AX];unfold xK;have m:((QO).bind fun z=>some z)=some true:=by rw[ag6];rfl
 refine DK.of ?_;rw[IW p.1 (Qw AL) (fun _=>false) false (some true) (fun k i n=>?_) (fun k=>?_),any_false]
 ·rfl
 ·obtain⟨e,I,L⟩:=e4 _ (KW n);unfold dH;rw[dec_lt n,Bq];unfold rJ;rw[IW [e] (Qw Bf) (fun _=>false) false (k (IntKind.i64.wrap ((i:Int)+1))) (fun k' j q=>?_) (fun k'=>?_),any_false]
  ·obtain rfl:j=0:=by simp at q;exact q
   unfold kH;rw[DV n,AX,I,dec_lt q,Bq,AX,I,DV q,AX,List.getElem_cons_zero,(Z7 (s:=e.aQ) (by have :=L.small.sender;omega)).2,AX];cases M:(splitB e.aQ (Ee e.aQ)).2.1.toList==s.Name.toList with
   |true=>rfl
   |false=>
    obtain⟨v,hv,hz⟩:=aaP L (fun hc=>by rw[hc]at M;simp at M) r;have hs:=aeR J r.Rows (by have :=J.rows;omega);rw[Az,hv,AX];show((bif v==0 then some true else some ((0:Int) != 0)).bind _)=_;rw[hz,Az,AX,RX,Az];show(((SP { r with Rows:=r.Rows } { r with Rows:=r.Rows }).bind _).bind _)=_;rw[hs];rfl
  unfold kH;rw[DV n,AX,I,DJ,Az]
 unfold dH;rw[DJ,Az];exact m
end
end Go.Proofs.YtfmoknlmaldmlaaGreat
