/- Part 7 of what the laws' proofs lean on: states of the walk, typed functions of the program and their laws (short forms written by wip/shrink.py; no condition). -/
import Derived.Test.YtkkdimcnpacjhaaGreatRd6
set_option linter.defProp false
set_option linter.unnecessarySimpa false
set_option linter.unusedVariables false
set_option linter.unusedSimpArgs false
set_option linter.unusedSectionVars false
section
namespace Go.Proofs.YtkkdimcnpacjhaaGreat
open Go.RowKit
def JC {a:Int} {c:Bool} {X:Option Int} (h:(bif c then some a else X)=some 0) (ha:a≠0):c=false∧X=some 0:=by
 cases c with
 |true=>exact absurd (CV h) ha
 |false=>exact⟨rfl,h⟩
def SQ {a:Int} {x:Option Int} (h:(bif a != 0 then some a else x)=some 0):a=0∧x=some 0:=by
 by_cases ha:a=0
 ·subst ha;exact⟨rfl,h⟩
 rw[show(a != 0)=true from by simpa using ha]at h;exact absurd (CV h) ha
def firsts {α R:Type} {body:(Int→Option R)→Int→Option R} {ok:R} (l:List α) (hl:l.length≤9223372036854775807) (P:Nat→Prop)
 (I:∀k (i:Nat),i<l.length→body k (i:Int)=some ok→P i∧k ((i+1:Nat):Int)=some ok) (u:Nat) (h:bI body Ag (u:Int)=some ok):∀i,u≤i→i<l.length→P i:=by
 have key:∀n (i:Nat) m,i+n=l.length→n<m→bI body m (i:Int)=some ok→∀j,i≤j→j<l.length→P j:=by
  intro n
  induction n with
  |zero=>intro i m hi _ _ j q z;omega
  |succ n J=>
   intro i m hi hm L j q z;obtain⟨m,rfl⟩:∃M,m=M+1:=⟨m-1,AA⟩
   obtain⟨a,b⟩:=I (bI body m) i AA L;rcases aPQ q with rfl|q
   ·exact a
   exact J (i+1) m AA AA b j q z
 intro i q z;have O:Ag=9223372036854775808:=rfl;exact key (l.length-u) u Ag AA AA h i q z
def iV {α:Type} {l:List α} {Q:α→Prop} (h:∀i,0≤i→i<l.length→∀x,l[i]? =some x→Q x):∀x∈l,Q x:=fun x j=>by
 obtain⟨i,hi,rfl⟩:=Fv j;exact h i (Du _) hi _ (D8 hi)
def an0 (s:ByteArray) (a b:Nat) (j:b≤s.size):(s.extract a b).size=b-a:=by rw[aBD];omega
def aQv {l:List Int} {p:Int→Bool} (h:QK l p=true):l.length≤32:=(aQ4 h).2
def oP {s:ByteArray} {m:Int} (h:Gv s m=true):s.size≤100:=by
 unfold Gv TR at h;simp only[CW,Gg]at h;have u:=h.2.1.1;have j:=aQv h.2.1.2
 have q:(BX (PV s)).length≤32:=by
  have :=h.2.2;unfold YT at this;simp only[CW]at this;exact aQv this.1.1
 rw[Ic]at j q;unfold Ue at j;unfold PV at q;rw[an0 _ _ _ AA]at j q;omega
def aUi {s:ByteArray} (hs:s.size≤9223372036854775807) (h:bD s=some 0):s.size≤100∧Gv s 64=true:=by
 rw[(XQ hs).2]at h;have h:=CV h;unfold QY at h;cases hm:Gv s 64 with
 |true=>exact⟨oP hm,rfl⟩
 |false=>rw[hm]at h;cases h
def aog {s:ByteArray} (hs:s.size≤9223372036854775807) (h:rD s=some 0):s.size≤100∧Gv s 33=true:=by
 rw[(rC hs).2]at h;have h:=CV h;unfold Ut at h;cases hm:Gv s 33 with
 |true=>exact⟨oP hm,rfl⟩
 |false=>rw[hm]at h;cases h
def aaY {s:ByteArray} (hs:s.size≤9223372036854775807) (h:qZ s=some 0):s.size≤100:=by
 rw[(aGz hs).2]at h;have h:=CV h;unfold aBJ at h;split at h
 ·omega
 split at h
 ·cases h
 omega
def aUN {l:List ByteArray} (hl:l.length≤9223372036854775807) (hs:∀s∈l,s.size≤9223372036854775807) (h:TU l=some 0):l.length≤100∧∀s∈l,s.size≤100:=by
 unfold TU at h;obtain⟨u,h⟩:=JC h BK;refine⟨by have :=Je u;omega,iV (firsts l hl (fun i=>∀x,l[i]? =some x→x.size≤100) (fun k i hi j=>?_) 0 h)⟩;unfold vP at j;rw[Bo hi]at j;obtain⟨x,z,j⟩:=Dn j;obtain⟨e,j⟩:=SQ j;subst e;rw[wrap_succ i AA]at j;exact⟨fun y q=>by rw[D8 hi]at q;obtain rfl:=CV q;exact aaY (hs _ (EJ hi)) z,j⟩
def aeW {c:Bj} (hl:c.Allow.length≤9223372036854775807) (hs:∀s∈c.Allow,s.size≤9223372036854775807) (h:fQ c=some 0):c.Allow.length≤100∧∀s∈c.Allow,s.size≤100:=by
 unfold fQ at h;obtain⟨x,_,h⟩:=Dn h;obtain⟨_,h⟩:=JC h BK;obtain⟨I,h⟩:=JC h BK;refine⟨by have :=Je I;omega,iV (firsts c.Allow hl (fun i=>∀x,c.Allow[i]? =some x→x.size≤100) (fun k i hi j=>?_) 0 h)⟩;unfold aD9 aG2 at j;rw[Bo hi]at j;obtain⟨x,J,j⟩:=Dn j;obtain⟨e,j⟩:=JC j BK;have q:x=0:=RY
 subst q;refine⟨fun y u=>by rw[D8 hi]at u;obtain rfl:=CV u;exact(aog (hs _ (EJ hi)) J).1,?_⟩;cases hp:decide ((i:Int)>0)with
 |true=>
  rw[hp,Az]at j;obtain⟨y,_,j⟩:=Dn j;obtain⟨z,_,j⟩:=Dn j;obtain⟨_,j⟩:=JC j BK
  rwa [wrap_succ i AA]at j
 |false=>
  rw[hp,Aj,Aj]at j
  rwa [wrap_succ i AA]at j
def aiW {l:List Hz} (hl:l.length≤9223372036854775807) (hs:∀u∈l,u.User.size≤9223372036854775807) (h:Zt l=some 0):l.length≤100∧∀u∈l,u.User.size≤100:=by
 unfold Zt at h;obtain⟨O,h⟩:=JC h BK;refine⟨by have :=Je O;omega,iV (firsts l hl (fun i=>∀x,l[i]? =some x→x.User.size≤100) (fun k i hi q=>?_) 0 h)⟩
 have J:∀v,uS l (i:Int) k v=some 0→k ((i+1:Nat):Int)=some 0:=fun v j=>by
  unfold uS at j;obtain⟨_,j⟩:=JC j BK;obtain⟨y,_,j⟩:=Dn j;obtain⟨z,_,j⟩:=Dn j;obtain⟨_,j⟩:=JC j BK
  rwa [wrap_succ i AA]at j
 unfold xX at q;rw[Bo hi]at q;obtain⟨x,L,U⟩:=Dn q;obtain⟨e,hd⟩:=JC U BK;have I:x=0:=RY
 rw[I]at L;refine⟨fun y M=>by rw[D8 hi]at M;obtain rfl:=CV M;exact(aUi (hs _ (EJ hi)) L).1,?_⟩;cases hp:decide ((i:Int)>0)with
 |true=>
  rw[hp,Az]at hd;obtain⟨y,_,Y⟩:=Dn hd;obtain⟨z,_,Z⟩:=Dn Y;exact J _ Z
 |false=>
  rw[hp,Aj]at hd;exact J _ hd
def abu {l:List J8} (h:cV l=some 0):l.length≤100:=by
 unfold cV at h;obtain⟨j,_⟩:=JC h BK;have :=Je j;omega
def empty_of {s:ByteArray} (h:(s.toList==BP.toList)=true):s.size≤100:=by rw[aDi]at h;have :=eq_of_beq h;omega
def aa6 {l:Bf} (h:Na l=true):l.Users=[]∧l.Kinds=[]:=by
 unfold Na at h;simp only[CW]at h;exact⟨Tz h.1.1.1.1.1.1.1.1,Tz h.1.1.1.1.1.1.1.2⟩
def adv {k:Int} {c:Bj} (L:Jp c) (h:JV k c=some 0):QS c:=by
 unfold JV at h;rw[(aB7 k).2,AO]at h;obtain⟨x2,O,h⟩:=Dn h;obtain⟨e2,h⟩:=JC h BK;subst e2
 have J:lR k c=some true:=by
  cases hk:(decide (k≥1)&&decide (k≤14))with
  |false=>rw[hk]at O;cases O
  |true=>
   rw[hk]at O;obtain⟨y,U,M⟩:=Dn (show(lR k c).bind (fun x4=>some (!x4))=some false from O);have M:=CV M;cases y with
   |true=>exact U
   |false=>cases M
 obtain⟨x6,_,h⟩:=Dn h;obtain⟨x7,Y,h⟩:=Dn h;cases x7 with
 |true=>
  have M:kX (c.Text.toList==BP.toList) (c.N==0) (c.Target==0) (!c.Thread) (c.Via.toList==BP.toList) ((c.Allow.length:Int)==0) ((c.gJ.length:Int)==0) (Na c.Levels)=true:=by
   cases x6 with
   |false=>cases Y
   |true=>rw[aUa]at Y;exact CV Y
  unfold kX at M;simp only[CW]at M;obtain⟨⟨⟨⟨⟨⟨⟨t1,_⟩,_⟩,_⟩,t5⟩,t6⟩,t7⟩,t8⟩:=M;have p:=aa6 t8;have q1:=empty_of t1;have q2:=empty_of t5;have a1:=Tz t6;have a2:=Tz t7;refine⟨?_,?_,?_,?_,AA,AA,?_,?_,?_⟩<;>first|rw[a1]|rw[a2]|rw[p.1]|rw[p.2]
  all_goals first|exact Du _|exact fun x hx=>absurd hx Ei
 |false=>
  rw[Aj]at h;obtain⟨x11,j,h⟩:=Dn h;obtain⟨e,h⟩:=SQ h;subst e;obtain⟨GK,_,h⟩:=Dn h;obtain⟨_,h⟩:=SQ h;obtain⟨x15,_,h⟩:=Dn h;obtain⟨_,h⟩:=SQ h;obtain⟨x17,I,h⟩:=Dn h;obtain⟨e,h⟩:=SQ h;subst e
  have ht:c.Text.size≤2000:=by
   unfold dA at j;cases h9:k==9 with
   |true=>
    rw[h9,Az]at j;cases Z:(c.Text.toList==BP.toList)with
    |true=>have :=empty_of Z;omega
    |false=>
     rw[Z,Aj]at j;obtain⟨y,U,j⟩:=Dn j;obtain rfl:=CV j;have :=aaY L.text U;omega
   |false=>
    rw[h9,Aj]at j;obtain⟨y,_,j⟩:=Dn j;obtain⟨_,j⟩:=JC j BK;obtain⟨z,M,j⟩:=Dn j;obtain⟨e,_⟩:=JC j BK;subst e;cases hd:decide ((c.Text.size:Int)>400)with
    |true=>rw[hd]at M;cases M
    |false=>have :=Je hd;omega
  have hv:c.Via.size≤2000:=by
   unfold aY at I;cases Z:(c.Via.toList==BP.toList)with
   |true=>have :=empty_of Z;omega
   |false=>
    rw[Z,Aj]at I;obtain⟨_,I⟩:=JC I BK;obtain⟨y,U,I⟩:=Dn I;obtain rfl:=CV I;have :=(aUi L.via U).1;omega
  have I4:∀{l:List ByteArray},(∀s∈l,s.size≤100)→∀s∈l,s.size≤2000:=fun h s hs=>Ed (h s hs) AA;cases h4:k==4 with
  |true=>
   have e4:=eq_of_beq h4;subst e4;rw[KI,Az]at h;obtain⟨y,U,h⟩:=Dn h;obtain rfl:=CV h;obtain⟨r1,r2⟩:=aeW L.allow L.allows U;rw[aap (K:=4) (c:=c) (show _=some false by kernel_rfl) (show _=some true by kernel_rfl) (show _=some false by kernel_rfl) (show _=some false by kernel_rfl) (show _=some false by kernel_rfl) (show _=some true by kernel_rfl) (show _=some false by kernel_rfl) (show _=some false by kernel_rfl)]at J;have ho:=CV J;unfold Kv at ho;simp only[CW,LC]at ho;have d:=Tz ho.1.2;have p:=aa6 ho.2;refine⟨r1,?_,?_,?_,ht,hv,I4 r2,?_,?_⟩<;>first|rw[d]|rw[p.1]|rw[p.2]
   all_goals first|exact Du _|exact fun x hx=>absurd hx Ei
  |false=>
   rw[h4,Aj]at h;obtain⟨y1,hy1,h⟩:=Dn h;obtain⟨e,h⟩:=SQ h;subst e;obtain⟨y2,hy2,h⟩:=Dn h;obtain⟨e,h⟩:=SQ h;subst e;obtain⟨y3,q,h⟩:=Dn h;obtain rfl:=CV h;unfold aI at q;obtain⟨z1,hz1,q⟩:=Dn q;obtain⟨e,q⟩:=SQ q;subst e;obtain⟨z2,hz2,q⟩:=Dn q;obtain⟨e,q⟩:=SQ q;subst e;obtain⟨a1,a2⟩:=aUN L.allow L.allows hy1;obtain⟨d1,d2⟩:=aUN L.deny L.denies hy2;obtain⟨u1,u2⟩:=aiW L.users L.names hz1;exact⟨a1,d1,u1,abu hz2,ht,hv,I4 a2,I4 d2,fun u hu=>Ed (u2 u hu) AA⟩
structure V9 (e:AL):Prop where
 kind:1≤e.Kind∧e.Kind≤14
 state:e.State=GZ e.Kind
 keyed:e.Key=BP∨e.Kind=2∨e.Kind=9
 room:Gv e.Room 33=true
 sender:Gv e.aQ 64=true
 key:Uw e.Kind e.Key=true
 time:0≤e.Time∧e.Time≤1000000000
 depth:1≤e.Depth∧e.Depth≤100000
 prev:e.aU.length≤10∧Inc e.aU∧∀x∈e.aU,0≤x
 auth:e.aZ.length≤8∧Inc e.aZ∧∀x∈e.aZ,0≤x
 short:e.aU=[]→e.Kind=1
 form:e.Kind=1→e.aU=[]∧e.aZ=[]
 content:JV e.Kind e.Content=some 0
 small:TK e
def aXE {l:List Int} (hl:l.length≤9223372036854775807) (h:iC l=some true):Inc l∧∀x∈l,0≤x:=by
 unfold iC aL4 at h
 have u:=firsts l hl (fun i=>∀x,l[i]? =some x→0≤x∧∀y,0<i→l[i-1]? =some y→y<x) (fun k i hi q=>by
  have J:∀v,kW k (i:Int) v=some true→v=false∧k ((i+1:Nat):Int)=some true:=fun v L=>by
   unfold kW at L;cases v with
   |true=>cases L
   |false=>rw[Aj,wrap_succ i AA]at L;exact⟨rfl,L⟩
  unfold aCI at q;rw[Bo hi]at q;cases M:decide (l[i]<0)with
  |true=>rw[M,Az]at q;cases(J _ q).1
  |false=>
   have h0:=Je M;rw[M,Aj]at q;cases hp:decide ((i:Int)>0)with
   |false=>
    have hp0:=Je hp;rw[hp,Aj]at q;refine⟨fun x z=>?_,(J _ q).2⟩;rw[D8 hi]at z;obtain rfl:=CV z;exact⟨AA,fun y h0 O=>AA⟩
   |true=>
    rw[hp,Az,Bd hi,AO,sV hi hl hp,AO]at q;obtain⟨U,Y⟩:=J _ q;refine⟨fun x z=>?_,Y⟩;rw[D8 hi]at z;obtain rfl:=CV z;refine⟨AA,fun y h0 O=>?_⟩;rw[D8 AA]at O;obtain rfl:=CV O
    have :=Je U;omega) 0 h
 have I:∀i,(hi:i+1<l.length)→l[i]<l[i+1]:=fun i hi=>(u (i+1) AA hi _ (D8 hi)).2 _ AA (D8 AA);refine⟨?_,fun x z=>?_⟩
 ·rw[Inc,IW];intro i j hi J Z
  induction j with
  |zero=>omega
  |succ j ih=>
   have U:=I j J;rcases aPQ (Nat.le_of_lt_succ Z)with rfl|Y
   ·exact U
   have :=ih AA Y;omega
 obtain⟨i,hi,rfl⟩:=Fv z;exact(u i (Du _) hi _ (D8 hi)).1
def pV {c:Bool} {X:Option Bool} {f:Bool→Option Int} {v:Int} (j:f true≠some v) (h:((bif c then some true else X).bind f)=some v):c=false∧X.bind f=some v:=by
 cases c with
 |true=>exact absurd h j
 |false=>exact⟨rfl,h⟩
def ajy {e:AL} (M:Vu e) (h:Oy e=some 0):V9 e:=by
 unfold Oy at h;obtain⟨x1,j,h⟩:=Dn h;obtain⟨e1,h⟩:=SQ h;subst e1;obtain⟨x3,h3,h⟩:=Dn h;obtain rfl:=CV h;have L:=adv M.content h3
 have O:∀v,Sm e v=some 0→v=false:=fun v hv=>by
  cases v with
  |true=>cases hv
  |false=>rfl
 have Z:Sm e false=some 0∧(1≤e.Kind∧e.Kind≤14)∧e.State=GZ e.Kind∧(e.Key=BP∨e.Kind=2∨e.Kind=9):=by
  unfold aN0 at j;cases c1:decide (e.Kind<1)with
  |true=>rw[c1,Az]at j;cases O _ j
  |false=>
   cases c2:decide (e.Kind>14)with
   |true=>rw[c1,c2,Aj,Az]at j;cases O _ j
   |false=>
    rw[c1,c2,Aj,Aj,sK,AO]at j;have k1:=Je c1;have k2:=Je c2;cases c3:(e.State==GZ e.Kind)with
    |false=>rw[c3,Io,Az]at j;cases O _ j
    |true=>
     rw[c3,EF,Aj]at j;refine⟨?_,⟨AA,AA⟩,eq_of_beq c3,?_⟩
     all_goals cases c4:(e.Key.toList==BP.toList)with
     |true=>rw[c4,EF,Aj]at j;first|exact j|exact .inl (toList_inj (eq_of_beq c4))
     |false=>
      rw[c4,Io,Az]at j;cases c5:(e.Kind != 2)with
      |false=>rw[c5,Aj]at j;first|exact j|exact .inr (.inl (by simpa using c5))
      |true=>
       rw[c5,Az]at j;have :=O _ j;rw[this]at j
       first|exact j|exact .inr (.inr aPE)
 clear j O;obtain⟨j,hk,hst,U⟩:=Z;unfold Sm at j;rw[Aj,(rC (s:=e.Room) M.room).2,(XQ (s:=e.aQ) M.sender).2,aSW M.key]at j;simp only[AO]at j
 have z:Gv e.Room 33=true:=by
  cases hm:Gv e.Room 33 with
  |true=>rfl
  |false=>unfold Ut at j;rw[hm]at j;cases j
 have r0:Ut e.Room=0:=by unfold Ut;rw[z];rfl
 rw[r0,JA,Aj,AO]at j
 have I:Gv e.aQ 64=true:=by
  cases hm:Gv e.aQ 64 with
  |true=>rfl
  |false=>unfold QY at j;rw[hm]at j;cases j
 have u0:QY e.aQ=0:=by unfold QY;rw[I];rfl
 rw[u0,JA,Aj,AO]at j
 have u:Uw e.Kind e.Key=true:=by
  cases hm:Uw e.Kind e.Key with
  |true=>rfl
  |false=>rw[hm]at j;cases j
 rw[u,EF,Aj]at j;obtain⟨t1,j⟩:=pV xI j;rw[AO]at j;obtain⟨t2,j⟩:=pV xI j;rw[AO]at j;obtain⟨t3,j⟩:=pV xI j;rw[AO]at j;obtain⟨t4,j⟩:=JC j BK;obtain⟨t5,j⟩:=pV xI j;rw[AO]at j;obtain⟨t6,j⟩:=JC j BK;obtain⟨x21,h21,j⟩:=Dn j;obtain⟨t7,j⟩:=pV xI j;rw[Option.bind_assoc]at j;obtain⟨x24,h24,j⟩:=Dn j;rw[AO]at j;obtain⟨t8,j⟩:=JC j BK;obtain⟨WI,Y,j⟩:=Dn j;obtain⟨t9,j⟩:=JC j BK;obtain⟨x29,J,j⟩:=Dn j;obtain⟨t10,_⟩:=JC j BK;have e21:x21=true:=by simpa using t7
 have e24:x24=true:=by simpa using t8
 subst e21 e24 t9 t10;have p1:=Je t5;have p2:=Je t6;have r1:=aXE M.prev h21;have r2:=aXE M.auth h24;have d1:=Je t1;have d2:=Je t2;have d3:=Je t3;have d4:=Je t4
 have hkz:e.Key.size≤2000:=by
  rcases U with h|h|h
  ·rw[h];exact Du _
  ·unfold Uw at u;rw[CS h]at u;have :QY e.Key=0:=TP
   unfold QY at this;cases hm:Gv e.Key 64 with
   |true=>have :=oP hm;omega
   |false=>rw[hm]at this;cases this
  unfold Uw at u;rw[CY AA,CS h]at u;unfold qH at u;simp only[CW,Gg]at u;have :=u.1.2;omega
 have z1:=oP z;have z2:=oP I;refine⟨hk,hst,U,z,I,u,⟨AA,AA⟩,⟨AA,AA⟩,⟨AA,r1⟩,⟨AA,r2⟩,fun hp=>?_,fun hk1=>?_,h3,⟨?_,?_,L.allow,L.deny,L.users,L.kinds,?_,?_,hkz,L.text,L.via,Du _,L.allows,L.denies,L.names⟩⟩
 ·rw[hp]at Y;have :=CV Y;simpa using this
 ·rw[hk1]at J;have J:((bif decide ((e.aU.length:Int)>0)then some true else some (decide ((e.aZ.length:Int)>0))).bind fun x31=>some x31)=some false:=J;cases q:decide ((e.aU.length:Int)>0)with
  |true=>rw[q]at J;cases J
  |false=>
   rw[q]at J;have q2:=CV J;have :=Je q;have :=Je q2;exact⟨Gf AA,Gf AA⟩
 ·show e.aU.length≤40;omega
 ·show e.aZ.length≤40;omega
 ·show e.Room.size≤2000;omega
 show e.aQ.size≤2000;omega
def aC0 {e:AL} (J:Vu e):∃c,Ym e=some c∧RG e=some c∧(c=0→V9 e∧Ea e):=by
 obtain⟨x,z,j⟩:=aaK J;unfold Ym RG;rw[z,j,AO,AO];cases u:x != 0 with
 |true=>exact⟨x,rfl,rfl,fun h=>by subst h;cases u⟩
 |false=>
  obtain rfl:x=0:=TP
  have L:=ajy J j;have hs:=L.small;have I:e.aQ.size≤2000:=hs.sender;rw[Aj,Aj,(aK8 hs).1,(aK8 hs).2,aW1 _ hs.content,aSZ];simp only[AO];rw[apO _ hs.content,ajg _ hs.content];simp only[AO]
  have key:∀v,∃c,Zq e v=some c∧lQ e v=some c∧(c=0→V9 e∧Ea e):=fun v=>by
   obtain⟨c,c1,c2⟩:=ajn hs v;refine⟨c,c1,c2,fun M=>⟨L,?_⟩⟩;subst M;unfold Zq at c1;obtain⟨_,c1⟩:=JC c1 BK;rw[(aCW hs).1,AO]at c1;obtain⟨_,c1⟩:=JC c1 BK;rw[(UM (s:=e.aQ) AA).1,AO]at c1;obtain⟨c3,_⟩:=JC (show(bif !((e.ng.Server.toList==(splitB e.aQ (J7 e.aQ)).2.1.toList)&&((e.ng.Sum==e.Id)&&true))then some 12 else some 0)=some (0:Int)from c1) BK
   have O:e.ng.Server=(splitB e.aQ (J7 e.aQ)).2.1:=by
    cases q:(e.ng.Server.toList==(splitB e.aQ (J7 e.aQ)).2.1.toList)with
    |true=>exact toList_inj (eq_of_beq q)
    |false=>rw[q]at c3;cases c3
   have U:=(aeH e.aQ I).2.2;exact⟨hs.prev,hs.auth,hs.allow,hs.deny,hs.users,hs.kinds,hs.room,hs.sender,hs.key,hs.text,hs.via,by rw[O];exact U,hs.allows,hs.denies,hs.names⟩
  cases(!(Oq e==e.Hash))with
  |true=>rw[Az,Az];exact key _
  |false=>rw[Aj,Aj];exact key _
def aGW {f g:(Int→Option Int)→Int→Option Int} (N lo:Nat) (hs:∀k k' (i:Nat),lo≤i→i<N→CJ (k ((i+1:Nat):Int)) (k' ((i+1:Nat):Int))→CJ (f k (i:Int)) (g k' (i:Int))) (z:∀k k',CJ (f k (N:Int)) (g k' (N:Int))):
 ∀n (i:Nat),lo≤i→i+n=N→∀m j,n<m→n<j→CJ (bI f m (i:Int)) (bI g j (i:Int)):=by
 intro n
 induction n with
 |zero=>
  intro i u hi m j I J;obtain⟨m,rfl⟩:∃q,m=q+1:=⟨m-1,AA⟩
  obtain⟨j,rfl⟩:∃q,j=q+1:=⟨j-1,AA⟩
  have :i=N:=AA
  subst this;exact z _ _
 |succ n L=>
  intro i u hi m j I J;obtain⟨m,rfl⟩:∃q,m=q+1:=⟨m-1,AA⟩
  obtain⟨j,rfl⟩:∃q,j=q+1:=⟨j-1,AA⟩
  exact hs _ _ i u AA (L (i+1) AA AA m j AA AA)
def lasts {R:Type} {body:(Int→Option R)→Int→Option R} {ok:R} (N:Nat) (O:N≤9223372036854775807) (P:Nat→Prop)
 (L:∀k (i:Nat),i<N→body k (i:Int)=some ok→P i∧k ((i+1:Nat):Int)=some ok) (q:Nat) (U:q≤N) (h:bI body Ag (q:Int)=some ok):(∀i,q≤i→i<N→P i)∧∃k,body k (N:Int)=some ok:=by
 have key:∀n (i:Nat) m,i+n=N→n<m→bI body m (i:Int)=some ok→(∀j,i≤j→j<N→P j)∧∃k,body k (N:Int)=some ok:=by
  intro n
  induction n with
  |zero=>
   intro i m hi hm z;obtain⟨m,rfl⟩:∃I,m=I+1:=⟨m-1,AA⟩
   have :i=N:=AA
   subst this;exact⟨fun j u J=>AA,_,z⟩
  |succ n M=>
   intro i m hi hm z;obtain⟨m,rfl⟩:∃I,m=I+1:=⟨m-1,AA⟩
   obtain⟨a,b⟩:=L (bI body m) i AA z;obtain⟨c,d⟩:=M (i+1) m AA AA b;refine⟨fun j u J=>?_,d⟩;rcases aPQ u with rfl|u
   ·exact a
   exact c j u J
 have Y:Ag=9223372036854775808:=rfl;exact key (N-q) q Ag AA AA h
def aXU {α:Type} {l:List α} {i:Nat} (h:i+1<l.length) (hl:l.length≤1000000):Af l (Ai (((i+1:Nat):Int)-1))=some l[i]:=by
 rw[show Ai (((i+1:Nat):Int)-1)=(i:Int) by rw[ay];omega,Bd AA]
def aok {l:List AL} (L:∀e∈l,Vu e) (hl:l.length≤1000):CJ (Md l) (OB l):=by
 by_cases I:l=[]
 ·subst I;exact⟨0,A8,A8⟩
 have q:0<l.length:=ig.2 I;have M:Ag=9223372036854775807+1:=rfl
 have O:CJ (aFR l 1) (aA0 l 1):=by
  unfold aFR aA0;refine aGW l.length 1 (fun k k' i z hi u=>?_) (fun k k'=>?_) (l.length-1) 1 (Dq _) AA Ag Ag AA AA
  ·obtain⟨i,rfl⟩:∃j,i=j+1:=⟨i-1,AA⟩
   unfold zy rQ;rw[Bo hi,dec_lt hi,Az,aXU hi AA,AO,AO,Bd hi,AO,wrap_succ (i+1) AA];show CJ (bif decide (l[i+1].Id≤l[i].Id)then some 8 else k _) (bif decide (l[i].Id≥l[i+1].Id)then some 8 else k' _);exact CJ.bif (fun _=>.ret _) fun _=>u
  unfold zy rQ;rw[Ce];exact .ret _
 have J:Af l 0=some l[0]:=Bd (i:=0) q
 have U:CJ (xZ l 0) (aBd l 1):=by
  have Y:∀k,Yr l k 0=k 1:=fun k=>by
   unfold Yr;rw[show decide ((0:Int)<(l.length:Int))=true by simpa using q,Az,J,AO,AO,KI];rfl
  have Z:xZ l 0=bI (Yr l) 9223372036854775807 1:=by
   unfold xZ;rw[M];exact Y _
  rw[Z];unfold aBd;refine aGW l.length 1 (fun k k' i z hi u=>?_) (fun k k'=>?_) (l.length-1) 1 (Dq _) AA _ Ag AA AA
  ·unfold Yr vM;rw[Bo hi,Bo hi,J,AO,AO,wrap_succ i AA];exact CJ.bif (fun _=>.ret _) fun _=>u
  unfold Yr vM;rw[Ce];exact O
 unfold Md OB;rw[H7 (show ¬(l.length:Int)>2000 by omega),Aj,Aj];unfold aPV zf;refine aGW l.length 0 (fun k k' i _ hi u=>?_) (fun k k'=>?_) l.length 0 (Dq _) AA Ag Ag AA AA
 ·unfold wY fC;obtain⟨c,c1,c2,_⟩:=aC0 (L _ (EJ hi));rw[Bo hi,Bo hi,c1,c2,AO,AO,wrap_succ i AA];exact CJ.bif (fun _=>.ret _) fun _=>u
 unfold wY fC;rw[Ce];exact U
structure Uy (l:List AL):Prop where
 ev:∀e∈l,V9 e∧Ea e
 room:∀x∈l,∀y∈l,x.Room=y.Room
 inc:Inc (l.map (·.Id))
def aer {f:Nat→Int}:∀(n i j:Nat),(∀k,i≤k→k<j→f k<f (k+1))→i+n=j→0<n→f i<f j:=by
 intro n
 induction n with
 |zero=>intro i j _ _ h;omega
 |succ n z=>
  intro i j h q _;rcases WT n with u|u
  ·subst u;rw[←q];exact h i (Dq _) AA
  have a:=h i (Dq _) AA;have b:=z (i+1) j (fun k J I=>h k AA I) AA u;omega
def ajN {l:List AL} (hw:∀e∈l,Vu e) (hl:l.length≤1000) (h:Md l=some 0):Uy l:=by
 unfold Md at h;rw[H7 (show ¬(l.length:Int)>2000 by omega),Aj]at h;unfold aPV at h
 obtain⟨p1,k1,h⟩:=lasts l.length AA (fun i=>∀x,l[i]? =some x→V9 x∧Ea x) (fun k i hi u=>by
  unfold wY at u;obtain⟨c,c1,_,c3⟩:=aC0 (hw _ (EJ hi));rw[Bo hi,c1,AO,wrap_succ i AA]at u;obtain⟨e,u⟩:=SQ u
  exact⟨fun x I=>by rw[D8 hi]at I;obtain rfl:=CV I;exact c3 e,u⟩) 0 (Du _) h
 unfold wY at h;rw[Ce,Aj]at h;unfold xZ at h
 obtain⟨p2,k2,h⟩:=lasts l.length AA (fun i=>∀x y,l[i]? =some x→l[0]? =some y→x.Room=y.Room) (fun k i hi u=>by
  unfold Yr at u;have g0:Af l 0=some l[0]:=Bd (i:=0) AA;rw[Bo hi,g0,AO,wrap_succ i AA]at u;obtain⟨e,u⟩:=JC u BK;refine⟨fun x y I J=>?_,u⟩;rw[D8 hi]at I;rw[D8 AA]at J;obtain rfl:=CV I;obtain rfl:=CV J
  exact toList_inj RY) 0 (Du _) h
 unfold Yr at h;rw[Ce,Aj]at h;refine⟨iV p1,fun x I y J=>?_,?_⟩
 ·have key:∀x∈l,∀y,l[0]? =some y→x.Room=y.Room:=iV fun i hi M x I y J=>p2 i hi M x y I J;have h0:0<l.length:=zl I;have Y:l[0]? =some l[0]:=D8 h0;rw[key x I _ Y,key y J _ Y]
 by_cases Z:l=[]
 ·subst Z;exact .nil
 have L:0<l.length:=ig.2 Z;unfold aFR at h
 obtain⟨p3,_⟩:=lasts l.length AA (fun i=>∀j x y,i=j+1→l[i]? =some x→l[j]? =some y→y.Id<x.Id) (fun k i hi u=>by
  unfold zy at u;rw[Bo hi]at u;obtain⟨z,hz,u⟩:=Dn u;obtain⟨e,u⟩:=JC u BK;rw[wrap_succ i AA]at u;refine⟨fun j x y O I J=>?_,u⟩;subst O;rw[aXU hi AA]at hz;rw[D8 hi]at I;rw[D8 AA]at J;obtain rfl:=CV I;obtain rfl:=CV J;obtain rfl:=CV hz
  have :=Je e;omega) 1 L h
 rw[Inc,Yp,IW];intro i j hi O hij
 have :=aer (f:=fun q=>(l.getD q Bv).Id) (j-i) i j (fun k h1 h2=>by
  have U:k+1<l.length:=AA
  have :=p3 (k+1) AA U k l[k+1] l[k] rfl (D8 U) (D8 AA)
  simpa[List.getD,D8 U,D8 (show k<l.length by omega)]using this) AA AA
 simpa[List.getD,D8 hi,D8 O]using this
def Uy.ok {l:List AL} (h:Uy l) (hl:l.length≤100):Ik l:=⟨hl,fun e j=>(h.ev e j).2,Tn h.inc,fun e j=>(h.ev e j).1.depth⟩
def aaE {l:List AL} (j:∀e∈l,Vu e) (hl:l.length≤100):∃c,Md l=some c∧OB l=some c∧(c=0→Uy l):=by
 obtain⟨c,c1,c2⟩:=aok j AA;exact⟨c,c1,c2,fun h=>ajN j AA (by rw[c1,h])⟩
def abb {l:List AL} (q:OB l=some 0) (hl:l.length≤100):∀x∈l,RG x=some 0:=by
 unfold OB at q;obtain⟨_,h⟩:=JC q BK;unfold zf at h
 obtain⟨z,_⟩:=lasts l.length AA (fun i=>∀x,l[i]? =some x→RG x=some 0) (fun k i hi j=>by
  unfold fC at j;rw[Bo hi]at j;obtain⟨y,I,j⟩:=Dn j;obtain⟨e,j⟩:=SQ j;subst e;rw[wrap_succ i AA]at j
  exact⟨fun x u=>by rw[D8 hi]at u;obtain rfl:=CV u;exact I,j⟩) 0 (Du _) h
 exact iV z
def KA (x:DR):JU:=⟨x.id,x.before,x.after,x.err⟩
def Tm (t:List DR) (x:Int):JU×Bool:=match EN t x with
 |some y=>(KA y,true)
 |none=>(fU,false)
def aSr (t:List DR) (x:Int):(Tm t x).1.After=H8 t x:=by unfold Tm H8;cases EN t x<;>rfl
def ady (t:List DR) (x:Int):(Tm t x).1.Err=errOf t x:=by unfold Tm errOf;cases EN t x<;>rfl
def aCV (t:List DR) (x:Int) (ht:t.length≤1000000):yC (t.map KA) x=some (Tm t x):=by
 unfold yC aRE;have hm:(t.map KA).length=t.length:=CG ..;refine dL.eq (Z8 (body:=aLz (t.map KA) x) (Q:=(· =Tm t x)) (fun n a _=>∃i:Nat,a=i∧i+n=t.length∧∀j,(q:j<i)→(hl:j<t.length)→¬(t[j].id==x)=true) ?_ Ag t.length 0 _ (fuel_lt AA) ⟨0,rfl,AA,fun j q=>AA⟩);rintro n a b k ⟨i,rfl,O,z⟩ L;unfold aLz;by_cases hi:i<t.length
 ·have u:i<(t.map KA).length:=AA
  rw[Bo u,Bd u,AO,Og];show dL (bif t[i].id==x then some (KA t[i],true)else k _ b) _;cases J:t[i].id==x with
  |true=>
   have I:EN t x=some t[i]:=by
    unfold EN;rw[List.find?_eq_some_iff_getElem];exact⟨J,i,hi,rfl,fun j q=>by have :=z j q AA;simpa using this⟩
   exact .ret (by unfold Tm;rw[I])
  |false=>
   refine L (n-1) _ _ AA ⟨i+1,wrap_succ i AA,AA,fun j q hl=>?_⟩;by_cases e:j=i
   ·subst e;rw[J];simp
   exact z j AA hl
 have :i=t.length:=AA
 subst this;rw[←hm,Ce]
 have I:EN t x=none:=by
  unfold EN;rw[VU];intro y M;obtain⟨j,q,rfl⟩:=Fv M;exact z j q q
 exact .ret (by unfold Tm;rw[I])
def aaq (t:List JU) (x:Int):aMC t x=yC t x:=rfl
def acJ (l:List AL) (t:List DR) (e:AL) (s:List Ah) (hl:l.length≤100) (hs:D5 l) (z:Ea e) (M:s.length≤100) (ht:t.length≤1000):aAW l (t.map KA) e s=some (KD l t e s):=by
 have Z:=z.auth;have h2:=mF l s
 have I:∀v,aBy e (t.map KA) l s v=some (bif v != 0 then v else bif e.aZ.any (fun x=>errOf t x != 0)then 16 else GY e (EW l s)):=fun v=>by
  unfold aBy aUw
  refine dL.eq (J5 e.aZ.length (fuel_lt AA) (fun i a=>a=bif v != 0 then v else bif (e.aZ.take i).any (fun x=>errOf t x != 0)then 16 else 0) (by cases q:v != 0 with
   |true=>rfl
   |false=>exact MV) (fun i a k hi ha J=>?_) fun a k ha=>?_)
  ·unfold aIJ aKq;rw[Bo hi,aaq,aCV _ _ AA,AO,ady,wrap_succ i AA];have O:(bif a==0 then some (errOf t e.aZ[i] != 0)else some false)=some (a==0&&errOf t e.aZ[i] != 0):=by cases a==0<;>rfl
   rw[O,AO]
   have j:∀b:Int,b=(bif a==0&&errOf t e.aZ[i] != 0 then 16 else a)→b=bif v != 0 then v else bif (e.aZ.take (i+1)).any (fun x=>errOf t x != 0)then 16 else 0:=fun b U=>by
    rw[sS hi,U,ha];cases q:v != 0 with
    |true=>
     have :(v==0)=false:=MV
     simp only[Az,this,aPv,Aj]
    |false=>
     simp only[Aj];cases(e.aZ.take i).any (fun x=>errOf t x != 0)<;>cases errOf t e.aZ[i] != 0<;>rfl
   cases L:(a==0&&errOf t e.aZ[i] != 0)with
   |true=>exact J _ (j 16 (by rw[L];rfl))
   |false=>exact J _ (j a (by rw[L];rfl))
  unfold aIJ;rw[Ce,Aj,ha,FV,aQL l s hl AA,AO,aDw e (EW l s) AA (aDn hs _) z];cases q:v != 0 with
  |true=>simp only[Az,q];exact .ret rfl
  |false=>
   cases e.aZ.any (fun x=>errOf t x != 0)with
   |true=>exact .ret rfl
   |false=>exact .ret rfl
 unfold aAW KD Vp;rw[apu l e hl z,AO,aVN l e AA AA,AO,aDw e _ (Ed (zI l e) AA) (hs.from e) z,AO,I,I];have u:(Nq l e != 0)= !(Nq l e==0):=rfl;rw[u];cases Y:Nq l e==0 with
 |true=>rfl
 |false=>rw[Io,Az,Az,u,Y];rfl
def aNK (l:List AL):∀(ids:List Int) (t:List DR),(ids.foldl (fun t id=>t++[Hg l t (ev l id)]) t).length=t.length+ids.length
 | [],t=>rfl
 |x::ids,t=>by rw[F5,aNK l ids,EI,G7];simp;omega
def al7 {l:List AL} (h:Ik l):aHo l=some ((Bz l).map KA):=by
 have hl:=h.len;have hs:=h.small;have M:=aK2 l;unfold aHo;rw[adg l AA,AO];unfold Bz;generalize GV l=ids at M;unfold aSc;refine dL.eq (J5 ids.length (fuel_lt AA) (fun i a=>a=(Gh l (ids.take i)).map KA) rfl (fun i a k hi ha hk=>?_) fun a k ha=>?_)
 ·have ht:Ku l (Gh l (ids.take i)):=nY hl hs _ _ fun y O=>absurd O Ei
  have U:(Gh l (ids.take i)).length≤100:=by
   have :=aNK l (ids.take i) [];unfold Gh;rw[this,FD,LY];omega
  have q:=aAj l hi;have he:=aAS hs ids[i];have Y:=he.prev;generalize Gh l (ids.take i)=t at ha ht U q;subst ha;unfold aIV;rw[Bo hi,KR l _ AA,AO];have I:(Fz l ids[i]).1=ev l ids[i]:=rfl;unfold aaW;refine QU (body:=aLm (Fz l ids[i]) l k (i:Int)) (Q:=_) (fun n a b c=>∃j:Nat,b=j∧j+n=(ev l ids[i]).aU.length∧c=t.map KA∧a=((ev l ids[i]).aU.take j).map (H8 t)) ?_ Ag (ev l ids[i]).aU.length [] 0 (t.map KA) (fuel_lt AA) ⟨0,rfl,AA,rfl,rfl⟩;rintro n a b c k2 ⟨j,rfl,hn,rfl,ha⟩ Z;unfold aLm;rw[I];by_cases hj:j<(ev l ids[i]).aU.length
  ·have hal:a.length≤j:=gZ
   rw[Bo hj,aaq,aCV _ _ AA,AO,aSr,D6 Fa,AO,wrap_succ j AA];exact Z (n-1) _ _ _ AA ⟨j+1,rfl,AA,rfl,by rw[map_take hj,ha]⟩
  have :j=(ev l ids[i]).aU.length:=AA
  subst this;rw[FV]at ha;subst ha;rw[Ce,Aj];have hp:=ht.stB hl hs Y;have J:=hp.length
  have hJ:dL (zZ l (Fz l ids[i]) k (i:Int) (t.map KA) ⟨(ev l ids[i]).Id,stB l t (ev l ids[i]),[],0⟩) (fun x=>x=(Gh l ids).map KA):=by
   unfold zZ;rw[I];show dL ((aAW l (t.map KA) (ev l ids[i]) (stB l t (ev l ids[i]))).bind _) _;rw[acJ l t (ev l ids[i]) _ hl hs he AA AA,AO];have u:Hg l t (ev l ids[i])=WG (ev l ids[i]) (stB l t (ev l ids[i])) (KD l t (ev l ids[i]) (stB l t (ev l ids[i]))):=rfl;rw[u]at q;generalize KD l t (ev l ids[i]) (stB l t (ev l ids[i]))=r at q;generalize stB l t (ev l ids[i])=s at q J
   have L:∀y:DR,y=WG (ev l ids[i]) s r→dL (aEr k (i:Int) (t.map KA) (KA y)) (fun x=>x=(Gh l ids).map KA):=fun y O=>by
    unfold aEr;rw[D6 (by simp only[O6,CG];omega),AO,wrap_succ i AA];exact hk _ (by rw[q,O,KL];rfl)
   show dL ((bif r==0 then(TN (ev l ids[i]).Kind).bind fun z=>some z else some false).bind _) _;rw[sK,show(bif r==0 then(some (GZ (ev l ids[i]).Kind)).bind fun z=>some z else some false)=some (r==0&&GZ (ev l ids[i]).Kind) by cases r==0<;>rfl,AO];cases hc:(r==0&&GZ (ev l ids[i]).Kind)with
   |true=>
    rw[Az];show dL ((iT s (ev l ids[i]).Kind (ev l ids[i]).Key (ev l ids[i]).Id).bind _) _;rw[aIq _ _ _ _ AA,AO];exact L ⟨(ev l ids[i]).Id,s,Ey s (ev l ids[i]).Kind (ev l ids[i]).Key (ev l ids[i]).Id,r⟩ (by unfold WG;rw[hc];rfl)
   |false=>
    rw[Aj];exact L ⟨(ev l ids[i]).Id,s,s,r⟩ (by unfold WG;rw[hc];rfl)
  by_cases hz:(ev l ids[i]).aU=[]
  ·have hst:stB l t (ev l ids[i])=[]:=by unfold stB;rw[hz];rfl
   rw[hst]at hJ;rw[hz];exact hJ
  have hpos:0<(ev l ids[i]).aU.length:=ig.2 hz;rw[Gi VT,Az,aYo (ht.okay hl hs _ AA),AO];exact hJ
 unfold aIV;rw[Ce];exact .ret ZQ
def aWs (l:List AL) (t:List DR) (hl:l.length≤1000) (ht:t.length≤1000):aIM l (t.map KA)=some (Dk l t):=by
 unfold aIM aR5;refine dL.eq (J5 l.length (fuel_lt AA) (fun i a=>a=Dk (l.take i) t) rfl (fun i a k hi ha q=>?_) fun a k ha=>?_)
 ·have z:a.length≤i:=aWf
  unfold aJa aL6;have j:(bif (Tm t l[i].Id).2 then some ((Tm t l[i].Id).1.Err==0)else some false)=some (JR t l[i].Id):=by unfold Tm JR;cases EN t l[i].Id<;>rfl
  rw[Bo hi,aCV _ _ AA,AO,j,AO,wrap_succ i AA];cases u:JR t l[i].Id with
  |true=>
   rw[Az,Bd hi,AO,D6 Fa,AO];exact q _ (by rw[aB9 hi,u,ha];rfl)
  |false=>exact q _ (by rw[aB9 hi,u,ha];simp)
 unfold aJa;rw[Ce];exact .ret ZQ
def adL (l:List AL) (t:List DR) (hl:l.length≤100) (hs:D5 l) (ht:Ku l t) (j:t.length≤1000):aMl l (t.map KA)=some (En l t):=by
 have ha:=Ug l t;have q:=Y2 l (Dk l t);unfold aMl aF4 En;rw[aWs l t AA j,AO,aWN l _ AA hs AA,AO,AO];generalize Fr l (Dk l t)=H at q;unfold aTR;refine dL.eq (J5 H.length (fuel_lt AA) (fun i a=>a=(H.take i).map (H8 t)) rfl (fun i a k hi ha u=>?_) fun a k ha=>?_)
 ·have z:a.length≤i:=gZ
  unfold aOw;rw[Bo hi,aCV _ _ AA,AO,aSr,D6 Fa,AO,wrap_succ i AA];exact u _ vU
 rw[FV]at ha;unfold aOw;rw[Ce,Aj,ha,aYo (ht.okay hl hs _ AA),AO];cases H with
 |nil=>exact .ret rfl
 |cons x H=>exact .ret rfl
def aT8 {l:List AL} {c:Int} (u:OB l=some c) (h:c=0→Ik l):sN l=some ((Iz l c).map KA)∧Ku l (Iz l c)∧(Iz l c).length≤l.length:=by
 unfold sN xF Iz;rw[u,AO];cases z:c==0 with
 |false=>exact⟨rfl,fun y q=>absurd q Ei,Du _⟩
 |true=>
  have j:=h (eq_of_beq z);have hlen:(Bz l).length=l.length:=by rw[←aK2 l];have :=aNK l (GV l) [];simpa[Bz,Gh]using this
  rw[Az,aTh l j.len j.small j.dep,AO,AO,AO,GL];cases hd:H6 l==0 with
  |false=>exact⟨rfl,fun y q=>absurd q Ei,Du _⟩
  |true=>
   rw[EF,Aj,al7 j,AO,Az];exact⟨rfl,aFw j,Yc hlen⟩
def aSE {l:List AL} {c:Int} (j:OB l=some c) (h:c=0→Ik l) (hl:l.length≤100) (hs:D5 l):Z9 l=some (En l (Iz l c)):=by
 obtain⟨q,u,z⟩:=aT8 j h;unfold Z9;rw[q,AO,adL l _ hl hs u AA];rfl
def aIx (t:List DR) (x:Int):List Ah×Int:=match EN t x with
 |some y=>(y.before,bif y.err != 0 then 2 else 4)
 |none=>([],0)
def bQ (t:List DR) (x:Int):Int:=match EN t x with
 |some y=>y.err
 |none=>5
section
variable {l : List AL} {c : Int}
def ahf (u:Md l=some c) (h:c=0→Ik l) (id:Int):aP0 l id=some (aIx (Iz l c) id):=by
 unfold aP0;refine dL.eq ((run_eq l u h).bind fun o z=>?_);rcases z with⟨j,rfl⟩|⟨j,_,T,rfl,q⟩
 ·rw[j];exact .ret rfl
 rw[j];simp only[Xr];unfold uX aXM aIx;rw[q.r,q.b];cases EN (Bz l) id with
 |none=>exact .ret rfl
 |some y=>
  show dL ((bif y.err != 0 then some 2 else some 4).bind fun I=>some (y.before,I)) (fun r=>r=(y.before,bif y.err != 0 then 2 else 4));cases y.err != 0<;>exact .ret rfl
def ajs (q:Md l=some c) (h:c=0→Ik l) (id:Int):Wh l id=some (bQ (Iz l c) id):=by
 unfold Wh;refine dL.eq ((run_eq l q h).bind fun o u=>?_);rcases u with⟨j,rfl⟩|⟨j,_,T,rfl,z⟩
 ·rw[j];exact .ret rfl
 rw[j];simp only[Xr];unfold uX bQ;rw[z.r];cases EN (Bz l) id<;>exact .ret rfl
def afn (u:Md l=some c) (h:c=0→Ik l):uK l=some (Dk l (Iz l c)):=by
 unfold uK;refine dL.eq ((run_eq l u h).bind fun o j=>?_);rcases j with⟨q,rfl⟩|⟨q,j,T,rfl,z⟩
 ·rw[q,aEv];exact .ret rfl
 rw[q];show dL ((Zn T.1 T.2.1 T.2.2 l).bind _) _;rw[aTt z j.len];exact .ret rfl
end
def acT {l:List AL} {c:Int} (q:OB l=some c) (h:c=0→Ik l):xF l=some (c==0&&H6 l==0):=by
 unfold xF;rw[q,AO];cases u:c==0 with
 |false=>rfl
 |true=>
  have j:=h (eq_of_beq u);rw[Az,aTh l j.len j.small j.dep];rfl
def aCT {l:List AL} (hd:H6 l=0):Iz l 0=Bz l:=by unfold Iz;rw[hd];rfl
def QX (l:List AL) (e:AL):Nat:=l.findIdx fun x=> !decide (x.Id<e.Id)
def Et (l:List AL) (e:AL):List AL:=l.take (QX l e)++e::l.drop (QX l e)
def aBX (e x:AL):Bool:= !(x.Room.toList==e.Room.toList)
def ahQ (l:List AL) (e:AL):QX l e≤l.length:=iQ
def aQj (l:List AL) (e:AL):(Et l e).length=l.length+1:=by
 have :=ahQ l e;unfold Et;rw[EI,G7,FD,IV];omega
def V6 {l:List AL} {e x:AL}:x∈Et l e↔x=e∨x∈l:=by
 unfold Et;rw[Hd,EX];constructor
 ·rintro(h|h|h)
  ·exact .inr (YC h)
  ·exact .inl h
  exact .inr (dh h)
 rintro(h|h)
 ·exact .inr (.inl h)
 rw[←Qb (QX l e) l]at h;rcases Hd.1 h with h|h
 ·exact .inl h
 exact .inr (.inr h)
section
variable {l : List AL} {e : AL} (hl : l.length ≤ 1000)
include hl
theorem agR :bZ l e=bif l.any (aBX e)then some ([],13)else(bif bW l e.Id then(Uz e).bind fun q=>(bif q then(Af l ((l.findIdx fun x=>x.Id==e.Id:Nat):Int)).bind fun I=>(Uz I).bind fun J=>some (!J)else some false).bind fun j=>some ((bif j then l.set (l.findIdx fun x=>x.Id==e.Id) e else l),0)else some (Et l e,0)):=by
 have u:tZ l=some l:=by
  unfold tZ;rw[D6 UE];rfl
 have z:iP l e.Id=some (if l.findIdx (fun x=>x.Id==e.Id)<l.length then((l.findIdx (fun x=>x.Id==e.Id):Nat):Int)else -1):=by
  unfold iP uj;rw[Rep l AA _ (fun x=>x.Id==e.Id) fun _=>rfl];rfl
 have L:aNN l l e 0=some (Et l e,0):=by
  have U:∀i:Nat,i≤l.length→(aDE l (i:Int) [e]).bind (fun O=>some (O,(0:Int)))=some (l.take i++e::l.drop i,0):=fun i hi=>by
   have Y:aFU l (i:Int) [e]=some (l.take i++e::l.drop i):=by
    show(if(0≤(i:Int)∧(i:Int)≤(l.length:Int))∧l.length≤34359738368 then some (l.take (i:Int).toNat++e::l.drop (i:Int).toNat)else none)=_;rw[CS ⟨⟨AA,AA⟩,AA⟩,Us]
   unfold aDE;rw[Y];rfl
  unfold aNN;rw[Jc l (fuel_lt AA) (fun x=> !decide (x.Id<e.Id)) (fun i=>some (l.take i++e::l.drop i,(0:Int))) (some (l.take l.length++e::l.drop l.length,0))]
  ·unfold Et QX;split
   ·rfl
   rename_i Z;have :=iQ (xs:=l) (p:=fun x=> !decide (x.Id<e.Id));rw[show l.findIdx (fun x=> !decide (x.Id<e.Id))=l.length by omega]
  ·intro k i h;unfold aLj wV;rw[Bo h,U i AA];cases decide (l[i].Id<e.Id)<;>rfl
  intro k;unfold aLj wV;rw[Ce,Aj,Aj,U l.length (Dq _)]
 unfold bZ aR4;rw[Gs l (fuel_lt AA) (aBX e) ([],13) (bif bW l e.Id then(Uz e).bind fun q=>(bif q then(Af l ((l.findIdx fun x=>x.Id==e.Id:Nat):Int)).bind fun I=>(Uz I).bind fun J=>some (!J)else some false).bind fun j=>some ((bif j then l.set (l.findIdx fun x=>x.Id==e.Id) e else l),0)else some (Et l e,0))]
 ·intro k i h;unfold aOs;rw[Bo h];rfl
 intro k;unfold aOs;rw[Ce,Aj,z,AO,u,AO,L]
 have M:bW l e.Id=decide (l.findIdx (fun x=>x.Id==e.Id)<l.length):=by
  unfold bW Dw;rw[Jq,List.find?_isSome,Gg,gW]
 rw[M];by_cases h:l.findIdx (fun x=>x.Id==e.Id)<l.length
 ·rw[CS h,Gi h,H7 (show ¬(((l.findIdx (fun x=>x.Id==e.Id):Nat):Int)<0) by omega),Gi (show((l.findIdx (fun x=>x.Id==e.Id):Nat):Int)≥0 by omega)];simp only[Aj,Az,AO];unfold aBI;congr 1;funext q;congr 1;funext j;cases j with
  |true=>rw[Az,Bd h,Us];rfl
  |false=>rfl
 rw[CY h,H7 h,Gi (show(-1:Int)<0 by omega),H7 (show ¬((-1:Int)≥0) by omega),H7 (show ¬((l.length:Int)≥2000) by omega)];rfl
end
def agS {l k:List AL} (u:(l.map (·.Id)).Nodup) (L:(k.map (·.Id)).Nodup) (hd:H6 l=0) (hs:∀e∈l,∃f∈k,f.Id=e.Id∧Le e f):Gl l k (l.map (·.Id)):=by
 have q:∀x∈l.map (·.Id),ev l x∈l:=fun x j=>I9 (GH (NY.2 j)).1;refine⟨u,fun x j=>?_,fun x j a ha=>NY.1 ((Xu hd (q x j)).2 a ha).1,fun x j a ha=>NY.1 ((Xu hd (q x j)).1 a ha).1⟩;obtain⟨e,z,rfl⟩:=E5.1 j;obtain⟨f,I,J,M⟩:=hs e z;have O:ev l e.Id=e:=rX u z;have U:ev k e.Id=f:=by rw[←J];exact rX L I
 rw[O,U];exact⟨NY.2 j,NY.2 (E5.2 ⟨f,I,J⟩),M⟩
end Go.Proofs.YtkkdimcnpacjhaaGreat
end
section
namespace Go.Proofs.YtkkdimcnpacjhaaGreat
open Go.RowKit
set_option maxHeartbeats 1000000
def aHG {α:Type} (f:α→Int):∀L:List α,L≠[]→∃x∈L,∀y∈L,f y≤f x
 | [],h=>absurd rfl h
 | [a],_=>⟨a,EU ..,fun y j=>by rw[IY.1 j];exact Yk _⟩
 |a::b::L,_=>by
  obtain⟨x,q,h⟩:=aHG f (b::L) (aHQ _ _);by_cases u:f x≤f a
  ·refine⟨a,EU ..,fun y j=>?_⟩;rcases EX.1 j with rfl|j
   ·exact Yk _
   exact Int.le_trans (h y j) u
  refine⟨x,FB _ q,fun y j=>?_⟩;rcases EX.1 j with rfl|j
  ·omega
  exact h y j
def aNi {l:List AL} {ids:List Int} {x:Int}:x∈Fr l ids↔x∈ids∧∀y∈ids,Il l x y=false:=by
 unfold Fr;rw[FU,IQ,MF,lU];exact⟨fun⟨a,b⟩=>⟨a,fun y j=>by simpa using b y j⟩,fun⟨a,b⟩=>⟨a,fun y j=>by simp[b y j]⟩⟩
def aS9 (l:List AL) (ids:List Int):Inc (Fr l ids):=(Jo ids).sublist Qp
def aam {l:List AL} (hd:H6 l=0) {ids:List Int} {x:Int} (j:x∈ids) (h:∀y∈ids,(ev l y).Depth≤(ev l x).Depth):x∈Fr l ids:=by
 refine aNi.2 ⟨j,fun y q=>?_⟩;unfold Il;cases u:bW l y with
 |false=>rfl
 |true=>
  cases z:D9 (ev l y).aU x with
  |false=>rw[GL,Bool.and_false]
  |true=>
   have :=((Xu hd (I9 (GH u).1)).2 x (JY.1 z)).2;have :=h y q;omega
def aHz {l:List AL} (hd:H6 l=0) {ids:List Int} (h:ids≠[]):Fr l ids≠[]:=by
 obtain⟨x,j,hm⟩:=aHG (fun y=>(ev l y).Depth) ids h;exact fun e=>by have :=aam hd j hm;rw[e]at this;cases this
def adG {α:Type} {lt:α→α→Bool} (hi:∀a,lt a a=false) (ha:∀a b,lt a b=true→lt b a=false) {S:List α} (h:S.Pairwise fun a b=>lt a b=true) {i:Nat} (hl:i<S.length):(S.filter (lt S[i])).length=S.length-1-i:=by
 have e:S=S.take (i+1)++S.drop (i+1):=(Qb ..).symm;have hp:=h;rw[e,Ur]at hp
 have I:(S.take (i+1)).filter (lt S[i])=[]:=by
  rw[og];intro a u;obtain⟨j,z,rfl⟩:=Fv u;rw[FD]at z;rw[WJ];rcases XV j i with q|q
  ·rw[ha _ _ (IW.1 h j i AA hl q)];exact aOc
  have :j=i:=AA
  subst this;rw[hi];exact aOc
 have J:(S.drop (i+1)).filter (lt S[i])=S.drop (i+1):=by
  rw[dW];intro a u;obtain⟨j,z,rfl⟩:=Fv u;rw[IV]at z;rw[Xv];exact IW.1 h i (i+1+j) hl AA AA
 have L:S.filter (lt S[i])=S.drop (i+1):=by
  generalize S[i]=x at I J
  calc S.filter (lt x)=(S.take (i+1)++S.drop (i+1)).filter (lt x):=by rw[Qb]
   _=S.drop (i+1):=by rw[Ol,I,J,II]
 rw[L,IV];omega
def Uj (l:List AL) (hs:List Int) (x:Int):Nat:=(hs.filter fun y=>GN (ev l x) (ev l y)).length
def JF (l:List AL) (hs:List Int):List Int:=hs.filter fun x=>decide (Uj l hs x<10)
def ai6 {l:List AL} {hs:List Int} (h:Inc hs):Inc (JF l hs):=h.sublist Qp
def Wj {l:List AL}:∀{hs:List Int},(∀x∈hs,bW l x=true)→ofIds l hs=hs.map (ev l)
 | [],_=>rfl
 |x::hs,h=>by
  have j:=Wj (hs:=hs) fun y q=>h y (FB _ q);unfold ofIds at j ⊢;rw[MP,(GH (h x (EU ..))).1,j];rfl
def aWV (a:AL):GN a a=false:=by unfold GN;simp
def anq (a b:AL) (h:GN a b=true):GN b a=false:=by
 unfold GN at *;simp only[XJ,Gg,CW,Lm]at h;rw[X4,fP,P8,P8,Oz];omega
def aFD {l:List AL} {hs:List Int} (q:∀x∈hs,bW l x=true) {S:List AL} (hp:S.Perm (ofIds l hs)) (I:S.Pairwise fun a b=>GN a b=true) {i:Nat} (hi:i<S.length):ev l S[i].Id=S[i]∧S[i].Id∈hs∧Uj l hs S[i].Id=S.length-1-i:=by
 have hm:S[i]∈ofIds l hs:=hp.mem_iff.1 (EJ hi);rw[Wj q]at hm hp;obtain⟨x,u,e⟩:=E5.1 hm;have j:S[i].Id=x:=by rw[←e];exact(GH (q x u)).2
 have z:ev l S[i].Id=S[i]:=by rw[j];exact e
 refine⟨z,by rw[j];exact u,?_⟩;unfold Uj;rw[z];have J:(hs.filter fun y=>GN S[i] (ev l y)).length=((hs.map (ev l)).filter (GN S[i])).length:=by rw[List.filter_map,CG];rfl
 rw[J,←(hp.filter _).length_eq,adG aWV anq I hi]
def aU8 {l:List AL} {hs:List Int} (M:Inc hs) (z:∀x∈hs,bW l x=true) {S:List AL} (hp:S.Perm (ofIds l hs)) (J:S.Pairwise fun a b=>GN a b=true):EG ((S.drop (S.length-10)).map (·.Id))=JF l hs:=by
 refine Ak (Jo _) (ai6 M) fun x=>?_;unfold JF;rw[IQ,FU,Gg,E5];constructor
 ·rintro⟨e,O,rfl⟩;obtain⟨j,U,rfl⟩:=Fv O;rw[IV]at U;rw[Xv];obtain⟨_,Y,I⟩:=aFD z hp J (i:=S.length-10+j) AA;exact⟨Y,by rw[I];omega⟩
 rintro⟨L,hm⟩;have q:ev l x∈S:=by rw[hp.mem_iff,Wj z];exact E5.2 ⟨x,L,rfl⟩
 have u:=(GH (z x L)).2;obtain⟨i,hi,e⟩:=Fv q;obtain⟨_,_,I⟩:=aFD z hp J hi;rw[e,u]at I;refine⟨ev l x,?_,u⟩;have :i-(S.length-10)<(S.drop (S.length-10)).length:=aDa
 refine aMv.2 ⟨i-(S.length-10),this,?_⟩;rw[Xv,←e];congr 1;omega
def amd {l:List AL} {hs:List Int} (h:hs.length≤10):JF l hs=hs:=by
 unfold JF;rw[dW];intro x j;rw[Gg];unfold Uj
 have q:(hs.filter fun y=>GN (ev l x) (ev l y)).length<hs.length:=by
  refine Nat.lt_of_le_of_ne (JH _ _) fun e=>?_;have :=aYi.1 e x j;rw[aWV]at this;cases this
 omega
def acV {l:List AL} {hs:List Int} (u:Inc hs) (j:∀x∈hs,bW l x=true) {S:List AL} (hp:S.Perm (ofIds l hs)) (z:S.Pairwise fun a b=>GN a b=true):(JF l hs).length=min hs.length 10:=by
 have hlen:S.length=hs.length:=by rw[hp.length_eq,Wj j,CG]
 have I:((S.drop (S.length-10)).map (·.Id)).Nodup:=by
  have :(S.map (·.Id)).Nodup:=by
   have J:(S.map (·.Id)).Perm hs:=by
    refine(hp.map _).trans ?_;rw[Wj j,Uh]
    rw[show hs.map ((·.Id)∘ev l)=hs from by
     conv=>rhs;rw[←aCj hs]
     exact XZ fun x q=>(GH (j x q)).2]
   exact J.nodup_iff.2 (Tn u)
  exact this.sublist ((nN _ _).map _)
 rw[←aU8 u j hp z]
 have L:(EG ((S.drop (S.length-10)).map (·.Id))).length=((S.drop (S.length-10)).map (·.Id)).length:=
  Nat.le_antisymm (KJ _) (rO I fun x q=>IQ.2 q)
 rw[L,CG,IV];omega
def Qi (l:List AL) (ids:List Int):Int:=ids.foldl (fun d x=>max d ((ev l x).Depth+1)) 0
def foldl_max {α:Type} (f:α→Int):∀(L:List α) (a:Int),a≤L.foldl (fun d x=>max d (f x)) a∧(∀x∈L,f x≤L.foldl (fun d x=>max d (f x)) a)∧(L.foldl (fun d x=>max d (f x)) a=a∨∃x∈L,L.foldl (fun d x=>max d (f x)) a=f x)
 | [],a=>⟨Yk _,fun x h=>absurd h Ei,.inl rfl⟩
 |y::L,a=>by
  obtain⟨z,I,j⟩:=foldl_max f L (max a (f y));rw[F5];have J:a≤max a (f y):=Int.le_max_left ..;have M:f y≤max a (f y):=Int.le_max_right ..;refine⟨Int.le_trans J z,fun x u=>?_,?_⟩
  ·rcases EX.1 u with rfl|u
   ·exact Int.le_trans M z
   exact I x u
  rcases j with j|⟨x,u,j⟩
  ·rcases Int.le_total a (f y)with q|q
   ·exact .inr ⟨y,EU ..,by rw[j,Int.max_eq_right q]⟩
   exact .inl (by rw[j,Int.max_eq_left q])
  exact .inr ⟨x,FB _ u,j⟩
def adJ {α β:Type} {f:α→Int} {g:β→Int} {L:List α} {M:List β} {a b:Int} (j:L≠[]) (O:∀x∈L,∃y∈M,f x=g y) (h2:∀y∈M,∃x∈L,f x=g y) (ha:∀x∈L,a≤f x) (hb:∀y∈M,b≤g y):L.foldl (fun d x=>max d (f x)) a=M.foldl (fun d x=>max d (g x)) b:=by
 obtain⟨p1,U,p3⟩:=foldl_max f L a;obtain⟨q1,Y,q3⟩:=foldl_max g M b;obtain⟨z,q⟩:=aXj _ j;obtain⟨w,Z,ew⟩:=O z q;have r1:=U z q;have r2:=ha z q;have r3:=Y w Z;have r4:=hb w Z
 have le1:L.foldl (fun d x=>max d (f x)) a≤M.foldl (fun d x=>max d (g x)) b:=by
  rcases p3 with e|⟨x,u,e⟩
  ·rw[e];omega
  obtain⟨y,I,J⟩:=O x u;rw[e,J];exact Y y I
 have I4:M.foldl (fun d x=>max d (g x)) b≤L.foldl (fun d x=>max d (f x)) a:=by
  rcases q3 with e|⟨y,I,e⟩
  ·rw[e];omega
  obtain⟨x,u,J⟩:=h2 y I;rw[e,←J];exact U x u
 omega
def LW (s:List Ah) (k:Ah):Option Int:=(s.find? fun x=>El x k).map (·.Id)
def LV (e:AL) (s:List Ah):List Int:=EG ((keysOf e).filterMap (LW s))
def afJ (e:AL) (s:List Ah):Inc (LV e s):=Jo _
def af8 (e:AL) (s:List Ah):(LV e s).length≤5:=by
 have j:=KJ ((keysOf e).filterMap (LW s));have q:=aIA (LW s) (keysOf e);have u:=QI e;unfold LV;omega
def aWy {e:AL} {s:List Ah} {a:Int}:a∈LV e s↔∃k∈keysOf e,∃x,s.find? (fun x=>El x k)=some x∧x.Id=a:=by
 unfold LV LW;rw[IQ,Tj];constructor
 ·rintro⟨k,j,h⟩;obtain⟨x,q,e⟩:=Rw.1 h;exact⟨k,j,x,q,e⟩
 rintro⟨k,j,x,q,e⟩;exact⟨k,j,Rw.2 ⟨x,q,e⟩⟩
def aRV {α:Type} {p:α→Bool} {L:List α} {x:α} (j:x∈L) (hp:p x=true) (q:∀y∈L,p y=true→y=x):L.find? p=some x:=by
 cases h:L.find? p with
 |none=>exact absurd hp (VU.1 h x j)
 |some y=>rw[q y (O7 h) (by simpa using VP h)]
def aGv {s:List Ah} (h:JB s):∀x∈s,∀y∈s,El x y=true→x=y:=by
 induction s with
 |nil=>exact fun x J=>absurd J Ei
 |cons a s O=>
  obtain⟨U,Y⟩:=OC.1 h;intro x J y Z hs
  have q:∀z∈s,El a z=false:=fun z hz=>by
   cases hq:El a z with
   |false=>rfl
   |true=>have :=U z hz;rw[dn hq]at this;cases this
  have j:El y x=true:=by rw[NQ]at *;exact⟨hs.1.symm,hs.2.symm⟩
  rcases EX.1 J with L|u<;>rcases EX.1 Z with M|I
  ·rw[L,M]
  ·rw[L,q y I]at hs;cases hs
  ·rw[M,q x u]at j;cases j
  exact O Y x u y I hs
structure aVy (e:AL) (X Y:List AL):Prop where
 c:X.find? (fun x=>x.Kind==1)=Y.find? (fun x=>x.Kind==1)
 p:X.find? (fun x=>x.Kind==3)=Y.find? (fun x=>x.Kind==3)
 s:X.find? (Jb e.aQ)=Y.find? (Jb e.aQ)
 k:e.Kind=2→X.find? (Jb e.Key)=Y.find? (Jb e.Key)
 r:e.Kind=2→e.Content.N=3∨e.Content.N=2→X.find? (fun x=>x.Kind==4)=Y.find? (fun x=>x.Kind==4)
def al3 {α:Type} {p:α→Bool} {X Y:List α} (h:X.find? p=Y.find? p):X.any p=Y.any p:=by
 rw[←List.isSome_find?,←List.isSome_find?,h]
def acy {e:AL} {X Y:List AL} (h:aVy e X Y):GY e X=GY e Y:=by
 have q:Gx X=Gx Y:=by unfold Gx;rw[h.c]
 have u:FK X=FK Y:=by unfold FK Ro;rw[h.p,h.c]
 have z:I7 X e.aQ=I7 Y e.aQ:=by unfold I7;rw[h.s]
 unfold GY Va;rw[q,u,z];cases I:e.Kind==2 with
 |false=>rfl
 |true=>
  have j:e.Kind=2:=eq_of_beq I;have J:I7 X e.Key=I7 Y e.Key:=by unfold I7;rw[h.k j]
  have L:RQ e X=RQ e Y:=by unfold RQ;rw[q,al3 (h.k j)]
  have M:U7 e.Content.N (I7 Y e.Key) X=U7 e.Content.N (I7 Y e.Key) Y:=by
   unfold U7;cases O:e.Content.N==3 with
   |true=>unfold U9;rw[h.r j (.inl (eq_of_beq O))]
   |false=>
    cases U:e.Content.N==2 with
    |true=>unfold U9;rw[h.r j (.inr (eq_of_beq U))]
    |false=>rfl
  have Z:Vt e X=Vt e Y:=by
   unfold Vt WZ;rw[L,J,M,u,z]
  rw[Z]
def aWa (e:AL):(⟨1,BP,0⟩:Ah)∈JK e∧(⟨3,BP,0⟩:Ah)∈JK e∧(⟨2,e.aQ,0⟩:Ah)∈JK e:=by
 unfold JK;refine⟨aD7 (aD7 (ZN _ _ _ _) ?_) ?_,aD7 (ZN _ _ _ _) ?_,ZN _ _ _ _⟩<;>rfl
def aEx {s:List Ah} (k:Int) (key:ByteArray) {y:Ah} (q:y∈s) (u:y.Id=0):y∈Ey s k key 0:=by
 cases j:El y ⟨k,key,0⟩with
 |false=>exact aD7 q j
 |true=>
  obtain⟨z,I⟩:=NQ.1 j;have :y=⟨k,key,0⟩:=by cases y;simp only at *;rw[z,I,u]
  rw[this];exact ZN _ _ _ _
def aXn {e:AL} (I:e.Kind≠1):(∀k∈JK e,k∈keysOf e)∧(e.Kind=2→(⟨2,e.Key,0⟩:Ah)∈keysOf e∧(e.Content.N=3∨e.Content.N=2→(⟨4,BP,0⟩:Ah)∈keysOf e)):=by
 have J:(e.Kind==1)=false:=SV
 have z:=aMg e;unfold keysOf;rw[J,Aj];cases q:e.Kind==2 with
 |false=>
  rw[Aj];exact⟨fun k j=>j,fun e=>by rw[e]at q;cases q⟩
 |true=>
  rw[Az];cases u:(e.Content.N==3||e.Content.N==1||e.Content.N==2)with
  |false=>
   rw[Aj];refine⟨fun k j=>aEx _ _ j (z k j),fun _=>⟨ZN _ _ _ _,fun h=>?_⟩⟩;rcases h with h|h<;>rw[h]at u<;>cases u
  |true=>
   rw[Az];refine⟨fun k j=>aEx _ _ (aEx _ _ j (z k j)) (z k j),fun _=>⟨aEx _ _ (ZN _ _ _ _) rfl,fun _=>ZN _ _ _ _⟩⟩
end Go.Proofs.YtkkdimcnpacjhaaGreat
end
section
namespace Go.Proofs.YtkkdimcnpacjhaaGreat
open Go.RowKit
set_option maxHeartbeats 1000000
def aHd {α β:Type} {f g:α→Option β}:∀{L:List α},(∀x∈L,f x=g x)→L.filterMap f=L.filterMap g
 | [],_=>rfl
 |x::L,h=>by rw[MP,MP,h x (EU ..),aHd fun y j=>h y (FB _ j)]
def qG {α:Type} {p q:α→Bool}:∀{L:List α},(∀x∈L,p x=q x)→L.find? p=L.find? q
 | [],_=>rfl
 |x::L,h=>by
  rw[OL,OL,h x (EU ..),qG fun y j=>h y (FB _ j)]
def abE {l:List AL} {s:List Ah} (hp:IC l s):EW l s=s.map fun x=>ev l x.Id:=by
 unfold EW
 rw[Wj (fun x j=>by
  obtain⟨y,q,rfl⟩:=E5.1 j
  exact(hp.named y q).1),Uh];rfl
def akg {l:List AL} {s:List Ah} (hp:IC l s) (k:Ah):(EW l s).find? (DJ k)=(s.find? fun x=>El x k).map fun x=>ev l x.Id:=by
 rw[abE hp,List.find?_map];congr 1;refine qG fun x j=>?_;obtain⟨_,_,q,u⟩:=hp.named x j;show DJ k (ev l x.Id)=El x k;unfold DJ El;rw[q,u]
def aTK {l:List AL} {s:List Ah} (hp:IC l s) {y:AL} (j:y∈EW l s):∃x∈s,y=ev l x.Id∧y.Kind=x.Kind∧y.Key=x.Key∧y∈l:=by
 rw[abE hp]at j;obtain⟨x,q,rfl⟩:=E5.1 j;obtain⟨u,_,z,I⟩:=hp.named x q;exact⟨x,q,rfl,z,I,I9 (GH u).1⟩
section
variable {l m : List AL} {s : List Ah} {e : AL} (hp : IC l s) (hA : e.aZ = LV e s) (hm : ∀ a ∈ e.aZ, Dw m a = Dw l a)
include hp hA hm
theorem XY {a:Int} (ha:a∈e.aZ):∃k∈keysOf e,∃x∈s,El x k=true∧x.Id=a∧bW l a=true∧(ev l a).Kind=x.Kind∧(ev l a).Key=x.Key:=by
 rw[hA]at ha;obtain⟨k,u,x,q,z⟩:=aWy.1 ha;have j:=O7 q;obtain⟨I,_,J,L⟩:=hp.named x j;subst z;exact⟨k,u,x,j,by simpa using VP q,rfl,I,J,L⟩
theorem aWM :ofIds m e.aZ=e.aZ.map (ev l):=by
 have j:ofIds m e.aZ=ofIds l e.aZ:=by
  unfold ofIds;refine aHd fun a ha=>hm a ha
 rw[j]
 exact Wj fun a ha=>by
  obtain⟨_,_,_,_,_,_,h,_⟩:=XY hp hA hm ha;exact h
theorem aSV {k:Ah} (hk:k∈keysOf e):(ofIds m e.aZ).find? (DJ k)=(EW l s).find? (DJ k):=by
 rw[aWM hp hA hm,akg hp];cases z:s.find? (fun x=>El x k)with
 |none=>
  rw[yQ,VU];intro y I q;obtain⟨a,ha,rfl⟩:=E5.1 I;obtain⟨_,_,x,j,_,_,_,J,L⟩:=XY hp hA hm ha;obtain⟨M,O⟩:=PZ.1 q;exact VU.1 z x j (NQ.2 ⟨J.symm.trans M,L.symm.trans O⟩)
 |some x=>
  rw[Ii];have j:=O7 z;have U:El x k=true:=by simpa using VP z
  obtain⟨_,_,J,L⟩:=hp.named x j;obtain⟨k1,k2⟩:=NQ.1 U;refine aRV (E5.2 ⟨x.Id,by rw[hA];exact aWy.2 ⟨k,hk,x,z,rfl⟩,rfl⟩) (PZ.2 ⟨J.trans k1,L.trans k2⟩) fun y I q=>?_;obtain⟨a,ha,rfl⟩:=E5.1 I;obtain⟨_,_,x',u,_,e2,_,Y,Z⟩:=XY hp hA hm ha;obtain⟨M,O⟩:=PZ.1 q;have :x'=x:=aGv hp.sorted x' u x j (NQ.2 ⟨by rw[←Y,M,k1],by rw[←Z,O,k2]⟩);rw[←e2,this]
theorem abr :LG m e=(keysOf e).flatMap fun k=>((EW l s).find? (DJ k)).toList:=by
 unfold LG
 have :∀L:List Ah,(∀k∈L,k∈keysOf e)→(L.flatMap fun k=>((ofIds m e.aZ).find? (DJ k)).toList)=L.flatMap fun k=>((EW l s).find? (DJ k)).toList:=by
  intro L
  induction L with
  |nil=>exact fun _=>rfl
  |cons k L j=>
   intro h;rw[KO,KO,aSV hp hA hm (h k (EU ..)),j fun x q=>h x (FB _ q)]
 exact this _ fun _ h=>h
theorem aDe {y:AL}:y∈LG m e↔∃k∈keysOf e,(EW l s).find? (DJ k)=some y:=by
 rw[abr hp hA hm,SI];exact⟨fun⟨k,j,h⟩=>⟨k,j,JZ⟩,fun⟨k,j,h⟩=>⟨k,j,JZ⟩⟩
theorem aLM {k:Ah} (J:k∈keysOf e):(EW l s).find? (DJ k)=(LG m e).find? (DJ k):=by
 cases u:(EW l s).find? (DJ k)with
 |none=>
  symm;rw[VU];intro y L j;obtain⟨k',_,h⟩:=(aDe hp hA hm).1 L;exact VU.1 u y (O7 h) j
 |some y=>
  symm;refine aRV ((aDe hp hA hm).2 ⟨k,J,u⟩) (by simpa using VP u) fun z M j=>?_;obtain⟨k',I,h⟩:=(aDe hp hA hm).1 M;have q:DJ k' z=true:=by simpa using VP h
  obtain⟨O,U⟩:=PZ.1 j;obtain⟨Y,Z⟩:=PZ.1 q;have :k'=k:=aGv (aYk e) k' I k J (NQ.2 ⟨by rw[←O,←Y],by rw[←U,←Z]⟩);rw[this,u]at h;exact(CV h).symm
theorem apj (Y:e.Kind≠1) (Z:∀x∈l,V9 x):aVy e (EW l s) (LG m e):=by
 obtain⟨m1,m3,m2⟩:=aWa e;obtain⟨L,U⟩:=aXn Y
 have M:∀y∈LG m e,y∈EW l s:=fun y u=>by
  obtain⟨k',_,h⟩:=(aDe hp hA hm).1 u;exact O7 h
 have q:∀(n:Int),n≠2→n≠9→∀y∈EW l s,(y.Kind==n)=DJ ⟨n,BP,0⟩ y:=fun n I J y u=>by
  obtain⟨x,_,_,_,_,hl⟩:=aTK hp u;unfold DJ;show _=(y.Kind==n&&decide (y.Key=BP));cases hq:y.Kind==n with
  |false=>rfl
  |true=>
   have z:y.Kind=n:=eq_of_beq hq;rcases(Z y hl).keyed with h|h|h
   ·rw[Gi h];rfl
   ·exact absurd (z.symm.trans h) I
   exact absurd (z.symm.trans h) J
 have j:∀(n:Int),n≠2→n≠9→(⟨n,BP,0⟩:Ah)∈keysOf e→(EW l s).find? (fun x=>x.Kind==n)=(LG m e).find? (fun x=>x.Kind==n):=fun n I J hk=>by
  rw[qG (q n I J),qG fun y u=>q n I J y (M y u)];exact aLM hp hA hm hk
 exact⟨j 1 BK BK (L _ m1),j 3 BK BK (L _ m3),aLM hp hA hm (L _ m2),fun O=>aLM hp hA hm (U O).1,fun O hn=>j 4 BK BK ((U O).2 hn)⟩
theorem acG (j:e.Kind≠1) (q:∀x∈l,V9 x):GY e (LG m e)=GY e (EW l s):=(acy (apj hp hA hm j q)).symm
omit hp hA hm in
theorem aax {q:List Ah}:∀(X j:List AL),(∀x∈X,∃k∈q,DJ k x=true)→(j++X).Pairwise (fun a b=>Ov b a=false)→J9 q j X=true
 | [],_,_,_=>rfl
 |x::X,j,h,z=>by
  unfold J9;obtain⟨k,I,hm⟩:=h x (EU ..);have J:(q.any fun k=>DJ k x)=true:=Gn.2 ⟨k,I,hm⟩
  have L:j.any (Ov x)=false:=by
   rw[lU];intro y u;rw[(Ur.1 z).2.2 y u x (EU ..)];exact aOc
  have M:=aax X (j++[x]) (fun y u=>h y (FB _ u)) (by rw[Hw];exact z);rw[J,L,M];rfl
theorem akG (Z:e.Kind≠1) (hF:∀x∈l,V9 x) (hr:∀x∈l,x.Room=e.Room) (ha:GY e (EW l s)=0):Nq m e=0:=by
 have U:=aWM hp hA hm
 have z:∀a∈e.aZ,bW l a=true:=fun a ha=>by
  obtain⟨_,_,_,_,_,_,h,_⟩:=XY hp hA hm ha;exact h
 have k1:e.aZ.all (bW m)=true:=DY.2 fun a ha=>by unfold bW;rw[hm a ha];exact z a ha
 have k2:(ofIds m e.aZ).all (fun x=>decide (x.Room=e.Room))=true:=by
  rw[U,DY];intro y q;obtain⟨a,ha,rfl⟩:=E5.1 q;exact Gi (hr _ (I9 (GH (z a ha)).1))
 have k3:J9 (keysOf e) [] (ofIds m e.aZ)=true:=by
  refine aax _ _ (fun y q=>?_) ?_
  ·rw[U]at q;obtain⟨a,ha,rfl⟩:=E5.1 q;obtain⟨k,Y,x,_,h2,_,_,h3,h4⟩:=XY hp hA hm ha;obtain⟨I,J⟩:=NQ.1 h2;exact⟨k,Y,PZ.2 ⟨h3.trans I,h4.trans J⟩⟩
  rw[II,U,Yp];have hi:Inc e.aZ:=by rw[hA];exact afJ e s
  refine List.Pairwise.imp_of_mem (fun{a b} ha hb L=>?_) hi;cases j:Ov (ev l b) (ev l a)with
  |false=>rfl
  |true=>
   obtain⟨I,J⟩:=aKl.1 j;obtain⟨_,_,x,hx,_,x1,_,x3,x4⟩:=XY hp hA hm ha;obtain⟨_,_,y,q,_,y1,_,y3,y4⟩:=XY hp hA hm hb;have :x=y:=aGv hp.sorted x hx y q (NQ.2 ⟨by rw[←x3,←y3,I],by rw[←x4,←y4,J]⟩);rw[←x1,←y1,this]at L;exact absurd L (Int.lt_irrefl _)
 have k4:(ofIds m e.aZ).any OG=true:=by
  have O:(Gx (EW l s)).2=true:=by
   unfold GY at ha;rw[show(e.Kind==1)=false by simpa using Z,Aj]at ha;cases j:(Gx (EW l s)).2 with
   |true=>rfl
   |false=>rw[j]at ha;cases ha
  have Y:=(aXn Z).1 _ (aWa e).1;have hf:=aSV hp hA hm Y
  have u:(EW l s).find? (fun x=>x.Kind==1)=(EW l s).find? (DJ ⟨1,BP,0⟩):=qG fun y q=>by
   obtain⟨x,_,_,_,_,hl⟩:=aTK hp q;unfold DJ;show _=(y.Kind==1&&decide (y.Key=BP));cases j:y.Kind==1 with
   |false=>rfl
   |true=>
    have M:y.Kind=1:=eq_of_beq j;rcases(hF y hl).keyed with h|h|h
    ·rw[Gi h];rfl
    ·rw[M]at h;cases h
    rw[M]at h;cases h
  unfold Gx at O;rw[u,←hf]at O;cases j:(ofIds m e.aZ).find? (DJ ⟨1,BP,0⟩)with
  |none=>rw[j]at O;cases O
  |some y=>
   obtain⟨I,J⟩:=PZ.1 (show DJ ⟨1,BP,0⟩ y=true by simpa using VP j);refine Gn.2 ⟨y,O7 j,?_⟩;unfold OG;rw[I,J];simp
 unfold Nq;rw[k1,k2,k3,k4];simp
end
def aOF {R:Type} {body:(Int→Option R)→Int→Option R} (s n:Nat) (I:n≤1000) (hs:s≤n) (rest:Option R) (j:∀k (i:Nat),s≤i→i<n→body k (i:Int)=k ((i+1:Nat):Int)) (q:∀k,body k (n:Int)=rest):bI body Ag (s:Int)=rest:=by
 have key:∀d (i:Nat),i+d=n→s≤i→∀m,d<m→bI body m (i:Int)=rest:=by
  intro d
  induction d with
  |zero=>
   intro i hi _ m hm;obtain⟨m,rfl⟩:∃k,m=k+1:=⟨m-1,AA⟩
   rw[show i=n by omega];exact q _
  |succ d u=>
   intro i hi z m hm;obtain⟨m,rfl⟩:∃k,m=k+1:=⟨m-1,AA⟩
   exact(j (bI body m) i z AA).trans (u (i+1) AA AA m AA)
 exact key (n-s) s AA (Dq _) Ag (fuel_lt AA)
def amI {k:List AL} (I:∀x∈k,RG x=some 0) (J:∀x∈k,∀y∈k,x.Room=y.Room) (hi:Inc (k.map (·.Id))) (hl:k.length≤100) (q:0<k.length):OB k=some 0:=by
 unfold OB;rw[H7 (show ¬(k.length:Int)>2000 by omega),Aj];unfold zf;refine aOF 0 k.length AA AA _ (fun f i _ h=>?_) fun f=>?_
 ·unfold fC;rw[Bo h,I _ (EJ h),AO,JA,Aj,wrap_succ i AA]
 unfold fC;rw[Ce,Aj];unfold aBd;refine aOF 1 k.length AA AA _ (fun f i _ h=>?_) fun f=>?_
 ·have z:Af k 0=some k[0]:=Bd q;unfold vM;rw[Bo h,z,AO,J _ (EJ h) _ (EJ q),wrap_succ i AA];simp
 unfold vM;rw[Ce,Aj];unfold aA0;refine aOF 1 k.length AA AA _ (fun f i O h=>?_) fun f=>?_
 ·obtain⟨j,rfl⟩:∃j,i=j+1:=⟨i-1,AA⟩
  have L:Ai (((j+1:Nat):Int)-1)=(j:Int):=by rw[show((j+1:Nat):Int)-1=(j:Int) by omega];exact NG AA AA
  have u:j<k.length:=AA
  have M:k[j].Id<k[j+1].Id:=by
   have :=IW.1 hi j (j+1) (by rw[CG];exact u) (by rw[CG];exact h) AA
   rwa [Og,Og]at this
  unfold rQ;rw[dec_lt h,Az,L,Bd u,Bd h];simp only[AO];rw[H7 (show ¬(k[j].Id≥k[j+1].Id) by omega),Aj,wrap_succ (j+1) AA]
 unfold rQ;rw[Ce,Aj]
def aiZ {k:List AL} (j:∀e∈k,Ea e) (hl:k.length≤100) (h:OB k=some 0):Md k=some 0:=by
 obtain⟨c,c1,c2,_⟩:=aaE (fun e q=>(j e q).wide) hl;rw[h]at c2;rw[c1,←CV c2]
def aSy {l:List AL} (u:(l.map (·.Id)).Nodup) {x:Int} {y:AL}:Dw l x=some y↔y∈l∧y.Id=x:=by
 refine⟨fun h=>⟨I9 h,zh h⟩,fun⟨j,z⟩=>?_⟩;have q:=(GH (NY.2 (E5.2 ⟨y,j,rfl⟩))).1;rw[rX u j,z]at q;exact q
def aeh {l:List AL} {e:AL} (hi:Inc (l.map (·.Id))) (U:e.Id∉l.map (·.Id)):Inc ((Et l e).map (·.Id)):=by
 have hp:l.Pairwise fun a b=>a.Id<b.Id:=Yp.1 hi;have I:∀x∈l,x.Id≠e.Id:=fun x q h=>U (E5.2 ⟨x,q,h⟩)
 have L:∀x∈l.take (QX l e),x.Id<e.Id:=fun x q=>by
  obtain⟨j,z,rfl⟩:=Fv q;rw[FD]at z;rw[WJ];have :=aP7 (p:=fun x:AL=> !decide (x.Id<e.Id)) (xs:=l) (i:=j) (by unfold QX at z;omega);simpa using this
 have M:∀x∈l.drop (QX l e),e.Id<x.Id:=fun x q=>by
  obtain⟨j,z,rfl⟩:=Fv q;rw[IV]at z;rw[Xv];have u:QX l e<l.length:=AA
  have Z:¬(l[QX l e].Id<e.Id):=by
   show ¬(l[l.findIdx fun x=> !decide (x.Id<e.Id)].Id<e.Id);have :=aEB (p:=fun x:AL=> !decide (x.Id<e.Id)) (xs:=l) (w:=u);simpa using this
  have Y:l[QX l e].Id≤l[QX l e+j].Id:=by
   rcases WT j with rfl|O
   ·exact Yk _
   exact Int.le_of_lt (IW.1 hp _ _ u AA AA)
  have :=I _ (EJ (show QX l e+j<l.length by omega));omega
 unfold Inc;rw[Yp];unfold Et;rw[Ur,OC];refine⟨hp.sublist (aOO ..),⟨M,hp.sublist (nN ..)⟩,fun a ha b J=>?_⟩;rcases EX.1 J with rfl|J
 ·exact L a ha
 exact Int.lt_trans (L a ha) (M b J)
structure Ht (l:List AL) (e:AL):Prop where
 facts:Uy l
 len:l.length≤50
 deep:H6 l=0
 ver:∀x∈l,RG x=some 0
 fresh:bW l e.Id=false
 good:RG e=some 0
 small:Ea e
 room:∀x∈l,x.Room=e.Room
 prev:e.aU=Fr l (Dk l (Bz l))
 some_:Dk l (Bz l)≠[]
 low:∀x∈e.aU,(ev l x).Depth<e.Depth
 next:∃x∈e.aU,(ev l x).Depth=e.Depth-1
 auth:e.aZ=LV e (En l (Bz l))
section
variable {l : List AL} {e : AL} (h : Ht l e)
include h
theorem Ht.ok:Ik l:=h.facts.ok aMn
theorem Ht.aE7:V9 e:=by
 obtain⟨c,c1,c2,c3⟩:=aC0 h.small.wide;rw[h.good]at c2;exact(c3 (CV c2).symm).1
theorem Ht.aGa:e.Id∉l.map (·.Id):=fun hm=>by have :=NY.2 hm;rw[h.fresh]at this;cases this
theorem Ht.aul:Uy (Et l e):=by
 refine⟨fun x j=>?_,fun x j y J=>?_,aeh h.facts.inc h.aGa⟩
 ·rcases V6.1 j with rfl|j
  ·exact⟨h.aE7,h.small⟩
  exact h.facts.ev x j
 rcases V6.1 j with z|q<;>rcases V6.1 J with I|u
 ·rw[z,I]
 ·rw[z];exact(h.room y u).symm
 ·rw[I];exact h.room x q
 exact h.facts.room x q y u
theorem Ht.len':(Et l e).length≤51:=by have :=h.len;rw[aQj];omega
theorem Ht.ok':Ik (Et l e):=h.aul.ok aNl
theorem Ht.aGZ:∀x∈Et l e,RG x=some 0:=fun x j=>by
 rcases V6.1 j with rfl|j
 ·exact h.good
 exact h.ver x j
theorem Ht.ref':OB (Et l e)=some 0:=amI h.aGZ h.aul.room h.aul.inc aNl (by rw[aQj];omega)
theorem Ht.prog':Md (Et l e)=some 0:=aiZ h.ok'.small aNl h.ref'
theorem Ht.get {x:Int} (q:bW l x=true):Dw (Et l e) x=Dw l x:=by
 have j:=(GH q).1;rw[j];exact(aSy h.ok'.nodup).2 ⟨V6.2 (.inr (I9 j)),zh j⟩
theorem Ht.ax9 {x:Int} (j:bW l x=true):bW (Et l e) x=true:=by unfold bW;rw[h.get j];exact j
theorem Ht.ev' {x:Int} (j:bW l x=true):ev (Et l e) x=ev l x:=by unfold ev Fz;rw[h.get j]
theorem Ht.self:Dw (Et l e) e.Id=some e:=(aSy h.ok'.nodup).2 ⟨V6.2 (.inl rfl),rfl⟩
theorem Ht.aE8:ev (Et l e) e.Id=e:=rX h.ok'.nodup (V6.2 (.inl rfl))
theorem Ht.aE9 {x:Int} (j:x∈Dk l (Bz l)):bW l x=true:=by
 obtain⟨y,q,rfl⟩:=E5.1 j;exact NY.2 (E5.2 ⟨y,(FU.1 q).1,rfl⟩)
theorem Ht.aDJ {x:Int} (j:x∈e.aU):x∈Dk l (Bz l):=by rw[h.prev]at j;exact(aNi.1 j).1
theorem Ht.aew {x:Int} (j:x∈e.aU):bW l x=true:=h.aE9 (h.aDJ j)
theorem Ht.aya:IC l (En l (Bz l)):=by
 have :=aMO (l:=l) (c:=0) fun _=>h.ok
 rwa [aCT h.deep]at this
theorem Ht.aex {x:Int} (u:x∈e.aZ):x∈Dk l (Bz l)∧bW l x=true∧JR (Bz l) x=true:=by
 obtain⟨_,_,y,z,_,rfl,q,_⟩:=XY (m:=l) h.aya h.auth (fun _ _=>rfl) u;have j:=NR.current h.ok h.deep y z;refine⟨?_,q,j⟩;rw[apA];exact FU.2 ⟨NY.1 q,j⟩
theorem Ht.aDK {x:Int} (j:x∈e.aZ):(ev l x).Depth<e.Depth:=by
 obtain⟨y,q,hm⟩:=aHG (fun y=>(ev l y).Depth) _ h.some_;have u:=h.low y (by rw[h.prev];exact aam h.deep q hm);have z:=hm x (h.aex j).1;omega
theorem Ht.arT:H6 (Et l e)=0:=by
 have u:∀{x:Int},bW l x=true→FQ (Et l e) x=(ev l x).Depth:=fun{x} z=>by unfold FQ;exact Aq AL.Depth (h.ev' z)
 have hd:=h.deep;unfold H6 at hd
 have L:QN l=true:=by
  cases M:QN l with
  |true=>rfl
  |false=>rw[M]at hd;cases hd
 have O:l.all (NP l)=true:=by
  cases M:l.all (NP l)with
  |true=>rfl
  |false=>rw[L,M]at hd;cases hd
 have h1:QN (Et l e)=true:=by
  unfold QN;rw[DY];intro x z;unfold UG;rw[CW,DY,DY];rcases V6.1 z with rfl|z
  ·exact⟨fun a ha=>h.ax9 (h.aew ha),fun a ha=>h.ax9 (h.aex ha).2.1⟩
  obtain⟨J,I⟩:=Xu h.deep z;exact⟨fun a ha=>h.ax9 (I a ha).1,fun a ha=>h.ax9 (J a ha).1⟩
 have h2:(Et l e).all (NP (Et l e))=true:=by
  rw[DY];intro x z;rcases V6.1 z with z|z
  ·subst z;obtain⟨y,U,Y⟩:=h.next
   have Z:((x.aU.length:Int)==0)=false:=by
    have :0<x.aU.length:=zl U;rw[Oz];omega
   unfold NP;rw[Z,Aj,CW,CW,DY,DY,Gn];refine⟨fun a ha=>?_,fun a ha=>?_,y,U,?_⟩
   ·rw[u (h.aex ha).2.1];exact Gi (h.aDK ha)
   ·rw[u (h.aew ha)];exact Gi (h.low a ha)
   rw[u (h.aew U),Y];exact KI _
  obtain⟨J,I⟩:=Xu h.deep z;have hb:=DY.1 O x z;have j:∀{a:Int},bW l a=true→FQ (Et l e) a=FQ l a:=fun{a} ha=>u ha;unfold NP at hb ⊢
  have e1:x.aZ.all (fun a=>decide (FQ (Et l e) a<x.Depth))=x.aZ.all (fun a=>decide (FQ l a<x.Depth)):=by
   rw[Jq,DY,DY];exact⟨fun q a ha=>by rw[←j (J a ha).1];exact q a ha,fun q a ha=>by rw[j (J a ha).1];exact q a ha⟩
  have e2:x.aU.all (fun a=>decide (FQ (Et l e) a<x.Depth))=x.aU.all (fun a=>decide (FQ l a<x.Depth)):=by
   rw[Jq,DY,DY];exact⟨fun q a ha=>by rw[←j (I a ha).1];exact q a ha,fun q a ha=>by rw[j (I a ha).1];exact q a ha⟩
  have e3:(x.aU.any fun a=>FQ (Et l e) a==x.Depth-1)=x.aU.any fun a=>FQ l a==x.Depth-1:=any_congr fun a ha=>by rw[j (I a ha).1]
  rw[e1,e2,e3];exact hb
 unfold H6;rw[h1,h2];rfl
theorem Ht.agr:Gl l (Et l e) (l.map (·.Id)):=agS h.ok.nodup h.ok'.nodup h.deep fun x j=>⟨x,V6.2 (.inr j),rfl,.refl x⟩
theorem Ht.lines {x:Int} (j:bW l x=true):EN (Bz (Et l e)) x=EN (Bz l) x:=(aRc h.agr h.ok h.deep h.ok' h.arT x (NY.1 j)).1
theorem Ht.aGb:stB (Et l e) (Bz (Et l e)) e=En l (Bz l):=by
 have hm:e.aU.map (H8 (Bz (Et l e)))=e.aU.map (H8 (Bz l)):=XZ fun x j=>by
  unfold H8;rw[h.lines (h.aew j)]
 unfold stB
 rw[hm,(h.agr.resolve (aJ:=e.aU.map (H8 (Bz l))) fun s hs=>by
  obtain⟨x,j,rfl⟩:=E5.1 hs
  exact(aRc h.agr h.ok h.deep h.ok' h.arT x (NY.1 (h.aew j))).2).1,h.prev]
 rfl
theorem Ht.evs:EW (Et l e) (En l (Bz l))=EW l (En l (Bz l)):=by
 unfold EW ofIds;refine aHd fun a ha=>?_;obtain⟨y,j,rfl⟩:=E5.1 ha;exact h.get (h.aya.named y j).1
theorem Ht.line:∃r,EN (Bz (Et l e)) e.Id=some (WG e (En l (Bz l)) r)∧(r=0↔GY e (EW l (En l (Bz l)))=0):=by
 have U:bW (Et l e) e.Id=true:=by unfold bW;rw[h.self];rfl
 have j:=aCU h.ok' h.arT U;rw[h.aE8]at j;unfold Hg at j;rw[h.aGb]at j;refine⟨_,j,?_⟩
 have J:e.Kind≠1:=fun j=>by
  have Y:=(h.aE7.form j).1;obtain⟨y,L,_⟩:=h.next;rw[Y]at L;cases L
 have hm:∀a∈e.aZ,Dw (Et l e) a=Dw l a:=fun a ha=>h.get (h.aex ha).2.1;have M:∀x∈l,V9 x:=fun x Z=>(h.facts.ev x Z).1;have q:=acG h.aya h.auth hm J M
 have u:e.aZ.any (fun x=>errOf (Bz (Et l e)) x != 0)=false:=by
  rw[lU];intro a ha;obtain⟨_,k1,k2⟩:=h.aex ha;obtain⟨y,y1,y2⟩:=lG.1 k2;unfold errOf;rw[h.lines k1,y1,Ii,MK,y2];decide
 unfold KD Vp;rw[h.evs,q,u,Aj];generalize hq:GY e (EW l (En l (Bz l)))=r at q;constructor
 ·intro z;cases I:Nq (Et l e) e != 0 with
  |true=>
   rw[I,Az,I,Az]at z;rw[z]at I;cases I
  |false=>
   rw[I,Aj]at z;cases O:r != 0 with
   |true=>rw[O,Az]at z;exact z
   |false=>exact bne_eq_false_iff_eq.1 O
 rintro rfl;rw[akG h.aya h.auth hm J M h.room hq];rfl
theorem Ht.why:bQ (Bz (Et l e)) e.Id=0↔GY e (EW l (En l (Bz l)))=0:=by
 obtain⟨r,j,q⟩:=h.line;unfold bQ;rw[j];exact q
end
end Go.Proofs.YtkkdimcnpacjhaaGreat
end
section
namespace Go.Proofs.YtkkdimcnpacjhaaGreat
open Go.RowKit
def aD1 {α:Type} {body:(Int→Option Bool)→Int→Option Bool} (l:List α) (hl:l.length≤1000) (rest:Option Bool) (j:∀k (i:Nat) (h:i<l.length),body k (i:Int)=k (Ai ((i:Int)+1))) (q:∀k,body k (l.length:Int)=rest):bI body Ag 0=rest:=by
 have key:∀n (i:Nat),i+n=l.length→∀m,n<m→bI body m (i:Int)=rest:=by
  intro n
  induction n with
  |zero=>
   intro i hi m hm;obtain⟨m,rfl⟩:∃k,m=k+1:=⟨m-1,AA⟩
   rw[show i=l.length by omega];exact q _
  |succ n u=>
   intro i hi m hm;obtain⟨m,rfl⟩:∃k,m=k+1:=⟨m-1,AA⟩
   have :=j (bI body m) i AA;rw[wrap_succ i AA]at this;exact this.trans (u (i+1) AA m AA)
 exact key l.length 0 AA Ag (fuel_lt AA)
def aB1 (n:Int):(n != n)=false:=BF
def aXf {l:List Int} (h:l.length≤1000):oL l l=some true:=by
 unfold oL aWH;rw[aB1,Aj];exact aD1 l h _ (fun k i h=>by simp only[aMJ,dec_lt h,Az,Bd h,AO,JA,Aj]) (fun k=>by simp only[aMJ,Ce,Aj])
def aQH {l:List ByteArray} (h:l.length≤1000):St l l=some true:=by
 unfold St aE1;rw[aB1,Aj];exact aD1 l h _ (fun k i h=>aaX) (fun k=>aNC)
def agG {l:Bf} (j:l.Users.length≤1000) (q:l.Kinds.length≤1000):Wn l l=some true:=by
 have u:YD l l 0=some true:=by
  unfold YD;exact aD1 l.Kinds q _ (fun k i h=>by simp only[jM,dec_lt h,Az,Bd h,AO,JA,Aj,wo]) (fun k=>by simp only[jM,Ce,Aj,KI,Az,AO])
 unfold Wn;rw[aB1,aB1,Aj,AO,Aj];unfold qQ;exact aD1 l.Users j _ (fun k i h=>by simp only[jc,dec_lt h,Az,Bd h,AO,KI,EF,JA,Aj,wW]) (fun k=>by simp only[jc,Ce,Aj];exact u)
def aeK {c:Bj} (j:c.Allow.length≤1000) (q:c.gJ.length≤1000) (u:c.Levels.Users.length≤1000) (z:c.Levels.Kinds.length≤1000):U0 c c=some true:=by
 unfold U0;simp only[KI,Az,AO,aQH j,aQH q,agG u z]
def aTo {e:AL} (h:Ea e):yU e e=some true:=by
 have :=h.prev;have :=h.auth;have j:=h.allow;have q:=h.deny;have u:=h.users;have z:=h.kinds;unfold yU;simp only[KI,Az,AO,aXf (l:=e.aU) AA,aXf (l:=e.aZ) AA,aeK (c:=e.Content) AA AA AA AA]
end Go.Proofs.YtkkdimcnpacjhaaGreat
end
section
namespace Go.Proofs.YtkkdimcnpacjhaaGreat
open Go.RowKit
set_option maxRecDepth 20000
set_option maxHeartbeats 1000000
section
variable {l : List AL} {s : List Ah} (hl : l.length ≤ 100) (hsm : D5 l) (hs : s.length ≤ 100)
include hl hsm hs
end
structure mG (l:List AL) (t:List DR):Prop where
 len:l.length≤100
 small:D5 l
 at_:∀id,aP0 l id=some (aIx t id)
 acc:uK l=some (Dk l t)
 tbl:sN l=some (t.map KA)
 tok:Ku l t
 aG0:t.length≤l.length
 nd:t≠[]→(l.map (·.Id)).Nodup
def alR {l:List AL} {c:Int} (hs:D5 l) (hl:l.length≤100) (c1:Md l=some c) (c2:OB l=some c) (c3:c=0→Uy l):mG l (Iz l c):=by
 have j:c=0→Ik l:=fun q=>(c3 q).ok hl;obtain⟨z,I,J⟩:=aT8 c2 j;refine⟨hl,hs,ahf c1 j,afn c1 j,z,I,J,fun u=>?_⟩;unfold Iz at u;by_cases q:c=0
 ·exact(j q).nodup
 rw[Oz.2 q]at u;exact absurd rfl u
def afE {l:List AL} (hs:D5 l) (hl:l.length≤100):∃c,mG l (Iz l c)∧Md l=some c∧OB l=some c∧(c=0→Uy l):=by
 obtain⟨c,c1,c2,c3⟩:=aaE (fun e j=>(hs e j).wide) hl;exact⟨c,alR hs hl c1 c2 c3,c1,c2,c3⟩
section
variable {l : List AL} {t : List DR} (h : mG l t)
include h
end
end Go.Proofs.YtkkdimcnpacjhaaGreat
end
section
namespace Go.Proofs.YtkkdimcnpacjhaaGreat
open Go.RowKit
set_option maxRecDepth 20000
set_option maxHeartbeats 1000000
def amy (l:List AL) (hl:l.length≤1000):dw l=some (l.map (·.Id)):=by
 unfold dw;have j:Ia 8 (0:Int) 0 (l.length:Int)=some []:=aU0
 rw[j,AO];unfold aRA;refine dL.eq (J5 l.length (fuel_lt AA) (fun i a=>a=(l.take i).map (·.Id)) rfl (fun i a k hi ha q=>?_) fun a k ha=>?_)
 ·have u:a.length≤1000:=gZ
  unfold aKs;rw[Bo hi,D6 Fa,AO,wrap_succ i AA];exact q _ vU
 rw[FV]at ha;unfold aKs;rw[Ce,Aj,ha];exact .ret rfl
section
variable {l : List AL} {t : List DR} (h : mG l t)
include h
end
end Go.Proofs.YtkkdimcnpacjhaaGreat
end
section
namespace Go.Proofs.YtkkdimcnpacjhaaGreat
open Go.RowKit
set_option maxRecDepth 20000
set_option maxHeartbeats 1000000
def VG :Ul=some true:=A8
def aSK (x y:Int):QE x y=max x y:=by
 unfold QE;by_cases h:y>x
 ·rw[Gi h,Az,Int.max_eq_right AA]
 rw[H7 h,Aj,Int.max_eq_left AA]
def aif (a b:AL):I4 (Ee a) (Ee b)= !GN b a:=by
 rw[Jq,eL,MF];unfold GN Ee;rw[X4,fP,P8,P8,Oz];simp only;omega
def aVu :∀{L:List AL},(L.map (·.Id)).Nodup→ZU (L.map Ee)=true
 | [],_=>rfl
 |e::L,h=>by
  rw[Ip,Kr]at h;rw[Ip];unfold ZU;rw[aVu h.2,Nb,MF];cases j:(L.map Ee).contains (Ee e)with
  |false=>rfl
  |true=>
   exfalso;have hm:Ee e∈L.map Ee:=WS
   obtain⟨y,u,q⟩:=E5.1 hm;exact h.1 (E5.2 ⟨y,u,Aq Prod.snd q⟩)
def aT3 {l:List AL} {hs:List Int} (j:∀x∈hs,bW l x=true):(ofIds l hs).map (·.Id)=hs:=by
 rw[Wj j,Uh]
 conv=>rhs;rw[←aCj hs]
 exact XZ fun x q=>(GH (j x q)).2
def aTu {l:List AL} {hs:List Int} (I:Inc hs) (J:∀x∈hs,bW l x=true) (hl:hs.length≤1000):∃S,ah (ofIds l hs)=some S∧S.Perm (ofIds l hs)∧S.Pairwise fun a b=>GN a b=true:=by
 have q:((ofIds l hs).map (·.Id)).Nodup:=by rw[aT3 J];exact Tn I
 have hlen:=Yw l hs;have hp:=TM (fun x y=>I4 (Ee x) (Ee y)) (ofIds l hs);refine⟨LM (fun x y=>I4 (Ee x) (Ee y)) (ofIds l hs),?_,hp,?_⟩
 ·unfold ah;rw[CS ⟨AA,aVu q⟩]
 have L:=aD5 (le:=fun x y=>I4 (Ee x) (Ee y)) (fun x y z=>aPn (Ee x) (Ee y) (Ee z)) (fun x y=>aWD (Ee x) (Ee y)) (ofIds l hs);have u:((LM (fun x y=>I4 (Ee x) (Ee y)) (ofIds l hs)).map (·.Id)).Nodup:=(hp.map _).nodup_iff.2 q;rw[ZH,Yp]at u;refine(L.and u).imp fun{a b} ⟨j,M⟩=>?_;rw[aif,MF]at j;unfold GN at j ⊢;rw[X4,fP,P8,P8,Oz]at j;simp only[XJ,Gg,CW,Lm];omega
def acL {l:List AL} {hs:List Int} (hl:l.length≤1000) (hi:hs.length≤1000) {S:List AL} (h:ah (ofIds l hs)=some S) (J:S.length≤1000):aCA l hs=some (S.drop (S.length-10)):=by
 unfold aCA aJ8;rw[aX1 l hs hl AA,AO,h,AO]
 have hm:Ui (S.length:Int) 10=((min S.length 10:Nat):Int):=by
  unfold Ui;by_cases q:(10:Int)<(S.length:Int)
  ·rw[Gi q,Az];omega
  rw[H7 q,Aj];omega
 rw[hm]
 have j:Ia 376 Bv ((min S.length 10:Nat):Int) ((min S.length 10:Nat):Int)=some (List.replicate (min S.length 10) Bv):=by
  unfold Ia;rw[CS ⟨AA,Yk _,AA⟩,Us]
 have z:Ai ((S.length:Int)-((min S.length 10:Nat):Int))=((S.length-10:Nat):Int):=by
  rw[NG AA AA];omega
 rw[j,AO,z,VI AA,AO];unfold gCopy;have u:(S.drop (S.length-10)).length=min S.length 10:=aDa
 have I:(List.replicate (min S.length 10) Bv).drop (min S.length 10)=[]:=rW (by rw[List.length_replicate];exact Dq _);rw[List.length_replicate,QB (Yc u),u,I,Oe]
def aoD {l:List AL} {hs:List Int} (hl:l.length≤1000) (hi:hs.length≤1000):aHW l hs=some (JF l hs):=by
 unfold aHW aV2;refine dL.eq (J5 hs.length (fuel_lt AA) (fun i a=>a=(hs.take i).filter fun x=>decide (Uj l hs x<10)) rfl (fun i a k u ha U=>?_) fun a k ha=>?_)
 ·have hal:a.length≤1000:=by
   rw[ha];have :=JH (fun x=>decide (Uj l hs x<10)) (hs.take i);rw[FD]at this;omega
  unfold aJd;rw[Bo u,KR l _ AA,AO];unfold aTd;refine QU (body:=aOe hs l (Fz l hs[i]) (i:Int) k) (Q:=_) (fun m Y I J=>∃j:Nat,I=j∧j+m=hs.length∧Y=(((hs.take j).filter fun y=>GN (ev l hs[i]) (ev l y)).length:Int)∧J=a) ?_ Ag hs.length 0 0 a (fuel_lt AA) ⟨0,rfl,AA,rfl,rfl⟩;rintro m Y I J f ⟨j,rfl,hm,rfl,rfl⟩ Z
  have M:((hs.take j).filter fun y=>GN (ev l hs[i]) (ev l y)).length≤1000:=by
   have :=JH (fun y=>GN (ev l hs[i]) (ev l y)) (hs.take j);rw[FD]at this;omega
  unfold aOe;by_cases hj:j<hs.length
  ·rw[Bo hj,KR l _ AA,AO]
   have hc:(bif decide ((Fz l hs[j]).1.Depth>(Fz l hs[i]).1.Depth)then some true else(bif ((Fz l hs[j]).1.Depth==(Fz l hs[i]).1.Depth)then some (decide ((Fz l hs[j]).1.Id>(Fz l hs[i]).1.Id))else some false).bind fun z=>some z)=some (GN (ev l hs[i]) (ev l hs[j])):=by
    show(bif decide ((ev l hs[j]).Depth>(ev l hs[i]).Depth)then some true else(bif ((ev l hs[j]).Depth==(ev l hs[i]).Depth)then some (decide ((ev l hs[j]).Id>(ev l hs[i]).Id))else some false).bind fun z=>some z)=_;unfold GN;have e1:((ev l hs[j]).Depth==(ev l hs[i]).Depth)=((ev l hs[i]).Depth==(ev l hs[j]).Depth):=by rw[Jq,Lm,Lm];exact⟨fun h=>h.symm,fun h=>h.symm⟩
    rw[e1];show(bif decide ((ev l hs[i]).Depth<(ev l hs[j]).Depth)then _ else _)=_;cases decide ((ev l hs[i]).Depth<(ev l hs[j]).Depth)<;>cases(ev l hs[i]).Depth==(ev l hs[j]).Depth<;>rfl
   rw[hc,AO];have q:=xP (p:=fun y=>GN (ev l hs[i]) (ev l y)) hj;cases L:GN (ev l hs[i]) (ev l hs[j])with
   |true=>
    rw[Az];unfold aBT;refine Z (m-1) _ _ _ AA ⟨j+1,wrap_succ j AA,AA,?_,rfl⟩;rw[wrap_succ _ AA,q,L,EI];rfl
   |false=>
    rw[Aj];unfold aBT;refine Z (m-1) _ _ _ AA ⟨j+1,wrap_succ j AA,AA,?_,rfl⟩;rw[q,L];simp
  have :j=hs.length:=AA
  subst this;rw[FV]at M;rw[Ce,Aj,FV];have O:(((hs.filter fun y=>GN (ev l hs[i]) (ev l y)).length:Int)<10)↔Uj l hs hs[i]<10:=by unfold Uj;omega
  have q:=xP (p:=fun x=>decide (Uj l hs x<10)) u;rw[jf.2 O];unfold aIY;cases L:decide (Uj l hs hs[i]<10)with
  |true=>
   rw[Az,Bd u,AO,D6 Fa,AO,wrap_succ i AA];exact U _ (by rw[q,L,ha];rfl)
  |false=>
   rw[Aj,wrap_succ i AA];exact U _ (by rw[q,L,ha];simp)
 rw[FV]at ha;unfold aJd;rw[Ce,Aj,ha];exact .ret rfl
def ach {L:List Int} (h:L.Nodup):Q8 L=EG L:=by
 have q:=yJ L;have j:(Q8 L).Nodup:=(Ti L).nodup_iff.2 h;rw[ZH]at j;refine Ak ((q.and j).imp fun{a b} h=>AA) (Jo L) fun x=>?_;rw[(Ti L).mem_iff,IQ]
def aW2 {e:AL} {s:List Ah} {i:Nat} (h:i<(keysOf e).length):((keysOf e).take (i+1)).filterMap (LW s)=((keysOf e).take i).filterMap (LW s)++(LW s (keysOf e)[i]).toList:=by
 rw[Nw h,dN,MP,aG7];cases LW s (keysOf e)[i]<;>rfl
def aLC (e:AL) (s:List Ah) (i:Nat):(((keysOf e).take i).filterMap (LW s)).length≤5:=by
 have j:=aIA (LW s) ((keysOf e).take i);have q:=QI e;rw[FD]at j;omega
def aRh {α:Type} {p:α→Bool} {L:List α} {j:Nat} (q:j<L.length) (h:(L.take j).find? p=none) (u:p L[j]=true):L.find? p=some L[j]:=
 calc L.find? p=(L.take j++L.drop j).find? p:=by rw[Qb]
  _=some L[j]:=by rw[YI,h,Kw q,OL,u];rfl
def aeb (k x:Ah):oG (IU k) x=some (El x k):=by
 unfold oG IU El;simp only;rw[Ie];cases x.Kind==k.Kind<;>rfl
def apl (e:AL) (s:List Ah) (hs:s.length≤1000):ji e s=some (LV e s):=by
 unfold ji;rw[aKC,AO];have U:=QI e;have z:((keysOf e).map IU).length=(keysOf e).length:=CG ..;unfold aTZ;refine dL.eq (J5 ((keysOf e).map IU).length (fuel_lt AA) (fun i a=>a=((keysOf e).take i).filterMap (LW s)) rfl (fun i a k hi ha Y=>?_) fun a k ha=>?_)
 ·have I:i<(keysOf e).length:=AA
  have J:a.length≤5:=by rw[ha];exact aLC e s i
  unfold aIO;rw[Bo hi,Og];unfold aSh;have hst:=aW2 (s:=s) I
  have u:∀r,r=((keysOf e).take (i+1)).filterMap (LW s)→dL (wF k (i:Int) r) (· =LV e s):=fun r Z=>by
   unfold wF;rw[wrap_succ i AA];exact Y _ Z
  refine J5 s.length (fuel_lt AA) (fun j b=>b=a∧(s.take j).find? (fun x=>El x (keysOf e)[i])=none) ⟨rfl,rfl⟩ (fun j b f L q hf=>?_) fun b f q=>?_
  ·obtain⟨rfl,q⟩:=q;unfold aHu;rw[Bo L];simp only;rw[aeb,AO];cases O:El s[j] (keysOf e)[i]with
   |true=>
    rw[Az,D6 Fa,AO];refine u _ ?_
    have M:s.find? (fun x=>El x (keysOf e)[i])=some s[j]:=by
     exact aRh L q O
    rw[hst,ha];unfold LW;rw[M];rfl
   |false=>
    rw[Aj,wrap_succ j AA];refine hf _ ⟨rfl,?_⟩;rw[Nw L,YI,q,OL,O];rfl
  obtain⟨rfl,q⟩:=q;unfold aHu;rw[Ce,Aj];refine u _ ?_;rw[FV]at q;rw[hst,ha];unfold LW;rw[q,yQ,aI7,Oe]
 rw[z,FV]at ha;unfold aIO;have J:a.length≤5:=by rw[ha];have :=aLC e s (keysOf e).length;rwa [FV]at this
 rw[Ce,Aj,Xn _ AA,AO,ha];exact .ret rfl
def aho (e:AL) (s:List Ah) (hs:s.length≤1000):aEi e s=some (LV e s):=by
 unfold aEi;rw[aFf,AO];have Y:=QI e;unfold aWp;refine dL.eq (J5 (keysOf e).length (fuel_lt AA) (fun i a=>a=EG (((keysOf e).take i).filterMap (LW s))) rfl (fun i a k hi ha Z=>?_) fun a k ha=>?_)
 ·have hal:a.length≤5:=by
   rw[ha];exact Ed (KJ _) (aLC e s i)
  have hst:=aW2 (s:=s) hi
  have q:∀r,r=EG (((keysOf e).take (i+1)).filterMap (LW s))→dL (k r (Ai ((i:Int)+1))) (· =LV e s):=fun r hr=>by
   rw[wrap_succ i AA];exact Z _ hr
  unfold aI3;rw[dec_lt hi,Az];unfold aX8;refine QU (body:=aOG s (keysOf e) (i:Int) k) (Q:=_) (fun m b c d=>∃j:Nat,d=j∧j+m=s.length∧((c=false∧b=a∧(s.take j).find? (fun x=>El x (keysOf e)[i])=none)∨(c=true∧b=EG (((keysOf e).take (i+1)).filterMap (LW s))))) ?_ Ag s.length a false 0 (fuel_lt AA) ⟨0,rfl,AA,.inl ⟨rfl,rfl,rfl⟩⟩;rintro m b c d f ⟨j,rfl,hm,hI⟩ O;unfold aOG;rcases hI with⟨rfl,rfl,J⟩|⟨rfl,rfl⟩
  ·by_cases u:j<s.length
   ·rw[dec_lt u,Az,AO,Io,Az,Bd u,AO,Bd hi,AO,AO,AO,Ie];have L:(s[j].Kind==(keysOf e)[i].Kind&&decide (s[j].Key=(keysOf e)[i].Key))=El s[j] (keysOf e)[i]:=rfl
    have z:(bif (s[j].Kind==(keysOf e)[i].Kind)then jo s (j:Int) b f false (decide (s[j].Key=(keysOf e)[i].Key))else jo s (j:Int) b f false false)=jo s (j:Int) b f false (El s[j] (keysOf e)[i]):=by
     rw[←L];cases s[j].Kind==(keysOf e)[i].Kind<;>rfl
    rw[z];unfold jo aHO;cases U:El s[j] (keysOf e)[i]with
    |true=>
     rw[Az,Bd u,AO,dQ _ _ AA,AO]
     have M:s.find? (fun x=>El x (keysOf e)[i])=some s[j]:=by
      exact aRh u J U
     refine O (m-1) _ _ _ AA ⟨j+1,wrap_succ j AA,AA,.inr ⟨rfl,?_⟩⟩;rw[hst,ha];unfold LW;rw[M];unfold EG;rw[TY];rfl
    |false=>
     rw[Aj];refine O (m-1) _ _ _ AA ⟨j+1,wrap_succ j AA,AA,.inl ⟨rfl,rfl,?_⟩⟩;rw[Nw u,YI,J,OL,U];rfl
   have :j=s.length:=AA
   subst this;rw[Ce,Aj,AO,Aj];refine q _ ?_;rw[FV]at J;rw[hst,ha];unfold LW;rw[J,yQ,aI7,Oe]
  have I:(bif decide ((j:Int)<(s.length:Int))then some (!true)else some false)=some false:=by cases decide ((j:Int)<(s.length:Int))<;>rfl
  rw[I,AO,Aj];exact q _ rfl
 rw[FV]at ha;unfold aI3;rw[Ce,Aj,ha];exact .ret rfl
def roomOf (l:List AL):ByteArray:=(l.getD 0 Bv).Room
def LP (l:List AL) (t:List DR) (e:AL):AL:=
 { e with Room:=roomOf l,State:=GZ e.Kind,Depth:=Qi l (JF l (Fr l (Dk l t))),aU:=JF l (Fr l (Dk l t)),aZ:=LV e (En l t) }
def aJq {l:List AL} (h:l≠[]):Af l 0=some (l.getD 0 Bv):=by
 cases l with
 |nil=>exact absurd rfl h
 |cons x l=>rfl
def aK7 {α:Type} (g:α→Int) (f:AL→α→AL) (j:∀a x,f a x={ a with Depth:=max a.Depth (g x) }):∀(L:List α) (a:AL),L.foldl f a={ a with Depth:=L.foldl (fun d x=>max d (g x)) a.Depth }
 | [],a=>rfl
 |x::L,a=>by rw[F5,F5,aK7 g f j L,j]
def ahC {l:List AL} {t:List DR} {x:Int} (j:x∈Dk l t):bW l x=true:=by
 obtain⟨y,q,rfl⟩:=E5.1 j;exact NY.2 (E5.2 ⟨y,(FU.1 q).1,rfl⟩)
def aL8 {l:List AL} {t:List DR}:∀x∈Fr l (Dk l t),bW l x=true:=fun _ j=>ahC (aNi.1 j).1
section
variable {l : List AL} {t : List DR} {c : Int} (h : mG l t) (c1 : Md l = some c) (c2 : OB l = some c) (c3 : c = 0 → Uy l) (ht : t = Iz l c)
include h c1 c2 c3 ht
theorem aHb (ha:Dk l t≠[]):c=0∧H6 l=0∧t=Bz l:=by
 unfold Iz at ht;cases j:c==0 with
 |false=>rw[j,aPv,Aj]at ht;rw[ht,aEv]at ha;exact absurd rfl ha
 |true=>
  cases q:H6 l==0 with
  |false=>rw[j,q,Bool.and_false,Aj]at ht;rw[ht,aEv]at ha;exact absurd rfl ha
  |true=>rw[j,q]at ht;exact⟨eq_of_beq j,eq_of_beq q,ht⟩
theorem aVt :(En l t).length≤100:=by
 have j:c=0→Ik l:=fun q=>(c3 q).ok h.len;have :=(aMO (l:=l) (c:=c) j).length;rw[ht];have :=h.len;omega
theorem aec (e:AL):Qj l e=some (bif Dk l t==[]then(Bv,[],26)else bif decide (Qi l (JF l (Fr l (Dk l t)))>100000)then(Bv,[],29)else(LP l t e,En l t,0)):=by
 have hlen:=h.len;have hal:=Ug l t;have ho:c=0→Ik l:=fun h0=>(c3 h0).ok hlen;have hcur:=aVt h c1 c2 c3 ht;unfold Qj;rw[h.acc,AO];by_cases ha:Dk l t=[]
 ·rw[ha];rfl
 have hne:((Dk l t).length:Int)≠0:=fun q=>ha (Gf AA)
 have hb:(Dk l t==[])=false:=by
  cases hq:Dk l t with
  |nil=>exact absurd hq ha
  |cons x L=>rfl
 rw[Oz.2 hne,Aj,hb,Aj,aUW l _ hlen h.small AA,AO];obtain⟨k0,kd,kt⟩:=aHb h c1 c2 c3 ht ha;have aG1:l≠[]:=fun q=>ha qO;have hhl:=Y2 l (Dk l t);have hH:=aS9 l (Dk l t);have J:∀x∈Fr l (Dk l t),bW l x=true:=aL8;have M:=aHz kd ha;unfold LP;generalize Fr l (Dk l t)=hs at hhl hH J M;obtain⟨S,s1,Z,s3⟩:=aTu hH J AA;have hSl:S.length=hs.length:=by rw[Z.length_eq,Wj J,CG]
 rw[acL AA AA s1 AA,AO,aJq aG1,AO,aO6,AO];have hP:=aU8 hH J Z s3
 have j:∀x∈S.drop (S.length-10),1≤x.Depth∧x.Depth≤100000:=fun x I=>by
  have hm:=Z.mem_iff.1 (dh I);exact(ho k0).dep _ (aFA hm)
 have hnd:((S.drop (S.length-10)).map (·.Id)).Nodup:=by
  have h1:(S.map (·.Id)).Nodup:=by
   have :=(Z.map (·.Id)).nodup_iff.2 (by rw[aT3 J];exact Tn hH);exact this
  exact h1.sublist ((nN _ _).map _)
 have O:(S.drop (S.length-10)).foldl (fun d x=>max d (x.Depth+1)) 1=Qi l (JF l hs):=by
  unfold Qi;refine adJ (fun q=>?_) (fun x I=>?_) (fun y hy=>?_) (fun x I=>?_) (fun y hy=>?_)
  ·have :=Aq List.length q;rw[IV,LY]at this;have :0<hs.length:=ig.2 M;omega
  ·refine⟨x.Id,by rw[←hP];exact IQ.2 (E5.2 ⟨x,I,rfl⟩),?_⟩;obtain⟨i,hi,e1⟩:=Fv (dh I);have :=(aFD J Z s3 hi).1;rw[e1]at this;rw[this]
  ·rw[←hP,IQ]at hy;obtain⟨x,I,rfl⟩:=E5.1 hy;refine⟨x,I,?_⟩;obtain⟨i,hi,e1⟩:=Fv (dh I);have :=(aFD J Z s3 hi).1;rw[e1]at this;rw[this]
  ·have :=(j x I).1;omega
  have hk:bW l y=true:=J y (FU.1 hy).1;have :=((ho k0).dep _ (I9 (GH hk).1)).1;omega
 have hPl:(S.drop (S.length-10)).length≤100:=aDa
 generalize S.drop (S.length-10)=T at hP j hnd O hPl;unfold aXh;rw[gQ (body:=zQ T l) T AA (fun(a:AL) x=>{ a with Depth:=max a.Depth (x.Depth+1) }) (fun _ _=>True) (fun v8=>(bif decide (v8.Depth>100000)then some (Bv,[],29)else(dw T).bind fun U=>(Ls U).bind fun u=>(XC l).bind fun z=>(ji ({ v8 with aU:=u }) z).bind fun Y=>some ({ { v8 with aU:=u }with aZ:=Y },z,0))) trivial]
 ·rw[aK7 (fun x:AL=>x.Depth+1) _ (fun a x=>rfl)];show(bif decide (T.foldl (fun d x=>max d (x.Depth+1)) 1>100000)then some (Bv,[],(29:Int))else(dw T).bind fun U=>(Ls U).bind fun u=>(XC l).bind fun z=>(ji { e with Room:=roomOf l,State:=GZ e.Kind,Depth:=T.foldl (fun d x=>max d (x.Depth+1)) 1,aU:=u } z).bind fun Y=>some ({ e with Room:=roomOf l,State:=GZ e.Kind,Depth:=T.foldl (fun d x=>max d (x.Depth+1)) 1,aU:=u,aZ:=Y },z,0))=_;rw[O,amy T AA,AO]
  have hso:Ls (T.map (·.Id))=some (JF l hs):=by
   unfold Ls;rw[CS VT,ach hnd,hP]
  have hcu:XC l=some (En l t):=by rw[ht];exact aS1 c1 ho
  rw[hso,AO,hcu,AO,apl _ _ AA,AO];cases decide (Qi l (JF l hs)>100000)<;>rfl
 ·intro k a i hi _;refine⟨trivial,?_⟩;have I:=j _ (EJ hi);unfold zQ;rw[Bo hi,aSK,NG (x:=T[i].Depth+1) AA AA]
 intro k a _;unfold zQ;rw[Ce,Aj]
theorem amG :aLr l=some (Fr l (Dk l t)):=by
 have hlen:=h.len;have j:=h.aG0;have q:=Ug l t;unfold aLr aF4;rw[h.tbl,AO,aWs l t AA AA,AO,aWN l _ AA h.small AA];rfl
theorem aiQ (e:AL) (he0:e.Depth=0) (x:Int) (J:Oy (LP l t e)=some x):Qh l e=some (bif Dk l t==[]then(Bv,26)else bif decide (Qi l (JF l (Fr l (Dk l t)))>100000)then(Bv,29)else bif x != 0 then(Bv,x)else(LP l t e,0)):=by
 have hlen:=h.len;have hal:=Ug l t;have ho:c=0→Ik l:=fun h0=>(c3 h0).ok hlen;have hcur:=aVt h c1 c2 c3 ht;have u:=acT c2 ho;unfold Qh;rw[amG h c1 c2 c3 ht,AO,u,AO];by_cases ha:Dk l t=[]
 ·rw[ha];show((bif !(c==0&&H6 l==0)then some true else some (((Fr l []).length:Int)==0)).bind _)=_
  have :(bif !(c==0&&H6 l==0)then some true else some (((Fr l []).length:Int)==0))=some true:=by
   cases(c==0&&H6 l==0)<;>rfl
  rw[this];rfl
 have hb:(Dk l t==[])=false:=by
  cases hq:Dk l t with
  |nil=>exact absurd hq ha
  |cons x L=>rfl
 obtain⟨k0,kd,kt⟩:=aHb h c1 c2 c3 ht ha;have O:=aHz kd ha;have U:l≠[]:=fun q=>ha qO;have hhl:=Y2 l (Dk l t);have hK:∀x∈Fr l (Dk l t),bW l x=true:=aL8;have hne:((Fr l (Dk l t)).length:Int)≠0:=fun q=>O (Gf AA);have hr:(c==0&&H6 l==0)=true:=by rw[k0,kd];rfl
 rw[hr,EF,Aj,Oz.2 hne,AO,Aj,hb,Aj,aJq U,AO,sK,AO,aoD AA AA,AO];unfold LP at J ⊢;generalize Fr l (Dk l t)=hs at hhl hK J;have hPl:(JF l hs).length≤100:=Ed (JH _ _) AA;have Y:∀x∈JF l hs,1≤(ev l x).Depth∧(ev l x).Depth≤100000:=fun x J=>(ho k0).dep _ (I9 (GH (hK x (FU.1 J).1)).1);have I:Qi l (JF l hs)=(JF l hs).foldl (fun d x=>max d ((ev l x).Depth+1)) 0:=rfl;generalize JF l hs=P at hPl Y J I;unfold aQk;rw[gQ (body:=aA1 l) P AA (fun(a:AL) x=>{ a with Depth:=max a.Depth ((ev l x).Depth+1) }) (fun _ a=>a.aU=P) (fun z=>(Z9 l).bind fun x15=>(aEi z x15).bind fun M=>(bif decide ((({ z with aZ:=M }).Depth)>100000)then some (Bv,29)else(Oy ({ z with aZ:=M })).bind fun j=>(bif (j != 0)then some (Bv,j)else some ({ z with aZ:=M },0)))) rfl]
 ·rw[aK7 (fun x:Int=>(ev l x).Depth+1) _ (fun a x=>rfl)];have hcu:Z9 l=some (En l t):=by rw[ht];exact aSE c2 ho hlen h.small
  rw[hcu,AO,aho _ _ AA,AO];show(bif decide (P.foldl (fun d x=>max d ((ev l x).Depth+1)) e.Depth>100000)then some (Bv,(29:Int))else(Oy { e with Room:=roomOf l,State:=GZ e.Kind,Depth:=P.foldl (fun d x=>max d ((ev l x).Depth+1)) e.Depth,aU:=P,aZ:=LV e (En l t) }).bind fun j=>(bif (j != 0)then some (Bv,j)else some ({ e with Room:=roomOf l,State:=GZ e.Kind,Depth:=P.foldl (fun d x=>max d ((ev l x).Depth+1)) e.Depth,aU:=P,aZ:=LV e (En l t) },0)))=_;rw[he0,←I,J,AO];cases decide (Qi l P>100000)<;>cases x != 0<;>rfl
 ·intro k a i hi Z;refine⟨Z,?_⟩;have J:=Y _ (EJ hi);have hi':i<a.aU.length:=by rw[Z];exact hi
  unfold aA1;rw[Bo hi',KR l _ AA,AO,aSK];show k _ ({ a with Depth:=max a.Depth (Ai ((ev l a.aU[i]).Depth+1)) })=_;have e1:a.aU[i]=P[i]:=by simp only[Z]
  rw[e1,NG (x:=(ev l P[i]).Depth+1) AA AA]
 intro k a Z;unfold aA1;rw[Z,Ce,Aj]
end
end Go.Proofs.YtkkdimcnpacjhaaGreat
end
section
namespace Go.Proofs.YtkkdimcnpacjhaaGreat
open Go.RowKit
set_option maxRecDepth 20000
set_option maxHeartbeats 1000000
def ah7 (s:ByteArray):(J4 s).size≤s.size:=by
 unfold J4 splitB;cases J7 s with
 |false=>exact Du _
 |true=>
  show(PV s).size≤_;unfold PV;rw[aBD];omega
def aL3 {e:AL} (h:Ea e):Ea (IB e (J4 e.aQ)):=
 ⟨h.prev,h.auth,h.allow,h.deny,h.users,h.kinds,h.room,h.sender,h.key,h.text,h.via,Ed (ah7 _) h.sender,h.allows,h.denies,h.names⟩
def ajC (e:AL) (s:ByteArray):Oy (IB e s)=Oy e:=rfl
def an9 (e:AL) (s:ByteArray):YV (IB e s)=YV { e with Hash:=Oq e }:=rfl
def akE (e:AL) (s:ByteArray):Zy (IB e s)=(IB e s).Id:=by
 show gX (lY (YV (IB e s)))=gX (lY (YV { e with Hash:=Oq e }));rw[an9]
def aj2 (e:AL) (s:ByteArray):Oq (IB e s)=(IB e s).Hash:=rfl
def aoa (e:AL) (s:ByteArray):keysOf (IB e s)=keysOf e:=rfl
def apk (l:List AL) (t:List DR) (e:AL):keysOf (LP l t e)=keysOf e:=rfl
def ae2 {e f:AL} (h:keysOf f=keysOf e) (s:List Ah):LV f s=LV e s:=by unfold LV;rw[h]
def aup {f:AL} (hs:Ea f) (j:Oy f=some 0) (q:Oq f=f.Hash) (u:Zy f=f.Id) (z:f.ng.Server=J4 f.aQ) (I:f.ng.Sum=f.Id):RG f=some 0:=by
 have J:f.aQ.size≤2000:=hs.sender;unfold RG;rw[j,AO,JA,Aj,(aK8 hs.x).2,q,KI,AO,EF,Aj];unfold lQ;rw[Aj,(aCW hs.x).2,u,AO,JA,Aj,(UM (s:=f.aQ) AA).2,AO,z];unfold J4 aCF;rw[KI,EF,Aj,I,JA,Aj]
def aQX {e:AL} (h:Ea e) (j:Oy e=some 0):RG (IB e (J4 e.aQ))=some 0:=
 aup (aL3 h) ((ajC e _).trans j) (aj2 e _) (akE e _) rfl rfl
def akC {e:AL} (h:Ea e) (j:Oy e=some 0):Ym (IB e (J4 e.aQ))=some 0:=by
 obtain⟨c,c1,c2,_⟩:=aC0 (aL3 h).wide;rw[aQX h j]at c2;rw[c1,←CV c2]
def anm {e:AL} (h:Ea e):kY e=some (IB e (J4 e.aQ)):=by
 have j:e.aQ.size≤2000:=h.sender;unfold kY;rw[(UM (s:=e.aQ) AA).1,AO,(aNw h _).1];rfl
structure Z4 (l:List AL) (e0 E:AL):Prop where
 facts:Uy l
 deep:H6 l=0
 ver:∀x∈l,RG x=some 0
 prog:Md l=some 0
 some_:Dk l (Bz l)≠[]
 check:Oy E=some 0
 small:Ea E
 eq:E=LP l (Bz l) e0
def abd {l:List AL} (hs:D5 l):(roomOf l).size≤2000:=by
 unfold roomOf;cases l with
 |nil=>exact Du _
 |cons x l=>exact(hs x (EU ..)).room
def als {l:List AL} {j:AL} (hl:l.length≤40) (hs:D5 l) (h:Ea j) (t:List DR):Ea (LP l t j):=by
 have q:=Ug l t;have u:=Y2 l (Dk l t);have z:(JF l (Fr l (Dk l t))).length≤(Fr l (Dk l t)).length:=JH ..;have I:=af8 j (En l t);exact⟨by show(JF l (Fr l (Dk l t))).length≤40;omega,by show(LV j (En l t)).length≤40;omega,h.allow,h.deny,h.users,h.kinds,abd hs,h.sender,h.key,h.text,h.via,h.server,h.allows,h.denies,h.names⟩
def aTf {l:List AL} (hl:l.length≤40) (hs:D5 l) {j:AL} (I:Ea j) (J:j.Depth=0):
 (∃x:Int,x≠0∧Qj l j=some (Bv,[],x)∧Qh l j=some (Bv,x))∨
 ∃(E:AL) (cur:List Ah),Qj l j=some (E,cur,0)∧((∃x:Int,x≠0∧QW E=some x∧Qh l j=some (Bv,x))∨
  (QW E=some 0∧Qh l j=some (E,0)∧Z4 l j E∧cur=En l (Bz l)∧Z9 l=some cur)):=by
 obtain⟨c,h,c1,c2,c3⟩:=afE hs AA;have hsm:=als hl hs I (Iz l c);obtain⟨x,U,Y⟩:=aaK hsm.wide;have u:=aec h c1 c2 c3 rfl j;have q:=aiQ h c1 c2 c3 rfl j J x Y;by_cases ha:Dk l (Iz l c)=[]
 ·rw[ha]at u q;exact .inl ⟨26,BK,u,q⟩
 have Z:(Dk l (Iz l c)==[])=false:=by
  cases z:Dk l (Iz l c)with
  |nil=>exact absurd z ha
  |cons x L=>rfl
 rw[Z,Aj]at u q;obtain⟨k0,kd,M⟩:=aHb h c1 c2 c3 rfl ha;cases z:decide (Qi l (JF l (Fr l (Dk l (Iz l c))))>100000)with
 |true=>
  rw[z,Az]at u q;exact .inl ⟨29,BK,u,q⟩
 |false=>
  rw[z,Aj]at u q;refine .inr ⟨_,_,u,?_⟩;by_cases O:x=0
  ·subst O;rw[JA,Aj]at q;subst k0;refine .inr ⟨U,q,⟨c3 rfl,kd,abb c2 AA,c1,by rw[←M];exact ha,Y,hsm,by rw[M]⟩,by rw[M],?_⟩;exact aSE c2 (fun I=>(c3 I).ok AA) AA hs
  rw[Rz.2 O,Az]at q;exact .inl ⟨x,O,U,q⟩
def IX (j:ByteArray) (k:Int) (key:ByteArray) (c:Bj) (time:Int):AL:={ Bv with aQ:=j,Kind:=k,Key:=key,Time:=time,Content:=c }
structure agJ (l:List AL) (e0 e:AL):Prop where
 frame:Z4 l e0 (LP l (Bz l) e0)
 allow:GY (LP l (Bz l) e0) (EW l (En l (Bz l)))=0
 eq:e=IB (LP l (Bz l) e0) (J4 e0.aQ)
def Z4.awE {l:List AL} {j E:AL} (h:Z4 l j E) (hl:l.length≤40):(En l (Bz l)).length≤40:=by
 have :=aMO (l:=l) (c:=0) fun _=>h.facts.ok AA;rw[aCT h.deep]at this;have :=this.length;omega
def ap6 {l:List AL} (hl:l.length≤40) (hs:D5 l) {j:ByteArray} {k:Int} {key:ByteArray} {c:Bj} {time:Int} (Z:Ea (IX j k key c time)):
 ∃r:AL×Int,mD l j k key c time=some r∧aRP l j k key c time=some r∧((r.2≠0∧r.1=Bv)∨(r.2=0∧agJ l (IX j k key c time) r.1)):=by
 rcases aTf hl hs Z rfl with⟨x,q,L,z⟩|⟨E,cur,L,⟨x,q,M,z⟩|⟨M,z,u,rfl,O⟩⟩
 ·refine⟨(Bv,x),?_,?_,.inl ⟨q,rfl⟩⟩
  ·show(Qj l (IX j k key c time)).bind _=_;rw[L,AO];show(bif x != 0 then _ else _)=_;rw[Rz.2 q,Az]
  show(Qh l (IX j k key c time)).bind _=_;rw[z,AO];show(bif x != 0 then _ else _)=_;rw[Rz.2 q,Az]
 ·refine⟨(Bv,x),?_,?_,.inl ⟨q,rfl⟩⟩
  ·show(Qj l (IX j k key c time)).bind _=_;rw[L,AO];show(bif (0:Int) != 0 then _ else(QW E).bind _)=_;rw[JA,Aj,M,AO,Rz.2 q,Az]
  show(Qh l (IX j k key c time)).bind _=_;rw[z,AO];show(bif x != 0 then _ else _)=_;rw[Rz.2 q,Az]
 have hcl:=u.awE hl;have hel:=mF l (En l (Bz l));have I:D5 (EW l (En l (Bz l))):=aDn hs _;have hE:E.aQ=j:=by rw[u.eq];rfl
 have U:mD l j k key c time=bif GY E (EW l (En l (Bz l))) != 0 then some (Bv,GY E (EW l (En l (Bz l))))else some (IB E (J4 E.aQ),0):=by
  show(Qj l (IX j k key c time)).bind _=_;rw[L,AO];show(bif (0:Int) != 0 then _ else(QW E).bind _)=_;rw[JA,Aj,M,AO,JA,Aj];show(cu l (En l (Bz l))).bind _=_;rw[aOE l _ AA AA,AO];show(TF E (EW l (En l (Bz l)))).bind _=_;rw[nI E _ AA I u.small,AO];show(bif _ then _ else(kY E).bind _)=_;rw[anm u.small];rfl
 have Y:aRP l j k key c time=bif GY E (EW l (En l (Bz l))) != 0 then some (Bv,GY E (EW l (En l (Bz l))))else some (IB E (J4 E.aQ),0):=by
  show(Qh l (IX j k key c time)).bind _=_;rw[z,AO];show(bif (0:Int) != 0 then _ else(Z9 l).bind _)=_;rw[JA,Aj,O,AO,aQL l _ AA AA,AO];show(dc E (EW l (En l (Bz l)))).bind _=_;have hsz:j.size≤2000:=Z.sender;rw[aDw E _ AA I u.small,AO,(UM (s:=j) AA).2];show(bif _ then _ else(aBN E _).bind _)=_;rw[(aNw u.small _).2,hE];rfl
 rw[U,Y];by_cases q:GY E (EW l (En l (Bz l)))=0
 ·rw[q];refine⟨_,rfl,rfl,.inr ⟨rfl,?_⟩⟩;have J:=u;rw[u.eq]at q J;exact⟨J,q,by rw[hE,u.eq];rfl⟩
 rw[Rz.2 q];exact⟨_,rfl,rfl,.inl ⟨q,rfl⟩⟩
def amX {l:List AL} (hl:l.length≤40) (hs:D5 l) {j:ByteArray} {m:Int} {via:ByteArray} {time:Int} (J:Ea (IX j 2 j { EL with N:=m,Via:=via } time)):
 ∃r:AL×Int,aM2 l j m via time=some r∧apL l j m via time=some r∧((r.2≠0∧r.1=Bv)∨(r.2=0∧Z4 l (IX j 2 j { EL with N:=m,Via:=via } time) r.1)):=by
 rcases aTf hl hs J rfl with⟨x,q,z,u⟩|⟨E,cur,z,⟨x,q,I,u⟩|⟨I,u,L,rfl,M⟩⟩
 ·refine⟨(Bv,x),?_,?_,.inl ⟨q,rfl⟩⟩
  ·show(Qj l (IX j 2 j { EL with N:=m,Via:=via } time)).bind _=_;rw[z,AO];show(bif x != 0 then _ else _)=_;rw[Rz.2 q,Az]
  show(Qh l (IX j 2 j { EL with N:=m,Via:=via } time)).bind _=_;rw[u];rfl
 ·refine⟨(Bv,x),?_,?_,.inl ⟨q,rfl⟩⟩
  ·show(Qj l (IX j 2 j { EL with N:=m,Via:=via } time)).bind _=_;rw[z,AO];show(bif (0:Int) != 0 then _ else(QW E).bind _)=_;rw[JA,Aj,I,AO,Rz.2 q,Az]
  show(Qh l (IX j 2 j { EL with N:=m,Via:=via } time)).bind _=_;rw[u];rfl
 refine⟨(E,0),?_,?_,.inr ⟨rfl,L⟩⟩
 ·show(Qj l (IX j 2 j { EL with N:=m,Via:=via } time)).bind _=_;rw[z,AO];show(bif (0:Int) != 0 then _ else(QW E).bind _)=_;rw[JA,Aj,I];rfl
 show(Qh l (IX j 2 j { EL with N:=m,Via:=via } time)).bind _=_;rw[u];rfl
def aYf (l:List AL) (n:Sz):dL (xC l n) fun b=>b=false→l.length≤14∧D5 l∧∀k t,Ea (IX n.User k n.Key n.Content t):=by
 unfold xC;refine(apK l).bind fun b u=>?_;refine dL.bind (P:=fun x=>x=false→l.length≤14∧D5 l∧∀k t,Ea (IX n.User k n.Key n.Content t)) (dL.bif (fun _=>.ret fun h=>Gy) fun e=>?_) fun x q=>.ret q;refine(ab5 _).bind fun x q=>.ret fun h=>?_;obtain⟨z,I⟩:=u e;have j:=q h;exact⟨z,I,fun k t=>⟨j.prev,j.auth,j.allow,j.deny,j.users,j.kinds,j.room,j.sender,j.key,j.text,j.via,j.server,j.allows,j.denies,j.names⟩⟩
def al9 {j key:ByteArray} {c:Bj} {m:Int} {t k:Int} (h:Ea (IX j k key c t)) (via:ByteArray) (q:via.size≤2000):Ea (IX j 2 j { EL with N:=m,Via:=via } t):=
 ⟨Du _,Du _,Du _,Du _,Du _,Du _,Du _,h.sender,h.sender,Du _,q,Du _,fun _ h=>absurd h Ei,fun _ h=>absurd h Ei,fun _ h=>absurd h Ei⟩
def Z4.new {l:List AL} {J E:AL} (h:Z4 l J E) (hl:l.length≤14) (hp:¬(10≤E.aU.length)) (hk:bW l (IB E (J4 E.aQ)).Id=false):Ht l (IB E (J4 E.aQ)):=by
 have ho:Ik l:=h.facts.ok AA;have L:E.aU=JF l (Fr l (Dk l (Bz l))):=by rw[h.eq];rfl
 have O:∀x∈Fr l (Dk l (Bz l)),bW l x=true:=aL8;have hH:=aS9 l (Dk l (Bz l));have hHl:=Y2 l (Dk l (Bz l));have hal:=Ug l (Bz l);obtain⟨S,s1,s2,s3⟩:=aTu hH O AA;have hlen:=acV hH O s2 s3;have j:JF l (Fr l (Dk l (Bz l)))=Fr l (Dk l (Bz l)):=amd (by rw[L]at hp;omega);have U:=aHz h.deep h.some_
 have u:E.Depth=Qi l (Fr l (Dk l (Bz l))):=by
  rw[h.eq];show Qi l (JF l (Fr l (Dk l (Bz l))))=_;rw[j]
 obtain⟨t1,t2,Y⟩:=foldl_max (fun x=>(ev l x).Depth+1) (Fr l (Dk l (Bz l))) 0;have Z:∀x∈Fr l (Dk l (Bz l)),1≤(ev l x).Depth:=fun x q=>(ho.dep _ (I9 (GH (O x q)).1)).1
 have I:∀x∈l,x.Room=E.Room:=fun x q=>by
  rw[h.eq];show x.Room=(l.getD 0 Bv).Room;cases l with
  |nil=>cases q
  |cons y l=>exact h.facts.room x q y (EU ..)
 have z:=aQX h.small h.check;have hsm:=aL3 h.small;have e1:(IB E (J4 E.aQ)).Room=E.Room:=rfl;have M:(IB E (J4 E.aQ)).aU=E.aU:=rfl;have e3:(IB E (J4 E.aQ)).Depth=E.Depth:=rfl;have e4:(IB E (J4 E.aQ)).aZ=E.aZ:=rfl;have e5:keysOf (IB E (J4 E.aQ))=keysOf E:=aoa E _;have e6:E.aZ=LV J (En l (Bz l)):=by rw[h.eq];rfl
 have e7:keysOf E=keysOf J:=by rw[h.eq];exact apk l _ J
 generalize IB E (J4 E.aQ)=s at hk z hsm e1 M e3 e4 e5 ⊢;refine⟨h.facts,AA,h.deep,h.ver,hk,z,hsm,fun x q=>by rw[e1];exact I x q,by rw[M,L,j],h.some_,fun x q=>?_,?_,by rw[e4,e6,ae2 (e5.trans e7)]⟩
 ·have hx':x∈Fr l (Dk l (Bz l)):=by
   rwa [M,L,j]at q
  have :=t2 x hx';rw[e3,u];unfold Qi;omega
 rcases Y with Y|⟨x,q,Y⟩
 ·obtain⟨x,q⟩:=aXj _ U;have :=t2 x q;have :=Z x q;omega
 refine⟨x,by rw[M,L,j];exact q,?_⟩;rw[e3,u];unfold Qi;omega
def aXG {l:List AL} {e:AL} (h:Ht l e) (hl:l.length≤50):bZ l e=some (Et l e,0):=by
 rw[agR AA]
 have j:l.any (aBX e)=false:=by
  rw[lU];intro x q;unfold aBX;rw[h.room x q];simp
 rw[j,h.fresh];rfl
def aVQ {l:List AL} {e:AL} (h:Ht l e):Wh (Et l e) e.Id=some (bQ (Bz (Et l e)) e.Id):=by
 have :=ajs h.prog' (fun _=>h.ok') e.Id
 rwa [aCT h.arT]at this
def apD (l:List AL) (n:Sz):aHI l n=some true:=by
 unfold aHI;refine dL.eq ((aYf l n).bind fun b hb=>dL.bif (fun _=>by rw[VG];exact .ret rfl) fun e=>?_);obtain⟨hl,hs,h0⟩:=hb e;obtain⟨r,r1,_,r3⟩:=ap6 AA hs (h0 n.Kind n.Time);rw[r1,AO];rcases r3 with⟨M,hz⟩|⟨M,O⟩
 ·rw[Rz.2 M,Az,hz,aTo aHC,VG];exact .ret rfl
 have J:=O.frame;obtain⟨e,x⟩:=r;obtain rfl:x=0:=M;have j:e=IB (LP l (Bz l) (IX n.User n.Kind n.Key n.Content n.Time)) (J4 (LP l (Bz l) (IX n.User n.Kind n.Key n.Content n.Time)).aQ):=O.eq;have L:=O.allow;have I:l≠[]:=fun q=>J.some_ qO
 have U:((l.length:Int)==0)=false:=by
  rw[Oz];intro q;exact I (Gf AA)
 have u:=akC J.small J.check;have Y:(LP l (Bz l) (IX n.User n.Kind n.Key n.Content n.Time)).aQ=n.User:=rfl;have f2:(LP l (Bz l) (IX n.User n.Kind n.Key n.Content n.Time)).Kind=n.Kind:=rfl;have f3:(LP l (Bz l) (IX n.User n.Kind n.Key n.Content n.Time)).Key=n.Key:=rfl;have f4:(LP l (Bz l) (IX n.User n.Kind n.Key n.Content n.Time)).Time=n.Time:=rfl;have f5:(LP l (Bz l) (IX n.User n.Kind n.Key n.Content n.Time)).Room=roomOf l:=rfl;generalize LP l (Bz l) (IX n.User n.Kind n.Key n.Content n.Time)=E at J j L u Y f2 f3 f4 f5;rw[←j]at u;have hsz:n.User.size≤2000:=(h0 n.Kind n.Time).sender;have g1:e.aQ=n.User:=by rw[j];exact Y
 have g2:e.Kind=n.Kind:=by rw[j];exact f2
 have g3:e.Key=n.Key:=by rw[j];exact f3
 have g4:e.Time=n.Time:=by rw[j];exact f4
 have g5:e.Room=(l.getD 0 Bv).Room:=by rw[j];exact f5
 have g6:e.ng.Server=(splitB n.User (J7 n.User)).2.1:=by rw[j,Y];rfl
 show dL (bif (0:Int) != 0 then _ else bif (l.length:Int)==0 then _ else(Ym e).bind _) _;rw[JA,Aj,U,Aj,u,AO,JA,Aj];show dL (bif !(e.aQ.toList==n.User.toList)then _ else bif e.Kind != n.Kind then _ else bif !(e.Key.toList==n.Key.toList)then _ else bif e.Time != n.Time then _ else(VB n.User).bind _) _;rw[g1,KI,EF,Aj,g2,JA,Aj,g3,KI,EF,Aj,g4,JA,Aj,(UM (s:=n.User) AA).1,AO];show dL (bif !(e.ng.Server.toList==(splitB n.User (J7 n.User)).2.1.toList)then _ else(Af l 0).bind _) _;rw[g6,KI,EF,Aj,aJq I,AO];show dL (TB l (e,0) (!(e.Room.toList==(l.getD 0 Bv).Room.toList))) _;rw[g5,KI,EF];unfold TB;rw[Aj];show dL ((Ll l e.Id).bind _) _;rw[Np l _ AA,AO,NZ];show dL ((bif bW l e.Id then some true else some (decide ((e.aU.length:Int)≥10))).bind _) _;cases hk:bW l e.Id with
 |true=>rw[Az,AO,Az,VG];exact .ret rfl
 |false=>
  rw[Aj,AO];have Z:e.aU=E.aU:=vG
  by_cases hp:10≤e.aU.length
  ·rw[Gi (show(e.aU.length:Int)≥10 by omega),Az,VG];exact .ret rfl
  rw[H7 (show ¬(e.aU.length:Int)≥10 by omega),Aj]
  have z:Ht l e:=by
   rw[j];exact J.new hl (by rw[←Z];exact hp) (by rw[←j];exact hk)
  have hw:bQ (Bz (Et l e)) e.Id=0:=z.why.2 (by
   have :GY e (EW l (En l (Bz l)))=GY E (EW l (En l (Bz l))):=vG
   rw[this];exact L)
  show dL ((bZ l e).bind _) _;rw[aXG z AA,AO];show dL ((bif (0:Int)==0 then(Wh (Et l e) e.Id).bind _ else _).bind _) _;rw[aVQ z,hw,VG];exact .ret rfl
def afd (l:List AL) (n:Sz):aNh l n=some true:=by
 unfold aNh;refine dL.eq ((aYf l n).bind fun b Z=>dL.bif (fun _=>by rw[VG];exact .ret rfl) fun e=>?_);obtain⟨hl,hs,U⟩:=Z e;obtain⟨r,r1,_,r3⟩:=amX (m:=n.Content.N) AA hs (al9 (U n.Kind n.Time) BP (Du _));rw[r1,AO];rcases r3 with⟨I,hz⟩|⟨I,j⟩
 ·rw[Rz.2 I,Az,hz,aTo aHC,VG];exact .ret rfl
 obtain⟨E,x⟩:=r;obtain rfl:x=0:=I;replace j:=show Z4 l (IX n.User 2 n.User { EL with N:=n.Content.N,Via:=BP } n.Time) E from j;have f1:E.Id=0:=kH
 have f2:E.Hash=0:=kH
 have f3:E.ng.Server=BP:=kH
 have f4:E.Key=n.User:=kH
 have f5:E.Content.N=n.Content.N:=kH
 have f6:E.aQ=n.User:=kH
 have hcl:=j.awE AA;have hel:=mF l (En l (Bz l));have J:D5 (EW l (En l (Bz l))):=aDn hs _;have hsz:n.User.size≤2000:=(U n.Kind n.Time).sender
 have L:XC l=some (En l (Bz l)):=by
  have :=aS1 j.prog fun _=>j.facts.ok AA
  rwa [aCT j.deep]at this
 show dL (bif (0:Int) != 0 then _ else(bif E.Id != 0 then some true else some (E.Hash != 0)).bind _) _;rw[JA,Aj,f1,JA,Aj,f2,AO,JA,Aj];show dL ((some (!(E.ng.Server.toList==BP.toList))).bind _) _;rw[f3,KI,EF,AO,Aj];show dL ((some (!(E.Key.toList==n.User.toList))).bind _) _;rw[f4,KI,EF,AO,Aj];show dL ((some (E.Content.N != n.Content.N)).bind _) _;rw[f5,JA,AO,Aj,L,AO,aOE l _ AA AA,AO];show dL ((TF E (EW l (En l (Bz l)))).bind _) _;rw[nI E _ AA J j.small,AO,(UM (s:=n.User) AA).1,AO];show dL ((jk E (J4 n.User)).bind _) _;rw[(aNw j.small _).1,AO,←f6];have M:(IB E (J4 E.aQ)).aU=E.aU:=rfl;have z:GY (IB E (J4 E.aQ)) (EW l (En l (Bz l)))=GY E (EW l (En l (Bz l))):=rfl;have u:=j.new hl;generalize IB E (J4 E.aQ)=s at M z u;rw[Np l _ AA,AO,NZ];show dL ((bif bW l s.Id then some true else some (decide ((E.aU.length:Int)≥10))).bind _) _;cases hk:bW l s.Id with
 |true=>rw[Az,AO,Az,VG];exact .ret rfl
 |false=>
  rw[Aj,AO];by_cases hp:10≤E.aU.length
  ·rw[Gi (show(E.aU.length:Int)≥10 by omega),Az,VG];exact .ret rfl
  rw[H7 (show ¬(E.aU.length:Int)≥10 by omega),Aj];have q:=u hp hk;have Y:=q.why;rw[z]at Y
  have O:((bQ (Bz (Et l s)) s.Id==0)==(GY E (EW l (En l (Bz l)))==0))=true:=by
   rw[Lm,Jq,Lm,Lm];exact Y
  rw[aXG q AA,AO];show dL ((bif (0:Int)==0 then(Wh (Et l s) s.Id).bind _ else _).bind _) _;rw[aVQ q,KI,Az,AO,O,AO,Az,VG];exact .ret rfl
end Go.Proofs.YtkkdimcnpacjhaaGreat
end
