/- Part 7 of what the laws' proofs lean on: states of the walk, typed functions of the program and their laws (short forms written by wip/shrink.py; no condition). -/
import Derived.Test.YtkkdimcnpacjhaaGreatRf6
set_option linter.defProp false
set_option linter.unnecessarySimpa false
set_option linter.unusedVariables false
set_option linter.unusedSimpArgs false
set_option linter.unusedSectionVars false
section
namespace Go.Proofs.YtkkdimcnpacjhaaGreat
open Go.RowKit
def JG {a:Int} {c:Bool} {X:Option Int} (h:(bif c then some a else X)=some 0) (ha:a≠0):c=false∧X=some 0:=by
 cases c with
 |true=>exact absurd (CS h) ha
 |false=>exact⟨rfl,h⟩
def RG {a:Int} {x:Option Int} (h:(bif a != 0 then some a else x)=some 0):a=0∧x=some 0:=by
 by_cases ha:a=0
 ·subst ha;exact⟨rfl,h⟩
 rw[show(a != 0)=true from by simpa using ha]at h;exact absurd (CS h) ha
def firsts {α R:Type} {body:(Int→Option R)→Int→Option R} {ok:R} (l:List α) (hl:l.length≤9223372036854775807) (P:Nat→Prop)
 (I:∀k (i:Nat),i<l.length→body k (i:Int)=some ok→P i∧k ((i+1:Nat):Int)=some ok) (u:Nat) (h:bI body Aj (u:Int)=some ok):∀i,u≤i→i<l.length→P i:=by
 have key:∀n (i:Nat) m,i+n=l.length→n<m→bI body m (i:Int)=some ok→∀j,i≤j→j<l.length→P j:=by
  intro n
  induction n with
  |zero=>intro i m hi _ _ j q z;omega
  |succ n J=>
   intro i m hi hm L j q z;obtain⟨m,rfl⟩:∃M,m=M+1:=⟨m-1,AA⟩
   obtain⟨a,b⟩:=I (bI body m) i AA L;rcases aIH q with rfl|q
   ·exact a
   exact J (i+1) m AA AA b j q z
 intro i q z;have O:Aj=9223372036854775808:=rfl;exact key (l.length-u) u Aj AA AA h i q z
def jT {α:Type} {l:List α} {Q:α→Prop} (h:∀i,0≤i→i<l.length→∀x,l[i]? =some x→Q x):∀x∈l,Q x:=fun x j=>by
 obtain⟨i,hi,rfl⟩:=G5 j;exact h i (Ci _) hi _ (DC hi)
def agN (s:ByteArray) (a b:Nat) (j:b≤s.size):(s.extract a b).size=b-a:=by rw[aAZ];omega
def aVQ {l:List Int} {p:Int→Bool} (h:Qb l p=true):l.length≤32:=(aS6 h).2
def sK {s:ByteArray} {m:Int} (h:Gn s m=true):s.size≤100:=by
 unfold Gn Tz at h;simp only[CZ,GN]at h;have u:=h.2.1.1;have j:=aVQ h.2.1.2
 have q:(BU (Pz s)).length≤32:=by
  have :=h.2.2;unfold Xz at this;simp only[CZ]at this;exact aVQ this.1.1
 rw[I9]at j q;unfold Ud at j;unfold Pz at q;rw[agN _ _ _ AA]at j q;omega
def aVv {s:ByteArray} (hs:s.size≤9223372036854775807) (h:dO s=some 0):s.size≤100∧Gn s 64=true:=by
 rw[(Xk hs).2]at h;have h:=CS h;unfold Qx at h;cases hm:Gn s 64 with
 |true=>exact⟨sK hm,rfl⟩
 |false=>rw[hm]at h;cases h
def afe {s:ByteArray} (hs:s.size≤9223372036854775807) (h:wK s=some 0):s.size≤100∧Gn s 33=true:=by
 rw[(oQ hs).2]at h;have h:=CS h;unfold UR at h;cases hm:Gn s 33 with
 |true=>exact⟨sK hm,rfl⟩
 |false=>rw[hm]at h;cases h
def aTW {s:ByteArray} (hs:s.size≤9223372036854775807) (h:xM s=some 0):s.size≤100:=by
 rw[(aPd hs).2]at h;have h:=CS h;unfold aAa at h;split at h
 ·omega
 split at h
 ·cases h
 omega
def aYe {l:List ByteArray} (hl:l.length≤9223372036854775807) (hs:∀s∈l,s.size≤9223372036854775807) (h:U4 l=some 0):l.length≤100∧∀s∈l,s.size≤100:=by
 unfold U4 at h;obtain⟨u,h⟩:=JG h BJ;refine⟨by have :=KT u;omega,jT (firsts l hl (fun i=>∀x,l[i]? =some x→x.size≤100) (fun k i hi j=>?_) 0 h)⟩;unfold uS at j;rw[Bl hi]at j;obtain⟨x,z,j⟩:=Dx j;obtain⟨e,j⟩:=RG j;subst e;rw[wrap_succ i AA]at j;exact⟨fun y q=>by rw[DC hi]at q;obtain rfl:=CS q;exact aTW (hs _ (ED hi)) z,j⟩
def ao6 {c:Bf} (hl:c.Allow.length≤9223372036854775807) (hs:∀s∈c.Allow,s.size≤9223372036854775807) (h:jC c=some 0):c.Allow.length≤100∧∀s∈c.Allow,s.size≤100:=by
 unfold jC at h;obtain⟨x,_,h⟩:=Dx h;obtain⟨_,h⟩:=JG h BJ;obtain⟨I,h⟩:=JG h BJ;refine⟨by have :=KT I;omega,jT (firsts c.Allow hl (fun i=>∀x,c.Allow[i]? =some x→x.size≤100) (fun k i hi j=>?_) 0 h)⟩;unfold Fn2 aBh at j;rw[Bl hi]at j;obtain⟨x,J,j⟩:=Dx j;obtain⟨e,j⟩:=JG j BJ;have q:x=0:=SA
 subst q;refine⟨fun y u=>by rw[DC hi]at u;obtain rfl:=CS u;exact(afe (hs _ (ED hi)) J).1,?_⟩;cases hp:decide ((i:Int)>0)with
 |true=>
  rw[hp,BD]at j;obtain⟨y,_,j⟩:=Dx j;obtain⟨z,_,j⟩:=Dx j;obtain⟨_,j⟩:=JG j BJ
  rwa [wrap_succ i AA]at j
 |false=>
  rw[hp,Am,Am]at j
  rwa [wrap_succ i AA]at j
def ajL {l:List IX} (hl:l.length≤9223372036854775807) (hs:∀u∈l,u.User.size≤9223372036854775807) (h:aV l=some 0):l.length≤100∧∀u∈l,u.User.size≤100:=by
 unfold aV at h;obtain⟨O,h⟩:=JG h BJ;refine⟨by have :=KT O;omega,jT (firsts l hl (fun i=>∀x,l[i]? =some x→x.User.size≤100) (fun k i hi q=>?_) 0 h)⟩
 have J:∀v,oH l (i:Int) k v=some 0→k ((i+1:Nat):Int)=some 0:=fun v j=>by
  unfold oH at j;obtain⟨_,j⟩:=JG j BJ;obtain⟨y,_,j⟩:=Dx j;obtain⟨z,_,j⟩:=Dx j;obtain⟨_,j⟩:=JG j BJ
  rwa [wrap_succ i AA]at j
 unfold oG at q;rw[Bl hi]at q;obtain⟨x,L,U⟩:=Dx q;obtain⟨e,hd⟩:=JG U BJ;have I:x=0:=SA
 rw[I]at L;refine⟨fun y M=>by rw[DC hi]at M;obtain rfl:=CS M;exact(aVv (hs _ (ED hi)) L).1,?_⟩;cases hp:decide ((i:Int)>0)with
 |true=>
  rw[hp,BD]at hd;obtain⟨y,_,Y⟩:=Dx hd;obtain⟨z,_,Z⟩:=Dx Y;exact J _ Z
 |false=>
  rw[hp,Am]at hd;exact J _ hd
def alc {l:List Jc} (h:aG l=some 0):l.length≤100:=by
 unfold aG at h;obtain⟨j,_⟩:=JG h BJ;have :=KT j;omega
def empty_of {s:ByteArray} (h:(s.toList==BK.toList)=true):s.size≤100:=by rw[aAV]at h;have :=eq_of_beq h;omega
def aWk {l:Ba} (h:NJ l=true):l.Users=[]∧l.Kinds=[]:=by
 unfold NJ at h;simp only[CZ]at h;exact⟨TL h.1.1.1.1.1.1.1.1,TL h.1.1.1.1.1.1.1.2⟩
def aj6 {k:Int} {c:Bf} (L:Jy c) (h:Je k c=some 0):QL c:=by
 unfold Je at h;rw[(aBW k).2,AP]at h;obtain⟨x2,O,h⟩:=Dx h;obtain⟨e2,h⟩:=JG h BJ;subst e2
 have J:jv k c=some true:=by
  cases hk:(decide (k≥1)&&decide (k≤14))with
  |false=>rw[hk]at O;cases O
  |true=>
   rw[hk]at O;obtain⟨y,U,M⟩:=Dx (show(jv k c).bind (fun x4=>some (!x4))=some false from O);have M:=CS M;cases y with
   |true=>exact U
   |false=>cases M
 obtain⟨x6,_,h⟩:=Dx h;obtain⟨x7,Y,h⟩:=Dx h;cases x7 with
 |true=>
  have M:fF (c.Text.toList==BK.toList) (c.N==0) (c.Target==0) (!c.Thread) (c.Via.toList==BK.toList) ((c.Allow.length:Int)==0) ((c.jd.length:Int)==0) (NJ c.Levels)=true:=by
   cases x6 with
   |false=>cases Y
   |true=>rw[aXv]at Y;exact CS Y
  unfold fF at M;simp only[CZ]at M;obtain⟨⟨⟨⟨⟨⟨⟨t1,_⟩,_⟩,_⟩,t5⟩,t6⟩,t7⟩,t8⟩:=M;have p:=aWk t8;have q1:=empty_of t1;have q2:=empty_of t5;have a1:=TL t6;have a2:=TL t7;refine⟨?_,?_,?_,?_,AA,AA,?_,?_,?_⟩<;>first|rw[a1]|rw[a2]|rw[p.1]|rw[p.2]
  all_goals first|exact Ci _|exact fun x hx=>absurd hx EM
 |false=>
  rw[Am]at h;obtain⟨x11,j,h⟩:=Dx h;obtain⟨e,h⟩:=RG h;subst e;obtain⟨OH,_,h⟩:=Dx h;obtain⟨_,h⟩:=RG h;obtain⟨x15,_,h⟩:=Dx h;obtain⟨_,h⟩:=RG h;obtain⟨x17,I,h⟩:=Dx h;obtain⟨e,h⟩:=RG h;subst e
  have ht:c.Text.size≤2000:=by
   unfold aX at j;cases h9:k==9 with
   |true=>
    rw[h9,BD]at j;cases Z:(c.Text.toList==BK.toList)with
    |true=>have :=empty_of Z;omega
    |false=>
     rw[Z,Am]at j;obtain⟨y,U,j⟩:=Dx j;obtain rfl:=CS j;have :=aTW L.text U;omega
   |false=>
    rw[h9,Am]at j;obtain⟨y,_,j⟩:=Dx j;obtain⟨_,j⟩:=JG j BJ;obtain⟨z,M,j⟩:=Dx j;obtain⟨e,_⟩:=JG j BJ;subst e;cases hd:decide ((c.Text.size:Int)>400)with
    |true=>rw[hd]at M;cases M
    |false=>have :=KT hd;omega
  have hv:c.Via.size≤2000:=by
   unfold dI at I;cases Z:(c.Via.toList==BK.toList)with
   |true=>have :=empty_of Z;omega
   |false=>
    rw[Z,Am]at I;obtain⟨_,I⟩:=JG I BJ;obtain⟨y,U,I⟩:=Dx I;obtain rfl:=CS I;have :=(aVv L.via U).1;omega
  have Hz:∀{l:List ByteArray},(∀s∈l,s.size≤100)→∀s∈l,s.size≤2000:=fun h s hs=>Ed (h s hs) AA;cases h4:k==4 with
  |true=>
   have e4:=eq_of_beq h4;subst e4;rw[SY,BD]at h;obtain⟨y,U,h⟩:=Dx h;obtain rfl:=CS h;obtain⟨r1,r2⟩:=ao6 L.allow L.allows U;rw[aYK (K:=4) (c:=c) (show _=some false by kernel_rfl) (show _=some true by kernel_rfl) (show _=some false by kernel_rfl) (show _=some false by kernel_rfl) (show _=some false by kernel_rfl) (show _=some true by kernel_rfl) (show _=some false by kernel_rfl) (show _=some false by kernel_rfl)]at J;have ho:=CS J;unfold LC at ho;simp only[CZ,Ku]at ho;have d:=TL ho.1.2;have p:=aWk ho.2;refine⟨r1,?_,?_,?_,ht,hv,Hz r2,?_,?_⟩<;>first|rw[d]|rw[p.1]|rw[p.2]
   all_goals first|exact Ci _|exact fun x hx=>absurd hx EM
  |false=>
   rw[h4,Am]at h;obtain⟨y1,hy1,h⟩:=Dx h;obtain⟨e,h⟩:=RG h;subst e;obtain⟨y2,hy2,h⟩:=Dx h;obtain⟨e,h⟩:=RG h;subst e;obtain⟨y3,q,h⟩:=Dx h;obtain rfl:=CS h;unfold ay at q;obtain⟨z1,hz1,q⟩:=Dx q;obtain⟨e,q⟩:=RG q;subst e;obtain⟨z2,hz2,q⟩:=Dx q;obtain⟨e,q⟩:=RG q;subst e;obtain⟨a1,a2⟩:=aYe L.allow L.allows hy1;obtain⟨d1,d2⟩:=aYe L.deny L.denies hy2;obtain⟨u1,u2⟩:=ajL L.users L.names hz1;exact⟨a1,d1,u1,alc hz2,ht,hv,Hz a2,Hz d2,fun u hu=>Ed (u2 u hu) AA⟩
structure U5 (e:AB):Prop where
 kind:1≤e.Kind∧e.Kind≤14
 state:e.State=Fh e.Kind
 keyed:e.Key=BK∨e.Kind=2∨e.Kind=9
 room:Gn e.Room 33=true
 sender:Gn e.aU 64=true
 key:VA e.Kind e.Key=true
 time:0≤e.Time∧e.Time≤1000000000
 depth:1≤e.Depth∧e.Depth≤100000
 prev:e.aZ.length≤10∧Inc e.aZ∧∀x∈e.aZ,0≤x
 auth:e.bg.length≤8∧Inc e.bg∧∀x∈e.bg,0≤x
 short:e.aZ=[]→e.Kind=1
 form:e.Kind=1→e.aZ=[]∧e.bg=[]
 content:Je e.Kind e.Content=some 0
 small:Tn e
def aYs {l:List Int} (hl:l.length≤9223372036854775807) (h:eX l=some true):Inc l∧∀x∈l,0≤x:=by
 unfold eX aIR at h
 have u:=firsts l hl (fun i=>∀x,l[i]? =some x→0≤x∧∀y,0<i→l[i-1]? =some y→y<x) (fun k i hi q=>by
  have J:∀v,je k (i:Int) v=some true→v=false∧k ((i+1:Nat):Int)=some true:=fun v L=>by
   unfold je at L;cases v with
   |true=>cases L
   |false=>rw[Am,wrap_succ i AA]at L;exact⟨rfl,L⟩
  unfold aE9 at q;rw[Bl hi]at q;cases M:decide (l[i]<0)with
  |true=>rw[M,BD]at q;cases(J _ q).1
  |false=>
   have h0:=KT M;rw[M,Am]at q;cases hp:decide ((i:Int)>0)with
   |false=>
    have hp0:=KT hp;rw[hp,Am]at q;refine⟨fun x z=>?_,(J _ q).2⟩;rw[DC hi]at z;obtain rfl:=CS z;exact⟨AA,fun y h0 O=>AA⟩
   |true=>
    rw[hp,BD,BZ hi,AP,nG hi hl hp,AP]at q;obtain⟨U,Y⟩:=J _ q;refine⟨fun x z=>?_,Y⟩;rw[DC hi]at z;obtain rfl:=CS z;refine⟨AA,fun y h0 O=>?_⟩;rw[DC AA]at O;obtain rfl:=CS O
    have :=KT U;omega) 0 h
 have I:∀i,(hi:i+1<l.length)→l[i]<l[i+1]:=fun i hi=>(u (i+1) AA hi _ (DC hi)).2 _ AA (DC AA);refine⟨?_,fun x z=>?_⟩
 ·rw[Inc,IZ];intro i j hi J Z
  induction j with
  |zero=>omega
  |succ j ih=>
   have U:=I j J;rcases aIH (Nat.le_of_lt_succ Z)with rfl|Y
   ·exact U
   have :=ih AA Y;omega
 obtain⟨i,hi,rfl⟩:=G5 z;exact(u i (Ci _) hi _ (DC hi)).1
def xZ {c:Bool} {X:Option Bool} {f:Bool→Option Int} {v:Int} (j:f true≠some v) (h:((bif c then some true else X).bind f)=some v):c=false∧X.bind f=some v:=by
 cases c with
 |true=>exact absurd h j
 |false=>exact⟨rfl,h⟩
def anX {e:AB} (M:Wy e) (h:N7 e=some 0):U5 e:=by
 unfold N7 at h;obtain⟨x1,j,h⟩:=Dx h;obtain⟨e1,h⟩:=RG h;subst e1;obtain⟨x3,h3,h⟩:=Dx h;obtain rfl:=CS h;have L:=aj6 M.content h3
 have O:∀v,U1 e v=some 0→v=false:=fun v hv=>by
  cases v with
  |true=>cases hv
  |false=>rfl
 have Z:U1 e false=some 0∧(1≤e.Kind∧e.Kind≤14)∧e.State=Fh e.Kind∧(e.Key=BK∨e.Kind=2∨e.Kind=9):=by
  unfold aKS at j;cases c1:decide (e.Kind<1)with
  |true=>rw[c1,BD]at j;cases O _ j
  |false=>
   cases c2:decide (e.Kind>14)with
   |true=>rw[c1,c2,Am,BD]at j;cases O _ j
   |false=>
    rw[c1,c2,Am,Am,tZ,AP]at j;have k1:=KT c1;have k2:=KT c2;cases c3:(e.State==Fh e.Kind)with
    |false=>rw[c3,Il,BD]at j;cases O _ j
    |true=>
     rw[c3,EW,Am]at j;refine⟨?_,⟨AA,AA⟩,eq_of_beq c3,?_⟩
     all_goals cases c4:(e.Key.toList==BK.toList)with
     |true=>rw[c4,EW,Am]at j;first|exact j|exact .inl (toList_inj (eq_of_beq c4))
     |false=>
      rw[c4,Il,BD]at j;cases c5:(e.Kind != 2)with
      |false=>rw[c5,Am]at j;first|exact j|exact .inr (.inl (by simpa using c5))
      |true=>
       rw[c5,BD]at j;have :=O _ j;rw[this]at j
       first|exact j|exact .inr (.inr aKP)
 clear j O;obtain⟨j,hk,hst,U⟩:=Z;unfold U1 at j;rw[Am,(oQ (s:=e.Room) M.room).2,(Xk (s:=e.aU) M.sender).2,aYO M.key]at j;simp only[AP]at j
 have z:Gn e.Room 33=true:=by
  cases hm:Gn e.Room 33 with
  |true=>rfl
  |false=>unfold UR at j;rw[hm]at j;cases j
 have r0:UR e.Room=0:=by unfold UR;rw[z];rfl
 rw[r0,La,Am,AP]at j
 have I:Gn e.aU 64=true:=by
  cases hm:Gn e.aU 64 with
  |true=>rfl
  |false=>unfold Qx at j;rw[hm]at j;cases j
 have u0:Qx e.aU=0:=by unfold Qx;rw[I];rfl
 rw[u0,La,Am,AP]at j
 have u:VA e.Kind e.Key=true:=by
  cases hm:VA e.Kind e.Key with
  |true=>rfl
  |false=>rw[hm]at j;cases j
 rw[u,EW,Am]at j;obtain⟨t1,j⟩:=xZ qw j;rw[AP]at j;obtain⟨t2,j⟩:=xZ qw j;rw[AP]at j;obtain⟨t3,j⟩:=xZ qw j;rw[AP]at j;obtain⟨t4,j⟩:=JG j BJ;obtain⟨t5,j⟩:=xZ qw j;rw[AP]at j;obtain⟨t6,j⟩:=JG j BJ;obtain⟨x21,h21,j⟩:=Dx j;obtain⟨t7,j⟩:=xZ qw j;rw[Option.bind_assoc]at j;obtain⟨x24,h24,j⟩:=Dx j;rw[AP]at j;obtain⟨t8,j⟩:=JG j BJ;obtain⟨x26,Y,j⟩:=Dx j;obtain⟨t9,j⟩:=JG j BJ;obtain⟨x29,J,j⟩:=Dx j;obtain⟨t10,_⟩:=JG j BJ;have e21:x21=true:=by simpa using t7
 have e24:x24=true:=by simpa using t8
 subst e21 e24 t9 t10;have p1:=KT t5;have p2:=KT t6;have r1:=aYs M.prev h21;have r2:=aYs M.auth h24;have d1:=KT t1;have d2:=KT t2;have d3:=KT t3;have d4:=KT t4
 have hkz:e.Key.size≤2000:=by
  rcases U with h|h|h
  ·rw[h];exact Ci _
  ·unfold VA at u;rw[CP h]at u;have :Qx e.Key=0:=TS
   unfold Qx at this;cases hm:Gn e.Key 64 with
   |true=>have :=sK hm;omega
   |false=>rw[hm]at this;cases this
  unfold VA at u;rw[CU AA,CP h]at u;unfold xu at u;simp only[CZ,GN]at u;have :=u.1.2;omega
 have z1:=sK z;have z2:=sK I;refine⟨hk,hst,U,z,I,u,⟨AA,AA⟩,⟨AA,AA⟩,⟨AA,r1⟩,⟨AA,r2⟩,fun hp=>?_,fun hk1=>?_,h3,⟨?_,?_,L.allow,L.deny,L.users,L.kinds,?_,?_,hkz,L.text,L.via,Ci _,L.allows,L.denies,L.names⟩⟩
 ·rw[hp]at Y;have :=CS Y;simpa using this
 ·rw[hk1]at J;have J:((bif decide ((e.aZ.length:Int)>0)then some true else some (decide ((e.bg.length:Int)>0))).bind fun x31=>some x31)=some false:=J;cases q:decide ((e.aZ.length:Int)>0)with
  |true=>rw[q]at J;cases J
  |false=>
   rw[q]at J;have q2:=CS J;have :=KT q;have :=KT q2;exact⟨Gh AA,Gh AA⟩
 ·show e.aZ.length≤40;omega
 ·show e.bg.length≤40;omega
 ·show e.Room.size≤2000;omega
 show e.aU.size≤2000;omega
def aFU {e:AB} (J:Wy e):∃c,uH e=some c∧Nu e=some c∧(c=0→U5 e∧EY e):=by
 obtain⟨x,z,j⟩:=aPy J;unfold uH Nu;rw[z,j,AP,AP];cases u:x != 0 with
 |true=>exact⟨x,rfl,rfl,fun h=>by subst h;cases u⟩
 |false=>
  obtain rfl:x=0:=TS
  have L:=anX J j;have hs:=L.small;have I:e.aU.size≤2000:=hs.sender;rw[Am,Am,(aIl hs).1,(aIl hs).2,aRM _ hs.content,aSS];simp only[AP];rw[aor _ hs.content,aoa _ hs.content];simp only[AP]
  have key:∀v,∃c,Zy e v=some c∧l9 e v=some c∧(c=0→U5 e∧EY e):=fun v=>by
   obtain⟨c,c1,c2⟩:=afJ hs v;refine⟨c,c1,c2,fun M=>⟨L,?_⟩⟩;subst M;unfold Zy at c1;obtain⟨_,c1⟩:=JG c1 BJ;rw[(aEH hs).1,AP]at c1;obtain⟨_,c1⟩:=JG c1 BJ;rw[(Ri (s:=e.aU) AA).1,AP]at c1;obtain⟨c3,_⟩:=JG (show(bif !((e.su.Server.toList==(splitB e.aU (JY e.aU)).2.1.toList)&&((e.su.Sum==e.Id)&&true))then some 12 else some 0)=some (0:Int)from c1) BJ
   have O:e.su.Server=(splitB e.aU (JY e.aU)).2.1:=by
    cases q:(e.su.Server.toList==(splitB e.aU (JY e.aU)).2.1.toList)with
    |true=>exact toList_inj (eq_of_beq q)
    |false=>rw[q]at c3;cases c3
   have U:=(af6 e.aU I).2.2;exact⟨hs.prev,hs.auth,hs.allow,hs.deny,hs.users,hs.kinds,hs.room,hs.sender,hs.key,hs.text,hs.via,by rw[O];exact U,hs.allows,hs.denies,hs.names⟩
  cases(!(Oj e==e.Hash))with
  |true=>rw[BD,BD];exact key _
  |false=>rw[Am,Am];exact key _
def aHb {f g:(Int→Option Int)→Int→Option Int} (N lo:Nat) (hs:∀k k' (i:Nat),lo≤i→i<N→CG (k ((i+1:Nat):Int)) (k' ((i+1:Nat):Int))→CG (f k (i:Int)) (g k' (i:Int))) (z:∀k k',CG (f k (N:Int)) (g k' (N:Int))):
 ∀n (i:Nat),lo≤i→i+n=N→∀m j,n<m→n<j→CG (bI f m (i:Int)) (bI g j (i:Int)):=by
 intro n
 induction n with
 |zero=>
  intro i u hi m j I J;obtain⟨m,rfl⟩:∃q,m=q+1:=⟨m-1,AA⟩
  obtain⟨j,rfl⟩:∃q,j=q+1:=⟨j-1,AA⟩
  have :i=N:=AA
  subst this;exact z _ _
 |succ n L=>
  intro i u hi m j I J;obtain⟨m,rfl⟩:∃q,m=q+1:=⟨m-1,AA⟩
  obtain⟨j,rfl⟩:∃q,j=q+1:=⟨j-1,AA⟩
  exact hs _ _ i u AA (L (i+1) AA AA m j AA AA)
def lasts {R:Type} {body:(Int→Option R)→Int→Option R} {ok:R} (N:Nat) (O:N≤9223372036854775807) (P:Nat→Prop)
 (L:∀k (i:Nat),i<N→body k (i:Int)=some ok→P i∧k ((i+1:Nat):Int)=some ok) (q:Nat) (U:q≤N) (h:bI body Aj (q:Int)=some ok):(∀i,q≤i→i<N→P i)∧∃k,body k (N:Int)=some ok:=by
 have key:∀n (i:Nat) m,i+n=N→n<m→bI body m (i:Int)=some ok→(∀j,i≤j→j<N→P j)∧∃k,body k (N:Int)=some ok:=by
  intro n
  induction n with
  |zero=>
   intro i m hi hm z;obtain⟨m,rfl⟩:∃I,m=I+1:=⟨m-1,AA⟩
   have :i=N:=AA
   subst this;exact⟨fun j u J=>AA,_,z⟩
  |succ n M=>
   intro i m hi hm z;obtain⟨m,rfl⟩:∃I,m=I+1:=⟨m-1,AA⟩
   obtain⟨a,b⟩:=L (bI body m) i AA z;obtain⟨c,d⟩:=M (i+1) m AA AA b;refine⟨fun j u J=>?_,d⟩;rcases aIH u with rfl|u
   ·exact a
   exact c j u J
 have Y:Aj=9223372036854775808:=rfl;exact key (N-q) q Aj AA AA h
def aRS {α:Type} {l:List α} {i:Nat} (h:i+1<l.length) (hl:l.length≤1000000):Ag l (Ai (((i+1:Nat):Int)-1))=some l[i]:=by
 rw[show Ai (((i+1:Nat):Int)-1)=(i:Int) by rw[Yt];omega,BZ AA]
def al3 {l:List AB} (L:∀e∈l,Wy e) (hl:l.length≤1000):CG (Ll l) (OW l):=by
 by_cases I:l=[]
 ·subst I;exact⟨0,A8,A8⟩
 have q:0<l.length:=lY.2 I;have M:Aj=9223372036854775807+1:=rfl
 have O:CG (aEk l 1) (aAQ l 1):=by
  unfold aEk aAQ;refine aHb l.length 1 (fun k k' i z hi u=>?_) (fun k k'=>?_) (l.length-1) 1 (Dn _) AA Aj Aj AA AA
  ·obtain⟨i,rfl⟩:∃j,i=j+1:=⟨i-1,AA⟩
   unfold aAw wM;rw[Bl hi,dec_lt hi,BD,aRS hi AA,AP,AP,BZ hi,AP,wrap_succ (i+1) AA];show CG (bif decide (l[i+1].Id≤l[i].Id)then some 8 else k _) (bif decide (l[i].Id≥l[i+1].Id)then some 8 else k' _);exact CG.bif (fun _=>.ret _) fun _=>u
  unfold aAw wM;rw[CX];exact .ret _
 have J:Ag l 0=some l[0]:=BZ (i:=0) q
 have U:CG (mQ l 0) (aFL l 1):=by
  have Y:∀k,Z7 l k 0=k 1:=fun k=>by
   unfold Z7;rw[show decide ((0:Int)<(l.length:Int))=true by simpa using q,BD,J,AP,AP,SY];rfl
  have Z:mQ l 0=bI (Z7 l) 9223372036854775807 1:=by
   unfold mQ;rw[M];exact Y _
  rw[Z];unfold aFL;refine aHb l.length 1 (fun k k' i z hi u=>?_) (fun k k'=>?_) (l.length-1) 1 (Dn _) AA _ Aj AA AA
  ·unfold Z7 yt;rw[Bl hi,Bl hi,J,AP,AP,wrap_succ i AA];exact CG.bif (fun _=>.ret _) fun _=>u
  unfold Z7 yt;rw[CX];exact O
 unfold Ll OW;rw[Gv (show ¬(l.length:Int)>2000 by omega),Am,Am];unfold aL0 aFy;refine aHb l.length 0 (fun k k' i _ hi u=>?_) (fun k k'=>?_) l.length 0 (Dn _) AA Aj Aj AA AA
 ·unfold nK kM;obtain⟨c,c1,c2,_⟩:=aFU (L _ (ED hi));rw[Bl hi,Bl hi,c1,c2,AP,AP,wrap_succ i AA];exact CG.bif (fun _=>.ret _) fun _=>u
 unfold nK kM;rw[CX];exact U
structure Rs (l:List AB):Prop where
 ev:∀e∈l,U5 e∧EY e
 room:∀x∈l,∀y∈l,x.Room=y.Room
 inc:Inc (l.map (·.Id))
def acy {f:Nat→Int}:∀(n i j:Nat),(∀k,i≤k→k<j→f k<f (k+1))→i+n=j→0<n→f i<f j:=by
 intro n
 induction n with
 |zero=>intro i j _ _ h;omega
 |succ n z=>
  intro i j h q _;rcases Yk n with u|u
  ·subst u;rw[←q];exact h i (Dn _) AA
  have a:=h i (Dn _) AA;have b:=z (i+1) j (fun k J I=>h k AA I) AA u;omega
def ald {l:List AB} (hw:∀e∈l,Wy e) (hl:l.length≤1000) (h:Ll l=some 0):Rs l:=by
 unfold Ll at h;rw[Gv (show ¬(l.length:Int)>2000 by omega),Am]at h;unfold aL0 at h
 obtain⟨p1,k1,h⟩:=lasts l.length AA (fun i=>∀x,l[i]? =some x→U5 x∧EY x) (fun k i hi u=>by
  unfold nK at u;obtain⟨c,c1,_,c3⟩:=aFU (hw _ (ED hi));rw[Bl hi,c1,AP,wrap_succ i AA]at u;obtain⟨e,u⟩:=RG u
  exact⟨fun x I=>by rw[DC hi]at I;obtain rfl:=CS I;exact c3 e,u⟩) 0 (Ci _) h
 unfold nK at h;rw[CX,Am]at h;unfold mQ at h
 obtain⟨p2,k2,h⟩:=lasts l.length AA (fun i=>∀x y,l[i]? =some x→l[0]? =some y→x.Room=y.Room) (fun k i hi u=>by
  unfold Z7 at u;have g0:Ag l 0=some l[0]:=BZ (i:=0) AA;rw[Bl hi,g0,AP,wrap_succ i AA]at u;obtain⟨e,u⟩:=JG u BJ;refine⟨fun x y I J=>?_,u⟩;rw[DC hi]at I;rw[DC AA]at J;obtain rfl:=CS I;obtain rfl:=CS J
  exact toList_inj SA) 0 (Ci _) h
 unfold Z7 at h;rw[CX,Am]at h;refine⟨jT p1,fun x I y J=>?_,?_⟩
 ·have key:∀x∈l,∀y,l[0]? =some y→x.Room=y.Room:=jT fun i hi M x I y J=>p2 i hi M x y I J;have h0:0<l.length:=aGB I;have Y:l[0]? =some l[0]:=DC h0;rw[key x I _ Y,key y J _ Y]
 by_cases Z:l=[]
 ·subst Z;exact .nil
 have L:0<l.length:=lY.2 Z;unfold aEk at h
 obtain⟨p3,_⟩:=lasts l.length AA (fun i=>∀j x y,i=j+1→l[i]? =some x→l[j]? =some y→y.Id<x.Id) (fun k i hi u=>by
  unfold aAw at u;rw[Bl hi]at u;obtain⟨z,hz,u⟩:=Dx u;obtain⟨e,u⟩:=JG u BJ;rw[wrap_succ i AA]at u;refine⟨fun j x y O I J=>?_,u⟩;subst O;rw[aRS hi AA]at hz;rw[DC hi]at I;rw[DC AA]at J;obtain rfl:=CS I;obtain rfl:=CS J;obtain rfl:=CS hz
  have :=KT e;omega) 1 L h
 rw[Inc,YB,IZ];intro i j hi O hij
 have :=acy (f:=fun q=>(l.getD q Bh).Id) (j-i) i j (fun k h1 h2=>by
  have U:k+1<l.length:=AA
  have :=p3 (k+1) AA U k l[k+1] l[k] rfl (DC U) (DC AA)
  simpa[List.getD,DC U,DC (show k<l.length by omega)]using this) AA AA
 simpa[List.getD,DC hi,DC O]using this
def Rs.ok {l:List AB} (h:Rs l) (hl:l.length≤100):Ik l:=⟨hl,fun e j=>(h.ev e j).2,U8 h.inc,fun e j=>(h.ev e j).1.depth⟩
def aRY {l:List AB} (j:∀e∈l,Wy e) (hl:l.length≤100):∃c,Ll l=some c∧OW l=some c∧(c=0→Rs l):=by
 obtain⟨c,c1,c2⟩:=al3 j AA;exact⟨c,c1,c2,fun h=>ald j AA (by rw[c1,h])⟩
def ajd {l:List AB} (q:OW l=some 0) (hl:l.length≤100):∀x∈l,Nu x=some 0:=by
 unfold OW at q;obtain⟨_,h⟩:=JG q BJ;unfold aFy at h
 obtain⟨z,_⟩:=lasts l.length AA (fun i=>∀x,l[i]? =some x→Nu x=some 0) (fun k i hi j=>by
  unfold kM at j;rw[Bl hi]at j;obtain⟨y,I,j⟩:=Dx j;obtain⟨e,j⟩:=RG j;subst e;rw[wrap_succ i AA]at j
  exact⟨fun x u=>by rw[DC hi]at u;obtain rfl:=CS u;exact I,j⟩) 0 (Ci _) h
 exact jT z
def Jr (x:Df):JO:=⟨x.id,x.before,x.after,x.err⟩
def Tv (t:List Df) (x:Int):JO×Bool:=match EJ t x with
 |some y=>(Jr y,true)
 |none=>(kL,false)
def aS9 (t:List Df) (x:Int):(Tv t x).1.After=GV t x:=by unfold Tv GV;cases EJ t x<;>rfl
def amK (t:List Df) (x:Int):(Tv t x).1.Err=errOf t x:=by unfold Tv errOf;cases EJ t x<;>rfl
def aFA (t:List Df) (x:Int) (ht:t.length≤1000000):uo (t.map Jr) x=some (Tv t x):=by
 unfold uo aYl;have hm:(t.map Jr).length=t.length:=CB ..;refine dX.eq (Xh (body:=aPt (t.map Jr) x) (Q:=(· =Tv t x)) (fun n a _=>∃i:Nat,a=i∧i+n=t.length∧∀j,(q:j<i)→(hl:j<t.length)→¬(t[j].id==x)=true) ?_ Aj t.length 0 _ (fuel_lt AA) ⟨0,rfl,AA,fun j q=>AA⟩);rintro n a b k ⟨i,rfl,O,z⟩ L;unfold aPt;by_cases hi:i<t.length
 ·have u:i<(t.map Jr).length:=AA
  rw[Bl u,BZ u,AP,Oq];show dX (bif t[i].id==x then some (Jr t[i],true)else k _ b) _;cases J:t[i].id==x with
  |true=>
   have I:EJ t x=some t[i]:=by
    unfold EJ;rw[List.find?_eq_some_iff_getElem];exact⟨J,i,hi,rfl,fun j q=>by have :=z j q AA;simpa using this⟩
   exact .ret (by unfold Tv;rw[I])
  |false=>
   refine L (n-1) _ _ AA ⟨i+1,wrap_succ i AA,AA,fun j q hl=>?_⟩;by_cases e:j=i
   ·subst e;rw[J];simp
   exact z j AA hl
 have :i=t.length:=AA
 subst this;rw[←hm,CX]
 have I:EJ t x=none:=by
  unfold EJ;rw[WW];intro y M;obtain⟨j,q,rfl⟩:=G5 M;exact z j q q
 exact .ret (by unfold Tv;rw[I])
def aWG (t:List JO) (x:Int):aNx t x=uo t x:=rfl
def ads (l:List AB) (t:List Df) (e:AB) (s:List Ah) (hl:l.length≤100) (hs:Cm l) (z:EY e) (M:s.length≤100) (ht:t.length≤1000):aBJ l (t.map Jr) e s=some (JL l t e s):=by
 have Z:=z.auth;have h2:=xW l s
 have I:∀v,aEy e (t.map Jr) l s v=some (bif v != 0 then v else bif e.bg.any (fun x=>errOf t x != 0)then 16 else FH e (EK l s)):=fun v=>by
  unfold aEy aVW
  refine dX.eq (Iq e.bg.length (fuel_lt AA) (fun i a=>a=bif v != 0 then v else bif (e.bg.take i).any (fun x=>errOf t x != 0)then 16 else 0) (by cases q:v != 0 with
   |true=>rfl
   |false=>exact MN) (fun i a k hi ha J=>?_) fun a k ha=>?_)
  ·unfold aKq aMc;rw[Bl hi,aWG,aFA _ _ AA,AP,amK,wrap_succ i AA];have O:(bif a==0 then some (errOf t e.bg[i] != 0)else some false)=some (a==0&&errOf t e.bg[i] != 0):=by cases a==0<;>rfl
   rw[O,AP]
   have j:∀b:Int,b=(bif a==0&&errOf t e.bg[i] != 0 then 16 else a)→b=bif v != 0 then v else bif (e.bg.take (i+1)).any (fun x=>errOf t x != 0)then 16 else 0:=fun b U=>by
    rw[xR hi,U,ha];cases q:v != 0 with
    |true=>
     have :(v==0)=false:=MN
     simp only[BD,this,qx,Am]
    |false=>
     simp only[Am];cases(e.bg.take i).any (fun x=>errOf t x != 0)<;>cases errOf t e.bg[i] != 0<;>rfl
   cases L:(a==0&&errOf t e.bg[i] != 0)with
   |true=>exact J _ (j 16 (by rw[L];rfl))
   |false=>exact J _ (j a (by rw[L];rfl))
  unfold aKq;rw[CX,Am,ha,FW,aTZ l s hl AA,AP,qj e (EK l s) AA (aEB hs _) z];cases q:v != 0 with
  |true=>simp only[BD,q];exact .ret rfl
  |false=>
   cases e.bg.any (fun x=>errOf t x != 0)with
   |true=>exact .ret rfl
   |false=>exact .ret rfl
 unfold aBJ JL Ue;rw[aeI l e hl z,AP,aXn l e AA AA,AP,qj e _ (Ed (aCS l e) AA) (hs.from e) z,AP,I,I];have u:(LX l e != 0)= !(LX l e==0):=rfl;rw[u];cases Y:LX l e==0 with
 |true=>rfl
 |false=>rw[Il,BD,BD,u,Y];rfl
def aJT (l:List AB):∀(ids:List Int) (t:List Df),(ids.foldl (fun t id=>t++[Gz l t (ev l id)]) t).length=t.length+ids.length
 | [],t=>rfl
 |x::ids,t=>by rw[Ey,aJT l ids,E9,FV];simp;omega
def adO {l:List AB} (h:Ik l):aIJ l=some ((Bj l).map Jr):=by
 have hl:=h.len;have hs:=h.small;have M:=aIU l;unfold aIJ;rw[akV l AA,AP];unfold Bj;generalize GH l=ids at M;unfold aUU;refine dX.eq (Iq ids.length (fuel_lt AA) (fun i a=>a=(GY l (ids.take i)).map Jr) rfl (fun i a k hi ha hk=>?_) fun a k ha=>?_)
 ·have ht:LG l (GY l (ids.take i)):=pX hl hs _ _ fun y O=>absurd O EM
  have U:(GY l (ids.take i)).length≤100:=by
   have :=aJT l (ids.take i) [];unfold GY;rw[this,F7,L9];omega
  have q:=aBX l hi;have he:=aD3 hs ids[i];have Y:=he.prev;generalize GY l (ids.take i)=t at ha ht U q;subst ha;unfold aIT;rw[Bl hi,Jp l _ AA,AP];have I:(Fq l ids[i]).1=ev l ids[i]:=rfl;unfold aaQ;refine QW (body:=aMx (Fq l ids[i]) l k (i:Int)) (Q:=_) (fun n a b c=>∃j:Nat,b=j∧j+n=(ev l ids[i]).aZ.length∧c=t.map Jr∧a=((ev l ids[i]).aZ.take j).map (GV t)) ?_ Aj (ev l ids[i]).aZ.length [] 0 (t.map Jr) (fuel_lt AA) ⟨0,rfl,AA,rfl,rfl⟩;rintro n a b c k2 ⟨j,rfl,hn,rfl,ha⟩ Z;unfold aMx;rw[I];by_cases hj:j<(ev l ids[i]).aZ.length
  ·have hal:a.length≤j:=mD
   rw[Bl hj,aWG,aFA _ _ AA,AP,aS9,Cx FK,AP,wrap_succ j AA];exact Z (n-1) _ _ _ AA ⟨j+1,rfl,AA,rfl,by rw[map_take hj,ha]⟩
  have :j=(ev l ids[i]).aZ.length:=AA
  subst this;rw[FW]at ha;subst ha;rw[CX,Am];have hp:=ht.stB hl hs Y;have J:=hp.length
  have hJ:dX (aAm l (Fq l ids[i]) k (i:Int) (t.map Jr) ⟨(ev l ids[i]).Id,stB l t (ev l ids[i]),[],0⟩) (fun x=>x=(GY l ids).map Jr):=by
   unfold aAm;rw[I];show dX ((aBJ l (t.map Jr) (ev l ids[i]) (stB l t (ev l ids[i]))).bind _) _;rw[ads l t (ev l ids[i]) _ hl hs he AA AA,AP];have u:Gz l t (ev l ids[i])=Uf (ev l ids[i]) (stB l t (ev l ids[i])) (JL l t (ev l ids[i]) (stB l t (ev l ids[i]))):=rfl;rw[u]at q;generalize JL l t (ev l ids[i]) (stB l t (ev l ids[i]))=r at q;generalize stB l t (ev l ids[i])=s at q J
   have L:∀y:Df,y=Uf (ev l ids[i]) s r→dX (aCY k (i:Int) (t.map Jr) (Jr y)) (fun x=>x=(GY l ids).map Jr):=fun y O=>by
    unfold aCY;rw[Cx (by simp only[NQ,CB];omega),AP,wrap_succ i AA];exact hk _ (by rw[q,O,KO];rfl)
   show dX ((bif r==0 then(TF (ev l ids[i]).Kind).bind fun z=>some z else some false).bind _) _;rw[tZ,show(bif r==0 then(some (Fh (ev l ids[i]).Kind)).bind fun z=>some z else some false)=some (r==0&&Fh (ev l ids[i]).Kind) by cases r==0<;>rfl,AP];cases hc:(r==0&&Fh (ev l ids[i]).Kind)with
   |true=>
    rw[BD];show dX ((jL s (ev l ids[i]).Kind (ev l ids[i]).Key (ev l ids[i]).Id).bind _) _;rw[aNH _ _ _ _ AA,AP];exact L ⟨(ev l ids[i]).Id,s,ES s (ev l ids[i]).Kind (ev l ids[i]).Key (ev l ids[i]).Id,r⟩ (by unfold Uf;rw[hc];rfl)
   |false=>
    rw[Am];exact L ⟨(ev l ids[i]).Id,s,s,r⟩ (by unfold Uf;rw[hc];rfl)
  by_cases hz:(ev l ids[i]).aZ=[]
  ·have hst:stB l t (ev l ids[i])=[]:=by unfold stB;rw[hz];rfl
   rw[hst]at hJ;rw[hz];exact hJ
  have hpos:0<(ev l ids[i]).aZ.length:=lY.2 hz;rw[Gu Ws,BD,aX2 (ht.okay hl hs _ AA),AP];exact hJ
 unfold aIT;rw[CX];exact .ret dD
def aRp (l:List AB) (t:List Df) (hl:l.length≤1000) (ht:t.length≤1000):aOP l (t.map Jr)=some (DT l t):=by
 unfold aOP aXb;refine dX.eq (Iq l.length (fuel_lt AA) (fun i a=>a=DT (l.take i) t) rfl (fun i a k hi ha q=>?_) fun a k ha=>?_)
 ·have z:a.length≤i:=aUN
  unfold aIC aMV;have j:(bif (Tv t l[i].Id).2 then some ((Tv t l[i].Id).1.Err==0)else some false)=some (II t l[i].Id):=by unfold Tv II;cases EJ t l[i].Id<;>rfl
  rw[Bl hi,aFA _ _ AA,AP,j,AP,wrap_succ i AA];cases u:II t l[i].Id with
  |true=>
   rw[BD,BZ hi,AP,Cx FK,AP];exact q _ (by rw[aC3 hi,u,ha];rfl)
  |false=>exact q _ (by rw[aC3 hi,u,ha];simp)
 unfold aIC;rw[CX];exact .ret dD
def aem (l:List AB) (t:List Df) (hl:l.length≤100) (hs:Cm l) (ht:LG l t) (j:t.length≤1000):aJB l (t.map Jr)=some (Eb l t):=by
 have ha:=UQ l t;have q:=Xg l (DT l t);unfold aJB aF1 Eb;rw[aRp l t AA j,AP,aS7 l _ AA hs AA,AP,AP];generalize FB l (DT l t)=H at q;unfold aTx;refine dX.eq (Iq H.length (fuel_lt AA) (fun i a=>a=(H.take i).map (GV t)) rfl (fun i a k hi ha u=>?_) fun a k ha=>?_)
 ·have z:a.length≤i:=mD
  unfold aIP;rw[Bl hi,aFA _ _ AA,AP,aS9,Cx FK,AP,wrap_succ i AA];exact u _ uY
 rw[FW]at ha;unfold aIP;rw[CX,Am,ha,aX2 (ht.okay hl hs _ AA),AP];cases H with
 |nil=>exact .ret rfl
 |cons x H=>exact .ret rfl
def aU6 {l:List AB} {c:Int} (u:OW l=some c) (h:c=0→Ik l):yA l=some ((JH l c).map Jr)∧LG l (JH l c)∧(JH l c).length≤l.length:=by
 unfold yA qE JH;rw[u,AP];cases z:c==0 with
 |false=>exact⟨rfl,fun y q=>absurd q EM,Ci _⟩
 |true=>
  have j:=h (eq_of_beq z);have hlen:(Bj l).length=l.length:=by rw[←aIU l];have :=aJT l (GH l) [];simpa[Bj,GY]using this
  rw[BD,aQy l j.len j.small j.dep,AP,AP,AP,GL];cases hd:Gf l==0 with
  |false=>exact⟨rfl,fun y q=>absurd q EM,Ci _⟩
  |true=>
   rw[EW,Am,adO j,AP,BD];exact⟨rfl,aE0 j,Xw hlen⟩
def aQi {l:List AB} {c:Int} (j:OW l=some c) (h:c=0→Ik l) (hl:l.length≤100) (hs:Cm l):Ya l=some (Eb l (JH l c)):=by
 obtain⟨q,u,z⟩:=aU6 j h;unfold Ya;rw[q,AP,aem l _ hl hs u AA];rfl
def aLM (t:List Df) (x:Int):List Ah×Int:=match EJ t x with
 |some y=>(y.before,bif y.err != 0 then 2 else 4)
 |none=>([],0)
section
variable {l : List AB} {c : Int}
def an6 (u:Ll l=some c) (h:c=0→Ik l) (id:Int):aJs l id=some (aLM (JH l c) id):=by
 unfold aJs;refine dX.eq ((run_eq l u h).bind fun o z=>?_);rcases z with⟨j,rfl⟩|⟨j,_,T,rfl,q⟩
 ·rw[j];exact .ret rfl
 rw[j];simp only[eH];unfold aRN aWU aLM;rw[q.r,q.b];cases EJ (Bj l) id with
 |none=>exact .ret rfl
 |some y=>
  show dX ((bif y.err != 0 then some 2 else some 4).bind fun I=>some (y.before,I)) (fun r=>r=(y.before,bif y.err != 0 then 2 else 4));cases y.err != 0<;>exact .ret rfl
def aUF (u:Ll l=some c) (h:c=0→Ik l):Zu l=some (DT l (JH l c)):=by
 unfold Zu;refine dX.eq ((run_eq l u h).bind fun o j=>?_);rcases j with⟨q,rfl⟩|⟨q,j,T,rfl,z⟩
 ·rw[q,aDX];exact .ret rfl
 rw[q];show dX ((bJ T.1 T.2.1 T.2.2 l).bind _) _;rw[aaP z j.len];exact .ret rfl
end
def aeL {l:List AB} {c:Int} (q:OW l=some c) (h:c=0→Ik l):qE l=some (c==0&&Gf l==0):=by
 unfold qE;rw[q,AP];cases u:c==0 with
 |false=>rfl
 |true=>
  have j:=h (eq_of_beq u);rw[BD,aQy l j.len j.small j.dep];rfl
def aAu {l:List AB} (hd:Gf l=0):JH l 0=Bj l:=by unfold JH;rw[hd];rfl
def OI (l:List AB) (e:AB):Nat:=l.findIdx fun x=> !decide (x.Id<e.Id)
def C9 (l:List AB) (e:AB):List AB:=l.take (OI l e)++e::l.drop (OI l e)
def jQ (e x:AB):Bool:= !(x.Room.toList==e.Room.toList)
def aTk (l:List AB) (e:AB):OI l e≤l.length:=lG
def dN (l:List AB) (e:AB):(C9 l e).length=l.length+1:=by
 have :=aTk l e;unfold C9;rw[E9,FV,F7,IJ];omega
def Jh {l:List AB} {e x:AB}:x∈C9 l e↔x=e∨x∈l:=by
 unfold C9;rw[Hl,EG];constructor
 ·rintro(h|h|h)
  ·exact .inr (YL h)
  ·exact .inl h
  exact .inr (eG h)
 rintro(h|h)
 ·exact .inr (.inl h)
 rw[←Qn (OI l e) l]at h;rcases Hl.1 h with h|h
 ·exact .inl h
 exact .inr (.inr h)
section
variable {l : List AB} {e : AB} (hl : l.length ≤ 1000)
include hl
theorem akL :jk l e=bif l.any (jQ e)then some ([],13)else(bif bV l e.Id then(Uz e).bind fun q=>(bif q then(Ag l ((l.findIdx fun x=>x.Id==e.Id:Nat):Int)).bind fun I=>(Uz I).bind fun J=>some (!J)else some false).bind fun j=>some ((bif j then l.set (l.findIdx fun x=>x.Id==e.Id) e else l),0)else some (C9 l e,0)):=by
 have u:yB l=some l:=by
  unfold yB;rw[Cx SN];rfl
 have z:gX l e.Id=some (if l.findIdx (fun x=>x.Id==e.Id)<l.length then((l.findIdx (fun x=>x.Id==e.Id):Nat):Int)else -1):=by
  unfold gX xY;rw[aDg l AA _ (fun x=>x.Id==e.Id) fun _=>rfl];rfl
 have L:aNY l l e 0=some (C9 l e,0):=by
  have U:∀i:Nat,i≤l.length→(aFN l (i:Int) [e]).bind (fun O=>some (O,(0:Int)))=some (l.take i++e::l.drop i,0):=fun i hi=>by
   have Y:aEN l (i:Int) [e]=some (l.take i++e::l.drop i):=by
    show(if(0≤(i:Int)∧(i:Int)≤(l.length:Int))∧l.length≤34359738368 then some (l.take (i:Int).toNat++e::l.drop (i:Int).toNat)else none)=_;rw[CP ⟨⟨AA,AA⟩,AA⟩,Rq]
   unfold aFN;rw[Y];rfl
  unfold aNY;rw[J6 l (fuel_lt AA) (fun x=> !decide (x.Id<e.Id)) (fun i=>some (l.take i++e::l.drop i,(0:Int))) (some (l.take l.length++e::l.drop l.length,0))]
  ·unfold C9 OI;split
   ·rfl
   rename_i Z;have :=lG (xs:=l) (p:=fun x=> !decide (x.Id<e.Id));rw[show l.findIdx (fun x=> !decide (x.Id<e.Id))=l.length by omega]
  ·intro k i h;unfold aN9 yL;rw[Bl h,U i AA];cases decide (l[i].Id<e.Id)<;>rfl
  intro k;unfold aN9 yL;rw[CX,Am,Am,U l.length (Dn _)]
 unfold jk aUt;rw[Gi l (fuel_lt AA) (jQ e) ([],13) (bif bV l e.Id then(Uz e).bind fun q=>(bif q then(Ag l ((l.findIdx fun x=>x.Id==e.Id:Nat):Int)).bind fun I=>(Uz I).bind fun J=>some (!J)else some false).bind fun j=>some ((bif j then l.set (l.findIdx fun x=>x.Id==e.Id) e else l),0)else some (C9 l e,0))]
 ·intro k i h;unfold aHi;rw[Bl h];rfl
 intro k;unfold aHi;rw[CX,Am,z,AP,u,AP,L]
 have M:bV l e.Id=decide (l.findIdx (fun x=>x.Id==e.Id)<l.length):=by
  unfold bV DV;rw[KR,List.find?_isSome,GN,dQ]
 rw[M];by_cases h:l.findIdx (fun x=>x.Id==e.Id)<l.length
 ·rw[CP h,Gu h,Gv (show ¬(((l.findIdx (fun x=>x.Id==e.Id):Nat):Int)<0) by omega),Gu (show((l.findIdx (fun x=>x.Id==e.Id):Nat):Int)≥0 by omega)];simp only[Am,BD,AP];unfold aF3;congr 1;funext q;congr 1;funext j;cases j with
  |true=>rw[BD,BZ h,Rq];rfl
  |false=>rfl
 rw[CU h,Gv h,Gu (show(-1:Int)<0 by omega),Gv (show ¬((-1:Int)≥0) by omega),Gv (show ¬((l.length:Int)≥2000) by omega)];rfl
end
def aiP {l k:List AB} (u:(l.map (·.Id)).Nodup) (L:(k.map (·.Id)).Nodup) (hd:Gf l=0) (hs:∀e∈l,∃f∈k,f.Id=e.Id∧Lm e f):Gm l k (l.map (·.Id)):=by
 have q:∀x∈l.map (·.Id),ev l x∈l:=fun x j=>Ht (Fj (KU.2 j)).1;refine⟨u,fun x j=>?_,fun x j a ha=>KU.1 ((WE hd (q x j)).2 a ha).1,fun x j a ha=>KU.1 ((WE hd (q x j)).1 a ha).1⟩;obtain⟨e,z,rfl⟩:=Dp.1 j;obtain⟨f,I,J,M⟩:=hs e z;have O:ev l e.Id=e:=jS u z;have U:ev k e.Id=f:=by rw[←J];exact jS L I
 rw[O,U];exact⟨KU.2 j,KU.2 (Dp.2 ⟨f,I,J⟩),M⟩
end Go.Proofs.YtkkdimcnpacjhaaGreat
end
section
namespace Go.Proofs.YtkkdimcnpacjhaaGreat
open Go.RowKit
set_option maxHeartbeats 1000000
def aLk {α:Type} (f:α→Int):∀L:List α,L≠[]→∃x∈L,∀y∈L,f y≤f x
 | [],h=>absurd rfl h
 | [a],_=>⟨a,EO ..,fun y j=>by rw[FT.1 j];exact Y9 _⟩
 |a::b::L,_=>by
  obtain⟨x,q,h⟩:=aLk f (b::L) (aJo _ _);by_cases u:f x≤f a
  ·refine⟨a,EO ..,fun y j=>?_⟩;rcases EG.1 j with rfl|j
   ·exact Y9 _
   exact Int.le_trans (h y j) u
  refine⟨x,F5 _ q,fun y j=>?_⟩;rcases EG.1 j with rfl|j
  ·omega
  exact h y j
def jY {l:List AB} {ids:List Int} {x:Int}:x∈FB l ids↔x∈ids∧∀y∈ids,He l x y=false:=by
 unfold FB;rw[FN,IY,Ls,fV];exact⟨fun⟨a,b⟩=>⟨a,fun y j=>by simpa using b y j⟩,fun⟨a,b⟩=>⟨a,fun y j=>by simp[b y j]⟩⟩
def yx (l:List AB) (ids:List Int):Inc (FB l ids):=(Jk ids).sublist QM
def aYB {l:List AB} (hd:Gf l=0) {ids:List Int} {x:Int} (j:x∈ids) (h:∀y∈ids,(ev l y).Depth≤(ev l x).Depth):x∈FB l ids:=by
 refine jY.2 ⟨j,fun y q=>?_⟩;unfold He;cases u:bV l y with
 |false=>rfl
 |true=>
  cases z:DL (ev l y).aZ x with
  |false=>rw[GL,fP]
  |true=>
   have :=((WE hd (Ht (Fj u).1)).2 x (Iu.1 z)).2;have :=h y q;omega
def aJH {l:List AB} (hd:Gf l=0) {ids:List Int} (h:ids≠[]):FB l ids≠[]:=by
 obtain⟨x,j,hm⟩:=aLk (fun y=>(ev l y).Depth) ids h;exact fun e=>by have :=aYB hd j hm;rw[e]at this;cases this
def agF {α:Type} {lt:α→α→Bool} (hi:∀a,lt a a=false) (ha:∀a b,lt a b=true→lt b a=false) {S:List α} (h:S.Pairwise fun a b=>lt a b=true) {i:Nat} (hl:i<S.length):(S.filter (lt S[i])).length=S.length-1-i:=by
 have e:S=S.take (i+1)++S.drop (i+1):=(Qn ..).symm;have hp:=h;rw[e,UG]at hp
 have I:(S.take (i+1)).filter (lt S[i])=[]:=by
  rw[uU];intro a u;obtain⟨j,z,rfl⟩:=G5 u;rw[F7]at z;rw[WJ];rcases Yl j i with q|q
  ·rw[ha _ _ (IZ.1 h j i AA hl q)];exact aNU
  have :j=i:=AA
  subst this;rw[hi];exact aNU
 have J:(S.drop (i+1)).filter (lt S[i])=S.drop (i+1):=by
  rw[XI];intro a u;obtain⟨j,z,rfl⟩:=G5 u;rw[IJ]at z;rw[Xp];exact IZ.1 h i (i+1+j) hl AA AA
 have L:S.filter (lt S[i])=S.drop (i+1):=by
  generalize S[i]=x at I J
  calc S.filter (lt x)=(S.take (i+1)++S.drop (i+1)).filter (lt x):=by rw[Qn]
   _=S.drop (i+1):=by rw[Ox,I,J,I5]
 rw[L,IJ];omega
def VG (l:List AB) (hs:List Int) (x:Int):Nat:=(hs.filter fun y=>G9 (ev l x) (ev l y)).length
def Ii (l:List AB) (hs:List Int):List Int:=hs.filter fun x=>decide (VG l hs x<10)
def apJ {l:List AB} {hs:List Int} (h:Inc hs):Inc (Ii l hs):=h.sublist QM
def Wq {l:List AB}:∀{hs:List Int},(∀x∈hs,bV l x=true)→ofIds l hs=hs.map (ev l)
 | [],_=>rfl
 |x::hs,h=>by
  have j:=Wq (hs:=hs) fun y q=>h y (F5 _ q);unfold ofIds at j ⊢;rw[Lr,(Fj (h x (EO ..))).1,j];rfl
def aX1 (a:AB):G9 a a=false:=by unfold G9;simp
def adz (a b:AB) (h:G9 a b=true):G9 b a=false:=by
 unfold G9 at *;simp only[Vb,GN,CZ,OL]at h;rw[VL,gW,NR,NR,PI];omega
def aC4 {l:List AB} {hs:List Int} (q:∀x∈hs,bV l x=true) {S:List AB} (hp:S.Perm (ofIds l hs)) (I:S.Pairwise fun a b=>G9 a b=true) {i:Nat} (hi:i<S.length):ev l S[i].Id=S[i]∧S[i].Id∈hs∧VG l hs S[i].Id=S.length-1-i:=by
 have hm:S[i]∈ofIds l hs:=hp.mem_iff.1 (ED hi);rw[Wq q]at hm hp;obtain⟨x,u,e⟩:=Dp.1 hm;have j:S[i].Id=x:=by rw[←e];exact(Fj (q x u)).2
 have z:ev l S[i].Id=S[i]:=by rw[j];exact e
 refine⟨z,by rw[j];exact u,?_⟩;unfold VG;rw[z];have J:(hs.filter fun y=>G9 S[i] (ev l y)).length=((hs.map (ev l)).filter (G9 S[i])).length:=by rw[List.filter_map,CB];rfl
 rw[J,←(hp.filter _).length_eq,agF aX1 adz I hi]
def aWJ {l:List AB} {hs:List Int} (M:Inc hs) (z:∀x∈hs,bV l x=true) {S:List AB} (hp:S.Perm (ofIds l hs)) (J:S.Pairwise fun a b=>G9 a b=true):EF ((S.drop (S.length-10)).map (·.Id))=Ii l hs:=by
 refine xH (Jk _) (apJ M) fun x=>?_;unfold Ii;rw[IY,FN,GN,Dp];constructor
 ·rintro⟨e,O,rfl⟩;obtain⟨j,U,rfl⟩:=G5 O;rw[IJ]at U;rw[Xp];obtain⟨_,Y,I⟩:=aC4 z hp J (i:=S.length-10+j) AA;exact⟨Y,by rw[I];omega⟩
 rintro⟨L,hm⟩;have q:ev l x∈S:=by rw[hp.mem_iff,Wq z];exact Dp.2 ⟨x,L,rfl⟩
 have u:=(Fj (z x L)).2;obtain⟨i,hi,e⟩:=G5 q;obtain⟨_,_,I⟩:=aC4 z hp J hi;rw[e,u]at I;refine⟨ev l x,?_,u⟩;have :i-(S.length-10)<(S.drop (S.length-10)).length:=Mem
 refine aHw.2 ⟨i-(S.length-10),this,?_⟩;rw[Xp,←e];congr 1;omega
def als {l:List AB} {hs:List Int} (h:hs.length≤10):Ii l hs=hs:=by
 unfold Ii;rw[XI];intro x j;rw[GN];unfold VG
 have q:(hs.filter fun y=>G9 (ev l x) (ev l y)).length<hs.length:=by
  refine Nat.lt_of_le_of_ne (J4 _ _) fun e=>?_;have :=aQG.1 e x j;rw[aX1]at this;cases this
 omega
def an1 {l:List AB} {hs:List Int} (u:Inc hs) (j:∀x∈hs,bV l x=true) {S:List AB} (hp:S.Perm (ofIds l hs)) (z:S.Pairwise fun a b=>G9 a b=true):(Ii l hs).length=min hs.length 10:=by
 have hlen:S.length=hs.length:=by rw[hp.length_eq,Wq j,CB]
 have I:((S.drop (S.length-10)).map (·.Id)).Nodup:=by
  have :(S.map (·.Id)).Nodup:=by
   have J:(S.map (·.Id)).Perm hs:=by
    refine(hp.map _).trans ?_;rw[Wq j,V7]
    rw[show hs.map ((·.Id)∘ev l)=hs from by
     conv=>rhs;rw[←aDh hs]
     exact Yj fun x q=>(Fj (j x q)).2]
   exact J.nodup_iff.2 (U8 u)
  exact this.sublist ((yZ _ _).map _)
 rw[←aWJ u j hp z]
 have L:(EF ((S.drop (S.length-10)).map (·.Id))).length=((S.drop (S.length-10)).map (·.Id)).length:=
  Nat.le_antisymm (KW _) (wS I fun x q=>IY.2 q)
 rw[L,CB,IJ];omega
def Qq (l:List AB) (ids:List Int):Int:=ids.foldl (fun d x=>max d ((ev l x).Depth+1)) 0
def foldl_max {α:Type} (f:α→Int):∀(L:List α) (a:Int),a≤L.foldl (fun d x=>max d (f x)) a∧(∀x∈L,f x≤L.foldl (fun d x=>max d (f x)) a)∧(L.foldl (fun d x=>max d (f x)) a=a∨∃x∈L,L.foldl (fun d x=>max d (f x)) a=f x)
 | [],a=>⟨Y9 _,fun x h=>absurd h EM,.inl rfl⟩
 |y::L,a=>by
  obtain⟨z,I,j⟩:=foldl_max f L (max a (f y));rw[Ey];have J:a≤max a (f y):=Int.le_max_left ..;have M:f y≤max a (f y):=Int.le_max_right ..;refine⟨Int.le_trans J z,fun x u=>?_,?_⟩
  ·rcases EG.1 u with rfl|u
   ·exact Int.le_trans M z
   exact I x u
  rcases j with j|⟨x,u,j⟩
  ·rcases Int.le_total a (f y)with q|q
   ·exact .inr ⟨y,EO ..,by rw[j,Int.max_eq_right q]⟩
   exact .inl (by rw[j,Int.max_eq_left q])
  exact .inr ⟨x,F5 _ u,j⟩
def anZ {α β:Type} {f:α→Int} {g:β→Int} {L:List α} {M:List β} {a b:Int} (j:L≠[]) (O:∀x∈L,∃y∈M,f x=g y) (h2:∀y∈M,∃x∈L,f x=g y) (ha:∀x∈L,a≤f x) (hb:∀y∈M,b≤g y):L.foldl (fun d x=>max d (f x)) a=M.foldl (fun d x=>max d (g x)) b:=by
 obtain⟨p1,U,p3⟩:=foldl_max f L a;obtain⟨q1,Y,q3⟩:=foldl_max g M b;obtain⟨z,q⟩:=aV8 _ j;obtain⟨w,Z,ew⟩:=O z q;have r1:=U z q;have r2:=ha z q;have r3:=Y w Z;have r4:=hb w Z
 have le1:L.foldl (fun d x=>max d (f x)) a≤M.foldl (fun d x=>max d (g x)) b:=by
  rcases p3 with e|⟨x,u,e⟩
  ·rw[e];omega
  obtain⟨y,I,J⟩:=O x u;rw[e,J];exact Y y I
 have Hz:M.foldl (fun d x=>max d (g x)) b≤L.foldl (fun d x=>max d (f x)) a:=by
  rcases q3 with e|⟨y,I,e⟩
  ·rw[e];omega
  obtain⟨x,u,J⟩:=h2 y I;rw[e,←J];exact U x u
 omega
def Lj (s:List Ah) (k:Ah):Option Int:=(s.find? fun x=>Em x k).map (·.Id)
def Lp (e:AB) (s:List Ah):List Int:=EF ((keysOf e).filterMap (Lj s))
def afv (e:AB) (s:List Ah):Inc (Lp e s):=Jk _
def ang (e:AB) (s:List Ah):(Lp e s).length≤5:=by
 have j:=KW ((keysOf e).filterMap (Lj s));have q:=aJU (Lj s) (keysOf e);have u:=QS e;unfold Lp;omega
def aVr {e:AB} {s:List Ah} {a:Int}:a∈Lp e s↔∃k∈keysOf e,∃x,s.find? (fun x=>Em x k)=some x∧x.Id=a:=by
 unfold Lp Lj;rw[IY,Sl];constructor
 ·rintro⟨k,j,h⟩;obtain⟨x,q,e⟩:=SI.1 h;exact⟨k,j,x,q,e⟩
 rintro⟨k,j,x,q,e⟩;exact⟨k,j,SI.2 ⟨x,q,e⟩⟩
def aav {α:Type} {p:α→Bool} {L:List α} {x:α} (j:x∈L) (hp:p x=true) (q:∀y∈L,p y=true→y=x):L.find? p=some x:=by
 cases h:L.find? p with
 |none=>exact absurd hp (WW.1 h x j)
 |some y=>rw[q y (OA h) (by simpa using Td h)]
def aKW {s:List Ah} (h:JA s):∀x∈s,∀y∈s,Em x y=true→x=y:=by
 induction s with
 |nil=>exact fun x J=>absurd J EM
 |cons a s O=>
  obtain⟨U,Y⟩:=Nr.1 h;intro x J y Z hs
  have q:∀z∈s,Em a z=false:=fun z hz=>by
   cases hq:Em a z with
   |false=>rfl
   |true=>have :=U z hz;rw[jo hq]at this;cases this
  have j:Em y x=true:=by rw[NS]at *;exact⟨hs.1.symm,hs.2.symm⟩
  rcases EG.1 J with L|u<;>rcases EG.1 Z with M|I
  ·rw[L,M]
  ·rw[L,q y I]at hs;cases hs
  ·rw[M,q x u]at j;cases j
  exact O Y x u y I hs
structure aTR (e:AB) (X Y:List AB):Prop where
 c:X.find? (fun x=>x.Kind==1)=Y.find? (fun x=>x.Kind==1)
 p:X.find? (fun x=>x.Kind==3)=Y.find? (fun x=>x.Kind==3)
 s:X.find? (Gp e.aU)=Y.find? (Gp e.aU)
 k:e.Kind=2→X.find? (Gp e.Key)=Y.find? (Gp e.Key)
 r:e.Kind=2→e.Content.N=3∨e.Content.N=2→X.find? (fun x=>x.Kind==4)=Y.find? (fun x=>x.Kind==4)
def aiE {α:Type} {p:α→Bool} {X Y:List α} (h:X.find? p=Y.find? p):X.any p=Y.any p:=by
 rw[←List.isSome_find?,←List.isSome_find?,h]
def aeE {e:AB} {X Y:List AB} (h:aTR e X Y):FH e X=FH e Y:=by
 have q:Gt X=Gt Y:=by unfold Gt;rw[h.c]
 have u:Ew X=Ew Y:=by unfold Ew Q5;rw[h.p,h.c]
 have z:Gj X e.aU=Gj Y e.aU:=by unfold Gj;rw[h.s]
 unfold FH WG;rw[q,u,z];cases I:e.Kind==2 with
 |false=>rfl
 |true=>
  have j:e.Kind=2:=eq_of_beq I;have J:Gj X e.Key=Gj Y e.Key:=by unfold Gj;rw[h.k j]
  have L:Ry e X=Ry e Y:=by unfold Ry;rw[q,aiE (h.k j)]
  have M:TI e.Content.N (Gj Y e.Key) X=TI e.Content.N (Gj Y e.Key) Y:=by
   unfold TI;cases O:e.Content.N==3 with
   |true=>unfold U6;rw[h.r j (.inl (eq_of_beq O))]
   |false=>
    cases U:e.Content.N==2 with
    |true=>unfold U6;rw[h.r j (.inr (eq_of_beq U))]
    |false=>rfl
  have Z:Wn e X=Wn e Y:=by
   unfold Wn X5;rw[L,J,M,u,z]
  rw[Z]
def aQl (e:AB):(⟨1,BK,0⟩:Ah)∈JF e∧(⟨3,BK,0⟩:Ah)∈JF e∧(⟨2,e.aU,0⟩:Ah)∈JF e:=by
 unfold JF;refine⟨aA2 (aA2 (ZT _ _ _ _) ?_) ?_,aA2 (ZT _ _ _ _) ?_,ZT _ _ _ _⟩<;>rfl
def aAs {s:List Ah} (k:Int) (key:ByteArray) {y:Ah} (q:y∈s) (u:y.Id=0):y∈ES s k key 0:=by
 cases j:Em y ⟨k,key,0⟩with
 |false=>exact aA2 q j
 |true=>
  obtain⟨z,I⟩:=NS.1 j;have :y=⟨k,key,0⟩:=by cases y;simp only at *;rw[z,I,u]
  rw[this];exact ZT _ _ _ _
def aV9 {e:AB} (I:e.Kind≠1):(∀k∈JF e,k∈keysOf e)∧(e.Kind=2→(⟨2,e.Key,0⟩:Ah)∈keysOf e∧(e.Content.N=3∨e.Content.N=2→(⟨4,BK,0⟩:Ah)∈keysOf e)):=by
 have J:(e.Kind==1)=false:=Rf
 have z:=aJE e;unfold keysOf;rw[J,Am];cases q:e.Kind==2 with
 |false=>
  rw[Am];exact⟨fun k j=>j,fun e=>by rw[e]at q;cases q⟩
 |true=>
  rw[BD];cases u:(e.Content.N==3||e.Content.N==1||e.Content.N==2)with
  |false=>
   rw[Am];refine⟨fun k j=>aAs _ _ j (z k j),fun _=>⟨ZT _ _ _ _,fun h=>?_⟩⟩;rcases h with h|h<;>rw[h]at u<;>cases u
  |true=>
   rw[BD];refine⟨fun k j=>aAs _ _ (aAs _ _ j (z k j)) (z k j),fun _=>⟨aAs _ _ (ZT _ _ _ _) rfl,fun _=>ZT _ _ _ _⟩⟩
end Go.Proofs.YtkkdimcnpacjhaaGreat
end
section
namespace Go.Proofs.YtkkdimcnpacjhaaGreat
open Go.RowKit
set_option maxHeartbeats 1000000
def aQ1 {α β:Type} {f g:α→Option β}:∀{L:List α},(∀x∈L,f x=g x)→L.filterMap f=L.filterMap g
 | [],_=>rfl
 |x::L,h=>by rw[Lr,Lr,h x (EO ..),aQ1 fun y j=>h y (F5 _ j)]
def pU {α:Type} {p q:α→Bool}:∀{L:List α},(∀x∈L,p x=q x)→L.find? p=L.find? q
 | [],_=>rfl
 |x::L,h=>by
  rw[KA,KA,h x (EO ..),pU fun y j=>h y (F5 _ j)]
def aaM {l:List AB} {s:List Ah} (hp:IE l s):EK l s=s.map fun x=>ev l x.Id:=by
 unfold EK
 rw[Wq (fun x j=>by
  obtain⟨y,q,rfl⟩:=Dp.1 j
  exact(hp.named y q).1),V7];rfl
def aiB {l:List AB} {s:List Ah} (hp:IE l s) (k:Ah):(EK l s).find? (DX k)=(s.find? fun x=>Em x k).map fun x=>ev l x.Id:=by
 rw[aaM hp,List.find?_map];congr 1;refine pU fun x j=>?_;obtain⟨_,_,q,u⟩:=hp.named x j;show DX k (ev l x.Id)=Em x k;unfold DX Em;rw[q,u]
def aVC {l:List AB} {s:List Ah} (hp:IE l s) {y:AB} (j:y∈EK l s):∃x∈s,y=ev l x.Id∧y.Kind=x.Kind∧y.Key=x.Key∧y∈l:=by
 rw[aaM hp]at j;obtain⟨x,q,rfl⟩:=Dp.1 j;obtain⟨u,_,z,I⟩:=hp.named x q;exact⟨x,q,rfl,z,I,Ht (Fj u).1⟩
section
variable {l m : List AB} {s : List Ah} {e : AB} (hp : IE l s) (hA : e.bg = Lp e s) (hm : ∀ a ∈ e.bg, DV m a = DV l a)
include hp hA hm
theorem YS {a:Int} (ha:a∈e.bg):∃k∈keysOf e,∃x∈s,Em x k=true∧x.Id=a∧bV l a=true∧(ev l a).Kind=x.Kind∧(ev l a).Key=x.Key:=by
 rw[hA]at ha;obtain⟨k,u,x,q,z⟩:=aVr.1 ha;have j:=OA q;obtain⟨I,_,J,L⟩:=hp.named x j;subst z;exact⟨k,u,x,j,by simpa using Td q,rfl,I,J,L⟩
theorem aYu :ofIds m e.bg=e.bg.map (ev l):=by
 have j:ofIds m e.bg=ofIds l e.bg:=by
  unfold ofIds;refine aQ1 fun a ha=>hm a ha
 rw[j]
 exact Wq fun a ha=>by
  obtain⟨_,_,_,_,_,_,h,_⟩:=YS hp hA hm ha;exact h
theorem aXG {k:Ah} (hk:k∈keysOf e):(ofIds m e.bg).find? (DX k)=(EK l s).find? (DX k):=by
 rw[aYu hp hA hm,aiB hp];cases z:s.find? (fun x=>Em x k)with
 |none=>
  rw[wP,WW];intro y I q;obtain⟨a,ha,rfl⟩:=Dp.1 I;obtain⟨_,_,x,j,_,_,_,J,L⟩:=YS hp hA hm ha;obtain⟨M,O⟩:=Pg.1 q;exact WW.1 z x j (NS.2 ⟨J.symm.trans M,L.symm.trans O⟩)
 |some x=>
  rw[IV];have j:=OA z;have U:Em x k=true:=by simpa using Td z
  obtain⟨_,_,J,L⟩:=hp.named x j;obtain⟨k1,k2⟩:=NS.1 U;refine aav (Dp.2 ⟨x.Id,by rw[hA];exact aVr.2 ⟨k,hk,x,z,rfl⟩,rfl⟩) (Pg.2 ⟨J.trans k1,L.trans k2⟩) fun y I q=>?_;obtain⟨a,ha,rfl⟩:=Dp.1 I;obtain⟨_,_,x',u,_,e2,_,Y,Z⟩:=YS hp hA hm ha;obtain⟨M,O⟩:=Pg.1 q;have :x'=x:=aKW hp.sorted x' u x j (NS.2 ⟨by rw[←Y,M,k1],by rw[←Z,O,k2]⟩);rw[←e2,this]
theorem am1 :Jo m e=(keysOf e).flatMap fun k=>((EK l s).find? (DX k)).toList:=by
 unfold Jo
 have :∀L:List Ah,(∀k∈L,k∈keysOf e)→(L.flatMap fun k=>((ofIds m e.bg).find? (DX k)).toList)=L.flatMap fun k=>((EK l s).find? (DX k)).toList:=by
  intro L
  induction L with
  |nil=>exact fun _=>rfl
  |cons k L j=>
   intro h;rw[JX,JX,aXG hp hA hm (h k (EO ..)),j fun x q=>h x (F5 _ q)]
 exact this _ fun _ h=>h
theorem aDF {y:AB}:y∈Jo m e↔∃k∈keysOf e,(EK l s).find? (DX k)=some y:=by
 rw[am1 hp hA hm,Rl];exact⟨fun⟨k,j,h⟩=>⟨k,j,J3⟩,fun⟨k,j,h⟩=>⟨k,j,J3⟩⟩
theorem aLt {k:Ah} (J:k∈keysOf e):(EK l s).find? (DX k)=(Jo m e).find? (DX k):=by
 cases u:(EK l s).find? (DX k)with
 |none=>
  symm;rw[WW];intro y L j;obtain⟨k',_,h⟩:=(aDF hp hA hm).1 L;exact WW.1 u y (OA h) j
 |some y=>
  symm;refine aav ((aDF hp hA hm).2 ⟨k,J,u⟩) (by simpa using Td u) fun z M j=>?_;obtain⟨k',I,h⟩:=(aDF hp hA hm).1 M;have q:DX k' z=true:=by simpa using Td h
  obtain⟨O,U⟩:=Pg.1 j;obtain⟨Y,Z⟩:=Pg.1 q;have :k'=k:=aKW (aUS e) k' I k J (NS.2 ⟨by rw[←O,←Y],by rw[←U,←Z]⟩);rw[this,u]at h;exact(CS h).symm
theorem ahw (Y:e.Kind≠1) (Z:∀x∈l,U5 x):aTR e (EK l s) (Jo m e):=by
 obtain⟨m1,m3,m2⟩:=aQl e;obtain⟨L,U⟩:=aV9 Y
 have M:∀y∈Jo m e,y∈EK l s:=fun y u=>by
  obtain⟨k',_,h⟩:=(aDF hp hA hm).1 u;exact OA h
 have q:∀(n:Int),n≠2→n≠9→∀y∈EK l s,(y.Kind==n)=DX ⟨n,BK,0⟩ y:=fun n I J y u=>by
  obtain⟨x,_,_,_,_,hl⟩:=aVC hp u;unfold DX;show _=(y.Kind==n&&decide (y.Key=BK));cases hq:y.Kind==n with
  |false=>rfl
  |true=>
   have z:y.Kind=n:=eq_of_beq hq;rcases(Z y hl).keyed with h|h|h
   ·rw[Gu h];rfl
   ·exact absurd (z.symm.trans h) I
   exact absurd (z.symm.trans h) J
 have j:∀(n:Int),n≠2→n≠9→(⟨n,BK,0⟩:Ah)∈keysOf e→(EK l s).find? (fun x=>x.Kind==n)=(Jo m e).find? (fun x=>x.Kind==n):=fun n I J hk=>by
  rw[pU (q n I J),pU fun y u=>q n I J y (M y u)];exact aLt hp hA hm hk
 exact⟨j 1 BJ BJ (L _ m1),j 3 BJ BJ (L _ m3),aLt hp hA hm (L _ m2),fun O=>aLt hp hA hm (U O).1,fun O hn=>j 4 BJ BJ ((U O).2 hn)⟩
theorem ahV (j:e.Kind≠1) (q:∀x∈l,U5 x):FH e (Jo m e)=FH e (EK l s):=(aeE (ahw hp hA hm j q)).symm
omit hp hA hm in
theorem aT7 {q:List Ah}:∀(X j:List AB),(∀x∈X,∃k∈q,DX k x=true)→(j++X).Pairwise (fun a b=>Oh b a=false)→J7 q j X=true
 | [],_,_,_=>rfl
 |x::X,j,h,z=>by
  unfold J7;obtain⟨k,I,hm⟩:=h x (EO ..);have J:(q.any fun k=>DX k x)=true:=Gl.2 ⟨k,I,hm⟩
  have L:j.any (Oh x)=false:=by
   rw[fV];intro y u;rw[(UG.1 z).2.2 y u x (EO ..)];exact aNU
  have M:=aT7 X (j++[x]) (fun y u=>h y (F5 _ u)) (by rw[HY];exact z);rw[J,L,M];rfl
theorem akT (Z:e.Kind≠1) (hF:∀x∈l,U5 x) (hr:∀x∈l,x.Room=e.Room) (ha:FH e (EK l s)=0):LX m e=0:=by
 have U:=aYu hp hA hm
 have z:∀a∈e.bg,bV l a=true:=fun a ha=>by
  obtain⟨_,_,_,_,_,_,h,_⟩:=YS hp hA hm ha;exact h
 have k1:e.bg.all (bV m)=true:=Di.2 fun a ha=>by unfold bV;rw[hm a ha];exact z a ha
 have k2:(ofIds m e.bg).all (fun x=>decide (x.Room=e.Room))=true:=by
  rw[U,Di];intro y q;obtain⟨a,ha,rfl⟩:=Dp.1 q;exact Gu (hr _ (Ht (Fj (z a ha)).1))
 have k3:J7 (keysOf e) [] (ofIds m e.bg)=true:=by
  refine aT7 _ _ (fun y q=>?_) ?_
  ·rw[U]at q;obtain⟨a,ha,rfl⟩:=Dp.1 q;obtain⟨k,Y,x,_,h2,_,_,h3,h4⟩:=YS hp hA hm ha;obtain⟨I,J⟩:=NS.1 h2;exact⟨k,Y,Pg.2 ⟨h3.trans I,h4.trans J⟩⟩
  rw[I5,U,YB];have hi:Inc e.bg:=by rw[hA];exact afv e s
  refine List.Pairwise.imp_of_mem (fun{a b} ha hb L=>?_) hi;cases j:Oh (ev l b) (ev l a)with
  |false=>rfl
  |true=>
   obtain⟨I,J⟩:=aOJ.1 j;obtain⟨_,_,x,hx,_,x1,_,x3,x4⟩:=YS hp hA hm ha;obtain⟨_,_,y,q,_,y1,_,y3,y4⟩:=YS hp hA hm hb;have :x=y:=aKW hp.sorted x hx y q (NS.2 ⟨by rw[←x3,←y3,I],by rw[←x4,←y4,J]⟩);rw[←x1,←y1,this]at L;exact absurd L (Int.lt_irrefl _)
 have k4:(ofIds m e.bg).any Oa=true:=by
  have O:(Gt (EK l s)).2=true:=by
   unfold FH at ha;rw[show(e.Kind==1)=false by simpa using Z,Am]at ha;cases j:(Gt (EK l s)).2 with
   |true=>rfl
   |false=>rw[j]at ha;cases ha
  have Y:=(aV9 Z).1 _ (aQl e).1;have hf:=aXG hp hA hm Y
  have u:(EK l s).find? (fun x=>x.Kind==1)=(EK l s).find? (DX ⟨1,BK,0⟩):=pU fun y q=>by
   obtain⟨x,_,_,_,_,hl⟩:=aVC hp q;unfold DX;show _=(y.Kind==1&&decide (y.Key=BK));cases j:y.Kind==1 with
   |false=>rfl
   |true=>
    have M:y.Kind=1:=eq_of_beq j;rcases(hF y hl).keyed with h|h|h
    ·rw[Gu h];rfl
    ·rw[M]at h;cases h
    rw[M]at h;cases h
  unfold Gt at O;rw[u,←hf]at O;cases j:(ofIds m e.bg).find? (DX ⟨1,BK,0⟩)with
  |none=>rw[j]at O;cases O
  |some y=>
   obtain⟨I,J⟩:=Pg.1 (show DX ⟨1,BK,0⟩ y=true by simpa using Td j);refine Gl.2 ⟨y,OA j,?_⟩;unfold Oa;rw[I,J];simp
 unfold LX;rw[k1,k2,k3,k4];simp
end
def aFJ {R:Type} {body:(Int→Option R)→Int→Option R} (s n:Nat) (I:n≤1000) (hs:s≤n) (rest:Option R) (j:∀k (i:Nat),s≤i→i<n→body k (i:Int)=k ((i+1:Nat):Int)) (q:∀k,body k (n:Int)=rest):bI body Aj (s:Int)=rest:=by
 have key:∀d (i:Nat),i+d=n→s≤i→∀m,d<m→bI body m (i:Int)=rest:=by
  intro d
  induction d with
  |zero=>
   intro i hi _ m hm;obtain⟨m,rfl⟩:∃k,m=k+1:=⟨m-1,AA⟩
   rw[show i=n by omega];exact q _
  |succ d u=>
   intro i hi z m hm;obtain⟨m,rfl⟩:∃k,m=k+1:=⟨m-1,AA⟩
   exact(j (bI body m) i z AA).trans (u (i+1) AA AA m AA)
 exact key (n-s) s AA (Dn _) Aj (fuel_lt AA)
def aeV {k:List AB} (I:∀x∈k,Nu x=some 0) (J:∀x∈k,∀y∈k,x.Room=y.Room) (hi:Inc (k.map (·.Id))) (hl:k.length≤100) (q:0<k.length):OW k=some 0:=by
 unfold OW;rw[Gv (show ¬(k.length:Int)>2000 by omega),Am];unfold aFy;refine aFJ 0 k.length AA AA _ (fun f i _ h=>?_) fun f=>?_
 ·unfold kM;rw[Bl h,I _ (ED h),AP,La,Am,wrap_succ i AA]
 unfold kM;rw[CX,Am];unfold aFL;refine aFJ 1 k.length AA AA _ (fun f i _ h=>?_) fun f=>?_
 ·have z:Ag k 0=some k[0]:=BZ q;unfold yt;rw[Bl h,z,AP,J _ (ED h) _ (ED q),wrap_succ i AA];simp
 unfold yt;rw[CX,Am];unfold aAQ;refine aFJ 1 k.length AA AA _ (fun f i O h=>?_) fun f=>?_
 ·obtain⟨j,rfl⟩:∃j,i=j+1:=⟨i-1,AA⟩
  have L:Ai (((j+1:Nat):Int)-1)=(j:Int):=by rw[show((j+1:Nat):Int)-1=(j:Int) by omega];exact MH AA AA
  have u:j<k.length:=AA
  have M:k[j].Id<k[j+1].Id:=by
   have :=IZ.1 hi j (j+1) (by rw[CB];exact u) (by rw[CB];exact h) AA
   rwa [Oq,Oq]at this
  unfold wM;rw[dec_lt h,BD,L,BZ u,BZ h];simp only[AP];rw[Gv (show ¬(k[j].Id≥k[j+1].Id) by omega),Am,wrap_succ (j+1) AA]
 unfold wM;rw[CX,Am]
def afB {k:List AB} (j:∀e∈k,EY e) (hl:k.length≤100) (h:OW k=some 0):Ll k=some 0:=by
 obtain⟨c,c1,c2,_⟩:=aRY (fun e q=>(j e q).wide) hl;rw[h]at c2;rw[c1,←CS c2]
def aHD {l:List AB} (u:(l.map (·.Id)).Nodup) {x:Int} {y:AB}:DV l x=some y↔y∈l∧y.Id=x:=by
 refine⟨fun h=>⟨Ht h,aDM h⟩,fun⟨j,z⟩=>?_⟩;have q:=(Fj (KU.2 (Dp.2 ⟨y,j,rfl⟩))).1;rw[jS u j,z]at q;exact q
def ahc {l:List AB} {e:AB} (hi:Inc (l.map (·.Id))) (U:e.Id∉l.map (·.Id)):Inc ((C9 l e).map (·.Id)):=by
 have hp:l.Pairwise fun a b=>a.Id<b.Id:=YB.1 hi;have I:∀x∈l,x.Id≠e.Id:=fun x q h=>U (Dp.2 ⟨x,q,h⟩)
 have L:∀x∈l.take (OI l e),x.Id<e.Id:=fun x q=>by
  obtain⟨j,z,rfl⟩:=G5 q;rw[F7]at z;rw[WJ];have :=aPp (p:=fun x:AB=> !decide (x.Id<e.Id)) (xs:=l) (i:=j) (by unfold OI at z;omega);simpa using this
 have M:∀x∈l.drop (OI l e),e.Id<x.Id:=fun x q=>by
  obtain⟨j,z,rfl⟩:=G5 q;rw[IJ]at z;rw[Xp];have u:OI l e<l.length:=AA
  have Z:¬(l[OI l e].Id<e.Id):=by
   show ¬(l[l.findIdx fun x=> !decide (x.Id<e.Id)].Id<e.Id);have :=aEd (p:=fun x:AB=> !decide (x.Id<e.Id)) (xs:=l) (w:=u);simpa using this
  have Y:l[OI l e].Id≤l[OI l e+j].Id:=by
   rcases Yk j with rfl|O
   ·exact Y9 _
   exact Int.le_of_lt (IZ.1 hp _ _ u AA AA)
  have :=I _ (ED (show OI l e+j<l.length by omega));omega
 unfold Inc;rw[YB];unfold C9;rw[UG,Nr];refine⟨hp.sublist (aKE ..),⟨M,hp.sublist (yZ ..)⟩,fun a ha b J=>?_⟩;rcases EG.1 J with rfl|J
 ·exact L a ha
 exact Int.lt_trans (L a ha) (M b J)
structure Gg (l:List AB) (e:AB):Prop where
 facts:Rs l
 len:l.length≤50
 deep:Gf l=0
 ver:∀x∈l,Nu x=some 0
 fresh:bV l e.Id=false
 good:Nu e=some 0
 small:EY e
 room:∀x∈l,x.Room=e.Room
 prev:e.aZ=FB l (DT l (Bj l))
 some_:DT l (Bj l)≠[]
 low:∀x∈e.aZ,(ev l x).Depth<e.Depth
 next:∃x∈e.aZ,(ev l x).Depth=e.Depth-1
 auth:e.bg=Lp e (Eb l (Bj l))
section
variable {l : List AB} {e : AB} (h : Gg l e)
include h
theorem Gg.ok:Ik l:=h.facts.ok aLo
theorem Gg.aFh:U5 e:=by
 obtain⟨c,c1,c2,c3⟩:=aFU h.small.wide;rw[h.good]at c2;exact(c3 (CS c2).symm).1
theorem Gg.aGg:e.Id∉l.map (·.Id):=fun hm=>by have :=KU.2 hm;rw[h.fresh]at this;cases this
theorem Gg.aoc:Rs (C9 l e):=by
 refine⟨fun x j=>?_,fun x j y J=>?_,ahc h.facts.inc h.aGg⟩
 ·rcases Jh.1 j with rfl|j
  ·exact⟨h.aFh,h.small⟩
  exact h.facts.ev x j
 rcases Jh.1 j with z|q<;>rcases Jh.1 J with I|u
 ·rw[z,I]
 ·rw[z];exact(h.room y u).symm
 ·rw[I];exact h.room x q
 exact h.facts.room x q y u
theorem Gg.len':(C9 l e).length≤51:=by have :=h.len;rw[dN];omega
theorem Gg.ok':Ik (C9 l e):=h.aoc.ok aO1
theorem Gg.aFi:∀x∈C9 l e,Nu x=some 0:=fun x j=>by
 rcases Jh.1 j with rfl|j
 ·exact h.good
 exact h.ver x j
theorem Gg.ref':OW (C9 l e)=some 0:=aeV h.aFi h.aoc.room h.aoc.inc aO1 (by rw[dN];omega)
theorem Gg.prog':Ll (C9 l e)=some 0:=afB h.ok'.small aO1 h.ref'
theorem Gg.get {x:Int} (q:bV l x=true):DV (C9 l e) x=DV l x:=by
 have j:=(Fj q).1;rw[j];exact(aHD h.ok'.nodup).2 ⟨Jh.2 (.inr (Ht j)),aDM j⟩
theorem Gg.aul {x:Int} (j:bV l x=true):bV (C9 l e) x=true:=by unfold bV;rw[h.get j];exact j
theorem Gg.ev' {x:Int} (j:bV l x=true):ev (C9 l e) x=ev l x:=by unfold ev Fq;rw[h.get j]
theorem Gg.self:DV (C9 l e) e.Id=some e:=(aHD h.ok'.nodup).2 ⟨Jh.2 (.inl rfl),rfl⟩
theorem Gg.aum:ev (C9 l e) e.Id=e:=jS h.ok'.nodup (Jh.2 (.inl rfl))
theorem Gg.aod {x:Int} (j:x∈DT l (Bj l)):bV l x=true:=by
 obtain⟨y,q,rfl⟩:=Dp.1 j;exact KU.2 (Dp.2 ⟨y,(FN.1 q).1,rfl⟩)
theorem Gg.aDV {x:Int} (j:x∈e.aZ):x∈DT l (Bj l):=by rw[h.prev]at j;exact(jY.1 j).1
theorem Gg.aeN {x:Int} (j:x∈e.aZ):bV l x=true:=h.aod (h.aDV j)
theorem Gg.ayh:IE l (Eb l (Bj l)):=by
 have :=aIh (l:=l) (c:=0) fun _=>h.ok
 rwa [aAu h.deep]at this
theorem Gg.aeO {x:Int} (u:x∈e.bg):x∈DT l (Bj l)∧bV l x=true∧II (Bj l) x=true:=by
 obtain⟨_,_,y,z,_,rfl,q,_⟩:=YS (m:=l) h.ayh h.auth (fun _ _=>rfl) u;have j:=NI.current h.ok h.deep y z;refine⟨?_,q,j⟩;rw[aGI];exact FN.2 ⟨KU.1 q,j⟩
theorem Gg.aDW {x:Int} (j:x∈e.bg):(ev l x).Depth<e.Depth:=by
 obtain⟨y,q,hm⟩:=aLk (fun y=>(ev l y).Depth) _ h.some_;have u:=h.low y (by rw[h.prev];exact aYB h.deep q hm);have z:=hm x (h.aeO j).1;omega
theorem Gg.arN:Gf (C9 l e)=0:=by
 have u:∀{x:Int},bV l x=true→FQ (C9 l e) x=(ev l x).Depth:=fun{x} z=>by unfold FQ;exact Ap AB.Depth (h.ev' z)
 have hd:=h.deep;unfold Gf at hd
 have L:PG l=true:=by
  cases M:PG l with
  |true=>rfl
  |false=>rw[M]at hd;cases hd
 have O:l.all (MX l)=true:=by
  cases M:l.all (MX l)with
  |true=>rfl
  |false=>rw[L,M]at hd;cases hd
 have h1:PG (C9 l e)=true:=by
  unfold PG;rw[Di];intro x z;unfold RU;rw[CZ,Di,Di];rcases Jh.1 z with rfl|z
  ·exact⟨fun a ha=>h.aul (h.aeN ha),fun a ha=>h.aul (h.aeO ha).2.1⟩
  obtain⟨J,I⟩:=WE h.deep z;exact⟨fun a ha=>h.aul (I a ha).1,fun a ha=>h.aul (J a ha).1⟩
 have h2:(C9 l e).all (MX (C9 l e))=true:=by
  rw[Di];intro x z;rcases Jh.1 z with z|z
  ·subst z;obtain⟨y,U,Y⟩:=h.next
   have Z:((x.aZ.length:Int)==0)=false:=by
    have :0<x.aZ.length:=aGB U;rw[PI];omega
   unfold MX;rw[Z,Am,CZ,CZ,Di,Di,Gl];refine⟨fun a ha=>?_,fun a ha=>?_,y,U,?_⟩
   ·rw[u (h.aeO ha).2.1];exact Gu (h.aDW ha)
   ·rw[u (h.aeN ha)];exact Gu (h.low a ha)
   rw[u (h.aeN U),Y];exact SY _
  obtain⟨J,I⟩:=WE h.deep z;have hb:=Di.1 O x z;have j:∀{a:Int},bV l a=true→FQ (C9 l e) a=FQ l a:=fun{a} ha=>u ha;unfold MX at hb ⊢
  have e1:x.bg.all (fun a=>decide (FQ (C9 l e) a<x.Depth))=x.bg.all (fun a=>decide (FQ l a<x.Depth)):=by
   rw[KR,Di,Di];exact⟨fun q a ha=>by rw[←j (J a ha).1];exact q a ha,fun q a ha=>by rw[j (J a ha).1];exact q a ha⟩
  have e2:x.aZ.all (fun a=>decide (FQ (C9 l e) a<x.Depth))=x.aZ.all (fun a=>decide (FQ l a<x.Depth)):=by
   rw[KR,Di,Di];exact⟨fun q a ha=>by rw[←j (I a ha).1];exact q a ha,fun q a ha=>by rw[j (I a ha).1];exact q a ha⟩
  have e3:(x.aZ.any fun a=>FQ (C9 l e) a==x.Depth-1)=x.aZ.any fun a=>FQ l a==x.Depth-1:=any_congr fun a ha=>by rw[j (I a ha).1]
  rw[e1,e2,e3];exact hb
 unfold Gf;rw[h1,h2];rfl
theorem Gg.agr:Gm l (C9 l e) (l.map (·.Id)):=aiP h.ok.nodup h.ok'.nodup h.deep fun x j=>⟨x,Jh.2 (.inr j),rfl,.refl x⟩
theorem Gg.lines {x:Int} (j:bV l x=true):EJ (Bj (C9 l e)) x=EJ (Bj l) x:=(aTt h.agr h.ok h.deep h.ok' h.arN x (KU.1 j)).1
theorem Gg.aGh:stB (C9 l e) (Bj (C9 l e)) e=Eb l (Bj l):=by
 have hm:e.aZ.map (GV (Bj (C9 l e)))=e.aZ.map (GV (Bj l)):=Yj fun x j=>by
  unfold GV;rw[h.lines (h.aeN j)]
 unfold stB
 rw[hm,(h.agr.resolve (aJ:=e.aZ.map (GV (Bj l))) fun s hs=>by
  obtain⟨x,j,rfl⟩:=Dp.1 hs
  exact(aTt h.agr h.ok h.deep h.ok' h.arN x (KU.1 (h.aeN j))).2).1,h.prev]
 rfl
theorem Gg.evs:EK (C9 l e) (Eb l (Bj l))=EK l (Eb l (Bj l)):=by
 unfold EK ofIds;refine aQ1 fun a ha=>?_;obtain⟨y,j,rfl⟩:=Dp.1 ha;exact h.get (h.ayh.named y j).1
theorem Gg.line:∃r,EJ (Bj (C9 l e)) e.Id=some (Uf e (Eb l (Bj l)) r)∧(r=0↔FH e (EK l (Eb l (Bj l)))=0):=by
 have U:bV (C9 l e) e.Id=true:=by unfold bV;rw[h.self];rfl
 have j:=aFR h.ok' h.arN U;rw[h.aum]at j;unfold Gz at j;rw[h.aGh]at j;refine⟨_,j,?_⟩
 have J:e.Kind≠1:=fun j=>by
  have Y:=(h.aFh.form j).1;obtain⟨y,L,_⟩:=h.next;rw[Y]at L;cases L
 have hm:∀a∈e.bg,DV (C9 l e) a=DV l a:=fun a ha=>h.get (h.aeO ha).2.1;have M:∀x∈l,U5 x:=fun x Z=>(h.facts.ev x Z).1;have q:=ahV h.ayh h.auth hm J M
 have u:e.bg.any (fun x=>errOf (Bj (C9 l e)) x != 0)=false:=by
  rw[fV];intro a ha;obtain⟨_,k1,k2⟩:=h.aeO ha;obtain⟨y,y1,y2⟩:=XO.1 k2;unfold errOf;rw[h.lines k1,y1,IV,MF,y2];decide
 unfold JL Ue;rw[h.evs,q,u,Am];generalize hq:FH e (EK l (Eb l (Bj l)))=r at q;constructor
 ·intro z;cases I:LX (C9 l e) e != 0 with
  |true=>
   rw[I,BD,I,BD]at z;rw[z]at I;cases I
  |false=>
   rw[I,Am]at z;cases O:r != 0 with
   |true=>rw[O,BD]at z;exact z
   |false=>exact aBo.1 O
 rintro rfl;rw[akT h.ayh h.auth hm J M h.room hq];rfl
end
end Go.Proofs.YtkkdimcnpacjhaaGreat
end
section
namespace Go.Proofs.YtkkdimcnpacjhaaGreat
open Go.RowKit
set_option maxHeartbeats 1000000
section
variable {l : List AB} {e : AB} (h : Gg l e)
include h
theorem Gg.ayi {x:Int} (j:bV l x=true):II (Bj (C9 l e)) x=II (Bj l) x:=by unfold II;rw[h.lines j]
theorem Gg.aCA (ha:FH e (EK l (Eb l (Bj l)))=0):II (Bj (C9 l e)) e.Id=true:=by
 obtain⟨r,j,q⟩:=h.line;exact XO.2 ⟨_,j,q.2 ha⟩
theorem Gg.ajr (ha:FH e (EK l (Eb l (Bj l)))=0) {x:Int}:x∈DT (C9 l e) (Bj (C9 l e))↔x=e.Id∨x∈DT l (Bj l):=by
 rw[aGI,aGI,FN,FN]
 have hm:x∈(C9 l e).map (·.Id)↔x=e.Id∨x∈l.map (·.Id):=by
  rw[Dp,Dp];constructor
  ·rintro⟨y,q,rfl⟩;rcases Jh.1 q with rfl|q
   ·exact .inl rfl
   exact .inr ⟨y,q,rfl⟩
  rintro(rfl|⟨y,q,rfl⟩)
  ·exact⟨e,Jh.2 (.inl rfl),rfl⟩
  exact⟨y,Jh.2 (.inr q),rfl⟩
 rw[hm];constructor
 ·rintro⟨j|j,u⟩
  ·exact .inl j
  rw[h.ayi (KU.2 j)]at u;exact .inr ⟨j,u⟩
 rintro(rfl|⟨j,u⟩)
 ·exact⟨.inl rfl,h.aCA ha⟩
 exact⟨.inr j,by rw[h.ayi (KU.2 j)];exact u⟩
theorem Gg.az4 (ha:FH e (EK l (Eb l (Bj l)))=0):FB (C9 l e) (DT (C9 l e) (Bj (C9 l e)))=[e.Id]:=by
 refine xH (yx _ _) (lg ..) fun x=>?_;rw[jY,FT];constructor
 ·rintro⟨I,U⟩;rcases(h.ajr ha).1 I with I|I
  ·exact I
  exfalso;have J:=h.aod I;have O:x≠e.Id:=fun q=>by rw[q,h.fresh]at J;cases J
  by_cases L:x∈FB l (DT l (Bj l))
  ·rw[←h.prev]at L;have :=U e.Id ((h.ajr ha).2 (.inl rfl));unfold He at this;rw[show bV (C9 l e) e.Id=true by unfold bV;rw[h.self];rfl,h.aum,Iu.2 L,show(e.Id != x)=true from Si.2 (aj O)]at this;cases this
  rw[jY]at L
  have :∃y∈DT l (Bj l),He l x y=true:=by
   refine Yv fun Y=>L ⟨I,fun y u=>?_⟩;cases z:He l x y with
   |false=>rfl
   |true=>exact absurd ⟨y,u,z⟩ Y
  obtain⟨y,u,z⟩:=this;have j:=h.aod u;have M:=U y ((h.ajr ha).2 (.inr u));unfold He at M z;rw[h.aul j,h.ev' j]at M;rw[j]at z;rw[z]at M;cases M
 rintro rfl;refine⟨(h.ajr ha).2 (.inl rfl),fun y u=>?_⟩;unfold He;rcases(h.ajr ha).1 u with rfl|u
 ·rw[La,qx,fP]
 have j:=h.aod u;rw[h.ev' j];cases z:DL (ev l y).aZ e.Id with
 |false=>rw[fP,fP]
 |true=>
  have :=((WE h.deep (Ht (Fj j).1)).2 e.Id (Iu.1 z)).1;rw[h.fresh]at this;cases this
theorem Gg.cur' (ha:FH e (EK l (Eb l (Bj l)))=0) (hs:Fh e.Kind=true):Eb (C9 l e) (Bj (C9 l e))=ES (Eb l (Bj l)) e.Kind e.Key e.Id:=by
 obtain⟨r,j,q⟩:=h.line;unfold Eb;rw[h.az4 ha];show GV (Bj (C9 l e)) e.Id=_;unfold GV;rw[j,q.2 ha];show(bif (0:Int)==0&&Fh e.Kind then _ else _)=_;rw[hs];rfl
end
structure Nh (l:List AB) (s:List Ah) (n:Int) (x:Int):Prop where
 facts:Rs l
 deep:Gf l=0
 ver:∀y∈l,Nu y=some 0
 aFj:∀y∈l,II (Bj l) y.Id=true
 heads:FB l (DT l (Bj l))=[x]
 dep:(ev l x).Depth=n
 cur:Eb l (Bj l)=s
def Nh.acc {l:List AB} {s:List Ah} {n x:Int} (h:Nh l s n x):DT l (Bj l)=l.map (·.Id):=by
 unfold DT;rw[XI.2 fun y j=>h.aFj y j]
def Nh.step {l:List AB} {s:List Ah} {n x:Int} (h:Nh l s n x) {e:AB} (j:Gg l e) (ha:FH e (EK l s)=0) (hs:Fh e.Kind=true):Nh (C9 l e) (ES s e.Kind e.Key e.Id) (n+1) e.Id∧e.Depth=n+1:=by
 have hd:e.Depth=n+1:=by
  obtain⟨y,q,z⟩:=j.next;rw[j.prev,h.heads,FT]at q;subst q;rw[h.dep]at z;omega
 have u:FH e (EK l (Eb l (Bj l)))=0:=by rw[h.cur];exact ha
 refine⟨⟨j.aoc,j.arN,j.aFi,fun y q=>?_,j.az4 u,?_,?_⟩,hd⟩
 ·rcases Jh.1 q with rfl|q
  ·exact j.aCA u
  rw[j.ayi (KU.2 (Dp.2 ⟨y,q,rfl⟩))];exact h.aFj y q
 ·rw[j.aum,hd]
 rw[j.cur' u hs,h.cur]
def ae5 {c:AB} (hv:Nu c=some 0) (hsm:EY c) (M:c.Kind=1) (hd:c.Depth=1) (ha:FH c []=0):Nh [c] [⟨1,BK,c.Id⟩] 1 c.Id:=by
 have hE:U5 c:=by
  obtain⟨r,c1,c2,c3⟩:=aFU hsm.wide;rw[hv]at c2;exact(c3 (CS c2).symm).1
 obtain⟨p1,p2⟩:=hE.form M
 have O:c.Key=BK:=by
  rcases hE.keyed with h|h|h
  ·exact h
  ·rw[M]at h;cases h
  rw[M]at h;cases h
 have hF:Rs [c]:=⟨fun x hx=>by rw[FT.1 hx];exact⟨hE,hsm⟩,fun x hx y I=>by rw[FT.1 hx,FT.1 I],lg ..⟩
 have hdp:Gf [c]=0:=by
  unfold Gf PG RU;rw[bY,List.all_nil,bY,List.all_nil,p1,p2];unfold MX;rw[p1,p2,hd];rfl
 have U:ev [c] c.Id=c:=jS Aw (FT.2 rfl);have Y:keysOf c=[]:=by unfold keysOf;rw[M];rfl
 have Z:JL [c] [] c []=0:=by
  have hfit:LX [c] c=0:=by
   unfold LX;rw[p2,Y,M];rfl
  have J:Jo [c] c=[]:=by unfold Jo;rw[Y];rfl
  unfold JL Ue;rw[hfit,J,ha,p2];exact ha
 have hst:stB [c] [] c=[]:=by unfold stB;rw[p1];rfl
 have L:Gz [c] [] c=⟨c.Id,[],[⟨1,BK,c.Id⟩],0⟩:=by
  unfold Gz;rw[hst,Z];unfold Uf;rw[M,O];rfl
 have u:Bj [c]=[⟨c.Id,[],[⟨1,BK,c.Id⟩],0⟩]:=by
  show[Gz [c] [] (ev [c] c.Id)]=_;rw[U,L]
 have hln:EJ (Bj [c]) c.Id=some ⟨c.Id,[],[⟨1,BK,c.Id⟩],0⟩:=by
  rw[u];unfold EJ;simp
 have hok:II (Bj [c]) c.Id=true:=XO.2 ⟨_,hln,rfl⟩
 have z:DT [c] (Bj [c])=[c.Id]:=by
  rw[aGI,List.map_singleton,Qy,hok];rfl
 have j:FB [c] [c.Id]=[c.Id]:=by
  refine xH (yx _ _) (lg ..) fun x=>?_;rw[jY,FT];refine⟨fun q=>q.1,?_⟩;rintro rfl;refine⟨rfl,fun y I=>?_⟩;rw[FT.1 I];unfold He;rw[La,qx,fP]
 refine⟨hF,hdp,fun y I=>by rw[FT.1 I];exact hv,fun y I=>by rw[FT.1 I];exact hok,by rw[z];exact j,by rw[U];exact hd,?_⟩;unfold Eb;rw[z,j];show GV (Bj [c]) c.Id=_;unfold GV;rw[hln];rfl
end Go.Proofs.YtkkdimcnpacjhaaGreat
end
section
namespace Go.Proofs.YtkkdimcnpacjhaaGreat
open Go.RowKit
set_option maxRecDepth 20000
set_option maxHeartbeats 1000000
def anK (l:List AB) (s:List Ah) (u:ByteArray):Gj (EK l s) u=match s.find? (fun x=>(DV l x.Id).any (Gp u))with |some x=>(ev l x.Id).Content.N|none=>0:=by
 unfold Gj EK ofIds;rw[List.find?_filterMap,List.find?_map];have e:((fun a=>(DV l a).any (Gp u))∘fun x:Ah=>x.Id)=fun x=>(DV l x.Id).any (Gp u):=rfl;rw[e];cases q:s.find? fun x=>(DV l x.Id).any (Gp u)with
 |none=>rfl
 |some x=>
  have h:=Td q;simp only[IV,AP];cases j:DV l x.Id with
  |none=>rw[j]at h;cases h
  |some y=>unfold ev;rw[LW j]
def aiK (l:List AB) (x:Ah) (u:ByteArray) (k:Int→Option Int) (v:Int) (hl:l.length≤1000):aNq l x u k v 0=bif (DV l x.Id).any (Gp u)then some (ev l x.Id).Content.N else lW k v:=by
 unfold aNq;rw[J6 l (fuel_lt AA) (fun e=>e.Id==x.Id) (fun i=>match l[i]? with |some e=>(bif Gp u e then some e.Content.N else lW k v)|none=>none) (lW k v)]
 ·by_cases h:l.findIdx (fun e=>e.Id==x.Id)<l.length
  ·have j:DV l x.Id=some l[l.findIdx (fun e=>e.Id==x.Id)]:=by unfold DV;rw[JK,DC h]
   rw[CP h,DC h];unfold ev;rw[LW j,j];rfl
  have j:DV l x.Id=none:=by unfold DV;rw[JK,I8 AA]
  rw[CU h,j];rfl
 ·intro k i h;unfold aK4;rw[Bl h,BZ h,DC h];simp only[AP];rw[og,AP];unfold bne;cases l[i].Id==x.Id<;>rfl
 intro k;unfold aK4;rw[CX];rfl
def afz (l:List AB) (s:List Ah) (u:ByteArray) (hl:l.length≤1000) (hs:s.length≤1000):aAg l s u=some (Gj (EK l s) u):=by
 rw[anK];unfold aAg aV3;rw[J6 s (fuel_lt AA) (fun x=>(DV l x.Id).any (Gp u)) (fun i=>some (match s[i]? with |some x=>(ev l x.Id).Content.N|none=>0)) (some 0)]
 ·rw[JK];by_cases h:s.findIdx (fun x=>(DV l x.Id).any (Gp u))<s.length
  ·rw[CP h]
  rw[CU h,I8 AA]
 ·intro k i h;unfold aMC;rw[Bl h,aiK _ _ _ _ _ hl,DC h];rfl
 intro k;unfold aMC;rw[CX];rfl
section
variable {l : List AB} {s : List Ah} (hl : l.length ≤ 100) (hsm : Cm l) (hs : s.length ≤ 100)
include hl hsm hs
end
structure sN (l:List AB) (t:List Df):Prop where
 len:l.length≤100
 small:Cm l
 at_:∀id,aJs l id=some (aLM t id)
 acc:Zu l=some (DT l t)
 tbl:yA l=some (t.map Jr)
 tok:LG l t
 aG6:t.length≤l.length
 nd:t≠[]→(l.map (·.Id)).Nodup
def amV {l:List AB} {c:Int} (hs:Cm l) (hl:l.length≤100) (c1:Ll l=some c) (c2:OW l=some c) (c3:c=0→Rs l):sN l (JH l c):=by
 have j:c=0→Ik l:=fun q=>(c3 q).ok hl;obtain⟨z,I,J⟩:=aU6 c2 j;refine⟨hl,hs,an6 c1 j,aUF c1 j,z,I,J,fun u=>?_⟩;unfold JH at u;by_cases q:c=0
 ·exact(j q).nodup
 rw[PI.2 q]at u;exact absurd rfl u
def aoI {l:List AB} (hs:Cm l) (hl:l.length≤100):∃c,sN l (JH l c)∧Ll l=some c∧OW l=some c∧(c=0→Rs l):=by
 obtain⟨c,c1,c2,c3⟩:=aRY (fun e j=>(hs e j).wide) hl;exact⟨c,amV hs hl c1 c2 c3,c1,c2,c3⟩
section
variable {l : List AB} {t : List Df} (h : sN l t)
include h
end
end Go.Proofs.YtkkdimcnpacjhaaGreat
end
section
namespace Go.Proofs.YtkkdimcnpacjhaaGreat
open Go.RowKit
set_option maxRecDepth 20000
set_option maxHeartbeats 1000000
def ad8 (l:List AB) (hl:l.length≤1000):eU l=some (l.map (·.Id)):=by
 unfold eU;have j:IK 8 (0:Int) 0 (l.length:Int)=some []:=aQW
 rw[j,AP];unfold aTY;refine dX.eq (Iq l.length (fuel_lt AA) (fun i a=>a=(l.take i).map (·.Id)) rfl (fun i a k hi ha q=>?_) fun a k ha=>?_)
 ·have u:a.length≤1000:=mD
  unfold aOS;rw[Bl hi,Cx FK,AP,wrap_succ i AA];exact q _ uY
 rw[FW]at ha;unfold aOS;rw[CX,Am,ha];exact .ret rfl
section
variable {l : List AB} {t : List Df} (h : sN l t)
include h
end
end Go.Proofs.YtkkdimcnpacjhaaGreat
end
section
namespace Go.Proofs.YtkkdimcnpacjhaaGreat
open Go.RowKit
set_option maxRecDepth 20000
set_option maxHeartbeats 1000000
def aJi :tC=some true:=A8
def aV2 (x y:Int):PK x y=max x y:=by
 unfold PK;by_cases h:y>x
 ·rw[Gu h,BD,Int.max_eq_right AA]
 rw[Gv h,Am,Int.max_eq_left AA]
def apj (a b:AB):Hz (Ec a) (Ec b)= !G9 b a:=by
 rw[KR,kW,Ls];unfold G9 Ec;rw[VL,gW,NR,NR,PI];simp only;omega
def aTv :∀{L:List AB},(L.map (·.Id)).Nodup→Za (L.map Ec)=true
 | [],_=>rfl
 |e::L,h=>by
  rw[Ia,Kv]at h;rw[Ia];unfold Za;rw[aTv h.2,Na,Ls];cases j:(L.map Ec).contains (Ec e)with
  |false=>rfl
  |true=>
   exfalso;have hm:Ec e∈L.map Ec:=Wi
   obtain⟨y,u,q⟩:=Dp.1 hm;exact h.1 (Dp.2 ⟨y,u,Ap Prod.snd q⟩)
def aXx {l:List AB} {hs:List Int} (j:∀x∈hs,bV l x=true):(ofIds l hs).map (·.Id)=hs:=by
 rw[Wq j,V7]
 conv=>rhs;rw[←aDh hs]
 exact Yj fun x q=>(Fj (j x q)).2
def aVR {l:List AB} {hs:List Int} (I:Inc hs) (J:∀x∈hs,bV l x=true) (hl:hs.length≤1000):∃S,dw (ofIds l hs)=some S∧S.Perm (ofIds l hs)∧S.Pairwise fun a b=>G9 a b=true:=by
 have q:((ofIds l hs).map (·.Id)).Nodup:=by rw[aXx J];exact U8 I
 have hlen:=XU l hs;have hp:=Sz (fun x y=>Hz (Ec x) (Ec y)) (ofIds l hs);refine⟨LP (fun x y=>Hz (Ec x) (Ec y)) (ofIds l hs),?_,hp,?_⟩
 ·unfold dw;rw[CP ⟨AA,aTv q⟩]
 have L:=zf (le:=fun x y=>Hz (Ec x) (Ec y)) (fun x y z=>aHv (Ec x) (Ec y) (Ec z)) (fun x y=>aVt (Ec x) (Ec y)) (ofIds l hs);have u:((LP (fun x y=>Hz (Ec x) (Ec y)) (ofIds l hs)).map (·.Id)).Nodup:=(hp.map _).nodup_iff.2 q;rw[eB,YB]at u;refine(L.and u).imp fun{a b} ⟨j,M⟩=>?_;rw[apj,Ls]at j;unfold G9 at j ⊢;rw[VL,gW,NR,NR,PI]at j;simp only[Vb,GN,CZ,OL];omega
def akr {l:List AB} {hs:List Int} (hl:l.length≤1000) (hi:hs.length≤1000) {S:List AB} (h:dw (ofIds l hs)=some S) (J:S.length≤1000):aE3 l hs=some (S.drop (S.length-10)):=by
 unfold aE3 aL1;rw[aTe l hs hl AA,AP,h,AP]
 have hm:VB (S.length:Int) 10=((min S.length 10:Nat):Int):=by
  unfold VB;by_cases q:(10:Int)<(S.length:Int)
  ·rw[Gu q,BD];omega
  rw[Gv q,Am];omega
 rw[hm]
 have j:IK 376 Bh ((min S.length 10:Nat):Int) ((min S.length 10:Nat):Int)=some (List.replicate (min S.length 10) Bh):=by
  unfold IK;rw[CP ⟨AA,Y9 _,AA⟩,Rq]
 have z:Ai ((S.length:Int)-((min S.length 10:Nat):Int))=((S.length-10:Nat):Int):=by
  rw[MH AA AA];omega
 rw[j,AP,z,Ua AA,AP];unfold gCopy;have u:(S.drop (S.length-10)).length=min S.length 10:=Mem
 have I:(List.replicate (min S.length 10) Bh).drop (min S.length 10)=[]:=uZ (by rw[List.length_replicate];exact Dn _);rw[List.length_replicate,Po (Xw u),u,I,Oc]
def amk {l:List AB} {hs:List Int} (hl:l.length≤1000) (hi:hs.length≤1000):aJa l hs=some (Ii l hs):=by
 unfold aJa aRd;refine dX.eq (Iq hs.length (fuel_lt AA) (fun i a=>a=(hs.take i).filter fun x=>decide (VG l hs x<10)) rfl (fun i a k u ha U=>?_) fun a k ha=>?_)
 ·have hal:a.length≤1000:=by
   rw[ha];have :=J4 (fun x=>decide (VG l hs x<10)) (hs.take i);rw[F7]at this;omega
  unfold aMi;rw[Bl u,Jp l _ AA,AP];unfold aSc;refine QW (body:=aJP hs l (Fq l hs[i]) (i:Int) k) (Q:=_) (fun m Y I J=>∃j:Nat,I=j∧j+m=hs.length∧Y=(((hs.take j).filter fun y=>G9 (ev l hs[i]) (ev l y)).length:Int)∧J=a) ?_ Aj hs.length 0 0 a (fuel_lt AA) ⟨0,rfl,AA,rfl,rfl⟩;rintro m Y I J f ⟨j,rfl,hm,rfl,rfl⟩ Z
  have M:((hs.take j).filter fun y=>G9 (ev l hs[i]) (ev l y)).length≤1000:=by
   have :=J4 (fun y=>G9 (ev l hs[i]) (ev l y)) (hs.take j);rw[F7]at this;omega
  unfold aJP;by_cases hj:j<hs.length
  ·rw[Bl hj,Jp l _ AA,AP]
   have hc:(bif decide ((Fq l hs[j]).1.Depth>(Fq l hs[i]).1.Depth)then some true else(bif ((Fq l hs[j]).1.Depth==(Fq l hs[i]).1.Depth)then some (decide ((Fq l hs[j]).1.Id>(Fq l hs[i]).1.Id))else some false).bind fun z=>some z)=some (G9 (ev l hs[i]) (ev l hs[j])):=by
    show(bif decide ((ev l hs[j]).Depth>(ev l hs[i]).Depth)then some true else(bif ((ev l hs[j]).Depth==(ev l hs[i]).Depth)then some (decide ((ev l hs[j]).Id>(ev l hs[i]).Id))else some false).bind fun z=>some z)=_;unfold G9;have e1:((ev l hs[j]).Depth==(ev l hs[i]).Depth)=((ev l hs[i]).Depth==(ev l hs[j]).Depth):=by rw[KR,OL,OL];exact⟨fun h=>h.symm,fun h=>h.symm⟩
    rw[e1];show(bif decide ((ev l hs[i]).Depth<(ev l hs[j]).Depth)then _ else _)=_;cases decide ((ev l hs[i]).Depth<(ev l hs[j]).Depth)<;>cases(ev l hs[i]).Depth==(ev l hs[j]).Depth<;>rfl
   rw[hc,AP];have q:=qZ (p:=fun y=>G9 (ev l hs[i]) (ev l y)) hj;cases L:G9 (ev l hs[i]) (ev l hs[j])with
   |true=>
    rw[BD];unfold aEz;refine Z (m-1) _ _ _ AA ⟨j+1,wrap_succ j AA,AA,?_,rfl⟩;rw[wrap_succ _ AA,q,L,E9];rfl
   |false=>
    rw[Am];unfold aEz;refine Z (m-1) _ _ _ AA ⟨j+1,wrap_succ j AA,AA,?_,rfl⟩;rw[q,L];simp
  have :j=hs.length:=AA
  subst this;rw[FW]at M;rw[CX,Am,FW];have O:(((hs.filter fun y=>G9 (ev l hs[i]) (ev l y)).length:Int)<10)↔VG l hs hs[i]<10:=by unfold VG;omega
  have q:=qZ (p:=fun x=>decide (VG l hs x<10)) u;rw[ZN.2 O];unfold aKD;cases L:decide (VG l hs hs[i]<10)with
  |true=>
   rw[BD,BZ u,AP,Cx FK,AP,wrap_succ i AA];exact U _ (by rw[q,L,ha];rfl)
  |false=>
   rw[Am,wrap_succ i AA];exact U _ (by rw[q,L,ha];simp)
 rw[FW]at ha;unfold aMi;rw[CX,Am,ha];exact .ret rfl
def afN {L:List Int} (h:L.Nodup):Q8 L=EF L:=by
 have q:=qP L;have j:(Q8 L).Nodup:=(UA L).nodup_iff.2 h;rw[eB]at j;refine xH ((q.and j).imp fun{a b} h=>AA) (Jk L) fun x=>?_;rw[(UA L).mem_iff,IY]
def aVg {e:AB} {s:List Ah} {i:Nat} (h:i<(keysOf e).length):((keysOf e).take (i+1)).filterMap (Lj s)=((keysOf e).take i).filterMap (Lj s)++(Lj s (keysOf e)[i]).toList:=by
 rw[Nc h,cD,Lr,aE1];cases Lj s (keysOf e)[i]<;>rfl
def aMJ (e:AB) (s:List Ah) (i:Nat):(((keysOf e).take i).filterMap (Lj s)).length≤5:=by
 have j:=aJU (Lj s) ((keysOf e).take i);have q:=QS e;rw[F7]at j;omega
def aQF {α:Type} {p:α→Bool} {L:List α} {j:Nat} (q:j<L.length) (h:(L.take j).find? p=none) (u:p L[j]=true):L.find? p=some L[j]:=
 calc L.find? p=(L.take j++L.drop j).find? p:=by rw[Qn]
  _=some L[j]:=by rw[Xi,h,Jq q,KA,u];rfl
def ahH (k x:Ah):oN (IU k) x=some (Em x k):=by
 unfold oN IU Em;simp only;rw[IB];cases x.Kind==k.Kind<;>rfl
def aiQ (e:AB) (s:List Ah) (hs:s.length≤1000):jM e s=some (Lp e s):=by
 unfold jM;rw[aKQ,AP];have U:=QS e;have z:((keysOf e).map IU).length=(keysOf e).length:=CB ..;unfold aWz;refine dX.eq (Iq ((keysOf e).map IU).length (fuel_lt AA) (fun i a=>a=((keysOf e).take i).filterMap (Lj s)) rfl (fun i a k hi ha Y=>?_) fun a k ha=>?_)
 ·have I:i<(keysOf e).length:=AA
  have J:a.length≤5:=by rw[ha];exact aMJ e s i
  unfold aPP;rw[Bl hi,Oq];unfold aUz;have hst:=aVg (s:=s) I
  have u:∀r,r=((keysOf e).take (i+1)).filterMap (Lj s)→dX (tq k (i:Int) r) (· =Lp e s):=fun r Z=>by
   unfold tq;rw[wrap_succ i AA];exact Y _ Z
  refine Iq s.length (fuel_lt AA) (fun j b=>b=a∧(s.take j).find? (fun x=>Em x (keysOf e)[i])=none) ⟨rfl,rfl⟩ (fun j b f L q hf=>?_) fun b f q=>?_
  ·obtain⟨rfl,q⟩:=q;unfold aOb;rw[Bl L];simp only;rw[ahH,AP];cases O:Em s[j] (keysOf e)[i]with
   |true=>
    rw[BD,Cx FK,AP];refine u _ ?_
    have M:s.find? (fun x=>Em x (keysOf e)[i])=some s[j]:=by
     exact aQF L q O
    rw[hst,ha];unfold Lj;rw[M];rfl
   |false=>
    rw[Am,wrap_succ j AA];refine hf _ ⟨rfl,?_⟩;rw[Nc L,Xi,q,KA,O];rfl
  obtain⟨rfl,q⟩:=q;unfold aOb;rw[CX,Am];refine u _ ?_;rw[FW]at q;rw[hst,ha];unfold Lj;rw[q,wP,aPg,Oc]
 rw[z,FW]at ha;unfold aPP;have J:a.length≤5:=by rw[ha];have :=aMJ e s (keysOf e).length;rwa [FW]at this
 rw[CX,Am,YN _ AA,AP,ha];exact .ret rfl
def ajz (e:AB) (s:List Ah) (hs:s.length≤1000):zy e s=some (Lp e s):=by
 unfold zy;rw[zX,AP];have Y:=QS e;unfold aSm;refine dX.eq (Iq (keysOf e).length (fuel_lt AA) (fun i a=>a=EF (((keysOf e).take i).filterMap (Lj s))) rfl (fun i a k hi ha Z=>?_) fun a k ha=>?_)
 ·have hal:a.length≤5:=by
   rw[ha];exact Ed (KW _) (aMJ e s i)
  have hst:=aVg (s:=s) hi
  have q:∀r,r=EF (((keysOf e).take (i+1)).filterMap (Lj s))→dX (k r (Ai ((i:Int)+1))) (· =Lp e s):=fun r hr=>by
   rw[wrap_succ i AA];exact Z _ hr
  unfold aJf;rw[dec_lt hi,BD];unfold aYI;refine QW (body:=aMp s (keysOf e) (i:Int) k) (Q:=_) (fun m b c d=>∃j:Nat,d=j∧j+m=s.length∧((c=false∧b=a∧(s.take j).find? (fun x=>Em x (keysOf e)[i])=none)∨(c=true∧b=EF (((keysOf e).take (i+1)).filterMap (Lj s))))) ?_ Aj s.length a false 0 (fuel_lt AA) ⟨0,rfl,AA,.inl ⟨rfl,rfl,rfl⟩⟩;rintro m b c d f ⟨j,rfl,hm,hI⟩ O;unfold aMp;rcases hI with⟨rfl,rfl,J⟩|⟨rfl,rfl⟩
  ·by_cases u:j<s.length
   ·rw[dec_lt u,BD,AP,Il,BD,BZ u,AP,BZ hi,AP,AP,AP,IB];have L:(s[j].Kind==(keysOf e)[i].Kind&&decide (s[j].Key=(keysOf e)[i].Key))=Em s[j] (keysOf e)[i]:=rfl
    have z:(bif (s[j].Kind==(keysOf e)[i].Kind)then gY s (j:Int) b f false (decide (s[j].Key=(keysOf e)[i].Key))else gY s (j:Int) b f false false)=gY s (j:Int) b f false (Em s[j] (keysOf e)[i]):=by
     rw[←L];cases s[j].Kind==(keysOf e)[i].Kind<;>rfl
    rw[z];unfold gY aKV;cases U:Em s[j] (keysOf e)[i]with
    |true=>
     rw[BD,BZ u,AP,Zk _ _ AA,AP]
     have M:s.find? (fun x=>Em x (keysOf e)[i])=some s[j]:=by
      exact aQF u J U
     refine O (m-1) _ _ _ AA ⟨j+1,wrap_succ j AA,AA,.inr ⟨rfl,?_⟩⟩;rw[hst,ha];unfold Lj;rw[M];unfold EF;rw[TQ];rfl
    |false=>
     rw[Am];refine O (m-1) _ _ _ AA ⟨j+1,wrap_succ j AA,AA,.inl ⟨rfl,rfl,?_⟩⟩;rw[Nc u,Xi,J,KA,U];rfl
   have :j=s.length:=AA
   subst this;rw[CX,Am,AP,Am];refine q _ ?_;rw[FW]at J;rw[hst,ha];unfold Lj;rw[J,wP,aPg,Oc]
  have I:(bif decide ((j:Int)<(s.length:Int))then some (!true)else some false)=some false:=by cases decide ((j:Int)<(s.length:Int))<;>rfl
  rw[I,AP,Am];exact q _ rfl
 rw[FW]at ha;unfold aJf;rw[CX,Am,ha];exact .ret rfl
def roomOf (l:List AB):ByteArray:=(l.getD 0 Bh).Room
def P9 (l:List AB) (t:List Df) (e:AB):AB:=
 { e with Room:=roomOf l,State:=Fh e.Kind,Depth:=Qq l (Ii l (FB l (DT l t))),aZ:=Ii l (FB l (DT l t)),bg:=Lp e (Eb l t) }
def aaJ {l:List AB} (h:l≠[]):Ag l 0=some (l.getD 0 Bh):=by
 cases l with
 |nil=>exact absurd rfl h
 |cons x l=>rfl
def aPX {α:Type} (g:α→Int) (f:AB→α→AB) (j:∀a x,f a x={ a with Depth:=max a.Depth (g x) }):∀(L:List α) (a:AB),L.foldl f a={ a with Depth:=L.foldl (fun d x=>max d (g x)) a.Depth }
 | [],a=>rfl
 |x::L,a=>by rw[Ey,Ey,aPX g f j L,j]
def anu {l:List AB} {t:List Df} {x:Int} (j:x∈DT l t):bV l x=true:=by
 obtain⟨y,q,rfl⟩:=Dp.1 j;exact KU.2 (Dp.2 ⟨y,(FN.1 q).1,rfl⟩)
def aKr {l:List AB} {t:List Df}:∀x∈FB l (DT l t),bV l x=true:=fun _ j=>anu (jY.1 j).1
section
variable {l : List AB} {t : List Df} {c : Int} (h : sN l t) (c1 : Ll l = some c) (c2 : OW l = some c) (c3 : c = 0 → Rs l) (ht : t = JH l c)
include h c1 c2 c3 ht
theorem aMB (ha:DT l t≠[]):c=0∧Gf l=0∧t=Bj l:=by
 unfold JH at ht;cases j:c==0 with
 |false=>rw[j,qx,Am]at ht;rw[ht,aDX]at ha;exact absurd rfl ha
 |true=>
  cases q:Gf l==0 with
  |false=>rw[j,q,fP,Am]at ht;rw[ht,aDX]at ha;exact absurd rfl ha
  |true=>rw[j,q]at ht;exact⟨eq_of_beq j,eq_of_beq q,ht⟩
theorem aaR :(Eb l t).length≤100:=by
 have j:c=0→Ik l:=fun q=>(c3 q).ok h.len;have :=(aIh (l:=l) (c:=c) j).length;rw[ht];have :=h.len;omega
theorem apz (e:AB):Vr l e=some (bif DT l t==[]then(Bh,[],26)else bif decide (Qq l (Ii l (FB l (DT l t)))>100000)then(Bh,[],29)else(P9 l t e,Eb l t,0)):=by
 have hlen:=h.len;have hal:=UQ l t;have ho:c=0→Ik l:=fun h0=>(c3 h0).ok hlen;have hcur:=aaR h c1 c2 c3 ht;unfold Vr;rw[h.acc,AP];by_cases ha:DT l t=[]
 ·rw[ha];rfl
 have hne:((DT l t).length:Int)≠0:=fun q=>ha (Gh AA)
 have hb:(DT l t==[])=false:=by
  cases hq:DT l t with
  |nil=>exact absurd hq ha
  |cons x L=>rfl
 rw[PI.2 hne,Am,hb,Am,aT4 l _ hlen h.small AA,AP];obtain⟨k0,kd,kt⟩:=aMB h c1 c2 c3 ht ha;have aG7:l≠[]:=fun q=>ha aDb;have hhl:=Xg l (DT l t);have hH:=yx l (DT l t);have J:∀x∈FB l (DT l t),bV l x=true:=aKr;have M:=aJH kd ha;unfold P9;generalize FB l (DT l t)=hs at hhl hH J M;obtain⟨S,s1,Z,s3⟩:=aVR hH J AA;have hSl:S.length=hs.length:=by rw[Z.length_eq,Wq J,CB]
 rw[akr AA AA s1 AA,AP,aaJ aG7,AP,aMW,AP];have hP:=aWJ hH J Z s3
 have j:∀x∈S.drop (S.length-10),1≤x.Depth∧x.Depth≤100000:=fun x I=>by
  have hm:=Z.mem_iff.1 (eG I);exact(ho k0).dep _ (aDE hm)
 have hnd:((S.drop (S.length-10)).map (·.Id)).Nodup:=by
  have h1:(S.map (·.Id)).Nodup:=by
   have :=(Z.map (·.Id)).nodup_iff.2 (by rw[aXx J];exact U8 hH);exact this
  exact h1.sublist ((yZ _ _).map _)
 have O:(S.drop (S.length-10)).foldl (fun d x=>max d (x.Depth+1)) 1=Qq l (Ii l hs):=by
  unfold Qq;refine anZ (fun q=>?_) (fun x I=>?_) (fun y hy=>?_) (fun x I=>?_) (fun y hy=>?_)
  ·have :=Ap List.length q;rw[IJ,L9]at this;have :0<hs.length:=lY.2 M;omega
  ·refine⟨x.Id,by rw[←hP];exact IY.2 (Dp.2 ⟨x,I,rfl⟩),?_⟩;obtain⟨i,hi,e1⟩:=G5 (eG I);have :=(aC4 J Z s3 hi).1;rw[e1]at this;rw[this]
  ·rw[←hP,IY]at hy;obtain⟨x,I,rfl⟩:=Dp.1 hy;refine⟨x,I,?_⟩;obtain⟨i,hi,e1⟩:=G5 (eG I);have :=(aC4 J Z s3 hi).1;rw[e1]at this;rw[this]
  ·have :=(j x I).1;omega
  have hk:bV l y=true:=J y (FN.1 hy).1;have :=((ho k0).dep _ (Ht (Fj hk).1)).1;omega
 have hPl:(S.drop (S.length-10)).length≤100:=Mem
 generalize S.drop (S.length-10)=T at hP j hnd O hPl;unfold aYF;rw[jJ (body:=aCd T l) T AA (fun(a:AB) x=>{ a with Depth:=max a.Depth (x.Depth+1) }) (fun _ _=>True) (fun v8=>(bif decide (v8.Depth>100000)then some (Bh,[],29)else(eU T).bind fun U=>(LK U).bind fun u=>(VN l).bind fun z=>(jM ({ v8 with aZ:=u }) z).bind fun Y=>some ({ { v8 with aZ:=u }with bg:=Y },z,0))) trivial]
 ·rw[aPX (fun x:AB=>x.Depth+1) _ (fun a x=>rfl)];show(bif decide (T.foldl (fun d x=>max d (x.Depth+1)) 1>100000)then some (Bh,[],(29:Int))else(eU T).bind fun U=>(LK U).bind fun u=>(VN l).bind fun z=>(jM { e with Room:=roomOf l,State:=Fh e.Kind,Depth:=T.foldl (fun d x=>max d (x.Depth+1)) 1,aZ:=u } z).bind fun Y=>some ({ e with Room:=roomOf l,State:=Fh e.Kind,Depth:=T.foldl (fun d x=>max d (x.Depth+1)) 1,aZ:=u,bg:=Y },z,0))=_;rw[O,ad8 T AA,AP]
  have hso:LK (T.map (·.Id))=some (Ii l hs):=by
   unfold LK;rw[CP Ws,afN hnd,hP]
  have hcu:VN l=some (Eb l t):=by rw[ht];exact aUT c1 ho
  rw[hso,AP,hcu,AP,aiQ _ _ AA,AP];cases decide (Qq l (Ii l hs)>100000)<;>rfl
 ·intro k a i hi _;refine⟨trivial,?_⟩;have I:=j _ (ED hi);unfold aCd;rw[Bl hi,aV2,MH (x:=T[i].Depth+1) AA AA]
 intro k a _;unfold aCd;rw[CX,Am]
theorem aiR :aPe l=some (FB l (DT l t)):=by
 have hlen:=h.len;have j:=h.aG6;have q:=UQ l t;unfold aPe aF1;rw[h.tbl,AP,aRp l t AA AA,AP,aS7 l _ AA h.small AA];rfl
theorem abZ (e:AB) (he0:e.Depth=0) (x:Int) (J:N7 (P9 l t e)=some x):Vy l e=some (bif DT l t==[]then(Bh,26)else bif decide (Qq l (Ii l (FB l (DT l t)))>100000)then(Bh,29)else bif x != 0 then(Bh,x)else(P9 l t e,0)):=by
 have hlen:=h.len;have hal:=UQ l t;have ho:c=0→Ik l:=fun h0=>(c3 h0).ok hlen;have hcur:=aaR h c1 c2 c3 ht;have u:=aeL c2 ho;unfold Vy;rw[aiR h c1 c2 c3 ht,AP,u,AP];by_cases ha:DT l t=[]
 ·rw[ha];show((bif !(c==0&&Gf l==0)then some true else some (((FB l []).length:Int)==0)).bind _)=_
  have :(bif !(c==0&&Gf l==0)then some true else some (((FB l []).length:Int)==0))=some true:=by
   cases(c==0&&Gf l==0)<;>rfl
  rw[this];rfl
 have hb:(DT l t==[])=false:=by
  cases hq:DT l t with
  |nil=>exact absurd hq ha
  |cons x L=>rfl
 obtain⟨k0,kd,kt⟩:=aMB h c1 c2 c3 ht ha;have O:=aJH kd ha;have U:l≠[]:=fun q=>ha aDb;have hhl:=Xg l (DT l t);have hK:∀x∈FB l (DT l t),bV l x=true:=aKr;have hne:((FB l (DT l t)).length:Int)≠0:=fun q=>O (Gh AA);have hr:(c==0&&Gf l==0)=true:=by rw[k0,kd];rfl
 rw[hr,EW,Am,PI.2 hne,AP,Am,hb,Am,aaJ U,AP,tZ,AP,amk AA AA,AP];unfold P9 at J ⊢;generalize FB l (DT l t)=hs at hhl hK J;have hPl:(Ii l hs).length≤100:=Ed (J4 _ _) AA;have Y:∀x∈Ii l hs,1≤(ev l x).Depth∧(ev l x).Depth≤100000:=fun x J=>(ho k0).dep _ (Ht (Fj (hK x (FN.1 J).1)).1);have I:Qq l (Ii l hs)=(Ii l hs).foldl (fun d x=>max d ((ev l x).Depth+1)) 0:=rfl;generalize Ii l hs=P at hPl Y J I;unfold aWH;rw[jJ (body:=aGK l) P AA (fun(a:AB) x=>{ a with Depth:=max a.Depth ((ev l x).Depth+1) }) (fun _ a=>a.aZ=P) (fun z=>(Ya l).bind fun x15=>(zy z x15).bind fun M=>(bif decide ((({ z with bg:=M }).Depth)>100000)then some (Bh,29)else(N7 ({ z with bg:=M })).bind fun j=>(bif (j != 0)then some (Bh,j)else some ({ z with bg:=M },0)))) rfl]
 ·rw[aPX (fun x:Int=>(ev l x).Depth+1) _ (fun a x=>rfl)];have hcu:Ya l=some (Eb l t):=by rw[ht];exact aQi c2 ho hlen h.small
  rw[hcu,AP,ajz _ _ AA,AP];show(bif decide (P.foldl (fun d x=>max d ((ev l x).Depth+1)) e.Depth>100000)then some (Bh,(29:Int))else(N7 { e with Room:=roomOf l,State:=Fh e.Kind,Depth:=P.foldl (fun d x=>max d ((ev l x).Depth+1)) e.Depth,aZ:=P,bg:=Lp e (Eb l t) }).bind fun j=>(bif (j != 0)then some (Bh,j)else some ({ e with Room:=roomOf l,State:=Fh e.Kind,Depth:=P.foldl (fun d x=>max d ((ev l x).Depth+1)) e.Depth,aZ:=P,bg:=Lp e (Eb l t) },0)))=_;rw[he0,←I,J,AP];cases decide (Qq l P>100000)<;>cases x != 0<;>rfl
 ·intro k a i hi Z;refine⟨Z,?_⟩;have J:=Y _ (ED hi);have hi':i<a.aZ.length:=by rw[Z];exact hi
  unfold aGK;rw[Bl hi',Jp l _ AA,AP,aV2];show k _ ({ a with Depth:=max a.Depth (Ai ((ev l a.aZ[i]).Depth+1)) })=_;have e1:a.aZ[i]=P[i]:=by simp only[Z]
  rw[e1,MH (x:=(ev l P[i]).Depth+1) AA AA]
 intro k a Z;unfold aGK;rw[Z,CX,Am]
end
end Go.Proofs.YtkkdimcnpacjhaaGreat
end
section
namespace Go.Proofs.YtkkdimcnpacjhaaGreat
open Go.RowKit
set_option maxRecDepth 20000
set_option maxHeartbeats 1000000
def ak7 (s:ByteArray):(H8 s).size≤s.size:=by
 unfold H8 splitB;cases JY s with
 |false=>exact Ci _
 |true=>
  show(Pz s).size≤_;unfold Pz;rw[aAZ];omega
def rW {e:AB} (h:EY e):EY (IG e (H8 e.aU)):=
 ⟨h.prev,h.auth,h.allow,h.deny,h.users,h.kinds,h.room,h.sender,h.key,h.text,h.via,Ed (ak7 _) h.sender,h.allows,h.denies,h.names⟩
def akD (e:AB) (s:ByteArray):N7 (IG e s)=N7 e:=rfl
def afS (e:AB) (s:ByteArray):YZ (IG e s)=YZ { e with Hash:=Oj e }:=rfl
def akh (e:AB) (s:ByteArray):dV (IG e s)=(IG e s).Id:=by
 show jf (eK (YZ (IG e s)))=jf (eK (YZ { e with Hash:=Oj e }));rw[afS]
def ac3 (e:AB) (s:ByteArray):Oj (IG e s)=(IG e s).Hash:=rfl
def aik (e:AB) (s:ByteArray):keysOf (IG e s)=keysOf e:=rfl
def aks (l:List AB) (t:List Df) (e:AB):keysOf (P9 l t e)=keysOf e:=rfl
def aoL {e f:AB} (h:keysOf f=keysOf e) (s:List Ah):Lp f s=Lp e s:=by unfold Lp;rw[h]
def aaw (e:AB) (s:ByteArray) (X:List AB):FH (IG e s) X=FH e X:=rfl
def auq {f:AB} (hs:EY f) (j:N7 f=some 0) (q:Oj f=f.Hash) (u:dV f=f.Id) (z:f.su.Server=H8 f.aU) (I:f.su.Sum=f.Id):Nu f=some 0:=by
 have J:f.aU.size≤2000:=hs.sender;unfold Nu;rw[j,AP,La,Am,(aIl hs.x).2,q,SY,AP,EW,Am];unfold l9;rw[Am,(aEH hs.x).2,u,AP,La,Am,(Ri (s:=f.aU) AA).2,AP,z];unfold H8 aAe;rw[SY,EW,Am,I,La,Am]
def aYi {e:AB} (h:EY e) (j:N7 e=some 0):Nu (IG e (H8 e.aU))=some 0:=
 auq (rW h) ((akD e _).trans j) (ac3 e _) (akh e _) rfl rfl
def aUs {e:AB} (h:EY e):Zb e=some (IG e (H8 e.aU)):=by
 have j:e.aU.size≤2000:=h.sender;unfold Zb;rw[(Ri (s:=e.aU) AA).1,AP,(aPS h _).1];rfl
structure jZ (l:List AB) (e0 E:AB):Prop where
 facts:Rs l
 deep:Gf l=0
 ver:∀x∈l,Nu x=some 0
 prog:Ll l=some 0
 some_:DT l (Bj l)≠[]
 check:N7 E=some 0
 small:EY E
 eq:E=P9 l (Bj l) e0
def aoz {l:List AB} (hs:Cm l):(roomOf l).size≤2000:=by
 unfold roomOf;cases l with
 |nil=>exact Ci _
 |cons x l=>exact(hs x (EO ..)).room
def akC {l:List AB} {j:AB} (hl:l.length≤40) (hs:Cm l) (h:EY j) (t:List Df):EY (P9 l t j):=by
 have q:=UQ l t;have u:=Xg l (DT l t);have z:(Ii l (FB l (DT l t))).length≤(FB l (DT l t)).length:=J4 ..;have I:=ang j (Eb l t);exact⟨by show(Ii l (FB l (DT l t))).length≤40;omega,by show(Lp j (Eb l t)).length≤40;omega,h.allow,h.deny,h.users,h.kinds,aoz hs,h.sender,h.key,h.text,h.via,h.server,h.allows,h.denies,h.names⟩
def aog {l:List AB} (hl:l.length≤40) (hs:Cm l) {j:AB} (I:EY j) (J:j.Depth=0):
 (∃x:Int,x≠0∧Vr l j=some (Bh,[],x)∧Vy l j=some (Bh,x))∨
 ∃(E:AB) (cur:List Ah),Vr l j=some (E,cur,0)∧((∃x:Int,x≠0∧St E=some x∧Vy l j=some (Bh,x))∨
  (St E=some 0∧Vy l j=some (E,0)∧jZ l j E∧cur=Eb l (Bj l)∧Ya l=some cur)):=by
 obtain⟨c,h,c1,c2,c3⟩:=aoI hs AA;have hsm:=akC hl hs I (JH l c);obtain⟨x,U,Y⟩:=aPy hsm.wide;have u:=apz h c1 c2 c3 rfl j;have q:=abZ h c1 c2 c3 rfl j J x Y;by_cases ha:DT l (JH l c)=[]
 ·rw[ha]at u q;exact .inl ⟨26,BJ,u,q⟩
 have Z:(DT l (JH l c)==[])=false:=by
  cases z:DT l (JH l c)with
  |nil=>exact absurd z ha
  |cons x L=>rfl
 rw[Z,Am]at u q;obtain⟨k0,kd,M⟩:=aMB h c1 c2 c3 rfl ha;cases z:decide (Qq l (Ii l (FB l (DT l (JH l c))))>100000)with
 |true=>
  rw[z,BD]at u q;exact .inl ⟨29,BJ,u,q⟩
 |false=>
  rw[z,Am]at u q;refine .inr ⟨_,_,u,?_⟩;by_cases O:x=0
  ·subst O;rw[La,Am]at q;subst k0;refine .inr ⟨U,q,⟨c3 rfl,kd,ajd c2 AA,c1,by rw[←M];exact ha,Y,hsm,by rw[M]⟩,by rw[M],?_⟩;exact aQi c2 (fun I=>(c3 I).ok AA) AA hs
  rw[Si.2 O,BD]at q;exact .inl ⟨x,O,U,q⟩
def Lu (user:ByteArray) (k:Int) (key:ByteArray) (c:Bf) (time:Int):AB:={ Bh with aU:=user,Kind:=k,Key:=key,Time:=time,Content:=c }
structure TY (l:List AB) (e0 e:AB):Prop where
 frame:jZ l e0 (P9 l (Bj l) e0)
 allow:FH (P9 l (Bj l) e0) (EK l (Eb l (Bj l)))=0
 eq:e=IG (P9 l (Bj l) e0) (H8 e0.aU)
def jZ.aD0 {l:List AB} {j E:AB} (h:jZ l j E) (hl:l.length≤40):(Eb l (Bj l)).length≤40:=by
 have :=aIh (l:=l) (c:=0) fun _=>h.facts.ok AA;rw[aAu h.deep]at this;have :=this.length;omega
def abO {l:List AB} (hl:l.length≤40) (hs:Cm l) {user:ByteArray} {k:Int} {key:ByteArray} {c:Bf} {time:Int} (Y:EY (Lu user k key c time)):
 ∃r:AB×Int,Wh l user k key c time=some r∧vZ l user k key c time=some r∧((r.2≠0∧r.1=Bh)∨(r.2=0∧TY l (Lu user k key c time) r.1)):=by
 rcases aog hl hs Y rfl with⟨x,j,J,u⟩|⟨E,cur,J,⟨x,j,L,u⟩|⟨L,u,q,rfl,M⟩⟩
 ·refine⟨(Bh,x),?_,?_,.inl ⟨j,rfl⟩⟩
  ·show(Vr l (Lu user k key c time)).bind _=_;rw[J,AP];show(bif x != 0 then _ else _)=_;rw[Si.2 j,BD]
  show(Vy l (Lu user k key c time)).bind _=_;rw[u,AP];show(bif x != 0 then _ else _)=_;rw[Si.2 j,BD]
 ·refine⟨(Bh,x),?_,?_,.inl ⟨j,rfl⟩⟩
  ·show(Vr l (Lu user k key c time)).bind _=_;rw[J,AP];show(bif (0:Int) != 0 then _ else(St E).bind _)=_;rw[La,Am,L,AP,Si.2 j,BD]
  show(Vy l (Lu user k key c time)).bind _=_;rw[u,AP];show(bif x != 0 then _ else _)=_;rw[Si.2 j,BD]
 have Z:=q.aD0 hl;have hel:=xW l (Eb l (Bj l));have z:Cm (EK l (Eb l (Bj l))):=aEB hs _;have hE:E.aU=user:=by rw[q.eq];rfl
 have O:Wh l user k key c time=bif FH E (EK l (Eb l (Bj l))) != 0 then some (Bh,FH E (EK l (Eb l (Bj l))))else some (IG E (H8 E.aU),0):=by
  show(Vr l (Lu user k key c time)).bind _=_;rw[J,AP];show(bif (0:Int) != 0 then _ else(St E).bind _)=_;rw[La,Am,L,AP,La,Am];show(dY l (Eb l (Bj l))).bind _=_;rw[aMH l _ AA AA,AP];show(VF E (EK l (Eb l (Bj l)))).bind _=_;rw[nY E _ AA z q.small,AP];show(bif _ then _ else(Zb E).bind _)=_;rw[aUs q.small];rfl
 have U:vZ l user k key c time=bif FH E (EK l (Eb l (Bj l))) != 0 then some (Bh,FH E (EK l (Eb l (Bj l))))else some (IG E (H8 E.aU),0):=by
  show(Vy l (Lu user k key c time)).bind _=_;rw[u,AP];show(bif (0:Int) != 0 then _ else(Ya l).bind _)=_;rw[La,Am,M,AP,aTZ l _ AA AA,AP];show(Vh E (EK l (Eb l (Bj l)))).bind _=_;have hsz:user.size≤2000:=Y.sender;rw[qj E _ AA z q.small,AP,(Ri (s:=user) AA).2];show(bif _ then _ else(jO E _).bind _)=_;rw[(aPS q.small _).2,hE];rfl
 rw[O,U];by_cases j:FH E (EK l (Eb l (Bj l)))=0
 ·rw[j];refine⟨_,rfl,rfl,.inr ⟨rfl,?_⟩⟩;have I:=q;rw[q.eq]at j I;exact⟨I,j,by rw[hE,q.eq];rfl⟩
 rw[Si.2 j];exact⟨_,rfl,rfl,.inl ⟨j,rfl⟩⟩
def jZ.new {l:List AB} {J E:AB} (h:jZ l J E) (hl:l.length≤14) (hp:¬(10≤E.aZ.length)) (hk:bV l (IG E (H8 E.aU)).Id=false):Gg l (IG E (H8 E.aU)):=by
 have ho:Ik l:=h.facts.ok AA;have L:E.aZ=Ii l (FB l (DT l (Bj l))):=by rw[h.eq];rfl
 have O:∀x∈FB l (DT l (Bj l)),bV l x=true:=aKr;have hH:=yx l (DT l (Bj l));have hHl:=Xg l (DT l (Bj l));have hal:=UQ l (Bj l);obtain⟨S,s1,s2,s3⟩:=aVR hH O AA;have hlen:=an1 hH O s2 s3;have j:Ii l (FB l (DT l (Bj l)))=FB l (DT l (Bj l)):=als (by rw[L]at hp;omega);have U:=aJH h.deep h.some_
 have u:E.Depth=Qq l (FB l (DT l (Bj l))):=by
  rw[h.eq];show Qq l (Ii l (FB l (DT l (Bj l))))=_;rw[j]
 obtain⟨t1,t2,Y⟩:=foldl_max (fun x=>(ev l x).Depth+1) (FB l (DT l (Bj l))) 0;have Z:∀x∈FB l (DT l (Bj l)),1≤(ev l x).Depth:=fun x q=>(ho.dep _ (Ht (Fj (O x q)).1)).1
 have I:∀x∈l,x.Room=E.Room:=fun x q=>by
  rw[h.eq];show x.Room=(l.getD 0 Bh).Room;cases l with
  |nil=>cases q
  |cons y l=>exact h.facts.room x q y (EO ..)
 have z:=aYi h.small h.check;have hsm:=rW h.small;have e1:(IG E (H8 E.aU)).Room=E.Room:=rfl;have M:(IG E (H8 E.aU)).aZ=E.aZ:=rfl;have e3:(IG E (H8 E.aU)).Depth=E.Depth:=rfl;have e4:(IG E (H8 E.aU)).bg=E.bg:=rfl;have e5:keysOf (IG E (H8 E.aU))=keysOf E:=aik E _;have e6:E.bg=Lp J (Eb l (Bj l)):=by rw[h.eq];rfl
 have e7:keysOf E=keysOf J:=by rw[h.eq];exact aks l _ J
 generalize IG E (H8 E.aU)=s at hk z hsm e1 M e3 e4 e5 ⊢;refine⟨h.facts,AA,h.deep,h.ver,hk,z,hsm,fun x q=>by rw[e1];exact I x q,by rw[M,L,j],h.some_,fun x q=>?_,?_,by rw[e4,e6,aoL (e5.trans e7)]⟩
 ·have hx':x∈FB l (DT l (Bj l)):=by
   rwa [M,L,j]at q
  have :=t2 x hx';rw[e3,u];unfold Qq;omega
 rcases Y with Y|⟨x,q,Y⟩
 ·obtain⟨x,q⟩:=aV8 _ U;have :=t2 x q;have :=Z x q;omega
 refine⟨x,by rw[M,L,j];exact q,?_⟩;rw[e3,u];unfold Qq;omega
end Go.Proofs.YtkkdimcnpacjhaaGreat
end
section
namespace Go.Proofs.YtkkdimcnpacjhaaGreat
open Go.RowKit
set_option maxRecDepth 20000
set_option maxHeartbeats 1000000
def abh (l:List AB) (e:AB) (hl:l.length≤1000):∀i,i≤l.length→∀d,d≤l.length-i→∀m,d<m→aT (Uu (i:Int) e) m ((i+d:Nat):Int) (l.take (i+d)++(l++[e]).getD (i+d) Bh::l.drop (i+d))=some (l.take i++e::l.drop i,0):=by
 intro i z d
 induction d with
 |zero=>
  intro _ m hm;obtain⟨m,rfl⟩:∃I,m=I+1:=⟨m-1,AA⟩
  show Uu (i:Int) e (aT (Uu (i:Int) e) m) _ _=_;generalize aT (Uu (i:Int) e) m=k;unfold Uu;rw[show decide (((i+0:Nat):Int)>(i:Int))=false by simp];simp only[Am,OD];have hlen:i<(l.take i++(l++[e]).getD i Bh::l.drop i).length:=DW
  rw[BZ hlen,AP,Rq,aEe _ _ _ hlen];simp[aCt,aIx,iQ z]
 |succ d L=>
  intro hd m hm;obtain⟨m,rfl⟩:∃I,m=I+1:=⟨m-1,AA⟩
  have u:=L AA m AA;show Uu (i:Int) e (aT (Uu (i:Int) e) m) _ _=_;generalize aT (Uu (i:Int) e) m=k at u ⊢;unfold Uu;rw[show decide (((i+(d+1):Nat):Int)>(i:Int))=true by simp;omega];simp only[BD];have w:Ai (((i+(d+1):Nat):Int)-1)=((i+d:Nat):Int):=Ph
  have j:i+d<l.length:=AA
  have M:i+d<(l.take (i+(d+1))++(l++[e]).getD (i+(d+1)) Bh::l.drop (i+(d+1))).length:=DW
  have J:i+(d+1)<(l.take (i+(d+1))++(l++[e]).getD (i+(d+1)) Bh::l.drop (i+(d+1))).length:=DW
  rw[w,BZ M,AP,BZ J,AP]
  have O:(l.take (i+(d+1))++(l++[e]).getD (i+(d+1)) Bh::l.drop (i+(d+1)))[i+d]=l[i+d]:=by
   rw[aKf DW];simp
  rw[O,Rq,aEe _ _ _ J]
  have q:(l.take (i+(d+1))++(l++[e]).getD (i+(d+1)) Bh::l.drop (i+(d+1))).take (i+(d+1))++l[i+d]::(l.take (i+(d+1))++(l++[e]).getD (i+(d+1)) Bh::l.drop (i+(d+1))).drop (i+(d+1)+1)=l.take (i+d)++(l++[e]).getD (i+d) Bh::l.drop (i+d):=by
   have ht:(l.take (i+(d+1))).length=i+(d+1):=DW
   rw[(aAS _ _ _ ht).1,(aAS _ _ _ ht).2];have U:(l++[e]).getD (i+d) Bh=l[i+d]:=by simp[List.getD,GZ j,j]
   rw[U,show i+(d+1)=i+d+1 by omega,Nc j,Jq j,HY];rfl
  rw[q];exact u
def jH {l:List AB} {e:AB} (hl:l.length≤1000) (O:l.any (jQ e)=false) (U:bV l e.Id=false):Qw l e=some (C9 l e,0):=by
 have j:∀i,i≤l.length→(Bo 376 l [e]).bind (fun u=>aNs (i:Int) e (Ai ((u.length:Int)-1)) u)=some (l.take i++e::l.drop i,0):=fun i hi=>by
  rw[Cx FK,AP]
  have Y:Ai (((l++[e]).length:Int)-1)=((i+(l.length-i):Nat):Int):=by
   rw[E9,NQ,Yt];omega
  have :=abh l e hl i hi (l.length-i) (Dn _) Aj (fuel_lt AA);unfold aNs;rw[Y];rw[show i+(l.length-i)=l.length by omega]at this ⊢;have Z:l.take l.length++(l++[e]).getD l.length Bh::l.drop l.length=l++[e]:=by simp[List.getD]
  rw[Z]at this;exact this
 have z:∀x∈l,x.Id≠e.Id:=fun x I q=>by
  have :=KU.2 (Dp.2 ⟨x,I,q⟩);rw[U]at this;cases this
 have J:l.findIdx (fun x=> !decide (x.Id≤e.Id))=OI l e:=by
  unfold OI
  have :∀L:List AB,(∀x∈L,x.Id≠e.Id)→L.findIdx (fun x=> !decide (x.Id≤e.Id))=L.findIdx (fun x=> !decide (x.Id<e.Id)):=by
   intro L
   induction L with
   |nil=>exact fun _=>rfl
   |cons x L ih=>
    intro h;have h1:=h x (EO ..);rw[Qr,Qr,ih fun y hy=>h y (F5 _ hy),show decide (x.Id≤e.Id)=decide (x.Id<e.Id)from ZN.2 AA]
  exact this l z
 have M:aOK l l e 0=some (C9 l e,0):=by
  unfold aOK;rw[J6 l (fuel_lt AA) (fun x=> !decide (x.Id≤e.Id)) (fun i=>some (l.take i++e::l.drop i,0)) (some (l.take l.length++e::l.drop l.length,0))]
  ·rw[J];unfold C9;split
   ·rfl
   have :=aTk l e;rw[show OI l e=l.length by omega]
  ·intro k i h;unfold aJS wB;rw[Bl h,j i AA];cases decide (l[i].Id≤e.Id)<;>rfl
  intro k;unfold aJS wB;rw[CX,Am,Am,j l.length (Dn _)]
 unfold Qw aXH;rw[Gi l (fuel_lt AA) (jQ e) ([],13) (some (C9 l e,0)),O]
 ·rfl
 ·intro k i h;unfold aJn;rw[Bl h];rfl
 intro k;unfold aJn
 have hp:aQ l e.Id=some (-1):=by
  rw[aHp l e.Id AA,CU];intro q;rw[dQ]at q;obtain⟨x,I,hq⟩:=q;exact z x I (eq_of_beq hq)
 rw[CX,Am,Cx SN,AP,I5,hp,AP,Gv (show ¬((-1:Int)≥0) by omega),Am,Gv (show ¬((l.length:Int)≥2000) by omega),Am,M]
def QE (room user:ByteArray) (time:Int):AB:={ Bh with Room:=room,aU:=user,Kind:=1,State:=true,Time:=time,Depth:=1 }
structure aBL (room user:ByteArray) (time:Int) (e:AB):Prop where
 check:N7 (QE room user time)=some 0
 allow:FH (QE room user time) []=0
 eq:e=IG (QE room user time) (H8 user)
def aAo {room user:ByteArray} (j:room.size≤100) (q:user.size≤100) (time:Int):EY (QE room user time):=
 ⟨Ci _,Ci _,Ci _,Ci _,Ci _,Ci _,by show room.size≤2000;omega,aHY,Ci _,Ci _,Ci _,Ci _,fun _ h=>absurd h EM,fun _ h=>absurd h EM,fun _ h=>absurd h EM⟩
def alx {room user:ByteArray} (hr:room.size≤100) (hu:user.size≤100) (time:Int):∃r:AB×Int,ZP room user time=some r∧zi room user time=some r∧((r.2≠0∧r.1=Bh)∨(r.2=0∧aBL room user time r.1)):=by
 have hsm:=aAo hr hu time;have hn:Cm []:=fun _ h=>absurd h EM;obtain⟨x,j,x2⟩:=aPy hsm.wide;have M:=nY (QE room user time) [] (Ci _) hn hsm;have O:=qj (QE room user time) [] (Ci _) hn hsm;have u:=aUs hsm;have z:=(aPS hsm (H8 user)).2;have U:=(Ri (s:=user) AA).2;have hS:(QE room user time).aU=user:=rfl;have u1:∀(E:AB),E=QE room user time→ZP room user time=(St E).bind fun j=>(bif (j != 0)then some (Bh,j)else(VF E []).bind fun I=>(bif (I != 0)then some (Bh,I)else(Zb E).bind fun Y=>some (Y,0))):=fun E q=>by subst q;rfl
 have u2:∀(E:AB),E=QE room user time→zi room user time=(N7 E).bind fun j=>(bif (j != 0)then some (Bh,j)else(Vh E []).bind fun I=>(bif (I != 0)then some (Bh,I)else(X0 user).bind fun Y=>(jO E Y).bind fun x6=>some (x6,0))):=fun E q=>by subst q;rfl
 have u3:=u1 _ rfl;have u4:=u2 _ rfl;clear u1 u2;rw[hS]at u;have J:X0 user=some (H8 user):=U;have hF:∀e,e=IG (QE room user time) (H8 user)→N7 (QE room user time)=some 0→FH (QE room user time) []=0→aBL room user time e:=fun e q1 q2 q3=>⟨q2,q3,q1⟩
 generalize IG (QE room user time) (H8 user)=G at u z hF;generalize QE room user time=E at *;rw[j,AP,M,AP,u,AP]at u3;rw[x2,AP,O,AP,J,AP,z,AP]at u4;rw[u3,u4];by_cases Z:x=0
 ·subst Z;rw[La,Am];by_cases L:FH E []=0
  ·rw[L,La,Am];exact⟨_,rfl,rfl,.inr ⟨rfl,hF _ rfl x2 L⟩⟩
  rw[Si.2 L,BD];exact⟨_,rfl,rfl,.inl ⟨L,rfl⟩⟩
 rw[Si.2 Z,BD];exact⟨_,rfl,rfl,.inl ⟨Z,rfl⟩⟩
abbrev UU :Type:=Int×ByteArray×Bf
def nextR (l:List AB) (user:ByteArray) (f:UU) (time:Int):AB×Int:=(Wh l user f.1 f.2.1 f.2.2 time).getD (Bh,0)
def OO (user:ByteArray) (time:Int):List UU→List AB→List AB→List AB×Int
 | [],_,made=>(made,0)
 |f::j,l,made=>bif (nextR l user f time).2 != 0 then([],(nextR l user f time).2)else bif bV l (nextR l user f time).1.Id then([],11)else OO user time j (C9 l (nextR l user f time).1) (made++[(nextR l user f time).1])
def aMY (user:ByteArray) (f:UU):Prop:=∀t,EY (Lu user f.1 f.2.1 f.2.2 t)
def aaj {l:List AB} (hl:l.length≤40) (hs:Cm l) {user:ByteArray} {f:UU} (q:aMY user f) (time:Int):
 Wh l user f.1 f.2.1 f.2.2 time=some (nextR l user f time)∧vZ l user f.1 f.2.1 f.2.2 time=some (nextR l user f time)∧(((nextR l user f time).2≠0∧(nextR l user f time).1=Bh)∨((nextR l user f time).2=0∧TY l (Lu user f.1 f.2.1 f.2.2 time) (nextR l user f time).1)):=by
 obtain⟨r,j,u,z⟩:=abO hl hs (q time);have :nextR l user f time=r:=by unfold nextR;rw[j];rfl
 rw[this];exact⟨j,u,z⟩
def TY.small {l:List AB} {j e:AB} (h:TY l j e):EY e:=by rw[h.eq];exact rW h.frame.small
def TY.room {l:List AB} {q e:AB} (h:TY l q e):l.any (jQ e)=false:=by
 rw[fV];intro x j
 have :x.Room=e.Room:=by
  rw[h.eq];show x.Room=(l.getD 0 Bh).Room;cases l with
  |nil=>cases j
  |cons y l=>exact h.frame.facts.room x j y (EO ..)
 unfold jQ;rw[this];simp
def pI {l:List AB} (hs:Cm l) {e:AB} (q:EY e):Cm (C9 l e):=fun x j=>by
 rcases Jh.1 j with rfl|j
 ·exact q
 exact hs x j
section
variable (user : ByteArray) (time rule vis : Int)
def Qi :List UU:=[(2,user,{ Dq with N:=3 }),(3,BK,{ Dq with Levels:=Hw user }),(4,BK,{ Dq with N:=rule }),(5,BK,{ Dq with N:=vis })]
def aYz (u:user.size≤100):∀f∈Qi user rule vis,aMY user f:=fun f j t=>by
 have q:∀(k:Int) (key:ByteArray) (n:Int),key.size≤100→EY (Lu user k key { Dq with N:=n } t):=fun k key n z=>
  ⟨Ci _,Ci _,Ci _,Ci _,Ci _,Ci _,Ci _,aHY,by show key.size≤2000;omega,Ci _,Ci _,Ci _,fun _ h=>absurd h EM,fun _ h=>absurd h EM,fun _ h=>absurd h EM⟩
 have hd:(Hw user).Users.length≤1∧(Hw user).Kinds=[]∧∀x∈(Hw user).Users,x.User.size≤2000:=by
  unfold Hw;cases !(user.toList==BK.toList)with
  |false=>exact⟨Ci _,rfl,fun _ h=>absurd h EM⟩
  |true=>exact⟨Dn _,rfl,fun x h=>by rw[FT.1 h];show user.size≤2000;omega⟩
 unfold Qi at j;rcases EG.1 j with rfl|j
 ·exact q 2 user 3 u
 rcases EG.1 j with rfl|j
 ·exact⟨Ci _,Ci _,Ci _,Ci _,by show(Hw user).Users.length≤100;omega,by show(Hw user).Kinds.length≤100;rw[hd.2.1];exact Ci _,Ci _,aHY,Ci _,Ci _,Ci _,Ci _,fun _ h=>absurd h EM,fun _ h=>absurd h EM,hd.2.2⟩
 rcases EG.1 j with rfl|j
 ·exact q 4 BK rule (Ci _)
 rcases EG.1 j with rfl|j
 ·exact q 5 BK vis (Ci _)
 cases j
def aly (hu:user.size≤100):∀(z:List UU) (j:Nat) (l made:List AB),(Qi user rule vis).drop j=z→j+z.length=4→Cm l→l.length+z.length≤20→made.length+z.length≤20→∀m,z.length<m→
 iY (fG user (Hw user) rule vis time) m l made (j:Int)=some (OO user time z l made)∧iY (jh user (Hw user) rule vis time) m l made (j:Int)=some (OO user time z l made):=by
 intro z
 induction z with
 |nil=>
  intro j l made hd hj _ _ _ m hm;obtain⟨m,rfl⟩:∃m',m=m'+1:=⟨m-1,AA⟩
  have hj4:j=4:=aCE
  subst hj4;exact⟨rfl,rfl⟩
 |cons f z ih=>
  intro j l made hd hj hs hl hm' m hm;obtain⟨m,rfl⟩:∃m',m=m'+1:=⟨m-1,AA⟩
  rw[FV]at hj hl hm' hm;have U:j<(Qi user rule vis).length:=by show j<4;omega
  have L:(Qi user rule vis)[j]=f∧(Qi user rule vis).drop (j+1)=z:=by
   rw[Jq U]at hd;exact⟨(List.cons.inj hd).1,(List.cons.inj hd).2⟩
  have hsf:=aYz user rule vis hu f (by rw[←L.1];exact ED U);obtain⟨n1,n2,n3⟩:=aaj AA hs hsf time
  have hN:(nextR l user f time).2=0→TY l (Lu user f.1 f.2.1 f.2.2 time) (nextR l user f time).1:=fun q=>by
   rcases n3 with⟨q2,_⟩|⟨_,q2⟩
   ·exact absurd q q2
   exact q2
  have M:=fun(h0:(nextR l user f time).2=0)=>ih (j+1) (C9 l (nextR l user f time).1) (made++[(nextR l user f time).1]) L.2 AA (pI hs (hN h0).small) (by rw[dN];omega) aIZ m AA;have hgo:OO user time (f::z) l made=bif (nextR l user f time).2 != 0 then([],(nextR l user f time).2)else bif bV l (nextR l user f time).1.Id then([],11)else OO user time z (C9 l (nextR l user f time).1) (made++[(nextR l user f time).1]):=rfl
  rw[hgo];show fG user (Hw user) rule vis time (iY (fG user (Hw user) rule vis time) m) l made (j:Int)=_∧jh user (Hw user) rule vis time (iY (jh user (Hw user) rule vis time) m) l made (j:Int)=_;generalize iY (fG user (Hw user) rule vis time) m=k1 at M ⊢;generalize iY (jh user (Hw user) rule vis time) m=k2 at M ⊢
  have hp:fG user (Hw user) rule vis time k1 l made (j:Int)=(Wh l user f.1 f.2.1 f.2.2 time).bind fun I=>(bif (I.2 != 0)then some ([],I.2)else(Mc l I.1.Id).bind fun u=>(bif u.2 then some ([],11)else(jk l I.1).bind fun J=>(bif (J.2 != 0)then some ([],J.2)else(Bo 376 made [I.1]).bind fun O=>k1 J.1 O (Ai ((j:Int)+1))))):=by
   rw[←L.1];have :j=0∨j=1∨j=2∨j=3:=AA
   rcases this with rfl|rfl|rfl|rfl<;>rfl
  have hq:jh user (Hw user) rule vis time k2 l made (j:Int)=(vZ l user f.1 f.2.1 f.2.2 time).bind fun u=>(bif (u.2 != 0)then some ([],u.2)else(JC l u.1.Id).bind fun J=>(bif J.2 then some ([],11)else(Qw l u.1).bind fun O=>(Bo 376 made [u.1]).bind fun x17=>k2 O.1 x17 (Ai ((j:Int)+1)))):=by
   rw[←L.1];have :j=0∨j=1∨j=2∨j=3:=AA
   rcases this with rfl|rfl|rfl|rfl<;>rfl
  rw[hp,hq,n1,n2,AP,AP];cases hx:(nextR l user f time).2 != 0 with
  |true=>exact⟨rfl,rfl⟩
  |false=>
   have h0:(nextR l user f time).2=0:=aBo.1 hx;have Y:=hN h0;obtain⟨i1,i2⟩:=M h0;rw[Am,Am,Am,Np l _ AA,Jp l _ AA,AP,AP,OM];show(bif bV l (nextR l user f time).1.Id then _ else _)=_∧(bif bV l (nextR l user f time).1.Id then _ else _)=_;cases hk:bV l (nextR l user f time).1.Id with
   |true=>exact⟨rfl,rfl⟩
   |false=>
    have Z:jk l (nextR l user f time).1=some (C9 l (nextR l user f time).1,0):=by rw[akL AA,Y.room,hk];rfl
    rw[Am,Am,Am,Z,jH AA Y.room hk,AP,AP,Cx FK,AP,AP,wrap_succ j AA];exact⟨i1,i2⟩
def UM (room:ByteArray) (e:AB×Int):List AB×Int:=bif e.2 != 0 then([],e.2)else OO user time (Qi user rule vis) [e.1] [e.1]
def afO {room:ByteArray} (I:room.size≤100) (j:user.size≤100) {e:AB×Int} (q:ZP room user time=some e) (u:zi room user time=some e) (hs:EY e.1):
 aAj room user time rule vis=some (UM user time rule vis room e)∧aTX room user time rule vis=some (UM user time rule vis room e):=by
 unfold aAj aTX;rw[q,u,AP,AP,aQB,abC];unfold UM;cases e.2 != 0 with
 |true=>exact⟨rfl,rfl⟩
 |false=>
  exact aly user time rule vis j (Qi user rule vis) 0 [e.1] [e.1] rfl rfl (fun x z=>by rw[FT.1 z];exact hs) (by show 1+4≤20;omega) (by show 1+4≤20;omega) Aj (fuel_lt (by show 4≤1099511627776;omega))
end
end Go.Proofs.YtkkdimcnpacjhaaGreat
end
section
namespace Go.Proofs.YtkkdimcnpacjhaaGreat
open Go.RowKit
set_option maxRecDepth 20000
set_option maxHeartbeats 1000000
def TY.fields {l:List AB} {user:ByteArray} {k:Int} {key:ByteArray} {c:Bf} {time:Int} {e:AB} (h:TY l (Lu user k key c time) e):e.Kind=k∧e.Key=key∧e.aU=user∧e.Content=c:=by
 rw[h.eq];exact⟨rfl,rfl,rfl,rfl⟩
def Nh.step2 {l:List AB} {s:List Ah} {n x:Int} (h:Nh l s n x) (hl:l.length≤14) {user:ByteArray} {k:Int} {key:ByteArray} {c:Bf} {time:Int} {e:AB} (z:TY l (Lu user k key c time) e) (I:bV l e.Id=false) (hst:Fh k=true):
 Nh (C9 l e) (ES s k key e.Id) (n+1) e.Id∧e.Depth=n+1∧Gg l e:=by
 obtain⟨J,U,_,_⟩:=z.fields;have L:=z.frame;have u:=z.allow;have q:e=IG (P9 l (Bj l) (Lu user k key c time)) (H8 (P9 l (Bj l) (Lu user k key c time)).aU):=z.eq;have M:(P9 l (Bj l) (Lu user k key c time)).aZ=Ii l (FB l (DT l (Bj l))):=rfl;generalize P9 l (Bj l) (Lu user k key c time)=E at L u q M
 have hp:¬(10≤E.aZ.length):=by
  rw[M,h.heads];have :(Ii l [x]).length≤[x].length:=J4 ..;rw[NQ]at this;omega
 have j:Gg l e:=by
  rw[q]at I ⊢;exact L.new hl hp I
 have ha:FH e (EK l s)=0:=by
  rw[q,aaw,←h.cur];exact u
 obtain⟨O,Y⟩:=h.step j ha (by rw[J];exact hst);rw[J,U]at O;exact⟨O,Y,j⟩
structure aNW (user:ByteArray) (c j p r h:AB) (l:List AB):Prop where
 chain:Nh l (ES (ES (ES (ES [⟨1,BK,c.Id⟩] 2 user j.Id) 3 BK p.Id) 4 BK r.Id) 5 BK h.Id) 5 h.Id
 prog:Ll l=some 0
 len:l.length=5
 eq:l=C9 (C9 (C9 (C9 [c] j) p) r) h
 aG8:Qw [] c=some ([c],0)∧Qw [c] j=some (C9 [c] j,0)∧Qw (C9 [c] j) p=some (C9 (C9 [c] j) p,0)∧Qw (C9 (C9 [c] j) p) r=some (C9 (C9 (C9 [c] j) p) r,0)∧Qw (C9 (C9 (C9 [c] j) p) r) h=some (l,0)
 dep:c.Depth=1∧j.Depth=2∧p.Depth=3∧r.Depth=4∧h.Depth=5
 kinds:c.Kind=1∧j.Kind=2∧p.Kind=3∧r.Kind=4∧h.Kind=5
 mem:j.Key=user∧j.Content.N=3
 pow:p.Content.Levels=Hw user
 sender:c.aU=user
 small:Cm l
section
variable (user : ByteArray) (time rule vis : Int)
def go_step {f:UU} {u:List UU} {l made m:List AB} (h:OO user time (f::u) l made=(m,0)):(nextR l user f time).2=0∧((bV l (nextR l user f time).1.Id=false∧OO user time u (C9 l (nextR l user f time).1) (made++[(nextR l user f time).1])=(m,0))):=by
 unfold OO at h;cases j:(nextR l user f time).2 != 0 with
 |true=>
  rw[j,BD]at h;have :(nextR l user f time).2=0:=Ap Prod.snd h;rw[this]at j;cases j
 |false=>
  rw[j,Am]at h;cases z:bV l (nextR l user f time).1.Id with
  |true=>
   rw[z,BD]at h;have q:(11:Int)=0:=Ap Prod.snd h;exact absurd q BJ
  |false=>rw[z,Am]at h;exact⟨aBo.1 j,rfl,h⟩
def aAC {l:List AB} (hl:l.length≤40) (hs:Cm l) {f:UU} (j:aMY user f) (u:(nextR l user f time).2=0):TY l (Lu user f.1 f.2.1 f.2.2 time) (nextR l user f time).1:=by
 obtain⟨_,_,z⟩:=aaj hl hs j time;rcases z with⟨q,_⟩|⟨_,q⟩
 ·exact absurd u q
 exact q
def founded {c:AB} {room:ByteArray} (hr:room.size≤100) (J:user.size≤100) (z:aBL room user time c) {made:List AB} (h:OO user time (Qi user rule vis) [c] [c]=(made,0)):∃j p r h l,made=[c,j,p,r,h]∧aNW user c j p r h l:=by
 have q:=aYz user rule vis J;unfold Qi at h q;have I:EY c:=by rw[z.eq];exact rW (aAo hr J time)
 have L:Nu c=some 0:=by rw[z.eq];exact aYi (aAo hr J time) z.check
 have u:c.Kind=1∧c.Depth=1∧c.aU=user:=by rw[z.eq];exact⟨rfl,rfl,rfl⟩
 have M:FH c []=0:=by rw[z.eq,aaw];exact z.allow
 have C1:=ae5 L I u.1 u.2.1 M;have S1:Cm [c]:=fun x hx=>by rw[FT.1 hx];exact I
 obtain⟨a1,O,h⟩:=go_step user time h;have N1:=aAC user time (by show 1≤40;omega) S1 (q _ Aw) a1;generalize(nextR [c] user (2,user,{ Dq with N:=3 }) time).1=j at O h N1;obtain⟨C2,D2,W2⟩:=C1.step2 (by show 1≤14;omega) N1 O rfl;have P2:=jH (by show 1≤1000;omega) N1.room O;have L2:(C9 [c] j).length=2:=by rw[dN];rfl
 have S2:=pI S1 N1.small;obtain⟨a2,U,h⟩:=go_step user time h;have N2:=aAC user time AA S2 (q _ Aw) a2;generalize(nextR (C9 [c] j) user (3,BK,{ Dq with Levels:=Hw user }) time).1=p at U h N2;obtain⟨C3,D3,W3⟩:=C2.step2 AA N2 U rfl;have P3:=jH AA N2.room U;have L3:(C9 (C9 [c] j) p).length=3:=by rw[dN,L2]
 have S3:=pI S2 N2.small;obtain⟨a3,Y,h⟩:=go_step user time h;have N3:=aAC user time AA S3 (q _ Aw) a3;generalize(nextR (C9 (C9 [c] j) p) user (4,BK,{ Dq with N:=rule }) time).1=r at Y h N3;obtain⟨C4,D4,W4⟩:=C3.step2 AA N3 Y rfl;have P4:=jH AA N3.room Y;have L4:(C9 (C9 (C9 [c] j) p) r).length=4:=by rw[dN,L3]
 have S4:=pI S3 N3.small;obtain⟨a4,Z,h⟩:=go_step user time h;have N4:=aAC user time AA S4 (q _ Aw) a4;generalize(nextR (C9 (C9 (C9 [c] j) p) r) user (5,BK,{ Dq with N:=vis }) time).1=v at Z h N4;obtain⟨C5,D5,W5⟩:=C4.step2 AA N4 Z rfl;have P5:=jH AA N4.room Z;have L5:(C9 (C9 (C9 (C9 [c] j) p) r) v).length=5:=by rw[dN,L4]
 obtain rfl:[c]++[j]++[p]++[r]++[v]=made:=Ap Prod.fst h;have P1:Qw [] c=some ([c],0):=jH (Ci _) rfl rfl;obtain⟨q1,q2,_,q3⟩:=N1.fields;refine⟨j,p,r,v,C9 (C9 (C9 (C9 [c] j) p) r) v,rfl,⟨C5,W5.prog',L5,rfl,⟨P1,P2,P3,P4,P5⟩,⟨u.2.1,D2,D3,D4,D5⟩,⟨u.1,q1,N2.fields.1,N3.fields.1,N4.fields.1⟩,⟨q2,by rw[q3]⟩,by rw[N2.fields.2.2.2],u.2.2,pI S4 N4.small⟩⟩
end
def aXM (user:ByteArray) (a b c d e:Int):ES (ES (ES (ES [⟨1,BK,a⟩] 2 user b) 3 BK c) 4 BK d) 5 BK e=[⟨1,BK,a⟩,⟨2,user,b⟩,⟨3,BK,c⟩,⟨4,BK,d⟩,⟨5,BK,e⟩]:=A8
def aNW.evs {user:ByteArray} {c j p r h:AB} {l:List AB} (F:aNW user c j p r h l):EK l (Eb l (Bj l))=[c,j,p,r,h]:=by
 have z:=(F.chain.facts.ok (by rw[F.len];decide)).nodup
 have hm:∀x∈[c,j,p,r,h],x∈l:=fun x q=>by
  rw[F.eq,Jh,Jh,Jh,Jh,FT];simp only[EG,EM,ZL]at q;rcases q with q|q|q|q|q
  ·exact .inr (.inr (.inr (.inr q)))
  ·exact .inr (.inr (.inr (.inl q)))
  ·exact .inr (.inr (.inl q))
  ·exact .inr (.inl q)
  exact .inl q
 have u:∀x∈[c,j,p,r,h],DV l x.Id=some x:=fun x q=>(aHD z).2 ⟨hm x q,rfl⟩;rw[F.chain.cur,aXM];unfold EK ofIds;simp only[Ia,zF,Lr,aE1,u c Aw,u j Aw,u p Aw,u r Aw,u h Aw]
def afg {user:ByteArray} (j:user≠BK):Dz (Hw user) user=100:=by
 have :(user.toList==BK.toList)=false:=by rw[IB];exact Gv j
 unfold Hw;rw[this];show Dz { VD with Users:=[⟨user,100⟩] } user=100;unfold Dz;simp
def agj (f:ZA):aKG f=some true:=by
 unfold aKG;have hc:(bif decide ((f.Room.size:Int)>100)then some true else some (decide ((f.User.size:Int)>100)))=some (decide ((f.Room.size:Int)>100)||decide ((f.User.size:Int)>100)):=by cases decide ((f.Room.size:Int)>100)<;>rfl
 rw[hc,AP];cases hq:decide ((f.Room.size:Int)>100)||decide ((f.User.size:Int)>100)with
 |true=>rw[BD,aJi];rfl
 |false=>
  rw[VL,NR,NR]at hq;have hr:f.Room.size≤100:=AA
  have hu:f.User.size≤100:=AA
  obtain⟨e,e1,e2,e3⟩:=alx hr hu f.Time
  have hsm:EY e.1:=by
   rcases e3 with⟨_,q⟩|⟨_,q⟩
   ·rw[q];exact aXw
   rw[q.eq];exact rW (aAo hr hu f.Time)
  obtain⟨g1,_⟩:=afO f.User f.Time f.Rule f.Visibility hr hu e1 e2 hsm;rw[Am,g1,AP]
  have O:(UM f.User f.Time f.Rule f.Visibility f.Room e).2≠0→(UM f.User f.Time f.Rule f.Visibility f.Room e).1=[]:=by
   have key:∀(U:List UU) (l made:List AB),(OO f.User f.Time U l made).2≠0→(OO f.User f.Time U l made).1=[]:=by
    intro U
    induction U with
    |nil=>exact fun _ _ h=>absurd rfl h
    |cons g U ih=>
     intro l made;unfold OO;cases(nextR l f.User g f.Time).2 != 0 with
     |true=>exact fun _=>rfl
     |false=>
      cases bV l (nextR l f.User g f.Time).1.Id with
      |true=>exact fun _=>rfl
      |false=>exact ih _ _
   unfold UM;cases e.2 != 0 with
   |true=>exact fun _=>rfl
   |false=>exact key _ _ _
  by_cases I:(UM f.User f.Time f.Rule f.Visibility f.Room e).2=0
  ·rw[I,La,Am]
   have Y:e.2=0:=by
    unfold UM at I;cases q:e.2 != 0 with
    |true=>rw[q,BD]at I;exact I
    |false=>exact aBo.1 q
   have z:aBL f.Room f.User f.Time e.1:=by
    rcases e3 with⟨q,_⟩|⟨_,q⟩
    ·exact absurd Y q
    exact q
   have hgo:UM f.User f.Time f.Rule f.Visibility f.Room e=OO f.User f.Time (Qi f.User f.Rule f.Visibility) [e.1] [e.1]:=by
    unfold UM;rw[Y];rfl
   rw[hgo]at I ⊢;obtain⟨j,p,r,h,l,hm,F⟩:=founded f.User f.Time f.Rule f.Visibility hr hu z (made:=(OO f.User f.Time (Qi f.User f.Rule f.Visibility) [e.1] [e.1]).1) (Prod.ext rfl I);have J:OO f.User f.Time (Qi f.User f.Rule f.Visibility) [e.1] [e.1]=([e.1,j,p,r,h],0):=Prod.ext hm I;rw[J];have hal:=z.allow;generalize e.1=c at F;obtain⟨d1,d2,d3,d4,d5⟩:=F.dep;obtain⟨k1,k2,k3,k4,k5⟩:=F.kinds
   have Z:qo [c,j,p,r,h]=some l:=by
    obtain⟨s1,s2,s3,s4,s5⟩:=F.aG8;unfold qo aYy;refine dX.eq (Iq [c,j,p,r,h].length (fuel_lt (by show 5≤1099511627776;omega)) (fun i a=>a=([[],[c],C9 [c] j,C9 (C9 [c] j) p,C9 (C9 (C9 [c] j) p) r,l]:List (List AB)).getD i []) rfl (fun i a k hi ha hk=>?_) fun a k ha=>?_)
    ·have hi5:i<5:=hi;have :i=0∨i=1∨i=2∨i=3∨i=4:=AA
     have u:∀x y,[c,j,p,r,h][i]=x→Qw a x=some (y,0)→y=([[],[c],C9 [c] j,C9 (C9 [c] j) p,C9 (C9 (C9 [c] j) p) r,l]:List (List AB)).getD (i+1) []→dX (aEw [c,j,p,r,h] k a (i:Int)) (· =l):=fun x y I hy hz=>by
      unfold aEw;rw[Bl hi,I,hy,AP,wrap_succ i AA];exact hk _ hz
     rcases this with rfl|rfl|rfl|rfl|rfl
     ·obtain rfl:a=[]:=ha;exact u c [c] rfl s1 rfl
     ·obtain rfl:a=[c]:=ha;exact u j _ rfl s2 rfl
     ·obtain rfl:a=C9 [c] j:=ha;exact u p _ rfl s3 rfl
     ·obtain rfl:a=C9 (C9 [c] j) p:=ha;exact u r _ rfl s4 rfl
     obtain rfl:a=C9 (C9 (C9 [c] j) p) r:=ha;exact u h _ rfl s5 rfl
    obtain rfl:a=l:=ha;unfold aEw;rw[CX,Am];exact .ret rfl
   have hok:=F.chain.facts.ok (by rw[F.len];decide);have hdp:=F.chain.deep
   have hcu:VN l=some (Eb l (Bj l)):=by
    have :=aUT F.prog fun _=>hok
    rwa [aAu hdp]at this
   have hac:Zu l=some (l.map (·.Id)):=by
    have :=aUF F.prog fun _=>hok;rw[aAu hdp,F.chain.acc]at this;exact this
   have hcl:(Eb l (Bj l)).length=5:=by rw[F.chain.cur,aXM];rfl
   have hl:=F.len;have hev:=aMH l (Eb l (Bj l)) AA AA;have L:=afz l (Eb l (Bj l)) f.User AA AA;rw[F.evs]at hev L;have hsl:Cm [c,j,p,r,h]:=by rw[←F.evs];exact aEB F.small _
   have hlv:=aB8 [c,j,p,r,h] Aw hsl
   have hL:Ew [c,j,p,r,h]=Hw f.User:=by
    unfold Ew;rw[KA,show(c.Kind==3)=false by rw[k1];rfl,KA,show(j.Kind==3)=false by rw[k2];rfl,KA,show(p.Kind==3)=true by rw[k3];rfl];exact F.pow
   have hC:Q5 [c,j,p,r,h]=f.User:=by
    unfold Q5;rw[KA,show(c.Kind==1)=true by rw[k1];rfl];exact F.sender
   have hM:Gj [c,j,p,r,h] f.User=3:=by
    unfold Gj;rw[KA,show Gp f.User c=false by unfold Gp;rw[k1];rfl,KA,show Gp f.User j=true by unfold Gp;rw[k2,F.mem.1];simp];exact F.mem.2
   rw[hL,hC]at hlv;rw[hM]at L
   have aG9:f.User≠BK:=fun q=>by
    have hE:=(F.chain.facts.ev c (by
     rw[F.eq,Jh,Jh,Jh,Jh,FT]
     exact .inr (.inr (.inr (.inr rfl))))).1.sender
    rw[F.sender,q]at hE;exact absurd hE BJ
   have hus:=Xq (Hw f.User) f.User (by rw[←hL];have :=(aON hsl).users;omega);rw[afg aG9]at hus
   have hsv:(H8 f.User).toList=(H8 f.Room).toList:=by
    have :(bif !(Gt []).2&&(H8 f.User).toList==(H8 f.Room).toList then(0:Int)else 17)=0:=hal;cases q:(H8 f.User).toList==(H8 f.Room).toList with
    |true=>exact eq_of_beq q
    |false=>rw[q]at this;exact absurd this BJ
   have hs1:=(Ri (s:=f.User) AA).1;have hs2:=(Ri (s:=f.Room) AA).1
   have M:∀(i:Nat) (hi:i<[c,j,p,r,h].length),[c,j,p,r,h][i].Depth=((i+1:Nat):Int):=fun i hi=>by
    have :i=0∨i=1∨i=2∨i=3∨i=4:=by simp only[FV,L9]at hi;omega
    rcases this with rfl|rfl|rfl|rfl|rfl
    ·exact d1
    ·exact d2
    ·exact d3
    ·exact d4
    exact d5
   unfold aYH;refine aFJ 0 [c,j,p,r,h].length (by show 5≤1000;omega) (Ci _) _ (fun k i _ hi=>?_) fun k=>?_
   ·unfold aLZ;show(bif decide ((i:Int)<([c,j,p,r,h].length:Int))then(Ag [c,j,p,r,h] (i:Int)).bind _ else _)=_;have h5:i<5:=hi;rw[Bl hi,M i hi,wrap_succ i AA,La,Am]
   unfold aLZ UC;show(bif decide (([c,j,p,r,h].length:Int)<([c,j,p,r,h].length:Int))then _ else(qo [c,j,p,r,h]).bind _)=_;rw[CX,Am,Z,AP,hcu,AP,hev,AP,hlv,AP,hl,F.prog,hac,hcl,L,hus,hs1,hs2,aJi];have hlm:(l.map (·.Id)).length=5:=by rw[CB,hl]
   simp only[AP,hlm,SY,BD];show(bif ((H8 f.User).toList==(H8 f.Room).toList)then _ else _)=_;rw[hsv,SY];rfl
  rw[Si.2 I,BD,O I,aJi];rfl
end Go.Proofs.YtkkdimcnpacjhaaGreat
end
