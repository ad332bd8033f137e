/- Part 7 of the laws' proofs (short forms by wip/shrink2.py). -/
import Derived.Test.YtfmoknlmaldmlaaGreatRc6
set_option linter.defProp false
set_option linter.unnecessarySimpa false
set_option linter.unusedSectionVars false
set_option linter.unusedVariables false
set_option linter.unusedSimpArgs false
namespace Go.Proofs.YtfmoknlmaldmlaaGreat
open Go.RowKit Go.Proofs.Tryz
theorem zI5 :∀{a b:AA Int},a.Nodup->(∀x∈a,x∈b)->a.length<=b.length
 | [],_,_,_=>Ef _
 |x::a,b,q,hs=>by
  have u:=hs x (I8 ..);obtain⟨h1,h2⟩:=LC.1 q;have :=zI5 (b:=b.erase x) h2 λy j=>(List.mem_erase_of_ne λe=>h1 (by rw[←e];exact j)).2 (hs y (Ii _ j))
  grind
variable {a:Int}
theorem Jz {c:AV}{X:AB Int}(h:(cond c (some a) X)=some 0)(ha:a≠0):c=false/\X=some 0:=by
 grind
theorem U2 {x:AB Int}(h:(cond (a != 0) (some a) x)=some 0):a=0/\x=some 0:=by
 grind
variable {α:Type}
theorem firsts {R:Type}{body:(Int->AB R)->Int->AB R}{ok:R}(l:AA α)(hl:l.length<=9223372036854775807)(P:Nat->Prop)(u:∀k (i:Nat),i<l.length->body k (i:Int)=some ok->P i/\k ((i+1:Nat):Int)=some ok)(q:Nat)(h:bf body Am (q:Int)=some ok):∀i,q<=i->i<l.length->P i:=by
 have key:∀n (i:Nat) m,i+n=l.length->n<m->bf body m (i:Int)=some ok->∀j,i<=j->j<l.length->P j:=by
  intro n
  induction n with
  |zero=>
   grind
  |succ n z=>
   intro i m hi hm I j h1 h2;obtain⟨m,rfl⟩:∃J,m=J+1:=⟨m-1,AL⟩
   obtain⟨a,b⟩:=u (bf body m) i AL I;rcases aLA h1 with rfl|h1
   ·exact a
   exact z (i+1) m AL AL b j h1 h2
 intro i h1 h2;have L:Am=9223372036854775808:=rfl;exact key (l.length-q) q Am AL AL h i h1 h2
def rZ {l:AA α}{Q:α->Prop}(h:∀i,0<=i->i<l.length->∀x,l[i]? =some x->Q x):∀x∈l,Q x:=λx j=>by
 obtain⟨i,hi,rfl⟩:=Ih j;exact h i (Ef _) hi _ (EM hi)
def am2 (s:BL)(a b:Nat)(j:b<=s.size):(s.extract a b).size=b-a:=by rw[aGg];omega
variable {l:AA Int}
def aVX {p:Int->AV}(h:RI l p=true):l.length<=32:=(aVr h).2
variable {s:BL}
def a08 {m:Int}(h:HY s m=true):s.size<=100:=by
 unfold HY XQ at h;simp only[ED,Iu]at h;have h1:=h.2.1.1;have h2:=aVX h.2.1.2
 have h3:(DL (Rl s)).length<=32:=by
  have :=h.2.2;unfold YW at this;simp only[ED]at this;exact aVX this.1.1
 rw[IX]at h2 h3;unfold Un at h2;unfold Rl at h3;rw[am2 _ _ _ AL]at h2 h3;omega
theorem aPi (hs:s.size<=9223372036854775807)(h:YG s=some 0):s.size<=100/\HY s 64=true:=by
 rw[(Yt hs).2]at h;have h:=Dv h;unfold Qg at h;cases hm:HY s 64 with
 |true=>
  exact⟨a08 hm,rfl⟩
 |false=>
  grind
theorem aZ4 (hs:s.size<=9223372036854775807)(h:Zq s=some 0):s.size<=100/\HY s 33=true:=by
 rw[(ZC hs).2]at h;have h:=Dv h;unfold SP at h;cases hm:HY s 33 with
 |true=>
  exact⟨a08 hm,rfl⟩
 |false=>
  grind
theorem aU9 (hs:s.size<=9223372036854775807)(h:jS s=some 0):s.size<=100:=by
 rw[(aFm hs).2]at h;have h:=Dv h;unfold aAX at h
 grind
def aO3 {l:AA BL}(hl:l.length<=9223372036854775807)(hs:∀s∈l,s.size<=9223372036854775807)(h:TS l=some 0):l.length<=100/\∀s∈l,s.size<=100:=by
 unfold TS at h;obtain⟨h1,h⟩:=Jz h Bd;refine⟨aJ4,rZ (firsts l hl (λi=>∀x,l[i]? =some x->x.size<=100) (λk i hi j=>?_) 0 h)⟩;unfold a0S at j;rw[D8 hi]at j;obtain⟨x,u,j⟩:=Dn j;obtain⟨e,j⟩:=U2 j;subst e;rw[wrap_succ i AL]at j;exact⟨λy q=>by rw[EM hi]at q;obtain rfl:=Dv q;exact aU9 (hs _ (Et hi)) u,j⟩
variable {c:D7}
def aZE (hl:c.Allow.length<=9223372036854775807)(hs:∀s∈c.Allow,s.size<=9223372036854775807)(h:fH c=some 0):c.Allow.length<=100/\∀s∈c.Allow,s.size<=100:=by
 unfold fH at h;obtain⟨x,_,h⟩:=Dn h;obtain⟨_,h⟩:=Jz h Bd;obtain⟨h1,h⟩:=Jz h Bd;refine⟨aJ4,rZ (firsts c.Allow hl (λi=>∀x,c.Allow[i]? =some x->x.size<=100) (λk i hi j=>?_) 0 h)⟩;unfold a1X xM at j;rw[D8 hi]at j;obtain⟨x,I,j⟩:=Dn j;obtain⟨e,j⟩:=Jz j Bd;have q:x=0:=Ut
 subst q;refine⟨λy u=>by rw[EM hi]at u;obtain rfl:=Dv u;exact(aZ4 (hs _ (Et hi)) I).1,?_⟩;cases hp:decide ((i:Int)>0)with
 |true=>
  rw[hp,Bj]at j;obtain⟨y,_,j⟩:=Dn j;obtain⟨z,_,j⟩:=Dn j;obtain⟨_,j⟩:=Jz j Bd
  rwa [wrap_succ i AL]at j
 |false=>
  rw[hp,BN,BN]at j
  rwa [wrap_succ i AL]at j
def abT {l:AA H6}(hl:l.length<=9223372036854775807)(hs:∀u∈l,u.User.size<=9223372036854775807)(h:Zr l=some 0):l.length<=100/\∀u∈l,u.User.size<=100:=by
 unfold Zr at h;obtain⟨h1,h⟩:=Jz h Bd;refine⟨aJ4,rZ (firsts l hl (λi=>∀x,l[i]? =some x->x.User.size<=100) (λk i hi q=>?_) 0 h)⟩
 have J:∀v,lT l (i:Int) k v=some 0->k ((i+1:Nat):Int)=some 0:=λv j=>by
  unfold lT at j;obtain⟨_,j⟩:=Jz j Bd;obtain⟨y,_,j⟩:=Dn j;obtain⟨z,_,j⟩:=Dn j;obtain⟨_,j⟩:=Jz j Bd
  rwa [wrap_succ i AL]at j
 unfold rD at q;rw[D8 hi]at q;obtain⟨x,L,O⟩:=Dn q;obtain⟨e,hd⟩:=Jz O Bd;have I:x=0:=Ut
 rw[I]at L;refine⟨λy M=>by rw[EM hi]at M;obtain rfl:=Dv M;exact(aPi (hs _ (Et hi)) L).1,?_⟩;cases hp:decide ((i:Int)>0)with
 |true=>
  rw[hp,Bj]at hd;obtain⟨y,_,U⟩:=Dn hd;obtain⟨z,_,Y⟩:=Dn U;exact J _ Y
 |false=>
  rw[hp,BN]at hd;exact J _ hd
theorem ajq {l:AA J5}(h:YU l=some 0):l.length<=100:=by
 unfold YU at h
 grind
def empty_of (h:(s.toList==Ci.toList)=true):s.size<=100:=by rw[a4S]at h;have :=eq_of_beq h;omega
def aRL {l:Cm}(h:Nl l=true):l.Users=[]/\l.Kinds=[]:=by
 unfold Nl at h;simp only[ED]at h;exact⟨UZ h.1.1.1.1.1.1.1.1,UZ h.1.1.1.1.1.1.1.2⟩
theorem aiB {k:Int}(L:Ko c)(h:JX k c=some 0):QF c:=by
 unfold JX at h;rw[(aBA k).2,Ac]at h;obtain⟨x2,Z,h⟩:=Dn h;obtain⟨e2,h⟩:=Jz h Bd;subst e2
 have J:aI k c=some true:=by
  cases hk:(decide (k>=1)&&(k<=14))with
  |false=>
   grind
  |true=>
   rw[hk]at Z;obtain⟨y,O,M⟩:=Dn (show(aI k c).bind (λx4=>some (!x4))=some false from Z);have M:=Dv M;cases y with
   |true=>
    exact O
   |false=>
    cases M
 obtain⟨x6,_,h⟩:=Dn h;obtain⟨x7,U,h⟩:=Dn h;cases x7 with
 |true=>
  have M:jM (c.Text.toList==Ci.toList) (c.N==0) (c.Target==0) (!c.Thread) (c.Via.toList==Ci.toList) ((c.Allow.length:Int)==0) ((c.iw.length:Int)==0) (Nl c.Levels)=true:=by
   cases x6 with
   |false=>
    cases U
   |true=>
    rw[aN9]at U;exact Dv U
  unfold jM at M;simp only[ED]at M;obtain⟨⟨⟨⟨⟨⟨⟨t1,_⟩,_⟩,_⟩,t5⟩,t6⟩,t7⟩,t8⟩:=M;have p:=aRL t8;have q1:=empty_of t1;have q2:=empty_of t5;have a1:=UZ t6;have a2:=UZ t7;refine⟨?_,?_,?_,?_,AL,AL,?_,?_,?_⟩<;>first|rw[a1]|rw[a2]|rw[p.1]|rw[p.2]
  all_goals first|exact Ef _|exact λx hx=>absurd hx Gh
 |false=>
  rw[BN]at h;obtain⟨x11,j,h⟩:=Dn h;obtain⟨e,h⟩:=U2 h;subst e;obtain⟨x13,_,h⟩:=Dn h;obtain⟨_,h⟩:=U2 h;obtain⟨x15,_,h⟩:=Dn h;obtain⟨_,h⟩:=U2 h;obtain⟨x17,I,h⟩:=Dn h;obtain⟨e,h⟩:=U2 h;subst e
  have ht:c.Text.size<=2000:=by
   unfold Zg at j;cases h9:k==9 with
   |true=>
    rw[h9,Bj]at j;cases h0:(c.Text.toList==Ci.toList)with
    |true=>
     have :=empty_of h0;omega
    |false=>
     rw[h0,BN]at j;obtain⟨y,O,j⟩:=Dn j;obtain rfl:=Dv j;have :=aU9 L.text O;omega
   |false=>
    rw[h9,BN]at j;obtain⟨y,_,j⟩:=Dn j;obtain⟨_,j⟩:=Jz j Bd;obtain⟨z,M,j⟩:=Dn j;obtain⟨e,_⟩:=Jz j Bd;subst e;cases hd:decide ((c.Text.size:Int)>400)with
    |true=>
     rw[hd]at M;cases M
    |false=>
     have :=N8 hd;omega
  have hv:c.Via.size<=2000:=by
   unfold YP at I;cases h0:(c.Via.toList==Ci.toList)with
   |true=>
    have :=empty_of h0;omega
   |false=>
    rw[h0,BN]at I;obtain⟨_,I⟩:=Jz I Bd;obtain⟨y,O,I⟩:=Dn I;obtain rfl:=Dv I;have :=(aPi L.via O).1;omega
  have Y:∀{l:AA BL},(∀s∈l,s.size<=100)->∀s∈l,s.size<=2000:=λh s hs=>EK (h s hs) AL;cases h4:k==4 with
  |true=>
   have e4:=eq_of_beq h4;subst e4;rw[I9,Bj]at h;obtain⟨y,O,h⟩:=Dn h;obtain rfl:=Dv h;obtain⟨r1,r2⟩:=aZE L.allow L.allows O;rw[aMA (K:=4) (c:=c) (show _=some false by kernel_rfl) (show _=some true by kernel_rfl) (show _=some false by kernel_rfl) (show _=some false by kernel_rfl) (show _=some false by kernel_rfl) (show _=some true by kernel_rfl) (show _=some false by kernel_rfl) (show _=some false by kernel_rfl)]at J;have ho:=Dv J;unfold Ln at ho;simp only[ED,MJ]at ho;have d:=UZ ho.1.2;have p:=aRL ho.2;refine⟨r1,?_,?_,?_,ht,hv,Y r2,?_,?_⟩<;>first|rw[d]|rw[p.1]|rw[p.2]
   all_goals first|exact Ef _|exact λx hx=>absurd hx Gh
  |false=>
   rw[h4,BN]at h;obtain⟨y1,hy1,h⟩:=Dn h;obtain⟨e,h⟩:=U2 h;subst e;obtain⟨y2,hy2,h⟩:=Dn h;obtain⟨e,h⟩:=U2 h;subst e;obtain⟨y3,q,h⟩:=Dn h;obtain rfl:=Dv h;unfold Zb at q;obtain⟨z1,hz1,q⟩:=Dn q;obtain⟨e,q⟩:=U2 q;subst e;obtain⟨z2,hz2,q⟩:=Dn q;obtain⟨e,q⟩:=U2 q;subst e;obtain⟨a1,a2⟩:=aO3 L.allow L.allows hy1;obtain⟨d1,d2⟩:=aO3 L.deny L.denies hy2;obtain⟨u1,u2⟩:=abT L.users L.names hz1;exact⟨a1,d1,u1,ajq hz2,ht,hv,Y a2,Y d2,λu hu=>EK (u2 u hu) AL⟩
structure uD (e:Aa):Prop where
 kind:1<=e.Kind/\e.Kind<=14
 state:e.State=Ic e.Kind
 keyed:e.Key=Ci\/e.Kind=2\/e.Kind=9
 room:HY e.Room 33=true
 sender:HY e.bQ 64=true
 key:VX e.Kind e.Key=true
 time:0<=e.Time/\e.Time<=1000000000
 depth:1<=e.Depth/\e.Depth<=100000
 prev:e.bG.length<=10/\Inc e.bG/\∀x∈e.bG,0<=x
 auth:e.bJ.length<=8/\Inc e.bJ/\∀x∈e.bJ,0<=x
 short:e.bG=[]->e.Kind=1
 form:e.Kind=1->e.bG=[]/\e.bJ=[]
 content:JX e.Kind e.Content=some 0
 small:XV e
def aOr (hl:l.length<=9223372036854775807)(h:bn l=some true):Inc l/\∀x∈l,0<=x:=by
 unfold bn aLs at h
 have u:=firsts l hl (λi=>∀x,l[i]? =some x->0<=x/\∀y,0<i->l[i-1]? =some y->y<x) (λk i hi q=>by
  have J:∀v,eU k (i:Int) v=some true->v=false/\k ((i+1:Nat):Int)=some true:=λv L=>by
   unfold eU at L;cases v with
   |true=>cases L
   |false=>rw[BN,wrap_succ i AL]at L;exact⟨rfl,L⟩
  unfold a6c at q;rw[D8 hi]at q;cases M:decide (l[i]<0)with
  |true=>rw[M,Bj]at q;cases(J _ q).1
  |false=>
   have Y:=N8 M;rw[M,BN]at q;cases hp:decide ((i:Int)>0)with
   |false=>
    have Z:=N8 hp;rw[hp,BN]at q;refine⟨λx z=>?_,(J _ q).2⟩;rw[EM hi]at z;obtain rfl:=Dv z;exact⟨AL,λy Y O=>AL⟩
   |true=>
    rw[hp,Bj,CM hi,Ac,a06 hi hl hp,Ac]at q;obtain⟨h1,h2⟩:=J _ q;refine⟨λx z=>?_,h2⟩;rw[EM hi]at z;obtain rfl:=Dv z;refine⟨AL,λy Y O=>?_⟩;rw[EM AL]at O;obtain rfl:=Dv O
    have :=N8 h1;omega) 0 h
 have I:∀i,(hi:i+1<l.length)->l[i]<l[i+1]:=λi hi=>(u (i+1) AL hi _ (EM hi)).2 _ AL (EM AL);refine⟨?_,λx z=>?_⟩
 ·rw[Inc,KJ];intro i j hi J U
  induction j with
  |zero=>omega
  |succ j ih=>
   have h1:=I j J;rcases aLA (Nat.le_of_lt_succ U)with rfl|h2
   ·exact h1
   have :=ih AL h2;omega
 obtain⟨i,hi,rfl⟩:=Ih z;exact(u i (Ef _) hi _ (EM hi)).1
theorem vw {c:AV}{X:AB AV}{f:AV->AB Int}{v:Int}(j:f true≠some v)(h:((cond c (some true) X).bind f)=some v):c=false/\X.bind f=some v:=by
 grind
variable {e:Aa}
def ak1 (L:O1 e)(h:lG e=some 0):uD e:=by
 unfold lG at h;obtain⟨x1,h1,h⟩:=Dn h;obtain⟨e1,h⟩:=U2 h;subst e1;obtain⟨x3,h3,h⟩:=Dn h;obtain rfl:=Dv h;have J:=aiB L.content h3
 have M:∀v,SB e v=some 0->v=false:=λv hv=>by
  cases v with
  |true=>cases hv
  |false=>rfl
 have Z:SB e false=some 0/\(1<=e.Kind/\e.Kind<=14)/\e.State=Ic e.Kind/\(e.Key=Ci\/e.Kind=2\/e.Kind=9):=by
  unfold a4s at h1;cases Y:decide (e.Kind<1)with
  |true=>rw[Y,Bj]at h1;cases M _ h1
  |false=>
   cases c2:decide (e.Kind>14)with
   |true=>rw[Y,c2,BN,Bj]at h1;cases M _ h1
   |false=>
    rw[Y,c2,BN,BN,a2T,Ac]at h1;have k1:=N8 Y;have k2:=N8 c2;cases c3:(e.State==Ic e.Kind)with
    |false=>rw[c3,Ip,Bj]at h1;cases M _ h1
    |true=>
     rw[c3,Eh,BN]at h1;refine⟨?_,⟨AL,AL⟩,eq_of_beq c3,?_⟩
     all_goals cases c4:(e.Key.toList==Ci.toList)with
     |true=>rw[c4,Eh,BN]at h1;first|exact h1|exact .inl (toList_inj (eq_of_beq c4))
     |false=>
      rw[c4,Ip,Bj]at h1;cases c5:(e.Kind != 2)with
      |false=>rw[c5,BN]at h1;first|exact h1|exact .inr (.inl (by simpa using c5))
      |true=>
       rw[c5,Bj]at h1;have :=M _ h1;rw[this]at h1
       first|exact h1|exact .inr (.inr aEv)
 clear h1 M;obtain⟨h1,hk,hst,O⟩:=Z;unfold SB at h1;rw[BN,(ZC (s:=e.Room) L.room).2,(Yt (s:=e.bQ) L.sender).2,aOJ L.key]at h1;simp only[Ac]at h1
 have u:HY e.Room 33=true:=by
  cases hm:HY e.Room 33 with
  |true=>rfl
  |false=>unfold SP at h1;rw[hm]at h1;cases h1
 have r0:SP e.Room=0:=by unfold SP;rw[u];rfl
 rw[r0,TY,BN,Ac]at h1
 have z:HY e.bQ 64=true:=by
  cases hm:HY e.bQ 64 with
  |true=>rfl
  |false=>unfold Qg at h1;rw[hm]at h1;cases h1
 have u0:Qg e.bQ=0:=by unfold Qg;rw[z];rfl
 rw[u0,TY,BN,Ac]at h1
 have j:VX e.Kind e.Key=true:=by
  cases hm:VX e.Kind e.Key with
  |true=>rfl
  |false=>rw[hm]at h1;cases h1
 rw[j,Eh,BN]at h1;obtain⟨t1,h1⟩:=vw zZ h1;rw[Ac]at h1;obtain⟨t2,h1⟩:=vw zZ h1;rw[Ac]at h1;obtain⟨t3,h1⟩:=vw zZ h1;rw[Ac]at h1;obtain⟨t4,h1⟩:=Jz h1 Bd;obtain⟨t5,h1⟩:=vw zZ h1;rw[Ac]at h1;obtain⟨t6,h1⟩:=Jz h1 Bd;obtain⟨x21,h21,h1⟩:=Dn h1;obtain⟨t7,h1⟩:=vw zZ h1;rw[Option.bind_assoc]at h1;obtain⟨x24,h24,h1⟩:=Dn h1;rw[Ac]at h1;obtain⟨t8,h1⟩:=Jz h1 Bd;obtain⟨TB,U,h1⟩:=Dn h1;obtain⟨t9,h1⟩:=Jz h1 Bd;obtain⟨x29,I,h1⟩:=Dn h1;obtain⟨t10,_⟩:=Jz h1 Bd;have e21:x21=true:=by simpa using t7
 have e24:x24=true:=by simpa using t8
 subst e21 e24 t9 t10;have p1:=N8 t5;have p2:=N8 t6;have r1:=aOr L.prev h21;have r2:=aOr L.auth h24;have d1:=N8 t1;have d2:=N8 t2;have d3:=N8 t3;have d4:=N8 t4
 have hkz:e.Key.size<=2000:=by
  rcases O with h|h|h
  ·rw[h];exact Ef _
  ·unfold VX at j;rw[ES h]at j;have :Qg e.Key=0:=VI
   unfold Qg at this;cases hm:HY e.Key 64 with
   |true=>have :=a08 hm;omega
   |false=>rw[hm]at this;cases this
  unfold VX at j;rw[EZ AL,ES h]at j;unfold xG at j;simp only[ED,Iu]at j;have :=j.1.2;omega
 have z1:=a08 u;have z2:=a08 z;refine⟨hk,hst,O,u,z,j,⟨AL,AL⟩,⟨AL,AL⟩,⟨AL,r1⟩,⟨AL,r2⟩,λhp=>?_,λhk1=>?_,h3,⟨?_,?_,J.allow,J.deny,J.users,J.kinds,?_,?_,hkz,J.text,J.via,Ef _,J.allows,J.denies,J.names⟩⟩
 ·rw[hp]at U;have :=Dv U;simpa using this
 ·rw[hk1]at I;have I:((cond ((e.bG.length:Int)>0) (some true) (some (decide ((e.bJ.length:Int)>0)))).bind λx31=>some x31)=some false:=I;cases q:decide ((e.bG.length:Int)>0)with
  |true=>rw[q]at I;cases I
  |false=>
   rw[q]at I;have q2:=Dv I;have :=N8 q;have :=N8 q2;exact⟨Hd AL,Hd AL⟩
 ·show e.bG.length<=40;omega
 ·show e.bJ.length<=40;omega
 ·show e.Room.size<=2000;omega
 show e.bQ.size<=2000;omega
theorem aRY (L:O1 e):∃c,yD e=some c/\kJ e=some c/\(c=0->uD e/\Hg e):=by
 obtain⟨x,z,u⟩:=aaZ L;unfold yD kJ;rw[z,u,Ac,Ac];cases I:x != 0 with
 |true=>
  grind
 |false=>
  obtain rfl:x=0:=xw
  have M:=ak1 L u;have hs:=M.small;have J:e.bQ.size<=2000:=hs.sender;rw[BN,BN,(aQv hs).1,(aQv hs).2,aSE _ hs.content,aTf];simp only[Ac];rw[aYD _ hs.content,adY _ hs.content];simp only[Ac]
  have key:∀v,∃c,aH e v=some c/\lM e v=some c/\(c=0->uD e/\Hg e):=λv=>by
   obtain⟨c,j,U⟩:=aiS hs v;refine⟨c,j,U,λY=>⟨M,?_⟩⟩;subst Y;unfold aH at j;obtain⟨_,j⟩:=Jz j Bd;rw[(aVx hs).1,Ac]at j;obtain⟨_,j⟩:=Jz j Bd;rw[(kF (s:=e.bQ) AL).1,Ac]at j;obtain⟨O,_⟩:=Jz (show(cond (!((e.nM.Server.toList==(splitB e.bQ (LH e.bQ)).2.1.toList)&&((e.nM.Sum==e.Id)&&true))) (some 12) (some 0))=some (0:Int)from j) Bd
   have Z:e.nM.Server=(splitB e.bQ (LH e.bQ)).2.1:=by
    cases q:(e.nM.Server.toList==(splitB e.bQ (LH e.bQ)).2.1.toList)with
    |true=>
     exact toList_inj (eq_of_beq q)
    |false=>
     rw[q]at O;cases O
   have hz:=(aY6 e.bQ J).2.2;exact⟨hs.prev,hs.auth,hs.allow,hs.deny,hs.users,hs.kinds,hs.room,hs.sender,hs.key,hs.text,hs.via,by rw[Z];exact hz,hs.allows,hs.denies,hs.names⟩
  cases(!(bV e==e.Hash))with
  |true=>
   rw[Bj,Bj];exact key _
  |false=>
   rw[BN,BN];exact key _
def aLn {f g:(Int->AB Int)->Int->AB Int}(N lo:Nat)(hs:∀k k' (i:Nat),lo<=i->i<N->EC (k ((i+1:Nat):Int)) (k' ((i+1:Nat):Int))->EC (f k (i:Int)) (g k' (i:Int)))(z:∀k k',EC (f k (N:Int)) (g k' (N:Int))):
 ∀n (i:Nat),lo<=i->i+n=N->∀m j,n<m->n<j->EC (bf f m (i:Int)) (bf g j (i:Int)):=by
 intro n
 induction n with
 |zero=>
  intro i u hi m j h1 h2;obtain⟨m,rfl⟩:∃q,m=q+1:=⟨m-1,AL⟩
  obtain⟨j,rfl⟩:∃q,j=q+1:=⟨j-1,AL⟩
  have :i=N:=AL
  subst this;exact z _ _
 |succ n I=>
  intro i u hi m j h1 h2;obtain⟨m,rfl⟩:∃q,m=q+1:=⟨m-1,AL⟩
  obtain⟨j,rfl⟩:∃q,j=q+1:=⟨j-1,AL⟩
  exact hs _ _ i u AL (I (i+1) AL AL m j AL AL)
def lasts {R:Type}{body:(Int->AB R)->Int->AB R}{ok:R}(N:Nat)(L:N<=9223372036854775807)(P:Nat->Prop)(I:∀k (i:Nat),i<N->body k (i:Int)=some ok->P i/\k ((i+1:Nat):Int)=some ok)(q:Nat)(M:q<=N)(h:bf body Am (q:Int)=some ok):(∀i,q<=i->i<N->P i)/\∃k,body k (N:Int)=some ok:=by
 have key:∀n (i:Nat) m,i+n=N->n<m->bf body m (i:Int)=some ok->(∀j,i<=j->j<N->P j)/\∃k,body k (N:Int)=some ok:=by
  intro n
  induction n with
  |zero=>
   intro i m hi hm u;obtain⟨m,rfl⟩:∃z,m=z+1:=⟨m-1,AL⟩
   have :i=N:=AL
   subst this;exact⟨λj h1 h2=>AL,_,u⟩
  |succ n J=>
   intro i m hi hm u;obtain⟨m,rfl⟩:∃z,m=z+1:=⟨m-1,AL⟩
   obtain⟨a,b⟩:=I (bf body m) i AL u;obtain⟨c,d⟩:=J (i+1) m AL AL b;refine⟨λj h1 h2=>?_,d⟩;rcases aLA h1 with rfl|h1
   ·exact a
   exact c j h1 h2
 have O:Am=9223372036854775808:=rfl;exact key (N-q) q Am AL AL h
variable {i:Nat}
def aW5 {l:AA α}(h:i+1<l.length)(hl:l.length<=1000000):Aj l (Az (((i+1:Nat):Int)-1))=some l[i]:=by
 rw[show Az (((i+1:Nat):Int)-1)=(i:Int) by rw[ZX];omega,CM AL]
variable {l:AA Aa}
theorem alg (L:∀e∈l,O1 e)(hl:l.length<=1000):EC (PY l) (SQ l):=by
 by_cases I:l=[]
 ·subst I;exact⟨0,A8,A8⟩
 have q:0<l.length:=oU.2 I;have M:Am=9223372036854775807+1:=rfl
 have h3:EC (aBo l 1) (aDr l 1):=by
  unfold aBo aDr;refine aLn l.length 1 (λk k' i z hi u=>?_) (λk k'=>?_) (l.length-1) 1 (Ec _) AL Am Am AL AL
  ·obtain⟨i,rfl⟩:∃j,i=j+1:=⟨i-1,AL⟩
   unfold a2U aGR;rw[D8 hi,dec_lt hi,Bj,aW5 hi AL,Ac,Ac,CM hi,Ac,wrap_succ (i+1) AL];show EC (cond (l[i+1].Id<=l[i].Id) (some 8) (k _)) (cond (l[i].Id>=l[i+1].Id) (some 8) (k' _));exact I4 (λ_=>.ret _) λ_=>u
  unfold a2U aGR;rw[DN];exact .ret _
 have J:Aj l 0=some l[0]:=CM (i:=0) q
 have h2:EC (rV l 0) (aIv l 1):=by
  have O:∀k,Yl l k 0=k 1:=λk=>by
   unfold Yl;rw[show decide ((0:Int)<(l.length:Int))=true by simpa using q,Bj,J,Ac,Ac,I9];rfl
  have U:rV l 0=bf (Yl l) 9223372036854775807 1:=by
   unfold rV;rw[M];exact O _
  rw[U];unfold aIv;refine aLn l.length 1 (λk k' i z hi u=>?_) (λk k'=>?_) (l.length-1) 1 (Ec _) AL _ Am AL AL
  ·unfold Yl aHt;rw[D8 hi,D8 hi,J,Ac,Ac,wrap_succ i AL];exact I4 (λ_=>.ret _) λ_=>u
  unfold Yl aHt
  grind
 unfold PY SQ;rw[JF (show ¬(l.length:Int)>2000 by omega),BN,BN];unfold aGQ aVz;refine aLn l.length 0 (λk k' i _ hi u=>?_) (λk k'=>?_) l.length 0 (Ec _) AL Am Am AL AL
 ·unfold uZ aGK;obtain⟨c,Y,Z,_⟩:=aRY (L _ (Et hi));rw[D8 hi,D8 hi,Y,Z,Ac,Ac,wrap_succ i AL];exact I4 (λ_=>.ret _) λ_=>u
 unfold uZ aGK
 grind
structure Y0 (l:List Aa):Prop where
 ev:∀e∈l,uD e/\Hg e
 room:∀x∈l,∀y∈l,x.Room=y.Room
 inc:Inc (l.map (·.Id))
theorem aff {f:Nat->Int}:∀(n i j:Nat),(∀k,i<=k->k<j->f k<f (k+1))->i+n=j->0<n->f i<f j:=by
 intro n
 induction n with
 |zero=>
  grind
 |succ n z=>
  intro i j h q _;rcases X0 n with u|u
  ·subst u;rw[←q];exact h i (Ec _) AL
  have a:=h i (Ec _) AL;have b:=z (i+1) j (λk h1 h2=>h k AL h2) AL u;omega
theorem ajP (hw:∀e∈l,O1 e)(hl:l.length<=1000)(h:PY l=some 0):Y0 l:=by
 unfold PY at h;rw[JF (show ¬(l.length:Int)>2000 by omega),BN]at h;unfold aGQ at h
 obtain⟨p1,k1,h⟩:=lasts l.length AL (λi=>∀x,l[i]? =some x->uD x/\Hg x) (λk i hi u=>by
  unfold uZ at u;obtain⟨c,c1,_,c3⟩:=aRY (hw _ (Et hi));rw[D8 hi,c1,Ac,wrap_succ i AL]at u;obtain⟨e,u⟩:=U2 u
  exact⟨λx I=>by rw[EM hi]at I;obtain rfl:=Dv I;exact c3 e,u⟩) 0 (Ef _) h
 unfold uZ at h;rw[DN,BN]at h;unfold rV at h
 obtain⟨p2,k2,h⟩:=lasts l.length AL (λi=>∀x y,l[i]? =some x->l[0]? =some y->x.Room=y.Room) (λk i hi u=>by
  unfold Yl at u;have g0:Aj l 0=some l[0]:=CM (i:=0) AL;rw[D8 hi,g0,Ac,wrap_succ i AL]at u;obtain⟨e,u⟩:=Jz u Bd;refine⟨λx y I J=>?_,u⟩;rw[EM hi]at I;rw[EM AL]at J;obtain rfl:=Dv I;obtain rfl:=Dv J
  exact toList_inj Ut) 0 (Ef _) h
 unfold Yl at h;rw[DN,BN]at h;refine⟨rZ p1,λx I y J=>?_,?_⟩
 ·have key:∀x∈l,∀y,l[0]? =some y->x.Room=y.Room:=rZ λi hi M x I y J=>p2 i hi M x y I J;have h0:0<l.length:=List.length_pos_of_mem I;have e0:l[0]? =some l[0]:=EM h0
  grind
 by_cases U:l=[]
 ·subst U;exact .nil
 have L:0<l.length:=oU.2 U;unfold aBo at h
 obtain⟨p3,_⟩:=lasts l.length AL (λi=>∀j x y,i=j+1->l[i]? =some x->l[j]? =some y->y.Id<x.Id) (λk i hi u=>by
  unfold a2U at u;rw[D8 hi]at u;obtain⟨z,Y,u⟩:=Dn u;obtain⟨e,u⟩:=Jz u Bd;rw[wrap_succ i AL]at u;refine⟨λj x y Z I J=>?_,u⟩;subst Z;rw[aW5 hi AL]at Y;rw[EM hi]at I;rw[EM AL]at J;obtain rfl:=Dv I;obtain rfl:=Dv J;obtain rfl:=Dv Y
  have :=N8 e;omega) 1 L h
 rw[Inc,aG3,KJ];intro i j hi Z hij
 have :=aff (f:=λq=>(l.getD q FU).Id) (j-i) i j (λk h1 h2=>by
  have O:k+1<l.length:=AL
  have :=p3 (k+1) AL O k l[k+1] l[k] rfl (EM O) (EM AL)
  simpa[List.getD,EM O,EM (show k<l.length by omega)]using this) AL AL
 grind
def Y0.ok (h:Y0 l)(hl:l.length<=100):Om l:=⟨hl,λe j=>(h.ev e j).2,ZN h.inc,λe j=>(h.ev e j).1.depth⟩
def aKE (j:∀e∈l,O1 e)(hl:l.length<=100):∃c,PY l=some c/\SQ l=some c/\(c=0->Y0 l):=by
 obtain⟨c,q,u⟩:=alg j AL;exact⟨c,q,u,λh=>ajP j AL (by rw[q,h])⟩
def KE (x:FX):IU:=⟨x.id,x.before,x.after,x.err⟩
def Qd (t:AA FX)(x:Int):IU×AV:=match Ig t x with
 |some y=>(KE y,true)
 |none=>(Vd,false)
def aTm (t:AA FX)(x:Int):(Qd t x).1.After=QG t x:=by unfold Qd QG;cases Ig t x<;>rfl
def aOB (t:AA FX)(x:Int):(Qd t x).1.Err=errOf t x:=by unfold Qd errOf;cases Ig t x<;>rfl
theorem oO (t:AA FX)(x:Int)(O:t.length<=1000000):Y5 (t.map KE) x=some (Qd t x):=by
 unfold Y5 aOj;have hm:(t.map KE).length=t.length:=Di ..;refine dW.eq (ZJ (body:=aGl (t.map KE) x) (Q:=(· =Qd t x)) (λn a _=>∃i:Nat,a=i/\i+n=t.length/\∀j,(q:j<i)->(hl:j<t.length)->¬(t[j].id==x)=true) ?_ Am t.length 0 _ (fuel_lt AL) ⟨0,rfl,AL,λj q=>AL⟩);rintro n a b k ⟨i,rfl,U,I⟩ J;unfold aGl;by_cases hi:i<t.length
 ·have u:i<(t.map KE).length:=AL
  rw[D8 u,CM u,Ac,TF];show dW (cond (t[i].id==x) (some (KE t[i],true)) (k _ b)) _;cases L:t[i].id==x with
  |true=>
   have z:Ig t x=some t[i]:=by
    unfold Ig;rw[List.find?_eq_some_iff_getElem]
    grind
   exact .ret (by unfold Qd;rw[z])
  |false=>
   refine J (n-1) _ _ AL ⟨i+1,wrap_succ i AL,AL,λj q hl=>?_⟩;by_cases e:j=i
   ·subst e;rw[L];simp
   exact I j AL hl
 have :i=t.length:=AL
 subst this;rw[←hm,DN]
 have z:Ig t x=none:=by
  unfold Ig;rw[aBV];intro y M;obtain⟨j,q,rfl⟩:=Ih M;exact I j q q
 exact .ret (by unfold Qd;rw[z])
def aTq (t:AA IU)(x:Int):aB6 t x=Y5 t x:=rfl
theorem aY5 (l:AA Aa)(t:AA FX)(e:Aa)(s:AA BM)(hl:l.length<=100)(hs:EU l)(j:Hg e)(hsl:s.length<=100)(M:t.length<=1000):a0g l (t.map KE) e s=some (Tm l t e s):=by
 have h1:=j.auth;have h2:=a6o l s
 have I:∀v,xK e (t.map KE) l s v=some (cond (v != 0) v (bif e.bJ.any (λx=>errOf t x != 0)then 16 else TL e (Pm l s))):=λv=>by
  unfold xK aRW
  refine dW.eq (Jd e.bJ.length (fuel_lt AL) (λi a=>a=bif v != 0 then v else bif (e.bJ.take i).any (λx=>errOf t x != 0)then 16 else 0) (by cases q:v != 0 with
   |true=>
    rfl
   |false=>exact Zk) (λi a k hi ha O=>?_) λa k ha=>?_)
  ·unfold aLH a1O;rw[D8 hi,aTq,oO _ _ AL,Ac,aOB,wrap_succ i AL];have J:(cond (a==0) (some (errOf t e.bJ[i] != 0)) (some false))=some (a==0&&errOf t e.bJ[i] != 0):=by cases a==0<;>rfl
   rw[J,Ac]
   have u:∀b:Int,b=(cond (a==0&&errOf t e.bJ[i] != 0) 16 a)->b=bif v != 0 then v else bif (e.bJ.take (i+1)).any (λx=>errOf t x != 0)then 16 else 0:=λb L=>by
    rw[a0G hi,L,ha]
    grind
   grind
  unfold aLH;rw[DN,BN,ha,Gn,aay l s hl AL,Ac,aL4 e (Pm l s) AL (aQA hs _) j];cases q:v != 0 with
  |true=>
   simp only[Bj,q];exact .ret rfl
  |false=>
   cases e.bJ.any (λx=>errOf t x != 0)with
   |true=>
    exact .ret rfl
   |false=>
    exact .ret rfl
 unfold a0g Tm a1g;rw[acK l e hl j,Ac,aOh l e AL AL,Ac,aL4 e _ (EK (aBW l e) AL) (hs.from e) j,Ac,I,I];have z:(Vo l e != 0)= !(Vo l e==0):=rfl;rw[z]
 grind
def aDI (l:AA Aa):∀(ids:AA Int) (t:AA FX),(ids.foldl (λt id=>t++[VT l t (ev l id)]) t).length=t.length+ids.length
 | [],t=>rfl
 |x::ids,t=>by rw[Gu,aDI l ids,Ed,GN];simp;omega
theorem aMl (h:Om l):a0K l=some ((FD l).map KE):=by
 have hl:=h.len;have hs:=h.small;have M:=aAD l;unfold a0K;rw[abR l AL,Ac];unfold FD;generalize Pj l=ids at M;unfold aOb;refine dW.eq (Jd ids.length (fuel_lt AL) (λi a=>a=(NR l (ids.take i)).map KE) rfl (λi a k hi ha hk=>?_) λa k ha=>?_)
 ·have O:NM l (NR l (ids.take i)):=a2X hl hs _ _ λy hy=>absurd hy Gh
  have U:(NR l (ids.take i)).length<=100:=by
   have :=aDI l (ids.take i) [];unfold NR;rw[this,Gz,QX];omega
  have q:=aU2 l hi;have he:=a3q hs ids[i];have Y:=he.prev;generalize NR l (ids.take i)=t at ha O U q;subst ha;unfold aH3;rw[D8 hi,KU l _ AL,Ac];have I:(IZ l ids[i]).1=ev l ids[i]:=rfl;unfold aWG;refine TD (body:=aKD (IZ l ids[i]) l k (i:Int)) (Q:=_) (λn a b c=>∃j:Nat,b=j/\j+n=(ev l ids[i]).bG.length/\c=t.map KE/\a=((ev l ids[i]).bG.take j).map (QG t)) ?_ Am (ev l ids[i]).bG.length [] 0 (t.map KE) (fuel_lt AL) ⟨0,rfl,AL,rfl,rfl⟩;rintro n a b c k2 ⟨j,rfl,hn,rfl,ha⟩ Z;unfold aKD;rw[I];by_cases hj:j<(ev l ids[i]).bG.length
  ·have hal:a.length<=j:=yw
   rw[D8 hj,aTq,oO _ _ AL,Ac,aTm,Dp Fp,Ac,wrap_succ j AL];exact Z (n-1) _ _ _ AL ⟨j+1,rfl,AL,rfl,by rw[map_take hj,ha]⟩
  have :j=(ev l ids[i]).bG.length:=AL
  subst this;rw[Gn]at ha;subst ha;rw[DN,BN];have hp:=O.stB hl hs Y;have J:=hp.length
  have hJ:dW (tH l (IZ l ids[i]) k (i:Int) (t.map KE) ⟨(ev l ids[i]).Id,stB l t (ev l ids[i]),[],0⟩) (λx=>x=(NR l ids).map KE):=by
   unfold tH;rw[I];show dW ((a0g l (t.map KE) (ev l ids[i]) (stB l t (ev l ids[i]))).bind _) _;rw[aY5 l t (ev l ids[i]) _ hl hs he AL AL,Ac];have u:VT l t (ev l ids[i])=eB (ev l ids[i]) (stB l t (ev l ids[i])) (Tm l t (ev l ids[i]) (stB l t (ev l ids[i]))):=rfl;rw[u]at q;generalize Tm l t (ev l ids[i]) (stB l t (ev l ids[i]))=r at q;generalize stB l t (ev l ids[i])=s at q J
   have L:∀y:FX,y=eB (ev l ids[i]) s r->dW (xC k (i:Int) (t.map KE) (KE y)) (λx=>x=(NR l ids).map KE):=λy hy=>by
    unfold xC;rw[Dp (by simp only[QK,Di];omega),Ac,wrap_succ i AL]
    grind
   show dW ((cond (r==0) ((UR (ev l ids[i]).Kind).bind λz=>some z) (some false)).bind _) _;rw[a2T,show(cond (r==0) ((some (Ic (ev l ids[i]).Kind)).bind λz=>some z) (some false))=some (r==0&&Ic (ev l ids[i]).Kind) by cases r==0<;>rfl,Ac];cases hc:(r==0&&Ic (ev l ids[i]).Kind)with
   |true=>
    rw[Bj];show dW ((dQ s (ev l ids[i]).Kind (ev l ids[i]).Key (ev l ids[i]).Id).bind _) _;rw[aIM _ _ _ _ AL,Ac];exact L ⟨(ev l ids[i]).Id,s,GL s (ev l ids[i]).Kind (ev l ids[i]).Key (ev l ids[i]).Id,r⟩ (by unfold eB;rw[hc];rfl)
   |false=>
    rw[BN];exact L ⟨(ev l ids[i]).Id,s,s,r⟩ (by unfold eB;rw[hc];rfl)
  by_cases hz:(ev l ids[i]).bG=[]
  ·have hst:stB l t (ev l ids[i])=[]:=by unfold stB;rw[hz];rfl
   grind
  have hpos:0<(ev l ids[i]).bG.length:=oU.2 hz;rw[Lp Yn,Bj,aTt (O.okay hl hs _ AL),Ac];exact hJ
 unfold aH3;rw[DN];exact .ret Yy
def aUY (l:AA Aa)(t:AA FX)(hl:l.length<=1000)(I:t.length<=1000):a6Q l (t.map KE)=some (LP l t):=by
 unfold a6Q aTh;refine dW.eq (Jd l.length (fuel_lt AL) (λi a=>a=LP (l.take i) t) rfl (λi a k hi ha q=>?_) λa k ha=>?_)
 ·have z:a.length<=i:=aNW
  unfold aDJ a5W;have j:(cond ((Qd t l[i].Id).2) (some ((Qd t l[i].Id).1.Err==0)) (some false))=some (Jp t l[i].Id):=by unfold Qd Jp;cases Ig t l[i].Id<;>rfl
  rw[D8 hi,oO _ _ AL,Ac,j,Ac,wrap_succ i AL];cases u:Jp t l[i].Id with
  |true=>
   rw[Bj,CM hi,Ac,Dp Fp,Ac];exact q _ (by rw[a6M hi,u,ha];rfl)
  |false=>exact q _ (by rw[a6M hi,u,ha];simp)
 unfold aDJ;rw[DN];exact .ret Yy
def aiR (l:AA Aa)(t:AA FX)(hl:l.length<=100)(hs:EU l)(q:NM l t)(j:t.length<=1000):a4Z l (t.map KE)=some (YI l t):=by
 have ha:=tu l t;have u:=aVA l (LP l t);unfold a4Z zQ YI;rw[aUY l t AL j,Ac,aN7 l _ AL hs AL,Ac,Ac];generalize RH l (LP l t)=H at u;unfold aTB;refine dW.eq (Jd H.length (fuel_lt AL) (λi a=>a=(H.take i).map (QG t)) rfl (λi a k hi ha z=>?_) λa k ha=>?_)
 ·have I:a.length<=i:=yw
  unfold aJM;rw[D8 hi,oO _ _ AL,Ac,aTm,Dp Fp,Ac,wrap_succ i AL];exact z _ a6q
 rw[Gn]at ha;unfold aJM;rw[DN,BN,ha,aTt (q.okay hl hs _ AL),Ac];cases H with
 |nil=>exact .ret rfl
 |cons x H=>exact .ret rfl
variable {c:Int}
def aDR (u:SQ l=some c)(h:c=0->Om l):pV l=some ((Rk l c).map KE)/\NM l (Rk l c)/\(Rk l c).length<=l.length:=by
 unfold pV aLg Rk;rw[u,Ac];cases z:c==0 with
 |false=>exact⟨rfl,λy q=>absurd q Gh,Ef _⟩
 |true=>
  have j:=h (eq_of_beq z);have hlen:(FD l).length=l.length:=by rw[←aAD l];have :=aDI l (Pj l) [];simpa[FD,NR]using this
  rw[Bj,aX8 l j.len j.small j.dep,Ac,Ac,Ac,GV];cases hd:NI l==0 with
  |false=>exact⟨rfl,λy q=>absurd q Gh,Ef _⟩
  |true=>
   rw[Eh,BN,aMl j,Ac,Bj];exact⟨rfl,aPV j,P6 hlen⟩
def aYc (j:SQ l=some c)(h:c=0->Om l)(hl:l.length<=100)(hs:EU l):a6G l=some (YI l (Rk l c)):=by
 obtain⟨h1,h2,h3⟩:=aDR j h;unfold a6G;rw[h1,Ac,aiR l _ hl hs h2 AL];rfl
def UG (l:AA Aa)(t:AA FX):AA Int:=l.filterMap λe=>(Ig t e.Id).map λy=>bif y.err != 0 then 2 else 4
def ae7 (q:PY l=some c)(h:c=0->Om l):a3I l=some (LP l (Rk l c)):=by
 unfold a3I;refine dW.eq ((run_eq l q h).bind λo j=>?_);rcases j with⟨h1,rfl⟩|⟨h1,j,T,rfl,u⟩
 ·rw[h1,aRQ];exact .ret rfl
 rw[h1];show dW ((aO T.1 T.2.1 T.2.2 l).bind _) _;rw[aMY u j.len];exact .ret rfl
def aik (t:AA FX)(h:i<l.length):UG (l.take (i+1)) t=UG (l.take i) t++((Ig t l[i].Id).map λy=>bif y.err != 0 then 2 else 4).toList:=by
 unfold UG;rw[NU h,bU];congr 1
def adi (l:AA Aa)(t:AA FX):(UG l t).length<=l.length:=List.length_filterMap_le ..
def aTO (u:PY l=some c)(h:c=0->Om l):oJ l=some (UG l (Rk l c)):=by
 unfold oJ;refine dW.eq ((run_eq l u h).bind λo j=>?_);rcases j with⟨h1,rfl⟩|⟨h1,j,T,rfl,z⟩
 ·rw[h1];exact .ret (show[]=UG l []from(List.filterMap_eq_nil_iff.2 λ_ _=>rfl).symm)
 rw[h1];have hl:=j.len;show dW (aFo l [] 0 T.1 T.2.1 T.2.2) _;unfold aFo;refine a3z (body:=aJP l) (Q:=(· =UG l (FD l))) (λn a b c d e=>∃i:Nat,b=i/\i+n=l.length/\a=UG (l.take i) (FD l)/\c=T.1/\d=T.2.1/\e=T.2.2) ?_ Am l.length [] 0 _ _ _ (fuel_lt AL) ⟨0,rfl,AL,rfl,rfl,rfl,rfl⟩;rintro n a b c d e k ⟨i,rfl,M,ha,rfl,rfl,rfl⟩ I;unfold aJP;by_cases hi:i<l.length
 ·have J:a.length<=i:=by rw[ha];exact EK (adi _ _) nV
  obtain⟨y,q⟩:=a5H (dn.2 (Hl.2 ⟨_,Et hi,rfl⟩));unfold a2a;rw[D8 hi,z.err];have L:errOf (FD l) l[i].Id=y.err:=by unfold errOf;rw[q];rfl
  rw[L,show(cond (y.err != 0) (some 2) (some 4))=some (cond (y.err != 0) (2:Int) 4) by cases y.err != 0<;>rfl,Ac,Dp Fp,Ac,wrap_succ i AL];exact I (n-1) _ _ _ _ _ AL ⟨i+1,rfl,AL,by rw[aik _ hi,q,ha];rfl,rfl,rfl,rfl⟩
 have :i=l.length:=AL
 subst this;rw[EG];exact .ret Yy
def kK (hd:NI l=0):Rk l 0=FD l:=by unfold Rk;rw[hd];rfl
def aWf (l:AA Aa)(e:Aa):Nat:=l.findIdx λx=> !decide (x.Id<e.Id)
def afV (l:AA Aa)(e:Aa):AA Aa:=l.take (aWf l e)++e::l.drop (aWf l e)
theorem aRT {p:α->α->AV}(hp:∀x y,p x y=true->x=y){a b:AA α}(h:Lh p a b=true):a=b:=by
 unfold Lh at h;rw[ED]at h;have hlen:a.length=b.length:=by have :=eq_of_beq h.1;omega
 have j:((a.zip b).any λx=> !p x.1 x.2)=false:=by simpa using h.2
 refine lJ hlen λi h1 h2=>?_
 have :=aD5.1 j (a[i],b[i]) (by
  have q:i<(a.zip b).length:=EY
  have :=Et q
  rwa [aDl]at this)
 grind
section
set_option maxHeartbeats 1000000
theorem aNE {k:AA Aa}(j:∀e∈k,Hg e)(hl:k.length<=100)(h:SQ k=some 0):PY k=some 0:=by
 obtain⟨c,u,z,_⟩:=aKE (λe q=>(j e q).wide) hl
 grind
end
section
set_option maxHeartbeats 1000000
structure akN (l:List Aa) (e:Aa):Prop where
 facts:Y0 l
 len:l.length<=50
 deep:NI l=0
 ver:∀x∈l,kJ x=some 0
 fresh:dJ l e.Id=false
 good:kJ e=some 0
 small:Hg e
 room:∀x∈l,x.Room=e.Room
def Uf (l:AA Aa)(e:Aa):AV:=e.Kind==1&&Jp (FD l) e.Id
def MC (l:AA Aa):Nat:=(l.filter (Uf l)).length
end
variable {x:Int}
section
set_option maxHeartbeats 1000000
theorem al9 (u:dJ l x=true):∃h:(l.findIdx λy=>y.Id==x)<l.length,l[l.findIdx λy=>y.Id==x]=ev l x:=by
 obtain⟨q,z⟩:=Qn u
 have j:(l.findIdx λy=>y.Id==x)<l.length:=by
  rw[dZ];exact⟨_,NK q,by rw[z];exact I9 _⟩
 refine⟨j,?_⟩;have h3:l.find? (λy=>y.Id==x)=some (ev l x):=q;rw[Jj,EM j]at h3
 grind
def aWm (h:dJ l x=true):ev l x∈l/\(ev l x).Id=x:=⟨NK (Qn h).1,(Qn h).2⟩
end
variable {r:CJ}
section
set_option maxHeartbeats 1000000
def J6 (l:AA FB)(id:Int):AV:=l.any λx=>x.Id==id
def Vb (r:CJ)(x:FB):AV:=((!Jp (FD r.Events) x.Id)==(x.Status==2))&&((x.Status==2||x.Status==3)||x.Status==4)
def LY (r:CJ)(id:Int):Option FB:=r.Rows.find? λx=>x.Id==id
def QZ (r:CJ)(i:Nat)(id:Int):AV:=match LY r id with
 |none=>false
 |some x=>x.Pos<(i:Int)
def TN (r:CJ)(i:Nat)(x:FB):AV:=dJ r.Events x.Id&&(!J6 (r.Rows.take i) x.Id&&(x.Pos==(i:Int)&&(((ev r.Events x.Id).bG.all (J6 (r.Rows.take i))&&(ev r.Events x.Id).bJ.all (J6 (r.Rows.take i)))&&Vb r x)))
def VW (r:CJ)(i:Nat)(x:FB):AV:=dJ r.Events x.Id&&(x.Pos==(i:Int)&&(((LY r x.Id).map (·.Pos)).getD 0==(i:Int)&&(((ev r.Events x.Id).bG.all (QZ r i)&&(ev r.Events x.Id).bJ.all (QZ r i))&&Vb r x)))
theorem ajt {l:AA FB}{id:Int}:J6 l id=true↔∃j,∃h:j<l.length,l[j].Id=id:=by
 unfold J6;rw[KX];constructor
 ·rintro⟨x,q,h⟩;obtain⟨j,u,rfl⟩:=Ih q
  grind
 grind
theorem aJr {l:AA FB}{id:Int}:J6 (l.take i) id=true↔∃j,∃h:j<l.length,j<i/\l[j].Id=id:=by
 rw[ajt];constructor
 ·grind
 rintro⟨j,u,q,h⟩;exact⟨j,nV,by rw[a5x];exact h⟩
def aJJ {id:Int}{x:FB}(h:LY r id=some x):∃m,∃hm:m<r.Rows.length,r.Rows[m]=x/\x.Id=id:=by
 have h1:=ZW h;obtain⟨m,hm,e⟩:=Ih h1;exact⟨m,hm,e,by simpa using a4A h⟩
theorem aEX {id:Int}(h:LY r id=none):∀j (q:j<r.Rows.length),r.Rows[j].Id≠id:=λj q e=>by
 have :=aBV.1 h _ (Et q)
 grind
structure iM (r:CJ):Prop where
 pos:∀i (h:i<r.Rows.length),r.Rows[i].Pos=(i:Int)
 inj:∀i j (hi:i<r.Rows.length) (hj:j<r.Rows.length),r.Rows[i].Id=r.Rows[j].Id->i=j
def iM.find (h:iM r)(hi:i<r.Rows.length):LY r r.Rows[i].Id=some r.Rows[i]:=by
 cases j:LY r r.Rows[i].Id with
 |none=>exact absurd rfl (aEX j i hi)
 |some x=>
  obtain⟨m,hm,rfl,e⟩:=aJJ j;have :=h.inj m i hm hi e;subst this;rfl
def iM.beh (h:iM r)(i:Nat)(id:Int):QZ r i id=J6 (r.Rows.take i) id:=by
 rw[U8,aJr];unfold QZ;cases u:LY r id with
 |none=>exact⟨λz=>absurd z Bool.false_ne_true,λ⟨j,q,_,e⟩=>absurd e (aEX u j q)⟩
 |some x=>
  obtain⟨m,hm,rfl,e⟩:=aJJ u;show decide (r.Rows[m].Pos<(i:Int))=true↔_;rw[Iu,h.pos m hm];constructor
  ·intro I;exact⟨m,hm,AL,e⟩
  rintro⟨j,q,J,L⟩;have :=h.inj m j hm q (e.trans L.symm);omega
def aek (h:∀i (hi:i<r.Rows.length),TN r i r.Rows[i]=true):iM r:=by
 have hp:∀i (hi:i<r.Rows.length),r.Rows[i].Pos=(i:Int)/\J6 (r.Rows.take i) r.Rows[i].Id=false:=λi hi=>by
  have :=h i hi;unfold TN at this;simp only[ED,VR,Vg]at this;exact⟨this.2.2.1,this.2.1⟩
 have q:∀i j (hi:i<r.Rows.length) (u:j<r.Rows.length),r.Rows[i].Id=r.Rows[j].Id->¬i<j:=λi j hi u e z=>by
  have :=aJr.2 ⟨i,hi,z,e⟩;rw[(hp j u).2]at this;cases this
 refine⟨λi hi=>(hp i hi).1,λi j hi u e=>?_⟩;have a:=q i j hi u e;have b:=q j i u hi e.symm;omega
theorem alb (h:∀i (hi:i<r.Rows.length),VW r i r.Rows[i]=true):iM r:=by
 have hp:∀i (hi:i<r.Rows.length),r.Rows[i].Pos=(i:Int)/\((LY r r.Rows[i].Id).map (·.Pos)).getD 0=(i:Int):=λi hi=>by
  have :=h i hi;unfold VW at this
  grind
 have u:∀i (hi:i<r.Rows.length),LY r r.Rows[i].Id=some r.Rows[i]:=λi hi=>by
  have h1:=(hp i hi).2;cases q:LY r r.Rows[i].Id with
  |none=>
   exact absurd rfl (aEX q i hi)
  |some x=>
   obtain⟨m,hm,rfl,_⟩:=aJJ q;rw[q]at h1;have h2:r.Rows[m].Pos=(i:Int):=h1;rw[(hp m hm).1]at h2;have :m=i:=AL
   subst this;rfl
 refine⟨λi hi=>(hp i hi).1,λi j hi z e=>?_⟩;have h1:=u i hi
 grind
def aVH (h:iM r)(hi:i<r.Rows.length):VW r i r.Rows[i]=TN r i r.Rows[i]:=by
 have h1:QZ r i=J6 (r.Rows.take i):=funext λid=>h.beh i id
 have h2:J6 (r.Rows.take i) r.Rows[i].Id=false:=by
  cases q:J6 (r.Rows.take i) r.Rows[i].Id with
  |false=>rfl
  |true=>
   obtain⟨j,u,z,e⟩:=aJr.1 q;have :=h.inj j i u hi e;omega
 unfold VW TN;rw[h1,h2,h.find hi,h.pos i hi];rw[JV,NQ,h.pos i hi];simp
def Qm (r:CJ):AV:=(List.range r.Rows.length).all λi=>TN r i (r.Rows.getD i KC)
def aS (r:CJ):AV:=(List.range r.Rows.length).all λi=>VW r i (r.Rows.getD i KC)
theorem kE {l:AA FB}{p:Nat->FB->AV}:((List.range l.length).all λi=>p i (l.getD i KC))=true↔∀i (hi:i<l.length),p i l[i]=true:=by
 rw[Fq];constructor
 ·intro h i hi;have :=h i (jU.2 hi)
  grind
 grind
def ae4 (r:CJ):aS r=Qm r:=by
 rw[U8];unfold aS Qm;rw[kE,kE];exact⟨λh i hi=>by rw[←aVH (alb h) hi];exact h i hi,λh i hi=>by rw[aVH (aek h) hi];exact h i hi⟩
def rP (r:CJ):AV:=(((r.Rows.length==r.Events.length)&&(r.Next==(r.Rows.length:Int)))&&(MC r.Events<=1))&&Qm r
end
section
set_option maxRecDepth 20000
set_option maxHeartbeats 1000000
def aJ7 (k:Int)(v:AV)(x:Int):∀m:AA (Int×AV),x∈(Dy m k v).map (·.1)↔x=k\/x∈m.map (·.1)
 | []=>by unfold Dy;simp
 |p::m=>by
  unfold Dy;cases j:k==p.1 with
  |true=>
   rw[Bj,Gg,Gg,FI,FI,eq_of_beq j];exact⟨λh=>h.elim .inl λh=>.inr (.inr h),λh=>h.elim .inl λh=>h.elim .inl .inr⟩
  |false=>
   rw[BN,Gg,Gg,FI,FI,aJ7 k v x m];exact⟨λh=>h.elim (λh=>.inr (.inl h)) λh=>h.elim .inl λh=>.inr (.inr h),λh=>h.elim (λh=>.inr (.inl h)) λh=>h.elim .inl λh=>.inr (.inr h)⟩
def aUX (k:Int)(v:AV):∀m:AA (Int×AV),(m.map (·.1)).Nodup->((Dy m k v).map (·.1)).Nodup
 | [],_=>by unfold Dy;simp
 |p::m,h=>by
  rw[Gg,LC]at h;unfold Dy;cases j:k==p.1 with
  |true=>
   rw[Bj,Gg,LC,eq_of_beq j];exact h
  |false=>
   rw[BN,Gg,LC];refine⟨λhm=>?_,aUX k v m h.2⟩;rcases(aJ7 k v p.1 m).1 hm with e|e
   ·rw[e,I9]at j;cases j
   exact h.1 e
def aCn (k x:Int):∀m:AA (Int×AV),(m.map (·.1)).Nodup->(x∈(KP m k).map (·.1)↔x∈m.map (·.1)/\x≠k)
 | [],_=>by unfold KP;simp
 |p::m,h=>by
  rw[Gg,LC]at h;unfold KP;cases u:k==p.1 with
  |true=>
   rw[Bj,Gg,FI,←eq_of_beq u];rw[←eq_of_beq u]at h;exact⟨λj=>⟨.inr j,λe=>h.1 (e▸j)⟩,λ⟨j,q⟩=>j.elim (λe=>absurd e q) id⟩
  |false=>
   rw[BN,Gg,Gg,FI,FI,aCn k x m h.2];refine⟨λj=>j.elim (λe=>⟨.inl e,λz=>?_⟩) λ⟨a,b⟩=>⟨.inr a,b⟩,λ⟨j,q⟩=>j.elim .inl λa=>.inr ⟨a,q⟩⟩;rw[←z,e,I9]at u;cases u
theorem aSX (k:Int):∀m:AA (Int×AV),(m.map (·.1)).Nodup->((KP m k).map (·.1)).Nodup
 | [],_=>by unfold KP;simp
 |p::m,h=>by
  have j:=h;rw[Gg,LC]at h;unfold KP;cases q:k==p.1 with
  |true=>
   grind
  |false=>
   rw[BN,Gg,LC];exact⟨λhm=>h.1 ((aCn k p.1 m h.2).1 hm).1,aSX k m h.2⟩
theorem aCh :∀(g:AA Int) (m:AA (Int×AV)),(m.map (·.1)).Nodup->((g.foldl (λa x=>Dy a x true) m).map (·.1)).Nodup/\∀x,x∈(g.foldl (λa x=>Dy a x true) m).map (·.1)↔x∈m.map (·.1)\/x∈g
 | [],m,h=>⟨h,λx=>BU⟩
 |y::g,m,h=>by
  rw[Gu];obtain⟨j,q⟩:=aCh g (Dy m y true) (aUX y true m h);refine⟨j,λx=>?_⟩;rw[q,aJ7,FI]
  grind
theorem aSH :∀(l:AA Aa) (m:AA (Int×AV)),(m.map (·.1)).Nodup->((l.foldl (λa e=>KP a e.Id) m).map (·.1)).Nodup/\∀x,x∈(l.foldl (λa e=>KP a e.Id) m).map (·.1)↔x∈m.map (·.1)/\x∉l.map (·.Id)
 | [],m,h=>⟨h,λx=>BU⟩
 |e::l,m,h=>by
  rw[Gu];obtain⟨j,q⟩:=aSH l (KP m e.Id) (aSX e.Id m h);refine⟨j,λx=>?_⟩;rw[q,aCn _ _ _ h,Gg,FI]
  grind
def aRp :∀(m:AA (Int×AV)) (r:AA Int),r.length+m.length<=1000000000->List.foldlM dz r m=some (r++m.map (·.1))
 | [],r,_=>BU
 |p::m,r,h=>by
  rw[GN]at h
  have e:dz r p=some (r++[p.1]):=by
   unfold dz;rw[Dp Fp];rfl
  rw[U7,e];show List.foldlM dz (r++[p.1]) m=_;rw[aRp m (r++[p.1]) (by rw[Ed,QK];omega),Il];rfl
theorem aNh {m:AA (Int×AV)}(hm:m.length<=1000000000):WS m=some (LW (m.map (·.1))):=by
 unfold WS
 have h1:Ir 8 (0:Int) 0 (m.length:Int)=some []:=by
  unfold Ir
  grind
 rw[h1,Ac,aRp m [] RD,IE,Ac];unfold qX Oc
 grind
def aSv {l:AA Int}(h:l.Nodup):Inc (LW l):=by
 have z:(LW l).Nodup:=(St l).nodup_iff.2 h;have hp:(LW l).Pairwise (λa b=>a<=b):=Fin l;unfold Inc;rw[KJ]at hp ⊢;intro i j hi u q;have h1:=hp i j hi u q;have h2:(LW l)[i]≠(LW l)[j]:=KJ.1 (aJn.1 z) i j hi u q;omega
def a5v (l:AA Aa)(g:AA Int)(hl:l.length<=1000)(I:g.length<=500000000):aT l g=some (PI l g):=by
 obtain⟨J,q⟩:=aCh g [] WZ;obtain⟨u,z⟩:=aSH l _ J
 have hlen:((l.foldl (λa e=>KP a e.Id) (g.foldl (λa x=>Dy a x true) [])).map (·.1)).length<=g.length:=zI5 u λx L=>by
  rcases(q x).1 ((z x).1 L).1 with h|h
  ·exact absurd h Gh
  exact h
 rw[Di]at hlen;have hs:=aNh (m:=l.foldl (λa e=>KP a e.Id) (g.foldl (λa x=>Dy a x true) [])) (EK hlen (EK I AL))
 have M:LW ((l.foldl (λa e=>KP a e.Id) (g.foldl (λa x=>Dy a x true) [])).map (·.1))=PI l g:=Du (aSv u) (akj _ _) λx=>by
  rw[(St _).mem_iff,z,q,kL]
  have O:dJ l x=false↔x∉l.map (·.Id):=by
   rw[←dn];cases dJ l x<;>simp
  rw[O];simp
 rw[M]at hs
 have U:∀m:AA (Int×AV),a1i l 0 m=(WS (l.foldl (λa e=>KP a e.Id) m)).bind λj=>some j:=λm=>by
  unfold a1i
  exact XP (body:=a1V l) l AL (λa e=>KP a e.Id) (λ_ _=>True) (λa=>(WS a).bind λj=>some j) trivial (λk a i h _=>⟨trivial,by
   unfold a1V
   rw[D8 h]⟩) λk a _=>by
   unfold a1V;rw[DN,BN]
 unfold aT aOI
 rw[XP (body:=a4L g l) g AL (λa x=>Dy a x true) (λ_ _=>True) (λa=>a1i l 0 a) trivial (λk a i h _=>⟨trivial,by
    unfold a4L
    rw[D8 h]⟩) λk a _=>by
    unfold a4L
    rw[DN,BN],U,hs]
 rfl
def aBO {g:AA Int}:(((PI l g).length:Int)==0)=g.all (dJ l):=by
 rw[U8,VR,Fq];constructor
 ·intro h x j;cases q:dJ l x with
  |true=>rfl
  |false=>
   have hm:=kL.2 ⟨j,q⟩;have :=List.length_pos_of_mem hm;omega
 intro h;cases u:PI l g with
 |nil=>rfl
 |cons y t=>
  have z:y∈PI l g:=by rw[u];exact I8 ..
  obtain⟨a,b⟩:=kL.1 z;rw[h y a]at b;cases b
theorem ready_eq (l:AA Aa)(e:Aa)(hl:l.length<=1000)(j:Hg e):pK l e=some (MS l e):=by
 have h1:=j.prev;have h2:=j.auth;unfold pK MS;rw[a5v l _ hl AL,a5v l _ hl AL,Ac,aBO,Ac,aBO]
 grind
theorem aQb (I:Om l):UG l (FD l)=l.map λe=>bif Jp (FD l) e.Id then 4 else 2:=by
 have :∀m:AA Aa,(∀e∈m,e∈l)->UG m (FD l)=m.map λe=>bif Jp (FD l) e.Id then(4:Int)else 2:=by
  intro m
  induction m with
  |nil=>
   exact λ_=>rfl
  |cons e m j=>
   intro h;have j:=j λx u=>h x (Ii _ u);unfold UG at j ⊢;obtain⟨y,q⟩:=a5H (dn.2 (Hl.2 ⟨e,h e (I8 ..),rfl⟩));have z:Jp (FD l) e.Id=(y.err==0):=by unfold Jp;rw[q]
   rw[Vx,q,JV,Gg,j,z];show(cond (!(y.err==0)) (2:Int) 4)::_=_;cases y.err==0<;>rfl
 grind
def amZ (L:PY l=some 0)(z:Om l)(hd:NI l=0):nD l=some (MC l:Int):=by
 have hl:=z.len;have hs:=aTO L λ_=>z;rw[kK hd,aQb z]at hs;unfold nD;rw[hs,Ac];unfold aQy;refine dW.eq (Jd l.length (fuel_lt AL) (λi a=>a=(((l.take i).filter (Uf l)).length:Int)) rfl (λi a k hi ha I=>?_) λa k ha=>?_)
 ·have M:((l.take i).filter (Uf l)).length<=i:=EK (Kt ..) nV;have u:i<(l.map λe=>bif Jp (FD l) e.Id then(4:Int)else 2).length:=a2V
  have J:=CM u;rw[TF]at J;have q:=a0k (p:=Uf l) hi;unfold aLO aBi;rw[D8 hi,dec_lt u,J];have j:Uf l l[i]=(l[i].Kind==1&&Jp (FD l) l[i].Id):=rfl;cases h1:l[i].Kind==1 with
  |false=>
   rw[h1,aGO]at j;rw[j]at q;simp only[BN,Ac];rw[wrap_succ i AL];exact I _ (by rw[ha,q];simp)
  |true=>
   rw[h1,GV]at j;simp only[Bj,Ac];cases h2:Jp (FD l) l[i].Id with
   |false=>
    rw[h2]at j;rw[j]at q;rw[show((cond false (4:Int) 2)==4)=false from rfl,BN,wrap_succ i AL];exact I _ (by rw[ha,q];simp)
   |true=>
    rw[h2]at j;rw[j]at q;rw[show((cond true (4:Int) 2)==4)=true from rfl,Bj,wrap_succ i AL,ha,wrap_succ _ AL];exact I _ (by rw[q];simp)
 unfold aLO;rw[DN,BN,ha,Gn];exact .ret rfl
def akC (q:PY l=some 0)(j:Om l)(hd:NI l=0):wX l=some (RH l (LP l (FD l))):=by
 have hl:=j.len;have ha:=ae7 q λ_=>j;rw[kK hd]at ha;have u:=tu l (FD l);unfold wX;rw[ha,Ac,aTp l _ hl j.small AL];rfl
end
section
set_option maxRecDepth 20000
set_option maxHeartbeats 1000000
def aWl (r:CJ)(id:Int):∀(n:Nat) (a:Int) (b:FB),aP (UK r id) n a b=bf (λk i=>UK r id (λj _=>k j) i KC) n a
 |0,_,_=>rfl
 |n+1,a,b=>by
  have q:aP (UK r id) n=λj _=>bf (λk i=>UK r id (λj _=>k j) i KC) n j:=funext λa=>funext λb=>aWl r id n a b;show UK r id (aP (UK r id) n) a b=UK r id (λj _=>bf (λk i=>UK r id (λj _=>k j) i KC) n j) a KC;rw[q];rfl
def W9 (r:CJ)(id:Int):FB×AV:=match LY r id with
 |some x=>(x,true)
 |none=>(KC,false)
theorem abq (r:CJ)(id:Int)(hl:r.Rows.length<=1000000):Yf r id=some (W9 r id):=by
 unfold Yf aQd;rw[aWl,JY r.Rows (fuel_lt AL) (λx=>x.Id==id) (λi=>match r.Rows[i]? with |some x=>some (x,true)|none=>none) (some (KC,false))]
 ·unfold W9 LY;rw[Jj]
  grind
 ·intro k i h;unfold UK;rw[D8 h,EM h]
 intro k;unfold UK;rw[DN,BN]
end
section
set_option maxRecDepth 20000
set_option maxHeartbeats 1000000
def afW (l:AA Aa)(e:Aa)(hl:l.length<=1000)(j:Hg e):a5t l e=some (MS l e):=by
 have h1:=j.prev;have h2:=j.auth;unfold a5t MS;rw[cV l _ hl AL,cV l _ hl AL,Ac,aBO,Ac,aBO];cases e.bG.all (dJ l)<;>rfl
def aOp (r:CJ)(id:Int):∀(n:Nat) (a:Int) (b:FB),aP (UU r id) n a b=bf (λk i=>UU r id (λj _=>k j) i KC) n a
 |0,_,_=>rfl
 |n+1,a,b=>by
  have q:aP (UU r id) n=λj _=>bf (λk i=>UU r id (λj _=>k j) i KC) n j:=funext λa=>funext λb=>aOp r id n a b;show UU r id (aP (UU r id) n) a b=UU r id (λj _=>bf (λk i=>UU r id (λj _=>k j) i KC) n j) a KC;rw[q];rfl
def row24 (r:CJ)(id:Int)(hl:r.Rows.length<=1000000):dG r id=some (W9 r id):=by
 unfold dG aOK;rw[aOp,JY r.Rows (fuel_lt AL) (λx=>x.Id==id) (λi=>match r.Rows[i]? with |some x=>some (x,true)|none=>none) (some (KC,false))]
 ·unfold W9 LY;rw[Jj];by_cases h:r.Rows.findIdx (λx=>x.Id==id)<r.Rows.length
  ·rw[ES h,EM h]
  rw[EZ h,Ns AL]
 ·intro k i h;unfold UU;rw[D8 h,EM h,CM h];rfl
 intro k;unfold UU;rw[DN,BN]
def ahX (I:Om l):a3E l=some (MC l:Int):=by
 have hl:=I.len
 have M:(FD l).length<=1000:=by
  have h1:=Au List.length (aOV l);rw[Di,aAD]at h1;omega
 unfold a3E;rw[aMl I,Ac];unfold aSW;refine dW.eq (Jd l.length (fuel_lt AL) (λi a=>a=(((l.take i).filter (Uf l)).length:Int)) rfl (λi a k hi ha J=>?_) λa k ha=>?_)
 ·have O:((l.take i).filter (Uf l)).length<=i:=EK (Kt ..) nV;have q:=a0k (p:=Uf l) hi;obtain⟨y,L⟩:=a5H (dn.2 (Hl.2 ⟨_,Et hi,rfl⟩));have U:Qd (FD l) l[i].Id=(KE y,true):=by unfold Qd;rw[L]
  have z:Jp (FD l) l[i].Id=(y.err==0):=by unfold Jp;rw[L]
  have j:Uf l l[i]=(l[i].Kind==1&&(y.err==0)):=by unfold Uf;rw[z]
  have u:Uf l l[i]=false->dW (YH k (i:Int) a) (λx=>x=(MC l:Int)):=λhm=>by
   rw[hm]at q;unfold YH;rw[wrap_succ i AL];exact J _ (by rw[ha,q];simp)
  unfold aFf;rw[D8 hi,oO _ _ AL,Ac,CM hi,Ac,U];cases h1:l[i].Kind==1 with
  |false=>
   rw[h1,aGO]at j;exact u j
  |true=>
   rw[h1,GV]at j;show dW (cond (y.err==0) (YH k (i:Int) (Az (a+1))) (YH k (i:Int) a)) _;cases h2:y.err==0 with
   |false=>rw[h2]at j;exact u j
   |true=>
    rw[h2]at j;rw[j]at q;rw[Bj];unfold YH;rw[wrap_succ i AL,ha,wrap_succ _ AL];exact J _ (by rw[q];simp)
 unfold aFf;rw[DN,BN,ha,Gn];exact .ret rfl
def aUS (r:CJ)(ids:AA Int)(i:Nat)(q:r.Rows.length<=1000000)(hi:ids.length<=1000000):yh r ids (i:Int)=some (ids.all (QZ r i)):=by
 unfold yh aUW;rw[Gj ids (fuel_lt AL) (λx=> !QZ r i x) false (some true) (λk j u=>?_) λk=>?_]
 ·rw[nS];cases ids.all (QZ r i)<;>rfl
 ·unfold aEC;rw[D8 u,row24 _ _ q,Ac];unfold QZ W9;cases LY r ids[j]with
  |none=>rfl
  |some x=>
   show((cond (!true) (some true) (some (decide (x.Pos>=(i:Int))))).bind λz=>bif z then some false else k (Az ((j:Int)+1)))=bif !decide (x.Pos<(i:Int))then some false else k (Az ((j:Int)+1))
   rw[←a4f];rfl
 unfold aEC;rw[DN,BN]
def amm (hc:SQ r.Events=some 0)(hF:Y0 r.Events)(hd:NI r.Events=0)(hl:r.Events.length<=100)(hr:r.Rows.length<=1000):a2P r=some (rP r):=by
 have Z:=hF.ok hl;obtain⟨t1,_,t3⟩:=aDR hc λ_=>Z;rw[kK hd]at t1 t3;unfold a2P;rw[ahX Z,Ac]
 have hx:((cond ((r.Rows.length:Int) != (r.Events.length:Int)) (some true) (some (r.Next != (r.Rows.length:Int)))).bind λx1=>(cond x1 (some true) (some (decide ((MC r.Events:Int)>1)))))=some (!(((r.Rows.length==r.Events.length)&&(r.Next==(r.Rows.length:Int)))&&(MC r.Events<=1))):=by
  have e1:((r.Rows.length:Int) != (r.Events.length:Int))= !(r.Rows.length==r.Events.length):=by
   by_cases h:r.Rows.length=r.Events.length
   ·rw[h];simp
   rw[show(r.Rows.length==r.Events.length)=false by simpa using h,Ip,bne_iff_ne];omega
  have e2:decide ((MC r.Events:Int)>1)= !decide (MC r.Events<=1):=by
   by_cases h:MC r.Events<=1
   ·rw[Lp h,JF AL];rfl
   rw[JF h,Lp AL];rfl
  rw[e1,e2];cases r.Rows.length==r.Events.length with
  |false=>rfl
  |true=>
   show(cond (r.Next != (r.Rows.length:Int)) _ _)=_;cases J:r.Next==(r.Rows.length:Int)with
   |false=>rw[show(r.Next != (r.Rows.length:Int))=true by simpa[bne]using J];rfl
   |true=>rw[show(r.Next != (r.Rows.length:Int))=false by simpa[bne]using J];rfl
 have hx':∀{F:AV->AB AV},(((cond ((r.Rows.length:Int) != (r.Events.length:Int)) (some true) (some (r.Next != (r.Rows.length:Int)))).bind λx1=>(cond x1 (some true) (some (decide ((MC r.Events:Int)>1)))).bind F))=F (!(((r.Rows.length==r.Events.length)&&(r.Next==(r.Rows.length:Int)))&&(MC r.Events<=1))):=λ{F}=>by
  rw[←Option.bind_assoc,hx];rfl
 refine Eq.trans hx' ?_;unfold rP;cases J:(((r.Rows.length==r.Events.length)&&(r.Next==(r.Rows.length:Int)))&&(MC r.Events<=1))with
 |false=>rfl
 |true=>
  rw[Eh,BN,t1,Ac,GV,←ae4];unfold aVu;refine dW.eq (rJ r.Rows.length (fuel_lt AL) (λi=>∀j (L:j<r.Rows.length),j<i->VW r j r.Rows[j]=true) (λj L h=>absurd h (aC _)) (λi k hi hI hk=>?_) λk hI=>?_)
  ·have u:VW r i r.Rows[i]=false->dW (some false) (λx=>x=aS r):=λJ=>by
    refine .ret ?_;cases hz:aS r with
    |false=>rfl
    |true=>
     unfold aS at hz;rw[kE.1 hz i hi]at J;cases J
   have z:VW r i r.Rows[i]=true->dW (k (Az ((i:Int)+1))) (λx=>x=aS r):=λJ=>by
    rw[wrap_succ i AL];refine hk λj L hji=>?_;by_cases e:j=i
    ·subst e;exact J
    exact hI j L AL
   have hev:(IZ r.Events r.Rows[i].Id).1=ev r.Events r.Rows[i].Id:=rfl
   have hsm:(ev r.Events r.Rows[i].Id).bG.length<=1000/\(ev r.Events r.Rows[i].Id).bJ.length<=1000:=by
    have :=a3q Z.small r.Rows[i].Id;have h1:=this.prev;have h2:=this.auth;omega
   unfold aFX;rw[D8 hi,row24 _ _ AL,Ac,KU _ _ AL,Ac,oO _ _ AL,Ac,hev,aUS r _ i AL AL,aUS r _ i AL AL,Nj,aOB];simp only[Ac];rw[show(En r.Events r.Rows[i].Id).isSome=dJ r.Events r.Rows[i].Id from rfl]
   have M:(W9 r r.Rows[i].Id).1.Pos=((LY r r.Rows[i].Id).map (·.Pos)).getD 0:=by
    unfold W9;cases LY r r.Rows[i].Id<;>rfl
   rw[M];have I:VW r i r.Rows[i]=(dJ r.Events r.Rows[i].Id&&(r.Rows[i].Pos==(i:Int)&&(((LY r r.Rows[i].Id).map (·.Pos)).getD 0==(i:Int)&&(((ev r.Events r.Rows[i].Id).bG.all (QZ r i)&&(ev r.Events r.Rows[i].Id).bJ.all (QZ r i))&&Vb r r.Rows[i])))):=rfl;cases c1:dJ r.Events r.Rows[i].Id with
   |false=>exact u (by rw[I,c1];rfl)
   |true=>
   cases O:r.Rows[i].Pos==(i:Int)with
   |false=>
    rw[show(r.Rows[i].Pos != (i:Int))=true by simpa[bne]using O];exact u (by rw[I,O];simp)
   |true=>
   rw[show(r.Rows[i].Pos != (i:Int))=false by simpa[bne]using O];cases U:((LY r r.Rows[i].Id).map (·.Pos)).getD 0==(i:Int)with
   |false=>
    rw[show(((LY r r.Rows[i].Id).map (·.Pos)).getD 0 != (i:Int))=true by simpa[bne]using U];exact u (by rw[I,U];simp)
   |true=>
   rw[show(((LY r r.Rows[i].Id).map (·.Pos)).getD 0 != (i:Int))=false by simpa[bne]using U];cases c4:(ev r.Events r.Rows[i].Id).bG.all (QZ r i)with
   |false=>exact u (by rw[I,c4];simp)
   |true=>
   cases c5:(ev r.Events r.Rows[i].Id).bJ.all (QZ r i)with
   |false=>exact u (by rw[I,c5];simp)
   |true=>
   have hst:Vb r r.Rows[i]=(((errOf (FD r.Events) r.Rows[i].Id != 0)==(r.Rows[i].Status==2))&&((r.Rows[i].Status==2||r.Rows[i].Status==3)||r.Rows[i].Status==4)):=by
    unfold Vb;rw[aLz c1];rfl
   have q:VW r i r.Rows[i]=Vb r r.Rows[i]:=by rw[I,c1,O,U,c4,c5];rfl
   rw[hst]at q;show dW ((cond (!((errOf (FD r.Events) r.Rows[i].Id != 0)==(r.Rows[i].Status==2))) (some true) ((cond (r.Rows[i].Status != 2) (some (r.Rows[i].Status != 3)) (some false)).bind λx28=>(cond x28 (some (r.Rows[i].Status != 4)) (some false)).bind λx30=>some x30)).bind λTB=>(cond TB (some false) (k (Az ((i:Int)+1))))) _;cases c6:(errOf (FD r.Events) r.Rows[i].Id != 0)==(r.Rows[i].Status==2)with
   |false=>rw[c6]at q;exact u q
   |true=>
   rw[c6,GV]at q;unfold bne;cases Y:r.Rows[i].Status==2 with
   |true=>rw[Y]at q;exact z q
   |false=>
   cases c8:r.Rows[i].Status==3 with
   |true=>rw[Y,c8]at q;exact z q
   |false=>
   cases c9:r.Rows[i].Status==4 with
   |true=>rw[Y,c8,c9]at q;exact z q
   |false=>rw[Y,c8,c9]at q;exact u q
  unfold aFX;rw[DN,BN];refine .ret ?_;unfold aS;exact(kE.2 λj L=>hI j L L).symm
end
variable {a:AA Int}{b:AA BM}
section
set_option maxRecDepth 20000
set_option maxHeartbeats 1000000
theorem aTv (z:∀e∈l,O1 e)(hl:l.length<=100):dW (gK r l) (λc=>c=0->SQ l=some 0/\Y0 l/\∀x∈l,x.Room=r.Id):=by
 obtain⟨c,_,I,J⟩:=aKE z hl;unfold gK;rw[I,Ac];refine dW.bif (λq=>?_) λq=>.ret λh=>?_
 ·obtain rfl:c=0:=eq_of_beq q;have u:=J rfl;refine dW.bif (λh1=>?_) λh1=>.ret λ_=>⟨rfl,u,?_⟩
  ·have j:0<l.length:=by have :=VB h1;omega
   rw[show Aj l 0=some l[0]from CM j,Ac];unfold jJ;refine dW.bif (λ_=>.ret λh=>IK) λh2=>.ret λ_=>⟨rfl,u,λx L=>?_⟩
   have :l[0].Room=r.Id:=toList_inj LM;rw[u.room x L _ (Et j),this]
  grind
 have h:c=0:=h;rw[h]at q;cases q
theorem ahy {b:AA Int}(ha:a.length<=1000):dW (Rx a b) (λc=>c=true->a=b):=by
 unfold Rx;refine dW.bif (λ_=>.ret λh=>IK) λh=>?_
 have j:a.length=b.length:=by
  grind
 unfold aJT
 rw[Um (λx y:Int=>x==y) a b ha j false (some true) (λk i h h'=>by
  unfold qP
  rw[dec_lt h,Bj,CM h,CM h',Ac,Ac];rfl) λk=>by
  unfold qP
  rw[DN,BN]]
 refine dW.bif (λ_=>.ret λh=>IK) λq=>.ret λ_=>?_;refine aRT (p:=λx y:Int=>x==y) (λx y h=>eq_of_beq h) ?_;unfold Lh
 grind
def Ux (x y:BM):AV:=(x.Kind==y.Kind)&&((x.Key.toList==y.Key.toList)&&(x.Id==y.Id))
def aZ1 {x y:BM}(h:Ux x y=true):x=y:=by
 unfold Ux at h;simp only[ED,VR]at h;obtain⟨h1,h2,h3⟩:=h;cases x;cases y;simp only at *;rw[h1,toList_inj h2,h3]
theorem ac2 {a:AA BM}(ha:a.length<=1000):dW (UF a b) (λc=>c=true->a=b):=by
 unfold UF;refine dW.bif (λ_=>.ret λh=>IK) λh=>?_
 have j:a.length=b.length:=by
  grind
 unfold a6D
 rw[Um Ux a b ha j false (some true) (λk i h h'=>by
  unfold YQ dV Ux;rw[dec_lt h,Bj,CM h,CM h',Ac,Ac];unfold bne;cases a[i].Kind==b[i].Kind with
  |false=>rfl
  |true=>
   simp only[Ac];cases a[i].Key.toList==b[i].Key.toList with
   |false=>rfl
   |true=>cases a[i].Id==b[i].Id<;>rfl) λk=>by
  unfold YQ
  rw[DN,BN]]
 refine dW.bif (λ_=>.ret λh=>IK) λq=>.ret λ_=>?_;refine aRT (p:=Ux) (λx y h=>aZ1 h) ?_;unfold Lh
 grind
end
section
set_option maxRecDepth 20000
set_option maxHeartbeats 1000000
def aNv :aJ=some true:=A8
def LD {body:(Int->AB AV)->Int->AB AV}(l:AA α)(hl:l.length<=1000000000)(rest:AB AV)(j:∀k (i:Nat) (h:i<l.length),body k (i:Int)=k (Az ((i:Int)+1)))(q:∀k,body k (l.length:Int)=rest):bf body Am 0=rest:=by
 have key:∀n (i:Nat),i+n=l.length->∀m,n<m->bf body m (i:Int)=rest:=by
  intro n
  induction n with
  |zero=>
   intro i hi m hm;obtain⟨m,rfl⟩:∃k,m=k+1:=⟨m-1,AL⟩
   rw[show i=l.length by omega];exact q _
  |succ n u=>
   intro i hi m hm;obtain⟨m,rfl⟩:∃k,m=k+1:=⟨m-1,AL⟩
   have :=j (bf body m) i AL;rw[wrap_succ i AL]at this;exact this.trans (u (i+1) AL m AL)
 exact key l.length 0 AL Am (fuel_lt AL)
def N7 (n:Int):(n != n)=false:=BU
def aPq {l:AA Int}(h:l.length<=1000000000):wH l l=some true:=by
 unfold wH aSw;rw[N7,BN];exact LD l AL _ (λk i h=>by simp only[aEp,dec_lt h,Bj,CM h,Ac,TY,BN]) (λk=>by simp only[aEp,DN,BN])
def aVI {l:AA BL}(h:l.length<=1000000000):Td l l=some true:=by
 unfold Td a6n;rw[N7,BN];exact LD l AL _ (λk i h=>aMj) (λk=>aHW)
def ahC {l:Cm}(h1:l.Users.length<=1000000000)(h2:l.Kinds.length<=1000000000):Wj l l=some true:=by
 have h3:Xz l l 0=some true:=by
  unfold Xz;exact LD l.Kinds h2 _ (λk i h=>by simp only[o7,dec_lt h,Bj,CM h,Ac,TY,BN,zi]) (λk=>by simp only[o7,DN,BN,I9,Bj,Ac])
 unfold Wj;rw[N7,N7,BN,Ac,BN];unfold a0Q;exact LD l.Users h1 _ (λk i h=>by simp only[jy,dec_lt h,Bj,CM h,Ac,I9,Eh,TY,BN,vS]) (λk=>by simp only[jy,DN,BN];exact h3)
def aho {c:D7}(h1:c.Allow.length<=1000000000)(h2:c.iw.length<=1000000000)(h3:c.Levels.Users.length<=1000000000)(j:c.Levels.Kinds.length<=1000000000):U1 c c=some true:=by
 unfold U1;simp only[I9,Bj,Ac,aVI h1,aVI h2,ahC h3 j]
def aOe {l:AA FB}(h:l.length<=1000):nH l l=some true:=by
 unfold nH aV6;rw[N7,BN];exact LD l AL _ (λk i h=>by simp only[aKe,dec_lt h,Bj,CM h,Ac,ML,I9,Iz,Eh,BN]) (λk=>by simp only[aKe,DN,BN])
def aGp {l:AA Int}(h:l.length<=1000000000):Rx l l=some true:=by
 unfold Rx aJT;rw[N7,BN];exact LD l AL _ (λk i h=>by simp only[qP,dec_lt h,Bj,CM h,Ac,TY,BN]) (λk=>by simp only[qP,DN,BN])
def aV8 {l:AA BM}(h:l.length<=1000):UF l l=some true:=by
 unfold UF a6D;rw[N7,BN];exact LD l AL _ (λk i h=>by simp only[YQ,dV,dec_lt h,Bj,CM h,Ac,TY,I9,Eh,BN]) (λk=>by simp only[YQ,DN,BN])
def aZW (h1:r.jO.length<=1000)(h2:r.oG.length<=1000):jX r r=some true:=by
 have h3:zS r r 0=some true:=by
  unfold zS;exact LD r.oG AL _ (λk i h=>by simp only[a4i,dec_lt h,Bj,CM h,Ac,fA,I9,Iz,Eh,BN]) (λk=>by simp only[a4i,DN,BN])
 unfold jX;rw[N7,N7,BN,Ac,BN];unfold yK;exact LD r.jO AL _ (λk i h=>by simp only[a5T,dec_lt h,Bj,CM h,Ac,iC,I9,Iz,Eh,BN]) (λk=>by simp only[a5T,DN,BN];exact h3)
theorem amq (r:CJ):dW (wE r) (λb=>b=true->r.Events.length<=12/\r.Waiting.length<=8/\r.Rows.length<=30/\r.mJ.length<=30/\r.State.length<=60/\r.jO.length<=30/\r.oG.length<=30):=by
 unfold wE;simp only[Md,Ac,Vp];refine .ret λh=>?_
 grind
end
section
set_option maxRecDepth 20000
set_option maxHeartbeats 1000000
theorem aai (j:AA (AA Int))(hl:j.length<=1000)(h:∀x∈j,x.length<=1000):s0 j=some j.flatten:=by
 have u:∀m:AA (AA Int),(∀x∈m,x.length<=1000)->m.flatten.length<=m.length*1000:=by
  intro m
  induction m with
  |nil=>
   grind
  |cons x m z=>
   intro hm;have h1:=hm x (I8 ..);have h2:=z λy I=>hm y (Ii _ I);rw[List.flatten_cons,Ed,GN];omega
 have q:∀{i:Nat} (hi:i<j.length),(j.take (i+1)).flatten=(j.take i).flatten++j[i]:=λ{i} hi=>by
  rw[NU hi,List.flatten_append];simp
 have hlen:∀i,(j.take i).flatten.length<=1000000:=λi=>by
  have h1:=u (j.take i) λx J=>h x (a0D J)
  grind
 unfold s0 aUp;refine dW.eq (Jd j.length (fuel_lt AL) (λi a=>a=((j.take i).flatten.length:Int)) rfl (λi a k hi ha L=>?_) λa k ha=>?_)
 ·have h1:=hlen (i+1);have h2:=Au List.length (q hi);rw[Ed]at h2;unfold a3W;rw[D8 hi,ha,P5 AL AL,JF AL,BN,wrap_succ i AL]
  grind
 have h1:=hlen j.length
 have M:a2C a=some []:=by
  unfold a2C cD
  grind
 unfold a3W;rw[DN,BN,M,Ac];unfold aUJ;refine Jd j.length (fuel_lt AL) (λi a=>a=(j.take i).flatten) rfl (λi a k hi ha L=>?_) λa k ha=>?_
 ·have h1:=hlen (i+1);have h2:=Au List.length (q hi);rw[Ed]at h2;unfold a5g;rw[D8 hi,ha,Dp AL,Ac,wrap_succ i AL]
  grind
 unfold a5g;rw[DN,BN,ha,Gn];exact .ret rfl
theorem contains_eq (hl:l.length<=1000){f:Aa->AB AV}(p:Aa->AV)(j:∀x∈l,f x=some (p x)):a0B l f=some (l.any p):=by
 have h1:Uy l f=some (if l.findIdx p<l.length then((l.findIdx p:Nat):Int)else -1):=by
  unfold Uy aFP;rw[JY l (fuel_lt AL) p (λi=>some (i:Int)) (some (-1))]
  ·split<;>rfl
  ·intro k i h;unfold sV;rw[D8 h,j _ (Et h)];rfl
  intro k;unfold sV;rw[EG]
 unfold a0B;rw[h1,Ac];by_cases h:l.findIdx p<l.length
 ·rw[ES h,Lp AL]
  grind
 rw[EZ h,JF AL];cases q:l.any p with
 |false=>
  rfl
 |true=>
  grind
def au (r:CJ)(i:Nat)(m:AA (Int×Int)):Prop:=∀id,(DF m id).isSome=J6 (r.Rows.take i) id/\∀v,DF m id=some v->v<(i:Int)
def alD (hi:i<r.Rows.length)(id:Int):J6 (r.Rows.take (i+1)) id=(J6 (r.Rows.take i) id||r.Rows[i].Id==id):=by
 unfold J6;rw[NU hi,a3T];simp
theorem aaE (hi:i<r.Rows.length){m:AA (Int×Int)}(h:au r i m):au r (i+1) (Dy m r.Rows[i].Id (i:Int)):=λid=>by
 obtain⟨h1,h2⟩:=h id;rw[P9,alD hi]
 grind
def YZ (r:CJ):AA Int:=r.Events.map λe=>bif Jp (FD r.Events) e.Id then 4 else 2
def aeE (h:i<(YZ r).length)(h':i<r.Events.length):(YZ r)[i]=bif Jp (FD r.Events) r.Events[i].Id then 4 else 2:=TF ..
def adV (r:CJ):au r 0 []:=λid=>⟨by unfold J6 DF;simp,λv j=>by unfold DF at j;cases j⟩
def an7 {T:AA Int}(hs:∀n (a:Int) b c k,(∃i:Nat,a=i/\i+n=r.Rows.length/\b=r/\au r i c/\∀j (q:j<r.Rows.length),j<i->TN r j r.Rows[j]=true)->(∀m' (a':Int) b' c',m'<n->(∃i:Nat,a'=i/\i+m'=r.Rows.length/\b'=r/\au r i c'/\∀j (q:j<r.Rows.length),j<i->TN r j r.Rows[j]=true)->dW (k a' b' c') (· =Qm r))->dW (dX r T k a b c) (· =Qm r))(hl:r.Rows.length<=1000):dW (iK (dX r T) Am 0 r []) (· =Qm r):=by
 have u:∃i:Nat,(0:Int)=i/\i+r.Rows.length=r.Rows.length/\r=r/\au r i []/\∀j (q:j<r.Rows.length),j<i->TN r j r.Rows[j]=true:=⟨0,rfl,Js _,rfl,adV r,λj q h=>absurd h (aC _)⟩
 exact TD (body:=dX r T) (Q:=(· =Qm r)) (λn (a:Int) (b:CJ) (c:AA (Int×Int))=>∃i:Nat,a=i/\i+n=r.Rows.length/\b=r/\au r i c/\∀j (q:j<r.Rows.length),j<i->TN r j r.Rows[j]=true) hs Am r.Rows.length 0 r [] (fuel_lt AL) u
def ahK (hc:SQ r.Events=some 0)(hF:Y0 r.Events)(hd:NI r.Events=0)(hl:r.Events.length<=100)(hr:r.Rows.length<=1000):a3n r=some (rP r):=by
 have ho:=hF.ok hl;have U:=aNE ho.small AL hc;have hst:=aTO U λ_=>ho;rw[kK hd,aQb ho]at hst;have hst:oJ r.Events=some (YZ r):=hst;unfold a3n;rw[amZ U ho hd,Ac,hst];unfold rP
 have J:∀F:AB AV,((cond ((r.Rows.length:Int) != (r.Events.length:Int)) (some true) (some (r.Next != (r.Rows.length:Int)))).bind λx1=>(cond x1 (some true) (some (decide ((MC r.Events:Int)>1)))).bind λx3=>(cond x3 (some false) F))=bif (((r.Rows.length==r.Events.length)&&(r.Next==(r.Rows.length:Int)))&&(MC r.Events<=1))then F else some false:=λF=>by
  have e1:((r.Rows.length:Int) != (r.Events.length:Int))= !(r.Rows.length==r.Events.length):=by
   by_cases h:r.Rows.length=r.Events.length
   ·rw[h];simp
   rw[show(r.Rows.length==r.Events.length)=false by simpa using h,Ip,bne_iff_ne];omega
  have e2:decide ((MC r.Events:Int)>1)= !decide (MC r.Events<=1):=by
   by_cases h:MC r.Events<=1
   ·rw[Lp h,JF AL];rfl
   rw[JF h,Lp AL];rfl
  rw[e1,e2];unfold bne;cases r.Rows.length==r.Events.length<;>cases r.Next==(r.Rows.length:Int)<;>cases decide (MC r.Events<=1)<;>rfl
 refine Eq.trans (J _) ?_;cases Y:(((r.Rows.length==r.Events.length)&&(r.Next==(r.Rows.length:Int)))&&(MC r.Events<=1))with
 |false=>rfl
 |true=>
  rw[Bj,GV,Ac];refine dW.eq (o:=iK (dX r (YZ r)) Am 0 r []) (an7 (r:=r) (T:=YZ r) ?_ hr);rintro n a b c k ⟨i,rfl,hn,rfl,hP,hI⟩ hk;by_cases hi:i<b.Rows.length
  ·have q:TN b i b.Rows[i]=false->dW (some false) (λx=>x=Qm b):=λY=>by
    refine .ret ?_;cases hz:Qm b with
    |false=>rfl
    |true=>
     unfold Qm at hz;rw[kE.1 hz i hi]at Y;cases Y
   have L:TN b i b.Rows[i]=true->dW (k (Az ((i:Int)+1)) b (Dy c b.Rows[i].Id (i:Int))) (λx=>x=Qm b):=λY=>by
    refine hk (n-1) _ _ _ AL ⟨i+1,wrap_succ i AL,AL,rfl,aaE hi hP,λj M hji=>?_⟩;by_cases e:j=i
    ·subst e;exact Y
    exact hI j M AL
   have I:TN b i b.Rows[i]=(dJ b.Events b.Rows[i].Id&&(!J6 (b.Rows.take i) b.Rows[i].Id&&(b.Rows[i].Pos==(i:Int)&&(((ev b.Events b.Rows[i].Id).bG.all (J6 (b.Rows.take i))&&(ev b.Events b.Rows[i].Id).bJ.all (J6 (b.Rows.take i)))&&Vb b b.Rows[i])))):=rfl;unfold dX;rw[D8 hi,a5M b.Events AL (λa0=>a3k a0 b.Rows[i]) (λa0=>a0.Id==b.Rows[i].Id) λ_=>rfl,Ac];cases O:dJ b.Events b.Rows[i].Id with
   |false=>
    have hno:¬(b.Events.findIdx λa0=>a0.Id==b.Rows[i].Id)<b.Events.length:=λh=>by
     rw[dZ]at h;obtain⟨x,J,hxe⟩:=h;have :=dn.2 (Hl.2 ⟨x,J,eq_of_beq hxe⟩);rw[O]at this;cases this
    rw[EZ hno];exact q (by rw[I,O];rfl)
   |true=>
   obtain⟨u,Z⟩:=al9 O;rw[ES u,JF (show ¬((b.Events.findIdx λa0=>a0.Id==b.Rows[i].Id:Nat):Int)<0 by omega),BN,(hP b.Rows[i].Id).1,Ac];cases c2:J6 (b.Rows.take i) b.Rows[i].Id with
   |true=>exact q (by rw[I,c2];simp)
   |false=>
   rw[BN,Ac];cases c3:b.Rows[i].Pos==(i:Int)with
   |false=>
    rw[show(b.Rows[i].Pos != (i:Int))=true by simpa[bne]using c3];exact q (by rw[I,c3];simp)
   |true=>
   have hml:(b.Events.findIdx λy=>y.Id==b.Rows[i].Id)<(YZ b).length:=by unfold YZ;rw[Di];exact u
   have hg:Aj (YZ b) ((b.Events.findIdx λy=>y.Id==b.Rows[i].Id:Nat):Int)=some (cond (Jp (FD b.Events) b.Rows[i].Id) 4 2):=by
    rw[CM hml,aeE hml u,Z,(aWm O).2]
   have hsm:=(hF.ev _ (aWm O).1).2;have h1:=hsm.prev;have h2:=hsm.auth
   have hcc:=aai [(ev b.Events b.Rows[i].Id).bG,(ev b.Events b.Rows[i].Id).bJ] BU (by
    intro x J;rcases FI.1 J with rfl|J
    ·omega
    rw[Np.1 J];omega)
   rw[show(b.Rows[i].Pos != (i:Int))=false by simpa[bne]using c3,BN,Ac,JF AL,BN,CM u,Z,Ac,Ac,hcc,Ac];have hfl:[(ev b.Events b.Rows[i].Id).bG,(ev b.Events b.Rows[i].Id).bJ].flatten=(ev b.Events b.Rows[i].Id).bG++(ev b.Events b.Rows[i].Id).bJ:=BU
   rw[hfl];unfold aUR;rw[Gj ((ev b.Events b.Rows[i].Id).bG++(ev b.Events b.Rows[i].Id).bJ) (fuel_lt L8) (λz=> !J6 (b.Rows.take i) z) false (cond (Vb b b.Rows[i]) (k (Az ((i:Int)+1)) b (Dy c b.Rows[i].Id (i:Int))) (some false)) (λg j M=>?_) λg=>?_]
   ·have hall:(((ev b.Events b.Rows[i].Id).bG++(ev b.Events b.Rows[i].Id).bJ).any λz=> !J6 (b.Rows.take i) z)= !((ev b.Events b.Rows[i].Id).bG.all (J6 (b.Rows.take i))&&(ev b.Events b.Rows[i].Id).bJ.all (J6 (b.Rows.take i))):=by
     rw[←List.all_append,List.any_eq_not_all_not];simp
    rw[hall];cases c4:((ev b.Events b.Rows[i].Id).bG.all (J6 (b.Rows.take i))&&(ev b.Events b.Rows[i].Id).bJ.all (J6 (b.Rows.take i)))with
    |false=>exact q (by rw[I,c4];simp)
    |true=>
     rw[Eh,BN];cases c5:Vb b b.Rows[i]with
     |false=>exact q (by rw[I,c5];simp)
     |true=>exact L (by rw[I,O,c2,c3,c4,c5];rfl)
   ·unfold aLV;rw[D8 M,P9];generalize((ev b.Events b.Rows[i].Id).bG++(ev b.Events b.Rows[i].Id).bJ)[j]=z;obtain⟨p1,p2⟩:=hP z;cases hz:z==b.Rows[i].Id with
    |true=>
     have :J6 (b.Rows.take i) z=false:=by rw[eq_of_beq hz];exact c2
     rw[this];show(cond (!(some (i:Int)).isSome) _ (some (decide ((some (i:Int)).getD 0>=(i:Int))))).bind _=_;rw[show decide ((some (i:Int)).getD 0>=(i:Int))=true from Lp (a5N _)];rfl
    |false=>
     rw[BN];cases hm:DF c z with
     |none=>
      rw[hm]at p1;rw[←p1];rfl
     |some v=>
      rw[hm]at p1;have :=p2 v hm;rw[←p1];show(cond (!(some v).isSome) _ (some (decide ((some v).getD 0>=(i:Int))))).bind _=_;rw[show decide ((some v).getD 0>=(i:Int))=false from JF (by show ¬v>=(i:Int);omega)];rfl
   unfold aLV;rw[DN,BN,hg,Ac];unfold Vb bne;cases Jp (FD b.Events) b.Rows[i].Id<;>cases b.Rows[i].Status==2<;>cases b.Rows[i].Status==3<;>cases b.Rows[i].Status==4<;>rfl
  have :i=b.Rows.length:=AL
  subst this;unfold dX;rw[DN,BN];refine .ret ?_
  have :Qm b=true:=by
   unfold Qm;rw[kE];exact λj M=>hI j M M
  rw[this]
theorem aUF (I:∀e∈l,O1 e)(hl:l.length<=100):∃c,uf r l=some c/\gK r l=some c:=by
 obtain⟨c,J,L,M⟩:=aKE I hl;unfold uf gK;rw[J,L,Ac,Ac];by_cases u:c=0
 ·subst u;have z:=M rfl
  have j:a3b l r 0=bif l.any (λx=> !(x.Room.toList==r.Id.toList))then some 13 else some 0:=by
   unfold a3b;refine Gj l (fuel_lt AL) (λx=> !(x.Room.toList==r.Id.toList)) 13 (some 0) (λk i hi=>?_) λk=>?_
   ·unfold aIc;rw[D8 hi]
   unfold aIc
   grind
  show ∃c,a3b l r 0=some c/\(cond ((l.length:Int)>0) _ _)=some c;rw[j]
  match l,z with
  | [],_=>
      exact⟨0,rfl,rfl⟩
  |x::l,z=>
   have q:((x::l).any λx=> !(x.Room.toList==r.Id.toList))= !(x.Room.toList==r.Id.toList):=by
    cases O:(x.Room.toList==r.Id.toList)with
    |false=>
     grind
    |true=>
     rw[Eh,aD5];intro y U;rw[z.room y U x (I8 ..),O];simp
   rw[q,Lp (by rw[GN];omega),Bj,show Aj (x::l) 0=some x from rfl,Ac];unfold jJ;cases !(x.Room.toList==r.Id.toList)with
   |false=>
    exact⟨0,rfl,rfl⟩
   |true=>
    exact⟨13,rfl,rfl⟩
 rw[show(c != 0)=true by simpa using u,show(c==0)=false by simpa using u];exact⟨c,rfl,rfl⟩
theorem aYG {a:AA BM}(ha:a.length<=1000):WE a b=UF a b:=by
 unfold WE UF;cases u:((a.length:Int) != (b.length:Int))with
 |true=>
  rfl
 |false=>
  have j:a.length=b.length:=by
   grind
  rw[BN,BN];unfold aDb a6D
  have q:bf (YQ a b) Am 0=bif (a.zip b).any λx=> !Ux x.1 x.2 then some false else some true:=Um Ux a b ha j false (some true) (λk i h h'=>by
   unfold YQ dV Ux;rw[dec_lt h,Bj,CM h,CM h',Ac,Ac];unfold bne;cases a[i].Kind==b[i].Kind with
   |false=>rfl
   |true=>
    simp only[Ac];cases a[i].Key.toList==b[i].Key.toList with
    |false=>rfl
    |true=>cases a[i].Id==b[i].Id<;>rfl) λk=>by
   unfold YQ;rw[DN,BN]
  rw[q];refine Um Ux a b ha j false (some true) (λk i h h'=>?_) λk=>?_
  ·unfold wY Res Ux;rw[dec_lt h,Bj,CM h,CM h',Ac,Ac,Iz]
  unfold wY;rw[DN,BN]
def ak4 (a b:AA Int):SY a b=Rx a b:=rfl
theorem anQ (J:r.Id.size<=9223372036854775807)(hw:∀e∈r.Events,O1 e)(L:∀e∈r.Waiting,O1 e)(hl:r.Events.length<=100)(M:r.Waiting.length<=100)(O:r.Rows.length<=1000)(hlh:r.mJ.length<=1000)(U:r.State.length<=1000):
 ∃c,kS r=some c/\a0b r=some c:=by
 have one:∀{x y:AB Int} {c:Int},x=some c->y=some c->∃c,x=some c/\y=some c:=λh k=>⟨_,h,k⟩
 unfold kS a0b;rw[(ZC J).1,(ZC J).2,Ac,Ac];cases h1:SP r.Id != 0 with
 |true=>
  exact one rfl rfl
 |false=>
 obtain⟨c,o1,o2⟩:=aUF (r:=r) hw hl;obtain⟨c',o3,hc⟩:=aTv (r:=r) hw hl;obtain rfl:c=c':=Dv (o2.symm.trans o3);rw[o1,o2,BN,BN,Ac,Ac];by_cases h0:c=0
 ·subst h0;obtain⟨Y,g2,g3⟩:=hc rfl;have j:=g2.ok hl;have Z:=aNE j.small AL Y;show ∃c,(iG r.Events).bind _=some c/\(oM r.Events).bind _=some c;rw[aX8 _ hl j.small j.dep,aSD _ hl j.small j.dep,Ac,Ac];unfold jv;cases h2:NI r.Events != 0 with
  |true=>
   exact one rfl rfl
  |false=>
  have hd:NI r.Events=0:=LM
  rw[amm Y g2 hd hl O,ahK Y g2 hd hl O,BN,BN,Ac,Ac];cases h3:rP r with
  |false=>
   exact one rfl rfl
  |true=>
  obtain⟨w,w1,w2⟩:=aUF (r:=r) L M;obtain⟨w',w3,hwc⟩:=aTv (r:=r) L M;obtain rfl:w=w':=Dv (w2.symm.trans w3);unfold aKG;rw[w1,w2,Eh,BN,BN,Ac,Ac];by_cases hw0:w=0
  ·subst hw0;obtain⟨q1,q2,q3⟩:=hwc rfl;have hsm:∀e∈r.Waiting,Hg e:=λe he=>(q2.ev e he).2
   have hL2:aDN r 0=bif r.Waiting.any (MS r.Events)then some 26 else some 0:=by
    unfold aDN;refine Gj r.Waiting (fuel_lt AL) (MS r.Events) 26 (some 0) (λk i hi=>?_) (λk=>?_)
    ·unfold aIi;rw[D8 hi,afW _ _ AL (hsm _ (Et hi)),Ac]
    unfold aIi
    grind
   have hL1:a1y r 0=bif r.Waiting.any (λx=>dJ r.Events x.Id)then some 4 else bif r.Waiting.any (MS r.Events)then some 26 else some 0:=by
    unfold a1y;refine Gj r.Waiting (fuel_lt AL) (λx=>dJ r.Events x.Id) 4 _ (λk i hi=>?_) (λk=>?_)
    ·unfold aJL;rw[D8 hi,KU _ _ AL,Ac,Nj];rfl
    unfold aJL
    grind
   have h2c:oW r r=some (r.Waiting.any λx=>dJ r.Events x.Id):=by
    unfold oW
    rw[contains_eq AL (λx=>dJ r.Events x.Id) λx hx=>by
     unfold a4w
     rw[NG _ _ AL,Ac,Nj];rfl];rfl
   have h3c:vN r=some (r.Waiting.any (MS r.Events)):=by
    unfold vN
    rw[contains_eq AL (MS r.Events) λx hx=>by
     unfold aAZ
     rw[ready_eq _ _ AL (hsm x hx)];rfl];rfl
   have h4c:rC r=some false:=by
    unfold rC
    grind
   show ∃c,(oW r r).bind _=some c/\(a1y r 0).bind _=some c;rw[h2c,hL1,Ac];cases n1:r.Waiting.any (λx=>dJ r.Events x.Id)with
   |true=>
    exact one rfl rfl
   |false=>
   rw[BN,BN,h3c,Ac];cases n2:r.Waiting.any (MS r.Events)with
   |true=>
    exact one rfl rfl
   |false=>
   rw[BN,BN,h4c];show ∃c,(qh r).bind _=some c/\(sG r.Events).bind _=some c;obtain⟨t1,t2,t3⟩:=aDR Y λ_=>j;rw[kK hd]at t1 t2 t3;have hal:=tu r.Events (FD r.Events)
   have z:sG r.Events=some (RH r.Events (LP r.Events (FD r.Events))):=by
    unfold sG zQ;rw[t1,Ac,aUY _ _ AL AL,Ac,aN7 _ _ AL j.small AL];rfl
   have I:=aYc Y (λ_=>j) hl j.small;have q:=akm Z λ_=>j;rw[kK hd]at I q;unfold qh;rw[akC Z j hd,z,Ac,Ac,ak4];obtain⟨s,s1,_⟩:=ahy (b:=RH r.Events (LP r.Events (FD r.Events))) hlh;rw[s1,Ac,Ac];cases s with
   |false=>
    exact one rfl rfl
   |true=>
   obtain⟨u,u1,_⟩:=ac2 (b:=YI r.Events (FD r.Events)) U;rw[Eh,BN,BN,q,I,Ac,Ac,aYG U,u1,Ac,Ac];cases u with
   |false=>
    exact one rfl rfl
   |true=>
    exact one rfl rfl
  grind
 rw[show(c != 0)=true by simpa using h0,show(c==0)=false by simpa using h0];refine one rfl ?_;show jv r c=some c;unfold jv;rw[show(c != 0)=true by simpa using h0];rfl
end
variable {a:CJ}
section
set_option maxRecDepth 20000
set_option maxHeartbeats 1000000
structure MI (e:Aa):Prop where
 prev:e.bG.length<=1048576
 auth:e.bJ.length<=1048576
 allow:e.Content.Allow.length<=1048576
 deny:e.Content.iw.length<=1048576
 users:e.Content.Levels.Users.length<=1048576
 kinds:e.Content.Levels.Kinds.length<=1048576
def mid_zero :MI FU:=⟨Ef _,Ef _,Ef _,Ef _,Ef _,Ef _⟩
def Ri (e:Aa):AA Int:=e.bG++e.bJ
def PV (l:AA Aa):AA Int:=F7 (l.flatMap Ri)
def foldl_flat {A α β:Type}(g:α->AA β)(f:A->β->A):∀(l:AA α) (a:A),l.foldl (λa x=>(g x).foldl f a) a=(l.flatMap g).foldl f a
 | [],_=>rfl
 |x::l,a=>by rw[Gu,OZ,Qk,foldl_flat g f l]
def aHj (h:∀e∈l,MI e):(l.flatMap Ri).length<=l.length*2097152:=qm λe j=>by
 have :=(h e j).prev;have :=(h e j).auth;unfold Ri;rw[Ed];omega
def aXC (l:AA Aa)(hl:l.length<=100)(h:∀e∈l,MI e):a0e l=some (PV l):=by
 have hlen:=aHj h;obtain⟨I,J⟩:=aCh (l.flatMap Ri) [] WZ
 have hm:((l.flatMap Ri).foldl (λa x=>Dy a x true) []).length<=1000000000:=by
  have :=zI5 I λx L=>((J x).1 L).elim (λh=>absurd h Gh) id;rw[Di]at this;omega
 have hs:=aNh hm
 have M:LW (((l.flatMap Ri).foldl (λa x=>Dy a x true) []).map (·.1))=PV l:=Du (aSv I) (Ll _) λx=>by
  rw[(St _).mem_iff,J];unfold PV;rw[MP];simp
 rw[M]at hs;unfold a0e aOW;refine(XP (body:=a4U l) l AL (λa e=>(Ri e).foldl (λa x=>Dy a x true) a) (λ_ _=>True) (λa=>(WS a).bind λq=>some q) trivial (λk a i hi _=>⟨trivial,?_⟩) (λk a _=>?_)).trans ?_
 ·have :=(h _ (Et hi)).prev;have :=(h _ (Et hi)).auth;unfold a4U;rw[D8 hi];unfold aVc;refine(XP (body:=a6L l[i] k (i:Int)) l[i].bG AL (λa x=>Dy a x true) (λ_ _=>True) (λa=>aLh l[i] k (i:Int) 0 a) trivial (λk2 u j z _=>⟨trivial,by unfold a6L;rw[D8 z]⟩) λk2 u _=>by unfold a6L;rw[DN,BN]).trans ?_;unfold aLh;refine(XP (body:=a1T l[i] k (i:Int)) l[i].bJ AL (λa x=>Dy a x true) (λ_ _=>True) (λa=>k (Az ((i:Int)+1)) a) trivial (λk2 u j z _=>⟨trivial,by unfold a1T;rw[D8 z]⟩) λk2 u _=>by unfold a1T;rw[DN,BN]).trans ?_;unfold Ri;rw[Qk]
 ·unfold a4U;rw[DN,BN]
 rw[foldl_flat,hs];rfl
def aCF :∀(g a:AA Int),(g.foldl put a).length<=a.length+g.length
 | [],a=>Ec _
 |x::g,a=>by
  have h1:=aCF g (put a x);have h2:=WB a x;rw[Gu,GN];omega
def abW (l:AA Aa)(i:Nat)(hi:i<l.length)(hm:MI l[i])(k:AA Int->Int->AB (AA Int)){a:AA Int}(z:Inc a)(ha:a.length<=500000000):wo l (i:Int) k a 0=k ((Ri l[i]).foldl put a) (Az ((i:Int)+1)):=by
 have h1:=hm.prev;have h2:=hm.auth;have hp:Inc (l[i].bG.foldl put a):=lq z;have I:=aCF l[i].bG a;unfold wo;refine(H8 (body:=jw l (i:Int) k) l[i].bG AL put (λj b=>Inc b/\b.length<=a.length+j) (λb=>lu l (i:Int) k b 0) ⟨z,Ec _⟩ (λk2 b j u q=>⟨⟨Pn q.1,by have :=WB b l[i].bG[j];have :=q.2;omega⟩,?_⟩) λk2 b q=>?_).trans ?_
 ·unfold jw;simp only[CM hi,Ac];rw[D8 u,uy b _ q.1 (by have :=q.2;omega),Ac]
 ·unfold jw;simp only[CM hi,Ac];rw[DN,BN]
 unfold lu;refine(H8 (body:=jW l (i:Int) k) l[i].bJ AL put (λj b=>Inc b/\b.length<=a.length+1048576+j) (λb=>k b (Az ((i:Int)+1))) ⟨hp,AL⟩ (λk2 b j u q=>⟨⟨Pn q.1,by have :=WB b l[i].bJ[j];have :=q.2;omega⟩,?_⟩) λk2 b q=>?_).trans ?_
 ·unfold jW;simp only[CM hi,Ac];rw[D8 u,uy b _ q.1 (by have :=q.2;omega),Ac]
 ·unfold jW;simp only[CM hi,Ac];rw[DN,BN]
 unfold Ri;rw[Qk]
def aVS (l:AA Aa)(hl:l.length<=100)(h:∀e∈l,MI e):Yc l=some (PV l):=by
 unfold Yc aIs;refine(H8 (body:=mG l) l AL (λa e=>(Ri e).foldl put a) (λi a=>Inc a/\a.length<=i*2097152) some ⟨.nil,BU⟩ (λk a i hi j=>?_) λk a _=>?_).trans ?_
 ·have hm:=h _ (Et hi);have h1:=hm.prev;have h2:=hm.auth;have h3:=j.2;have q:=aCF (Ri l[i]) a;have u:(Ri l[i]).length=l[i].bG.length+l[i].bJ.length:=Ed ..;refine⟨⟨lq j.1,AL⟩,?_⟩;unfold mG;rw[dec_lt hi,Bj,abW l i hi hm k j.1 AL]
 ·unfold mG;rw[DN,BN]
 rw[foldl_flat];rfl
def abd (a b:AA Int)(h:a.length<=274877906944)(h2:b.length<=274877906944):aA2 a b=some (Hr a b):=by
 unfold aA2 nJ;rw[Dp EY];simp only[Ac,IE];rw[Dp AL];simp only[Ac];rw[Zv _ EY,Ac];unfold Hr F7;rw[Qk]
def ah2 (hl:r.Events.length<=50)(j:r.Waiting.length<=50)(h:∀e∈r.Events,MI e)(k:∀e∈r.Waiting,MI e):∃m,dD r=some m/\uX r=some m/\m.length<=1000000000:=by
 have l1:(PV r.Events).length<=104857600:=EK (LU _) (EK (aHj h) AL);have l2:(PV r.Waiting).length<=104857600:=EK (LU _) (EK (aHj k) AL)
 have l3:(Hr (PV r.Events) (PV r.Waiting)).length<=500000000:=by
  have h1:=aCF (PV r.Waiting) (F7 (PV r.Events));have h2:=LU (PV r.Events);unfold Hr;omega
 have l4:=a6f r.Events (Hr (PV r.Events) (PV r.Waiting));have l5:=a6f r.Waiting (PI r.Events (Hr (PV r.Events) (PV r.Waiting)));refine⟨_,?_,?_,EK l5 AL⟩
 ·unfold dD;rw[aXC _ AL h,aXC _ AL k,Ac,Ac,abd _ _ AL AL,Ac,a5v _ _ AL l3,Ac,a5v _ _ AL AL];rfl
 unfold uX;rw[aVS _ AL h,aVS _ AL k,Ac,Ac,um _ _ AL AL,Ac,cV _ _ AL l3,Ac,cV _ _ AL AL];rfl
def aPI (h:MI e):oH e e=some true:=by
 have :=h.prev;have :=h.auth;have h1:=h.allow;have h2:=h.deny;have h3:=h.users;have j:=h.kinds;unfold oH;simp only[I9,Bj,Ac,aPq (l:=e.bG) AL,aPq (l:=e.bJ) AL,aho (c:=e.Content) AL AL AL AL]
def aBK {l:AA Int}(h:l.length<=1000000000):SY l l=some true:=by
 unfold SY aQx;rw[N7,BN];exact LD l h _ (λk i h=>by simp only[aHL,dec_lt h,Bj,CM h,Ac,TY,BN]) (λk=>by simp only[aHL,DN,BN])
def aPk {l:AA BL}(h:l.length<=1000000000):iD l l=some true:=by
 unfold iD aCR;rw[N7,BN];exact LD l h _ (λk i h=>by simp only[su,dec_lt h,Bj,CM h,Ac,I9,Eh,BN]) (λk=>by simp only[su,DN,BN])
def aeK {l:AA H6}(h:l.length<=1000000000):lU l l=some true:=by
 unfold lU aJ8;rw[N7,BN];exact LD l h _ (λk i h=>by simp only[sN,dec_lt h,Bj,CM h,Ac,wJ,I9,Iz,Eh,BN]) (λk=>by simp only[sN,DN,BN])
def aiH {l:AA J5}(h:l.length<=1000000000):o8 l l=some true:=by
 unfold o8 aLf;rw[N7,BN];exact LD l h _ (λk i h=>by simp only[a0A,dec_lt h,Bj,CM h,Ac,wW,I9,Iz,Eh,BN]) (λk=>by simp only[a0A,DN,BN])
def anA (h:MI e):a0O e e=some true:=by
 have :=h.prev;have :=h.auth;have h1:=h.allow;have h2:=h.deny;have h3:=h.users;have q:=h.kinds
 have j:eF e.Content e.Content=some true:=by
  unfold eF;simp only[I9,TY,Eh,Bj,BN,Ac,aPk (l:=e.Content.Allow) AL,aPk (l:=e.Content.iw) AL,aeK (l:=e.Content.Levels.Users) AL,aiH (l:=e.Content.Levels.Kinds) AL]
 unfold a0O;simp only[I9,Bj,Ac,dh,Iz,aBK (l:=e.bG) AL,aBK (l:=e.bJ) AL,j]
def eH (hl:l.length<=1000)(h:∀e∈l,MI e):Wy l l=some true:=by
 unfold Wy zL aWw;rw[N7,BN,LD l AL (some true) (λk i h'=>by simp only[aCu,dec_lt h',Bj,CM h',Ac,anA (h _ (Et h')),Eh,BN]) (λk=>by simp only[aCu,DN,BN])];rfl
def a5a (hl:l.length<=1000)(h:∀e∈l,MI e):Xe l l=some true:=by
 unfold Xe aNj;rw[N7,BN];exact LD l AL _ (λk i h'=>by simp only[aDE,dec_lt h',Bj,CM h',Ac,aPI (h _ (Et h')),Eh,BN]) (λk=>by simp only[aDE,DN,BN])
def equalR {l:AA FB}(h:l.length<=1000):ZY l l=some true:=by
 unfold ZY aVq;rw[N7,BN];exact LD l AL _ (λk i h=>by simp only[aDj,dec_lt h,Bj,CM h,Ac,ML,I9,Iz,Eh,BN]) (λk=>by simp only[aDj,DN,BN])
def aPt {l:AA Tv}(h:l.length<=1000):qG l l=some true:=by
 unfold qG aW3;rw[N7,BN];exact LD l AL _ (λk i h=>by simp only[aEe,dec_lt h,Bj,CM h,Ac,fA,I9,Iz,Eh,BN]) (λk=>by simp only[aEe,DN,BN])
def aOE {l:AA TW}(h:l.length<=1000):oz l l=some true:=by
 unfold oz aVF;rw[N7,BN];exact LD l AL _ (λk i h=>by simp only[aH7,dec_lt h,Bj,CM h,Ac,iC,I9,Iz,Eh,BN]) (λk=>by simp only[aH7,DN,BN])
def aUZ {l:AA BM}(h:l.length<=1000):WE l l=some true:=by
 unfold WE aDb;rw[N7,BN];exact LD l AL _ (λk i h=>by simp only[wY,dec_lt h,Bj,CM h,Ac,Res,I9,Iz,Eh,BN]) (λk=>by simp only[wY,DN,BN])
structure XK (r:CJ):Prop where
 ev:∀e∈r.Events,MI e
 evW:∀e∈r.Waiting,MI e
 l1:r.Events.length<=12
 l2:r.Waiting.length<=8
 l3:r.Rows.length<=30
 l4:r.mJ.length<=30
 l5:r.State.length<=60
 l6:r.jO.length<=30
 l7:r.oG.length<=30
def agw (h:XK r):KZ r r=some true:=by
 have :=h.l1;have :=h.l2;have :=h.l3;have :=h.l4;have :=h.l5;have :=h.l6;have :=h.l7;unfold KZ;simp only[I9,Bj,Ac,eH (l:=r.Events) AL h.ev,eH (l:=r.Waiting) AL h.evW,equalR (l:=r.Rows) AL,aBK (l:=r.mJ) AL,aUZ (l:=r.State) AL,aOE (l:=r.jO) AL,aPt (l:=r.oG) AL]
def aaw (h:XK r):Ui r r=some true:=by
 have :=h.l1;have :=h.l2;have :=h.l3;have :=h.l4;have :=h.l5;have :=h.l6;have :=h.l7;unfold Ui;simp only[I9,Bj,Ac,a5a (l:=r.Events) AL h.ev,a5a (l:=r.Waiting) AL h.evW,aOe (l:=r.Rows) AL,aGp (l:=r.mJ) AL,aV8 (l:=r.State) AL,aZW (r:=r) AL AL]
def abA (n:Int):(n==Ej .xor .i64 n 1)=false:=by
 rw[aIt];intro h
 have h1:BitVec.ofInt 64 (Ej .xor .i64 n 1)=BitVec.ofInt 64 n^^^1#64:=by
  rw[show Ej .xor .i64 n 1=Az (((BitVec.ofInt 64 n^^^1#64).toNat:Nat):Int)from rfl,ZX];generalize BitVec.ofInt 64 n^^^1#64=x;have :x.toNat<18446744073709551616:=x.isLt;apply BitVec.eq_of_toNat_eq;rw[BitVec.toNat_ofInt];show((_:Int) % 18446744073709551616).toNat=x.toNat;omega
 rw[←h]at h1;have h2:=Au (λx=>BitVec.ofInt 64 n^^^x) h1;simp only[BitVec.xor_self,←BitVec.xor_assoc,BitVec.zero_xor]at h2;exact absurd h2 Bd
def akX:KZ r { r with Next:=Ej .xor .i64 r.Next 1 }=some false:=by
 unfold KZ;simp only[I9,Bj,Ac,abA,BN]
def agy (h:XK r):KZ { r with mJ:=r.mJ++[7] } r=some false:=by
 have :=h.l1;have :=h.l2;have :=h.l3
 have e:SY (r.mJ++[7]) r.mJ=some false:=by
  unfold SY;rw[show((((r.mJ++[(7:Int)]).length:Nat):Int) != (r.mJ.length:Int))=true by simp;omega,Bj]
 unfold KZ;simp only[I9,Bj,Ac,eH (l:=r.Events) AL h.ev,eH (l:=r.Waiting) AL h.evW,equalR (l:=r.Rows) AL,e,BN]
def agB (h:XK r)(x:FB):KZ r { r with Rows:=r.Rows++[x] }=some false:=by
 have :=h.l1
 have e:ZY r.Rows (r.Rows++[x])=some false:=by
  unfold ZY;rw[show((r.Rows.length:Int) != (((r.Rows++[x]).length:Nat):Int))=true by simp;omega,Bj]
 unfold KZ;simp only[I9,Bj,Ac,eH (l:=r.Events) AL h.ev,e,BN]
def len_nil (l:AA α):((l.length:Int) != (([]:AA α).length:Int))= !((l.length:Int)==0):=rfl
def SK {f:AA α->AA α->AB AV}(h:∀l m,((l.length:Int) != (m.length:Int))=true->f l m=some false)(j:f [] []=some true)(l:AA α):f l []=some ((l.length:Int)==0):=by
 cases l with
 |nil=>exact j
 |cons x l=>exact h _ _ EY
def ak5 (h1:a.Events=[])(h2:a.Waiting=[])(h3:a.Rows=[])(h4:a.mJ=[])(h5:a.State=[])(z:a.jO=[])(I:a.oG=[]):∃b,KZ r a=some b/\Ui r a=some b:=by
 have ht:jX r a=some (((r.jO.length:Int)==0)&&((r.oG.length:Int)==0)):=by
  unfold jX;rw[z,I,len_nil,len_nil];cases hr:r.jO with
  |cons x l=>rfl
  |nil=>
   cases hy:r.oG with
   |cons x l=>rfl
   |nil=>
    have h2:zS r a 0=some true:=by
     unfold zS;exact LD ([]:AA Tv) BU _ (λk i h=>absurd h (aC _)) λk=>by unfold a4i;rw[hy,DN,BN]
    have h1:yK r a 0=some true:=by
     unfold yK;exact LD ([]:AA TW) BU _ (λk i h=>absurd h (aC _)) λk=>by unfold a5T;rw[hr,DN,BN,h2]
    show yK r a 0=_;rw[h1];rfl
 have e1:=SK (f:=Wy) (λl m h=>by unfold Wy zL;rw[h];rfl) (eH BU BU) r.Events;have e2:=SK (f:=Xe) (λl m h=>by unfold Xe;rw[h];rfl) (a5a BU BU) r.Events;have e3:=SK (f:=Wy) (λl m h=>by unfold Wy zL;rw[h];rfl) (eH BU BU) r.Waiting;have e4:=SK (f:=Xe) (λl m h=>by unfold Xe;rw[h];rfl) (a5a BU BU) r.Waiting;have e5:=SK (f:=ZY) (λl m h=>by unfold ZY;rw[h];rfl) (equalR BU) r.Rows;have e6:=SK (f:=nH) (λl m h=>by unfold nH;rw[h];rfl) (aOe BU) r.Rows;have e7:=SK (f:=SY) (λl m h=>by unfold SY;rw[h];rfl) (aBK BU) r.mJ;have e8:=SK (f:=Rx) (λl m h=>by unfold Rx;rw[h];rfl) (aGp BU) r.mJ;have e9:=SK (f:=WE) (λl m h=>by unfold WE;rw[h];rfl) (aUZ BU) r.State;have j:=SK (f:=UF) (λl m h=>by unfold UF;rw[h];rfl) (aV8 BU) r.State;have q:=SK (f:=oz) (λl m h=>by unfold oz;rw[h];rfl) (aOE BU) r.jO;have u:=SK (f:=qG) (λl m h=>by unfold qG;rw[h];rfl) (aPt BU) r.oG;unfold KZ Ui;rw[ht,h1,h2,h3,h4,h5,z,I,e1,e2,e3,e4,e5,e6,e7,e8,e9,j,q,u];generalize(r.Id.toList==a.Id.toList)=J;generalize(r.Next==a.Next)=L;generalize((r.Events.length:Int)==0)=M;generalize((r.Waiting.length:Int)==0)=O;generalize((r.Rows.length:Int)==0)=U;generalize((r.mJ.length:Int)==0)=Y;generalize((r.State.length:Int)==0)=Z;generalize((r.jO.length:Int)==0)=b8;generalize((r.oG.length:Int)==0)=b9;refine⟨J&&L&&M&&O&&U&&Y&&Z&&b8&&b9,?_,?_⟩<;>cases J<;>cases L<;>cases M<;>cases O<;>cases U<;>cases Y<;>cases Z<;>cases b8<;>cases b9<;>rfl
def ajV (hs:s.size<=200):∃a v,jT s=some (a,v)/\yU s=some (a,v)/\XK a/\a.Events=[]/\a.Waiting=[]/\a.Rows=[]/\a.mJ=[]/\a.State=[]/\a.jO=[]/\a.oG=[]:=by
 obtain⟨h1,h2⟩:=ZC (s:=s) AL;unfold jT yU;rw[h1,h2,Ac];have q:∀n,XK { LJ with Id:=n }:=λn=>⟨λe j=>absurd j Gh,λe j=>absurd j Gh,Ef _,Ef _,Ef _,Ef _,Ef _,Ef _,Ef _⟩
 cases SP s != 0 with
 |true=>exact⟨LJ,3,rfl,rfl,q _,rfl,rfl,rfl,rfl,rfl,rfl,rfl⟩
 |false=>exact⟨_,_,rfl,rfl,q _,rfl,rfl,rfl,rfl,rfl,rfl,rfl⟩
def aTP (h:∀e∈l,MI e)(id:Int):MI (IZ l id).1:=by
 cases j:En l id with
 |none=>rw[RS j];exact mid_zero
 |some e=>rw[NS j];exact h e (NK j)
def aeV (h:XK r)(id:Int):∃e b,qg r id=some (e,b)/\uw r id=some (e,b)/\MI e:=by
 have :=h.l1;have :=h.l2;unfold qg uw;rw[NG _ _ AL,KU _ _ AL,NG _ _ AL,KU _ _ AL,Ac,Ac];cases(IZ r.Events id).2 with
 |true=>exact⟨_,_,rfl,rfl,aTP h.ev id⟩
 |false=>exact⟨_,_,rfl,rfl,aTP h.evW id⟩
def anJ (h:XK r)(j:∃b,KZ r a=some b/\Ui r a=some b):gG r a=some true:=by
 have :=h.l3;have :=h.l4;obtain⟨b,q,u⟩:=j;unfold gG;rw[Dp RD,Ac,IE,Dp Fp,Ac,Dp RD,Ac,IE,Dp Fp,Ac,agw h,Ac,Bj,q,u,Ac,Ac,I9,Bj,akX,Ac,Ip,Bj,agy h,Ac,Ip,Bj,agB h,Ac];rfl
structure aUf (r:CJ):Prop where
 id:r.Id.size<=9223372036854775807
 ev:∀x∈r.Events,O1 x
 evW:∀x∈r.Waiting,O1 x
 mid:∀x∈r.Events,MI x
 aI9:∀x∈r.Waiting,MI x
def abP (id:Int)(s:BL)(h:aUf r):mW r id s=some true:=by
 refine dW.eq ?_;unfold mW;refine(amq r).bind λb I=>?_;have j:dW (aJ.bind λJ=>some J) (· =true):=by rw[aNv];exact .ret rfl
 cases b with
 |false=>rw[Ip,Bj,Ac,Bj];exact j
 |true=>
  rw[Eh,BN,Ac];refine dW.bif (λ_=>j) λhs=>?_;have hs:s.size<=200:=by have :=N8 hs;omega
  obtain⟨L,M,O,U,Y,Z,b7⟩:=I rfl;have z:XK r:=⟨h.mid,h.aI9,L,M,O,U,Y,Z,b7⟩
  obtain⟨a,v,n1,n2,n3,n4,n5,n6,n7,n8,n9,u⟩:=ajV hs;obtain⟨e,q,k1,k2,k3⟩:=aeV z id;obtain⟨c,c1,c2⟩:=anQ h.id h.ev h.evW AL AL AL AL AL;obtain⟨m,m1,m2,m3⟩:=ah2 (r:=r) AL AL h.mid h.aI9;have hq:ML (W9 r id).1 (W9 r id).1=true:=by unfold ML;simp
  refine .of ?_;rw[n1,n2,Ac,Ac,abq r id AL,row24 r id AL,Ac,Ac,k1,k2,Ac,Ac];simp only[I9,Bj,aaw n3,Ac,hq,aPI k3,c1,c2,m1,m2,aGp m3,anJ z (ak5 (r:=r) n4 n5 n6 n7 n8 n9 u),aNv];rfl
end
variable {H:Type}
def UL (d:DataW H):1<=Rows.uptoBulk d:=by
 cases d with
 |lit l=>cases l<;>simp[Rows.uptoBulk]
 |nil=>simp[Rows.uptoBulk]
 |ptr d=>simp[Rows.uptoBulk]
 |slice q spare=>simp[Rows.uptoBulk]
 |agg u=>simp[Rows.uptoBulk]
 |iface t d=>simp[Rows.uptoBulk]
 |map j=>simp[Rows.uptoBulk]
 |held h=>simp[Rows.uptoBulk]
variable {d:DataW H}
def aL2 {l:AA (DataW H)}(h:d∈l):Rows.uptoBulk d<=Rows.uptoBulkAll l:=by
 induction l with
 |nil=>cases h
 |cons x r j=>
  simp only[Rows.uptoBulkAll];cases FI.1 h with
  |inl e=>subst e;omega
  |inr e=>have :=j e;omega
theorem afy (l:AA (DataW H)):l.length<=Rows.uptoBulkAll l:=by
 induction l with
 |nil=>
  grind
 |cons x r j=>
  have :=UL x;simp only[Rows.uptoBulkAll,GN];omega
def ag3 (j spare:AA (DataW H)):Rows.uptoBulkAll j+1<=Rows.uptoBulk (.slice j spare):=by
 simp only[Rows.uptoBulk];omega
def qJ {j:AA (DataW H)}(q:Rows.uptoSmall H j=true)(h:d∈j):Rows.uptoBulk d<=1048576:=EK (aL2 h) (VB q)
def Ik (j:α->Nat)(l:AA α):Nat:=(l.map j).sum+l.length
def aDS {H:Type}:∀l:AA (DataW H),Rows.uptoBulkAll l=(l.map Rows.uptoBulk).sum
 | []=>rfl
 |d::l=>by rw[Gg,a0P,←aDS l];rfl
theorem acw {j:α->Nat}(l:AA α)(D:Nat->DataW H)(h:∀i (hi:i<l.length),j l[i]+1<=Rows.uptoBulk (D i)):Ik j l<=Rows.uptoBulkAll ((List.range l.length).map D):=by
 rw[aDS,gY]
 have key:∀n,n<=l.length->((l.take n).map j).sum+n<=((List.range n).map (Rows.uptoBulk∘D)).sum:=by
  intro n
  induction n with
  |zero=>
   grind
  |succ n q=>
   intro u;have hi:n<l.length:=u;rw[NU hi,J8,kX,a7a,J8,kX];have h1:=q AL;have h2:=h n hi;have h3:([n].map (Rows.uptoBulk∘D)).sum=Rows.uptoBulk (D n):=BU
   have z:([l[n]].map j).sum=j l[n]:=BU
   rw[h3,z];omega
 have :=key l.length (Ec _);rw[Gn]at this;exact this
def partAt (x:DataW H)(i:Nat):Nat:=match x with
 | .agg j=>match j[i]? with
   |some d=>Rows.uptoBulk d
   |none=>0
 |_=>0
def Tj (x:DataW H)(n:Nat):((List.range n).map (partAt x)).sum+1<=Rows.uptoBulk x:=by
 have q:∀n,((List.range n).map λ_=>0).sum=0:=λn=>by
  induction n with
  |zero=>rfl
  |succ n u=>rw[a7a,J8,kX,u];rfl
 cases x with
 |agg j=>
  have I:Rows.uptoBulk (DataW.agg j)=Rows.uptoBulkAll j+1:=by simp only[Rows.uptoBulk]
  rw[I,aDS]
  have key:∀n,((List.range n).map (partAt (DataW.agg j))).sum=((j.take n).map Rows.uptoBulk).sum:=by
   intro n
   induction n with
   |zero=>rfl
   |succ n u=>
    rw[a7a,J8,kX,u];by_cases z:n<j.length
    ·rw[NU z,J8,kX];simp[partAt,EM z]
    rw[Qa AL,Qa AL];simp[partAt,Ns (WY z)]
  rw[key]
  have :((j.take n).map Rows.uptoBulk).sum+((j.drop n).map Rows.uptoBulk).sum=(j.map Rows.uptoBulk).sum:=by
   rw[←kX,←J8,ZT]
  omega
 |lit l=>exact EK (P6 (by rw[show partAt (DataW.lit (H:=H) l)=λ_=>0 from rfl,q])) (UL _)
 |nil=>exact EK (P6 (by rw[show partAt (DataW.nil (H:=H))=λ_=>0 from rfl,q])) (UL _)
 |ptr d=>exact EK (P6 (by rw[show partAt (DataW.ptr (H:=H) d)=λ_=>0 from rfl,q])) (UL _)
 |slice a b=>exact EK (P6 (by rw[show partAt (DataW.slice (H:=H) a b)=λ_=>0 from rfl,q])) (UL _)
 |iface t d=>exact EK (P6 (by rw[show partAt (DataW.iface (H:=H) t d)=λ_=>0 from rfl,q])) (UL _)
 |map a=>exact EK (P6 (by rw[show partAt (DataW.map (H:=H) a)=λ_=>0 from rfl,q])) (UL _)
 |held a=>exact EK (P6 (by rw[show partAt (DataW.held (H:=H) a)=λ_=>0 from rfl,q])) (UL _)
variable {O:α->D}{V:α->Prop}
section
variable {N:Nat}{enc:Bq×BD->H}{w:BX}{base:Nat}{spare:Nat->AV}{held:AV}{P:Ch}{t:Bq}
def Nv (N:Nat)(enc:Bq×BD->H)(P:Ch)(w:BX)(base:Nat)(spare:Nat->AV)(held:AV)(t:Bq)(e:α->D)(V:α->Prop)(j:α->Nat):Prop:=
 ∀Am cs x,DataW.trod enc P w base spare held Am t cs=some x->Rows.uptoBulk x.1<=N->∃a:α,V a/\j a+1<=Rows.uptoBulk x.1/\E8 w (e a).cells cs
theorem Qb {wt:α->Nat}{e:Bq}{sz:Nat}(ht:P.underlying t=some (.slice e))(hc:P.cellsOf e=sz)(U:0<sz)(hsz:∀a,(O a).cells.length=sz)(hR:Nv N enc P w base spare held e O V wt):
 Nv N enc P w base spare held t (BQ O) (λl=>l.length<=N/\∀x∈l,V x) (Ik wt):=by
 intro Am cs x h hb;rcases Go.Deep.open_slice ht h with⟨rfl,rfl⟩|⟨a,len,cap,m,n,D,Pl,rfl, -,hl,hm,hmm,rfl,hx⟩
 ·exact⟨[],⟨Ef _,λx h=>IV⟩,UL _,.one rfl rfl (.sl0 none 0)⟩
 have hlm:len<=m:=by rw[hmm];split<;>omega
 have hb0:=ag3 ((List.range len).map D) ((List.range (m-len)).map λj=>D (len+j));have hb1:=EK hb0 hb;have hb2:=afy ((List.range len).map D);rw[Di,List.length_range]at hb2;rw[hc]at hx
 have hex:∀i,i<len->∃y:α,(V y/\wt y+1<=Rows.uptoBulk (D i))/\∃I:AA BD,w.cells? base (a.add (i*sz)) sz=some I/\E8 w (O y).cells I:=by
  intro i hi;obtain⟨I,h1,h2⟩:=hx i AL;obtain⟨y,h3,h3w,h4⟩:=hR _ _ _ h2 (EK (aL2 (Hl.2 ⟨i,jU.2 hi,rfl⟩)) AL)
  grind
 obtain⟨l,hlen,Y⟩:=aMN len hex;subst hlen;refine⟨l,⟨AL,λx hx=>?_⟩,EK (Nat.succ_le_succ (acw l D λi hi=>(Y i hi).1.2)) hb0,?_⟩
 ·obtain⟨i,hi,rfl⟩:=Ih hx
  grind
 rcases X0 l.length with h0|hlp
 ·have :l=[]:=Hd h0;subst this;exact .one rfl rfl (.sl0 _ _)
 have q:∀i,(hi:i<l.length)->∀j,j<sz->∃u,w.cell? ((a.add (i*sz)).add j)=some u/\((O l[i]).cells.getD j EJ).leaf=true/\EF (λb=>b<w.heap.size) w ((O l[i]).cells.getD j EJ) u:=by
  intro i hi j Z;obtain⟨-,I,h1,h2⟩:=Y i hi;obtain⟨-,h6,h5⟩:=World.cells?_some h1;have hcl:I.length=sz:=by rw[h2.1,hsz]
  have h7:=h5 j Z;rw[EM AL]at h7;refine⟨_,h7,?_⟩;have h8:=h2.2 j (by rw[hsz];exact Z)
  grind
 have J:a.spot=none:=by
  obtain⟨u,h4, -⟩:=q 0 hlp 0 U;have e0:(a.add (0*sz)).add 0=a:=by simp[Addr.add]
  rw[e0]at h4;unfold World.cell? at h4;cases hsp:a.spot with
  |none=>
   rfl
  |some s=>
   rw[hsp]at h4;cases hh:w.heap[a.block]? with
   |none=>
    grind
   |some o=>
    grind
 have hblk:a.block<w.heap.size:=by
  obtain⟨u,h4, -⟩:=q 0 hlp 0 U;have e0:(a.add (0*sz)).add 0=a:=by simp[Addr.add]
  rw[e0]at h4;unfold World.cell? at h4
  grind
 obtain⟨b,o,s⟩:=a;simp only at J hblk;subst J;have z:(List.map O l).length=l.length:=Di _;have L:∀i,(hi:i<l.length)->(List.map O l).getD i EJ=O l[i]:=λi hi=>NY
 have M:∀i j,((⟨b,o,none⟩:Addr).add (i*sz)).add j=⟨b,o+(i*sz+j),none⟩:=λi j=>by simp only[Addr.add];split<;>split<;>simp_all<;>omega
 refine .one rfl rfl ?_
 have :=EF.sl (ok:=λb=>b<w.heap.size) (w:=w) (List.map O l) b o cap sz (by rw[z];exact hl) (λ_ _=>hblk) (λi hi=>by rw[z]at hi;rw[L i hi];exact hsz _)
  (λi hi j Z=>by rw[z]at hi;obtain⟨u,_,h2,_⟩:=q i hi j Z;rw[L i hi];exact h2)
  (λi hi j Z=>by rw[z]at hi;obtain⟨u,h1,_,_⟩:=q i hi j Z;rw[M]at h1;rw[h1];rfl)
  (λi hi j Z=>by rw[z]at hi;obtain⟨u,h1,_,h3⟩:=q i hi j Z;rw[M]at h1;rw[L i hi];unfold cellAt;rw[h1];exact h3)
 rw[z]at this;exact this
def II {k:IntKind}(j:P.underlying t=some (.int k)):Nv N enc P w base spare held t (λn=>D.lit (.int k n)) (λn:Int=>k.min<=n/\n<=k.max) (λ_=>0):=λAm cs x h _=>by
 obtain⟨a,h1,h2⟩:=aXu j Am cs x h;exact⟨a,h1,UL _,h2⟩
def aJh (j:P.underlying t=some .bool):Nv N enc P w base spare held t Dt (λ_=>True) (λ_=>0):=λAm cs x h _=>by
 obtain⟨a,h1,h2⟩:=als j Am cs x h;exact⟨a,h1,UL _,h2⟩
def QC (q:P.underlying t=some .string):Nv N enc P w base spare held t DT (λs=>s.size<=N) (λs=>s.size):=by
 intro Am cs x h j;obtain⟨n,rfl,rfl,u⟩:=DataW.trod_string q h;have h1:Rows.uptoBulk (DataW.lit (H:=H) (.string n.data.toList))=n.data.toList.length+1:=by simp[Rows.uptoBulk]
 have h2:n.data.toList.length=n.size:=by rw[Tn];rfl
 have j:Rows.uptoBulk (DataW.lit (H:=H) (.string n.data.toList))<=N:=j;exact⟨n,AL,by show n.size+1<=Rows.uptoBulk (DataW.lit (H:=H) (.string n.data.toList));omega,.one rfl rfl (.lit _)⟩
theorem F6 {I:Bg Field}{Am:Nat}{cs:AA BD}{x:DataW H×AA MemPlace}(U:P.underlying t=some (.struct I))(h:DataW.trod enc P w base spare held Am t cs=some x)(M:Rows.uptoBulk x.1<=N)(i:Nat)(u o n:Nat)(J:(I[i]?).map (λf=>(f.type,f.offset,P.cellsOf f.type))=some (u,o,n)){L:α->Nat}(Y:Nv N enc P w base spare held u O V L):∃a:α,(V a/\L a+1<=partAt x.1 i)/\E8 w (O a).cells ((cs.drop o).take n):=by
 obtain⟨xs,k, -,rfl, -,hlen,q⟩:=DataW.trod_struct U h;cases j:I[i]? with
 |none=>
  grind
 |some f=>
  rw[j]at J;simp only[JV,Nk,Uu]at J;obtain⟨rfl,rfl,rfl⟩:=J;have h1:=q i f j;have hi:i<I.size:=(IJ.1 j).1;have z:i<xs.length:=AL
  rw[EM z]at h1;have h2:Rows.uptoBulk (DataW.agg (xs.map (·.1)))=Rows.uptoBulkAll (xs.map (·.1))+1:=by simp only[Rows.uptoBulk]
  have h3:=aL2 (H:=H) (Hl.2 ⟨xs[i],Et _,rfl⟩:xs[i].1∈xs.map (·.1));have M:Rows.uptoBulk (DataW.agg (xs.map (·.1)))<=N:=M;obtain⟨a,Z,q2,q3⟩:=Y _ _ _ h1 AL;refine⟨a,⟨Z,?_⟩,q3⟩;have :partAt (DataW.agg (xs.map (·.1))) i=Rows.uptoBulk xs[i].1:=by unfold partAt;simp[EM z]
  show L a+1<=partAt (DataW.agg (xs.map (·.1))) i;rw[this];exact q2
end
end Go.Proofs.YtfmoknlmaldmlaaGreat
