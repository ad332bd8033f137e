/- Part 7 of the laws' proofs (short forms by wip/shrink2.py). -/
import Derived.Test.YteiakhlfaaifnaaGreatTb6
set_option linter.defProp false
set_option linter.unnecessarySimpa false
set_option linter.unusedSectionVars false
set_option linter.unusedVariables false
set_option linter.unusedSimpArgs false
namespace Go.Proofs.YteiakhlfaaifnaaGreat
open Go.RowKit Go.Proofs.Tryz
variable {a:Int}
def KO {c:Ac}{X:AB Int}(h:(cond c (some a) X)=some 0)(ha:a≠0):c=false/\X=some 0:=by
 grind
def TF {x:AB Int}(h:(cond (a != 0) (some a) x)=some 0):a=0/\x=some 0:=by
 grind
variable {α:Type}
def firsts {R:Type}{body:(Int->AB R)->Int->AB R}{ok:R}(l:AA α)(hl:l.length<=9223372036854775807)(P:Nat->Prop)(I:∀k (i:Nat),i<l.length->body k (i:Int)=some ok->P i/\k ((i+1:Nat):Int)=some ok)(q:Nat)(h:bg body Aw (q:Int)=some ok):∀i,q<=i->i<l.length->P i:=by
 have key:∀n (i:Nat) m,i+n=l.length->n<m->bg body m (i:Int)=some ok->∀j,i<=j->j<l.length->P j:=by
  intro n
  induction n with
  |zero=>
   grind
  |succ n J=>
   intro i m hi hm L j h1 h2;obtain⟨m,rfl⟩:∃M,m=M+1:=⟨m-1,AL⟩
   obtain⟨a,b⟩:=I (bg body m) i AL L;rcases aDg h1 with rfl|h1
   ·exact a
   exact J (i+1) m AL AL b j h1 h2
 intro i h1 h2;have O:Aw=9223372036854775808:=rfl;exact key (l.length-q) q Aw AL AL h i h1 h2
def qF {l:AA α}{Q:α->Prop}(h:∀i,0<=i->i<l.length->∀x,l[i]? =some x->Q x):∀x∈l,Q x:=λx j=>by
 obtain⟨i,hi,rfl⟩:=I8 j;exact h i (F6 _) hi _ (EJ hi)
def aeN (s:BH)(a b:Nat)(j:b<=s.size):(s.extract a b).size=b-a:=by rw[aF9];omega
variable {l:AA Int}
def aWk {p:Int->Ac}(h:Sm l p=true):l.length<=32:=(aN9 h).2
variable {s:BH}
def zi {m:Int}(h:IG s m=true):s.size<=100:=by
 unfold IG Vt at h;simp only[Dx,Ik]at h;have h1:=h.2.1.1;have h2:=aWk h.2.1.2
 have h3:(DI (U4 s)).length<=32:=by
  have :=h.2.2;unfold ZM at this;simp only[Dx]at this;exact aWk this.1.1
 rw[J5]at h2 h3;unfold WX at h2;unfold U4 at h3;rw[aeN _ _ _ AL]at h2 h3;omega
def aVy (hs:s.size<=9223372036854775807)(h:Ym s=some 0):s.size<=100/\IG s 64=true:=by
 rw[(Zx hs).2]at h;have h:=E9 h;unfold SL at h;cases hm:IG s 64 with
 |true=>
  exact⟨zi hm,rfl⟩
 |false=>
  grind
def ada (hs:s.size<=9223372036854775807)(h:iY s=some 0):s.size<=100/\IG s 33=true:=by
 rw[(mO hs).2]at h;have h:=E9 h;unfold SH at h;cases hm:IG s 33 with
 |true=>
  exact⟨zi hm,rfl⟩
 |false=>
  grind
def aQw (hs:s.size<=9223372036854775807)(h:rU s=some 0):s.size<=100:=by
 rw[(aD0 hs).2]at h;have h:=E9 h;unfold a4V at h
 grind
def aQl {l:AA BH}(hl:l.length<=9223372036854775807)(hs:∀s∈l,s.size<=9223372036854775807)(h:TN l=some 0):l.length<=100/\∀s∈l,s.size<=100:=by
 unfold TN at h;obtain⟨h1,h⟩:=KO h Ba;refine⟨aL1,qF (firsts l hl (λi=>∀x,l[i]? =some x->x.size<=100) (λk i hi j=>?_) 0 h)⟩;unfold xu at j;rw[Ce hi]at j;obtain⟨x,I,j⟩:=Du j;obtain⟨e,j⟩:=TF j;subst e;rw[wrap_succ i AL]at j;exact⟨λy q=>by rw[EJ hi]at q;obtain rfl:=E9 q;exact aQw (hs _ (Eu hi)) I,j⟩
def aa2 {c:Cx}(hl:c.Allow.length<=9223372036854775807)(hs:∀s∈c.Allow,s.size<=9223372036854775807)(h:gW c=some 0):c.Allow.length<=100/\∀s∈c.Allow,s.size<=100:=by
 unfold gW at h;obtain⟨x,_,h⟩:=Du h;obtain⟨_,h⟩:=KO h Ba;obtain⟨h1,h⟩:=KO h Ba;refine⟨aL1,qF (firsts c.Allow hl (λi=>∀x,c.Allow[i]? =some x->x.size<=100) (λk i hi j=>?_) 0 h)⟩;unfold a8g xW at j;rw[Ce hi]at j;obtain⟨x,J,j⟩:=Du j;obtain⟨e,j⟩:=KO j Ba;have q:x=0:=WA
 subst q;refine⟨λy I=>by rw[EJ hi]at I;obtain rfl:=E9 I;exact(ada (hs _ (Eu hi)) J).1,?_⟩;cases hp:decide ((i:Int)>0)with
 |true=>
  rw[hp,Bd]at j;obtain⟨y,_,j⟩:=Du j;obtain⟨z,_,j⟩:=Du j;obtain⟨_,j⟩:=KO j Ba
  rwa [wrap_succ i AL]at j
 |false=>
  rw[hp,BO,BO]at j
  rwa [wrap_succ i AL]at j
def am6 {l:AA Ih}(hl:l.length<=9223372036854775807)(hs:∀u∈l,u.User.size<=9223372036854775807)(h:Zd l=some 0):l.length<=100/\∀u∈l,u.User.size<=100:=by
 unfold Zd at h;obtain⟨h1,h⟩:=KO h Ba;refine⟨aL1,qF (firsts l hl (λi=>∀x,l[i]? =some x->x.User.size<=100) (λk i hi q=>?_) 0 h)⟩
 have J:∀v,nI l (i:Int) k v=some 0->k ((i+1:Nat):Int)=some 0:=λv j=>by
  unfold nI at j;obtain⟨_,j⟩:=KO j Ba;obtain⟨y,_,j⟩:=Du j;obtain⟨z,_,j⟩:=Du j;obtain⟨_,j⟩:=KO j Ba
  rwa [wrap_succ i AL]at j
 unfold a2B at q;rw[Ce hi]at q;obtain⟨x,L,O⟩:=Du q;obtain⟨e,hd⟩:=KO O Ba;have I:x=0:=WA
 rw[I]at L;refine⟨λy M=>by rw[EJ hi]at M;obtain rfl:=E9 M;exact(aVy (hs _ (Eu hi)) L).1,?_⟩;cases hp:decide ((i:Int)>0)with
 |true=>
  rw[hp,Bd]at hd;obtain⟨y,_,U⟩:=Du hd;obtain⟨z,_,Y⟩:=Du U;exact J _ Y
 |false=>
  rw[hp,BO]at hd;exact J _ hd
def aiy {l:AA Kw}(h:Yh l=some 0):l.length<=100:=by
 unfold Yh at h
 grind
def empty_of (h:(s.toList==CS.toList)=true):s.size<=100:=by rw[a3u]at h;have :=eq_of_beq h;omega
def aNF {l:Ci}(h:Ov l=true):l.Users=[]/\l.Kinds=[]:=by
 unfold Ov at h;simp only[Dx]at h;exact⟨VL h.1.1.1.1.1.1.1.1,VL h.1.1.1.1.1.1.1.2⟩
def aen {k:Int}{c:Cx}(L:LU c)(h:KI k c=some 0):QZ c:=by
 unfold KI at h;rw[(aBp k).2,Af]at h;obtain⟨x2,Y,h⟩:=Du h;obtain⟨e2,h⟩:=KO h Ba;subst e2
 have J:kE k c=some true:=by
  cases hk:(decide (k>=1)&&(k<=14))with
  |false=>
   grind
  |true=>
   rw[hk]at Y;obtain⟨y,O,M⟩:=Du (show(kE k c).bind (λx4=>some (!x4))=some false from Y);have M:=E9 M;cases y with
   |true=>
    exact O
   |false=>
    cases M
 obtain⟨x6,_,h⟩:=Du h;obtain⟨x7,U,h⟩:=Du h;cases x7 with
 |true=>
  have M:lu (c.Text.toList==CS.toList) (c.N==0) (c.Target==0) (!c.Thread) (c.Via.toList==CS.toList) ((c.Allow.length:Int)==0) ((c.iK.length:Int)==0) (Ov c.Levels)=true:=by
   cases x6 with
   |false=>
    cases U
   |true=>
    rw[aW2]at U;exact E9 U
  unfold lu at M;simp only[Dx]at M;obtain⟨⟨⟨⟨⟨⟨⟨t1,_⟩,_⟩,_⟩,t5⟩,t6⟩,t7⟩,t8⟩:=M;have p:=aNF t8;have q1:=empty_of t1;have q2:=empty_of t5;have a1:=VL t6;have a2:=VL t7;refine⟨?_,?_,?_,?_,AL,AL,?_,?_,?_⟩<;>first|rw[a1]|rw[a2]|rw[p.1]|rw[p.2]
  all_goals first|exact F6 _|exact λx hx=>absurd hx H9
 |false=>
  rw[BO]at h;obtain⟨x11,j,h⟩:=Du h;obtain⟨e,h⟩:=TF h;subst e;obtain⟨x13,_,h⟩:=Du h;obtain⟨_,h⟩:=TF h;obtain⟨x15,_,h⟩:=Du h;obtain⟨_,h⟩:=TF h;obtain⟨x17,I,h⟩:=Du h;obtain⟨e,h⟩:=TF h;subst e
  have ht:c.Text.size<=2000:=by
   unfold aK at j;cases h9:k==9 with
   |true=>
    rw[h9,Bd]at j;cases Z:(c.Text.toList==CS.toList)with
    |true=>
     have :=empty_of Z;omega
    |false=>
     rw[Z,BO]at j;obtain⟨y,O,j⟩:=Du j;obtain rfl:=E9 j;have :=aQw L.text O;omega
   |false=>
    rw[h9,BO]at j;obtain⟨y,_,j⟩:=Du j;obtain⟨_,j⟩:=KO j Ba;obtain⟨z,M,j⟩:=Du j;obtain⟨e,_⟩:=KO j Ba;subst e;cases hd:decide ((c.Text.size:Int)>400)with
    |true=>
     rw[hd]at M;cases M
    |false=>
     have :=Jk hd;omega
  have hv:c.Via.size<=2000:=by
   unfold Yg at I;cases Z:(c.Via.toList==CS.toList)with
   |true=>
    have :=empty_of Z;omega
   |false=>
    rw[Z,BO]at I;obtain⟨_,I⟩:=KO I Ba;obtain⟨y,O,I⟩:=Du I;obtain rfl:=E9 I;have :=(aVy L.via O).1;omega
  have KL:∀{l:AA BH},(∀s∈l,s.size<=100)->∀s∈l,s.size<=2000:=λh s hs=>FQ (h s hs) AL;cases h4:k==4 with
  |true=>
   have e4:=eq_of_beq h4;subst e4;rw[SE,Bd]at h;obtain⟨y,O,h⟩:=Du h;obtain rfl:=E9 h;obtain⟨r1,r2⟩:=aa2 L.allow L.allows O;rw[aP2 (K:=4) (c:=c) (show _=some false by kernel_rfl) (show _=some true by kernel_rfl) (show _=some false by kernel_rfl) (show _=some false by kernel_rfl) (show _=some false by kernel_rfl) (show _=some true by kernel_rfl) (show _=some false by kernel_rfl) (show _=some false by kernel_rfl)]at J;have ho:=E9 J;unfold Md at ho;simp only[Dx,Nc]at ho;have d:=VL ho.1.2;have p:=aNF ho.2;refine⟨r1,?_,?_,?_,ht,hv,KL r2,?_,?_⟩<;>first|rw[d]|rw[p.1]|rw[p.2]
   all_goals first|exact F6 _|exact λx hx=>absurd hx H9
  |false=>
   rw[h4,BO]at h;obtain⟨y1,hy1,h⟩:=Du h;obtain⟨e,h⟩:=TF h;subst e;obtain⟨y2,hy2,h⟩:=Du h;obtain⟨e,h⟩:=TF h;subst e;obtain⟨y3,q,h⟩:=Du h;obtain rfl:=E9 h;unfold Zw at q;obtain⟨z1,hz1,q⟩:=Du q;obtain⟨e,q⟩:=TF q;subst e;obtain⟨z2,hz2,q⟩:=Du q;obtain⟨e,q⟩:=TF q;subst e;obtain⟨a1,a2⟩:=aQl L.allow L.allows hy1;obtain⟨d1,d2⟩:=aQl L.deny L.denies hy2;obtain⟨u1,u2⟩:=am6 L.users L.names hz1;exact⟨a1,d1,u1,aiy hz2,ht,hv,KL a2,KL d2,λu hu=>FQ (u2 u hu) AL⟩
structure uN (e:Ad):Prop where
 kind:1<=e.Kind/\e.Kind<=14
 state:e.State=JJ e.Kind
 keyed:e.Key=CS\/e.Kind=2\/e.Kind=9
 room:IG e.Room 33=true
 sender:IG e.bG 64=true
 key:WJ e.Kind e.Key=true
 time:0<=e.Time/\e.Time<=1000000000
 depth:1<=e.Depth/\e.Depth<=100000
 prev:e.bP.length<=10/\Inc e.bP/\∀x∈e.bP,0<=x
 auth:e.bQ.length<=8/\Inc e.bQ/\∀x∈e.bQ,0<=x
 short:e.bP=[]->e.Kind=1
 form:e.Kind=1->e.bP=[]/\e.bQ=[]
 content:KI e.Kind e.Content=some 0
 small:Vp e
def aVJ (hl:l.length<=9223372036854775807)(h:eK l=some true):Inc l/\∀x∈l,0<=x:=by
 unfold eK aGQ at h
 have I:=firsts l hl (λi=>∀x,l[i]? =some x->0<=x/\∀y,0<i->l[i-1]? =some y->y<x) (λk i hi q=>by
  have M:∀v,gQ k (i:Int) v=some true->v=false/\k ((i+1:Nat):Int)=some true:=λv O=>by
   unfold gQ at O;cases v with
   |true=>cases O
   |false=>rw[BO,wrap_succ i AL]at O;exact⟨rfl,O⟩
  unfold a5r at q;rw[Ce hi]at q;cases U:decide (l[i]<0)with
  |true=>rw[U,Bd]at q;cases(M _ q).1
  |false=>
   have h0:=Jk U;rw[U,BO]at q;cases hp:decide ((i:Int)>0)with
   |false=>
    have hp0:=Jk hp;rw[hp,BO]at q;refine⟨λx J=>?_,(M _ q).2⟩;rw[EJ hi]at J;obtain rfl:=E9 J;exact⟨AL,λy h0 Y=>AL⟩
   |true=>
    rw[hp,Bd,CX hi,Af,uF hi hl hp,Af]at q;obtain⟨h1,h2⟩:=M _ q;refine⟨λx J=>?_,h2⟩;rw[EJ hi]at J;obtain rfl:=E9 J;refine⟨AL,λy h0 Y=>?_⟩;rw[EJ AL]at Y;obtain rfl:=E9 Y
    have :=Jk h1;omega) 0 h
 have L:∀i,(hi:i+1<l.length)->l[i]<l[i+1]:=λi hi=>(I (i+1) AL hi _ (EJ hi)).2 _ AL (EJ AL);refine⟨?_,λx J=>?_⟩
 ·rw[Inc,Jq];intro i j hi M Z
  induction j with
  |zero=>omega
  |succ j ih=>
   have h1:=L j M;rcases aDg (Nat.le_of_lt_succ Z)with rfl|h2
   ·exact h1
   have :=ih AL h2;omega
 obtain⟨i,hi,rfl⟩:=I8 J;exact(I i (F6 _) hi _ (EJ hi)).1
def a2G {c:Ac}{X:AB Ac}{f:Ac->AB Int}{v:Int}(j:f true≠some v)(h:((cond c (some true) X).bind f)=some v):c=false/\X.bind f=some v:=by
 grind
variable {e:Ad}
def ac0 (O:Ry e)(h:qX e=some 0):uN e:=by
 unfold qX at h;obtain⟨x1,h1,h⟩:=Du h;obtain⟨e1,h⟩:=TF h;subst e1;obtain⟨x3,h3,h⟩:=Du h;obtain rfl:=E9 h;have M:=aen O.content h3
 have U:∀v,TL e v=some 0->v=false:=λv hv=>by
  cases v with
  |true=>cases hv
  |false=>rfl
 have hj2:TL e false=some 0/\(1<=e.Kind/\e.Kind<=14)/\e.State=JJ e.Kind/\(e.Key=CS\/e.Kind=2\/e.Kind=9):=by
  unfold a5O at h1;cases c1:decide (e.Kind<1)with
  |true=>rw[c1,Bd]at h1;cases U _ h1
  |false=>
   cases c2:decide (e.Kind>14)with
   |true=>rw[c1,c2,BO,Bd]at h1;cases U _ h1
   |false=>
    rw[c1,c2,BO,BO,aBD,Af]at h1;have k1:=Jk c1;have k2:=Jk c2;cases c3:(e.State==JJ e.Kind)with
    |false=>rw[c3,JV,Bd]at h1;cases U _ h1
    |true=>
     rw[c3,FK,BO]at h1;refine⟨?_,⟨AL,AL⟩,eq_of_beq c3,?_⟩
     all_goals cases c4:(e.Key.toList==CS.toList)with
     |true=>rw[c4,FK,BO]at h1;first|exact h1|exact .inl (toList_inj (eq_of_beq c4))
     |false=>
      rw[c4,JV,Bd]at h1;cases c5:(e.Kind != 2)with
      |false=>rw[c5,BO]at h1;first|exact h1|exact .inr (.inl (by simpa using c5))
      |true=>
       rw[c5,Bd]at h1;have :=U _ h1;rw[this]at h1
       first|exact h1|exact .inr (.inr aBM)
 clear h1 U;obtain⟨h1,hk,hst,Y⟩:=hj2;unfold TL at h1;rw[BO,(mO (s:=e.Room) O.room).2,(Zx (s:=e.bG) O.sender).2,aOI O.key]at h1;simp only[Af]at h1
 have I:IG e.Room 33=true:=by
  cases hm:IG e.Room 33 with
  |true=>rfl
  |false=>unfold SH at h1;rw[hm]at h1;cases h1
 have r0:SH e.Room=0:=by unfold SH;rw[I];rfl
 rw[r0,je,BO,Af]at h1
 have J:IG e.bG 64=true:=by
  cases hm:IG e.bG 64 with
  |true=>rfl
  |false=>unfold SL at h1;rw[hm]at h1;cases h1
 have u0:SL e.bG=0:=by unfold SL;rw[J];rfl
 rw[u0,je,BO,Af]at h1
 have j:WJ e.Kind e.Key=true:=by
  cases hm:WJ e.Kind e.Key with
  |true=>rfl
  |false=>rw[hm]at h1;cases h1
 rw[j,FK,BO]at h1;obtain⟨t1,h1⟩:=a2G a1J h1;rw[Af]at h1;obtain⟨t2,h1⟩:=a2G a1J h1;rw[Af]at h1;obtain⟨t3,h1⟩:=a2G a1J h1;rw[Af]at h1;obtain⟨t4,h1⟩:=KO h1 Ba;obtain⟨t5,h1⟩:=a2G a1J h1;rw[Af]at h1;obtain⟨t6,h1⟩:=KO h1 Ba;obtain⟨x21,h21,h1⟩:=Du h1;obtain⟨t7,h1⟩:=a2G a1J h1;rw[Option.bind_assoc]at h1;obtain⟨x24,h24,h1⟩:=Du h1;rw[Af]at h1;obtain⟨t8,h1⟩:=KO h1 Ba;obtain⟨D6,Z,h1⟩:=Du h1;obtain⟨t9,h1⟩:=KO h1 Ba;obtain⟨x29,L,h1⟩:=Du h1;obtain⟨t10,_⟩:=KO h1 Ba;have e21:x21=true:=by simpa using t7
 have e24:x24=true:=by simpa using t8
 subst e21 e24 t9 t10;have p1:=Jk t5;have p2:=Jk t6;have r1:=aVJ O.prev h21;have r2:=aVJ O.auth h24;have d1:=Jk t1;have d2:=Jk t2;have d3:=Jk t3;have d4:=Jk t4
 have hkz:e.Key.size<=2000:=by
  rcases Y with h|h|h
  ·rw[h];exact F6 _
  ·unfold WJ at j;rw[Dw h]at j;have :SL e.Key=0:=WW
   unfold SL at this;cases hm:IG e.Key 64 with
   |true=>have :=zi hm;omega
   |false=>rw[hm]at this;cases this
  unfold WJ at j;rw[EC AL,Dw h]at j;unfold a0Y at j;simp only[Dx,Ik]at j;have :=j.1.2;omega
 have z1:=zi I;have z2:=zi J;refine⟨hk,hst,Y,I,J,j,⟨AL,AL⟩,⟨AL,AL⟩,⟨AL,r1⟩,⟨AL,r2⟩,λhp=>?_,λhk1=>?_,h3,⟨?_,?_,M.allow,M.deny,M.users,M.kinds,?_,?_,hkz,M.text,M.via,F6 _,M.allows,M.denies,M.names⟩⟩
 ·rw[hp]at Z;have :=E9 Z;simpa using this
 ·rw[hk1]at L;have L:((cond ((e.bP.length:Int)>0) (some true) (some (decide ((e.bQ.length:Int)>0)))).bind λx31=>some x31)=some false:=L;cases q:decide ((e.bP.length:Int)>0)with
  |true=>rw[q]at L;cases L
  |false=>
   rw[q]at L;have q2:=E9 L;have :=Jk q;have :=Jk q2;exact⟨I4 AL,I4 AL⟩
 ·show e.bP.length<=40;omega
 ·show e.bQ.length<=40;omega
 ·show e.Room.size<=2000;omega
 show e.bG.size<=2000;omega
def aRO (O:Ry e):∃c,vZ e=some c/\Uh e=some c/\(c=0->uN e/\Fp e):=by
 obtain⟨x,J,I⟩:=abu O;unfold vZ Uh;rw[J,I,Af,Af];cases L:x != 0 with
 |true=>
  grind
 |false=>
  obtain rfl:x=0:=kS
  have U:=ac0 O I;have hs:=U.small;have M:e.bG.size<=2000:=hs.sender;rw[BO,BO,(a1w hs).1,(a1w hs).2,aYC _ hs.content,aGY];simp only[Af];rw[ad5 _ hs.content,aTF _ hs.content];simp only[Af]
  have key:∀v,∃c,jS e v=some c/\eI e v=some c/\(c=0->uN e/\Fp e):=λv=>by
   obtain⟨c,j,Z⟩:=alS hs v;refine⟨c,j,Z,λh0=>⟨U,?_⟩⟩;subst h0;unfold jS at j;obtain⟨_,j⟩:=KO j Ba;rw[(aXz hs).1,Af]at j;obtain⟨_,j⟩:=KO j Ba;rw[(oL (s:=e.bG) AL).1,Af]at j;obtain⟨Y,_⟩:=KO (show(cond (!((e.rM.Server.toList==(splitB e.bG (LM e.bG)).2.1.toList)&&((e.rM.Sum==e.Id)&&true))) (some 12) (some 0))=some (0:Int)from j) Ba
   have c4:e.rM.Server=(splitB e.bG (LM e.bG)).2.1:=by
    cases q:(e.rM.Server.toList==(splitB e.bG (LM e.bG)).2.1.toList)with
    |true=>
     exact toList_inj (eq_of_beq q)
    |false=>
     rw[q]at Y;cases Y
   have hz:=(ady e.bG M).2.2;exact⟨hs.prev,hs.auth,hs.allow,hs.deny,hs.users,hs.kinds,hs.room,hs.sender,hs.key,hs.text,hs.via,by rw[c4];exact hz,hs.allows,hs.denies,hs.names⟩
  cases(!(Sr e==e.Hash))with
  |true=>
   rw[Bd,Bd];exact key _
  |false=>
   rw[BO,BO];exact key _
def aCs {f g:(Int->AB Int)->Int->AB Int}(N lo:Nat)(hs:∀k k' (i:Nat),lo<=i->i<N->EM (k ((i+1:Nat):Int)) (k' ((i+1:Nat):Int))->EM (f k (i:Int)) (g k' (i:Int)))(J:∀k k',EM (f k (N:Int)) (g k' (N:Int))):
 ∀n (i:Nat),lo<=i->i+n=N->∀m j,n<m->n<j->EM (bg f m (i:Int)) (bg g j (i:Int)):=by
 intro n
 induction n with
 |zero=>
  intro i I hi m j h1 h2;obtain⟨m,rfl⟩:∃q,m=q+1:=⟨m-1,AL⟩
  obtain⟨j,rfl⟩:∃q,j=q+1:=⟨j-1,AL⟩
  have :i=N:=AL
  subst this;exact J _ _
 |succ n L=>
  intro i I hi m j h1 h2;obtain⟨m,rfl⟩:∃q,m=q+1:=⟨m-1,AL⟩
  obtain⟨j,rfl⟩:∃q,j=q+1:=⟨j-1,AL⟩
  exact hs _ _ i I AL (L (i+1) AL AL m j AL AL)
def lasts {R:Type}{body:(Int->AB R)->Int->AB R}{ok:R}(N:Nat)(O:N<=9223372036854775807)(P:Nat->Prop)(L:∀k (i:Nat),i<N->body k (i:Int)=some ok->P i/\k ((i+1:Nat):Int)=some ok)(q:Nat)(U:q<=N)(h:bg body Aw (q:Int)=some ok):(∀i,q<=i->i<N->P i)/\∃k,body k (N:Int)=some ok:=by
 have key:∀n (i:Nat) m,i+n=N->n<m->bg body m (i:Int)=some ok->(∀j,i<=j->j<N->P j)/\∃k,body k (N:Int)=some ok:=by
  intro n
  induction n with
  |zero=>
   intro i m hi hm I;obtain⟨m,rfl⟩:∃J,m=J+1:=⟨m-1,AL⟩
   have :i=N:=AL
   subst this;exact⟨λj h1 h2=>AL,_,I⟩
  |succ n M=>
   intro i m hi hm I;obtain⟨m,rfl⟩:∃J,m=J+1:=⟨m-1,AL⟩
   obtain⟨a,b⟩:=L (bg body m) i AL I;obtain⟨c,d⟩:=M (i+1) m AL AL b;refine⟨λj h1 h2=>?_,d⟩;rcases aDg h1 with rfl|h1
   ·exact a
   exact c j h1 h2
 have Y:Aw=9223372036854775808:=rfl;exact key (N-q) q Aw AL AL h
variable {i:Nat}
def aVL {l:AA α}(h:i+1<l.length)(hl:l.length<=1000000):Aq l (Ar (((i+1:Nat):Int)-1))=some l[i]:=by
 rw[show Ar (((i+1:Nat):Int)-1)=(i:Int) by rw[Vo];omega,CX AL]
variable {l:AA Ad}
def aZR (O:∀e∈l,Ry e)(hl:l.length<=1000):EM (Qb l) (NS l):=by
 by_cases L:l=[]
 ·subst L;exact⟨0,A8,A8⟩
 have q:0<l.length:=qW.2 L;have U:Aw=9223372036854775807+1:=rfl
 have h3:EM (a3W l 1) (aEK l 1):=by
  unfold a3W aEK;refine aCs l.length 1 (λk k' i J hi I=>?_) (λk k'=>?_) (l.length-1) 1 (Eo _) AL Aw Aw AL AL
  ·obtain⟨i,rfl⟩:∃j,i=j+1:=⟨i-1,AL⟩
   unfold a4l aCF;rw[Ce hi,dec_lt hi,Bd,aVL hi AL,Af,Af,CX hi,Af,wrap_succ (i+1) AL];show EM (cond (l[i+1].Id<=l[i].Id) (some 8) (k _)) (cond (l[i].Id>=l[i+1].Id) (some 8) (k' _));exact Ib (λ_=>.ret _) λ_=>I
  unfold a4l aCF;rw[DY];exact .ret _
 have M:Aq l 0=some l[0]:=CX (i:=0) q
 have h2:EM (vW l 0) (aKE l 1):=by
  have Y:∀k,au l k 0=k 1:=λk=>by
   unfold au;rw[show decide ((0:Int)<(l.length:Int))=true by simpa using q,Bd,M,Af,Af,SE];rfl
  have Z:vW l 0=bg (au l) 9223372036854775807 1:=by
   unfold vW;rw[U];exact Y _
  rw[Z];unfold aKE;refine aCs l.length 1 (λk k' i J hi I=>?_) (λk k'=>?_) (l.length-1) 1 (Eo _) AL _ Aw AL AL
  ·unfold au aCm;rw[Ce hi,Ce hi,M,Af,Af,wrap_succ i AL];exact Ib (λ_=>.ret _) λ_=>I
  unfold au aCm
  grind
 unfold Qb NS;rw[Iq (show ¬(l.length:Int)>2000 by omega),BO,BO];unfold aGH aEC;refine aCs l.length 0 (λk k' i _ hi I=>?_) (λk k'=>?_) l.length 0 (Eo _) AL Aw Aw AL AL
 ·unfold a1O a3S;obtain⟨c,c1,c2,_⟩:=aRO (O _ (Eu hi));rw[Ce hi,Ce hi,c1,c2,Af,Af,wrap_succ i AL];exact Ib (λ_=>.ret _) λ_=>I
 unfold a1O a3S
 grind
structure RV (l:List Ad):Prop where
 ev:∀e∈l,uN e/\Fp e
 room:∀x∈l,∀y∈l,x.Room=y.Room
 inc:Inc (l.map (·.Id))
def ajj {f:Nat->Int}:∀(n i j:Nat),(∀k,i<=k->k<j->f k<f (k+1))->i+n=j->0<n->f i<f j:=by
 intro n
 induction n with
 |zero=>
  grind
 |succ n J=>
  intro i j h q _;rcases bH n with I|I
  ·subst I;rw[←q];exact h i (Eo _) AL
  have a:=h i (Eo _) AL;have b:=J (i+1) j (λk h1 h2=>h k AL h2) AL I;omega
def aYd (hw:∀e∈l,Ry e)(hl:l.length<=1000)(h:Qb l=some 0):RV l:=by
 unfold Qb at h;rw[Iq (show ¬(l.length:Int)>2000 by omega),BO]at h;unfold aGH at h
 obtain⟨p1,k1,h⟩:=lasts l.length AL (λi=>∀x,l[i]? =some x->uN x/\Fp x) (λk i hi I=>by
  unfold a1O at I;obtain⟨c,c1,_,c3⟩:=aRO (hw _ (Eu hi));rw[Ce hi,c1,Af,wrap_succ i AL]at I;obtain⟨e,I⟩:=TF I
  exact⟨λx J=>by rw[EJ hi]at J;obtain rfl:=E9 J;exact c3 e,I⟩) 0 (F6 _) h
 unfold a1O at h;rw[DY,BO]at h;unfold vW at h
 obtain⟨p2,k2,h⟩:=lasts l.length AL (λi=>∀x y,l[i]? =some x->l[0]? =some y->x.Room=y.Room) (λk i hi I=>by
  unfold au at I;have g0:Aq l 0=some l[0]:=CX (i:=0) AL;rw[Ce hi,g0,Af,wrap_succ i AL]at I;obtain⟨e,I⟩:=KO I Ba;refine⟨λx y J L=>?_,I⟩;rw[EJ hi]at J;rw[EJ AL]at L;obtain rfl:=E9 J;obtain rfl:=E9 L
  exact toList_inj WA) 0 (F6 _) h
 unfold au at h;rw[DY,BO]at h;refine⟨qF p1,λx J y L=>?_,?_⟩
 ·have key:∀x∈l,∀y,l[0]? =some y->x.Room=y.Room:=qF λi hi O x J y L=>p2 i hi O x y J L;have h0:0<l.length:=List.length_pos_of_mem J;have e0:l[0]? =some l[0]:=EJ h0
  grind
 by_cases Y:l=[]
 ·subst Y;exact .nil
 have M:0<l.length:=qW.2 Y;unfold a3W at h
 obtain⟨p3,_⟩:=lasts l.length AL (λi=>∀j x y,i=j+1->l[i]? =some x->l[j]? =some y->y.Id<x.Id) (λk i hi I=>by
  unfold a4l at I;rw[Ce hi]at I;obtain⟨z,Z,I⟩:=Du I;obtain⟨e,I⟩:=KO I Ba;rw[wrap_succ i AL]at I;refine⟨λj x y hj J L=>?_,I⟩;subst hj;rw[aVL hi AL]at Z;rw[EJ hi]at J;rw[EJ AL]at L;obtain rfl:=E9 J;obtain rfl:=E9 L;obtain rfl:=E9 Z
  have :=Jk e;omega) 1 M h
 rw[Inc,jR,Jq];intro i j hi hj hij
 have :=ajj (f:=λq=>(l.getD q EI).Id) (j-i) i j (λk h1 h2=>by
  have U:k+1<l.length:=AL
  have :=p3 (k+1) AL U k l[k+1] l[k] rfl (EJ U) (EJ AL)
  simpa[List.getD,EJ U,EJ (show k<l.length by omega)]using this) AL AL
 grind
def RV.ok (h:RV l)(hl:l.length<=100):QF l:=⟨hl,λe j=>(h.ev e j).2,bK h.inc,λe j=>(h.ev e j).1.depth⟩
def aJR (j:∀e∈l,Ry e)(hl:l.length<=100):∃c,Qb l=some c/\NS l=some c/\(c=0->RV l):=by
 obtain⟨c,q,I⟩:=aZR j AL;exact⟨c,q,I,λh=>aYd j AL (by rw[q,h])⟩
def aTs (h:Fp e):Fp (Ve e):=by
 have j:=h.content.strip e.Kind;exact⟨h.prev,h.auth,j.allow,j.deny,j.users,j.kinds,h.room,h.sender,h.key,j.text,j.via,h.server,j.allows,j.denies,j.names⟩
def abL (q:NS l=some 0)(hl:l.length<=100):∀x∈l,Uh x=some 0:=by
 unfold NS at q;obtain⟨_,h⟩:=KO q Ba;unfold aEC at h
 obtain⟨J,_⟩:=lasts l.length AL (λi=>∀x,l[i]? =some x->Uh x=some 0) (λk i hi j=>by
  unfold a3S at j;rw[Ce hi]at j;obtain⟨y,L,j⟩:=Du j;obtain⟨e,j⟩:=TF j;subst e;rw[wrap_succ i AL]at j
  exact⟨λx I=>by rw[EJ hi]at I;obtain rfl:=E9 I;exact L,j⟩) 0 (F6 _) h
 exact qF J
def JA (x:Ej):Io:=⟨x.id,x.before,x.after,x.err⟩
def Lp (t:AA Ej)(x:Int):Io×Ac:=match Gs t x with
 |some y=>(JA y,true)
 |none=>(Wh,false)
def aBJ (t:AA Ej)(x:Int):(Lp t x).1.After=MC t x:=by unfold Lp MC;cases Gs t x<;>rfl
def aUd (t:AA Ej)(x:Int):(Lp t x).1.Err=errOf t x:=by unfold Lp errOf;cases Gs t x<;>rfl
def VP (t:AA Ej)(x:Int)(Y:t.length<=1000000):U9 (t.map JA) x=some (Lp t x):=by
 unfold U9 aQU;have hm:(t.map JA).length=t.length:=DK ..;refine dQ.eq (Yu (body:=aI0 (t.map JA) x) (Q:=(· =Lp t x)) (λn a _=>∃i:Nat,a=i/\i+n=t.length/\∀j,(q:j<i)->(hl:j<t.length)->¬(t[j].id==x)=true) ?_ Aw t.length 0 _ (fuel_lt AL) ⟨0,rfl,AL,λj q=>AL⟩);rintro n a b k ⟨i,rfl,Z,L⟩ M;unfold aI0;by_cases hi:i<t.length
 ·have I:i<(t.map JA).length:=AL
  rw[Ce I,CX I,Af,Pn];show dQ (cond (t[i].id==x) (some (JA t[i],true)) (k _ b)) _;cases O:t[i].id==x with
  |true=>
   have J:Gs t x=some t[i]:=by
    unfold Gs;rw[List.find?_eq_some_iff_getElem]
    grind
   exact .ret (by unfold Lp;rw[J])
  |false=>
   refine M (n-1) _ _ AL ⟨i+1,wrap_succ i AL,AL,λj q hl=>?_⟩;by_cases e:j=i
   ·subst e;rw[O];simp
   exact L j AL hl
 have :i=t.length:=AL
 subst this;rw[←hm,DY]
 have J:Gs t x=none:=by
  unfold Gs;rw[aAl];intro y U;obtain⟨j,q,rfl⟩:=I8 U;exact L j q q
 exact .ret (by unfold Lp;rw[J])
def aWB (t:AA Io)(x:Int):aB3 t x=U9 t x:=rfl
def aaT (l:AA Ad)(t:AA Ej)(e:Ad)(s:AA BN)(hl:l.length<=100)(hs:EZ l)(j:Fp e)(hsl:s.length<=100)(U:t.length<=1000):a0N l (t.map JA) e s=some (V4 l t e s):=by
 have h1:=j.auth;have h2:=jQ l s
 have L:∀v,a04 e (t.map JA) l s v=some (cond (v != 0) v (bif e.bQ.any (λx=>errOf t x != 0)then 16 else UD e (GI l s))):=λv=>by
  unfold a04 aMM
  refine dQ.eq (KA e.bQ.length (fuel_lt AL) (λi a=>a=bif v != 0 then v else bif (e.bQ.take i).any (λx=>errOf t x != 0)then 16 else 0) (by cases q:v != 0 with
   |true=>
    rfl
   |false=>exact WU) (λi a k hi ha Y=>?_) λa k ha=>?_)
  ·unfold aJN aBA;rw[Ce hi,aWB,VP _ _ AL,Af,aUd,wrap_succ i AL];have M:(cond (a==0) (some (errOf t e.bQ[i] != 0)) (some false))=some (a==0&&errOf t e.bQ[i] != 0):=by cases a==0<;>rfl
   rw[M,Af]
   have I:∀b:Int,b=(cond (a==0&&errOf t e.bQ[i] != 0) 16 a)->b=bif v != 0 then v else bif (e.bQ.take (i+1)).any (λx=>errOf t x != 0)then 16 else 0:=λb O=>by
    rw[a1X hi,O,ha]
    grind
   grind
  unfold aJN;rw[DY,BO,ha,Ho,aWN l s hl AL,Af,aEf e (GI l s) AL (a2P hs _) j];cases q:v != 0 with
  |true=>
   simp only[Bd,q];exact .ret rfl
  |false=>
   cases e.bQ.any (λx=>errOf t x != 0)with
   |true=>
    exact .ret rfl
   |false=>
    exact .ret rfl
 unfold a0N V4 a2v;rw[amu l e hl j,Af,aWL l e AL AL,Af,aEf e _ (FQ (a7L l e) AL) (hs.from e) j,Af,L,L];have J:(X3 l e != 0)= !(X3 l e==0):=rfl;rw[J]
 grind
def aFN (l:AA Ad):∀(ids:AA Int) (t:AA Ej),(ids.foldl (λt id=>t++[Ws l t (ev l id)]) t).length=t.length+ids.length
 | [],t=>rfl
 |x::ids,t=>by rw[Hy,aFN l ids,Em,H8];simp;omega
def aQ3 (h:QF l):yx l=some ((Gh l).map JA):=by
 have hl:=h.len;have hs:=h.small;have U:=a5E l;unfold yx;rw[aTd l AL,Af];unfold Gh;generalize QA l=ids at U;unfold aRB;refine dQ.eq (KA ids.length (fuel_lt AL) (λi a=>a=(OB l (ids.take i)).map JA) rfl (λi a k hi ha hk=>?_) λa k ha=>?_)
 ·have Y:Ln l (OB l (ids.take i)):=a7a hl hs _ _ λy hy=>absurd hy H9
  have Z:(OB l (ids.take i)).length<=100:=by
   have :=aFN l (ids.take i) [];unfold OB;rw[this,HY,La];omega
  have q:=aWw l hi;have he:=yC hs ids[i];have hpl:=he.prev;generalize OB l (ids.take i)=t at ha Y Z q;subst ha;unfold aI3;rw[Ce hi,J6 l _ AL,Af];have L:(Fv l ids[i]).1=ev l ids[i]:=rfl;unfold aLj;refine Ux (body:=aKh (Fv l ids[i]) l k (i:Int)) (Q:=_) (λn a b c=>∃j:Nat,b=j/\j+n=(ev l ids[i]).bP.length/\c=t.map JA/\a=((ev l ids[i]).bP.take j).map (MC t)) ?_ Aw (ev l ids[i]).bP.length [] 0 (t.map JA) (fuel_lt AL) ⟨0,rfl,AL,rfl,rfl⟩;rintro n a b c k2 ⟨j,rfl,hn,rfl,ha⟩ hk2;unfold aKh;rw[L];by_cases hj:j<(ev l ids[i]).bP.length
  ·have hal:a.length<=j:=oW
   rw[Ce hj,aWB,VP _ _ AL,Af,aBJ,Dz Gm,Af,wrap_succ j AL];exact hk2 (n-1) _ _ _ AL ⟨j+1,rfl,AL,rfl,by rw[map_take hj,ha]⟩
  have :j=(ev l ids[i]).bP.length:=AL
  subst this;rw[Ho]at ha;subst ha;rw[DY,BO];have hp:=Y.stB hl hs hpl;have M:=hp.length
  have hJ:dQ (tZ l (Fv l ids[i]) k (i:Int) (t.map JA) ⟨(ev l ids[i]).Id,stB l t (ev l ids[i]),[],0⟩) (λx=>x=(OB l ids).map JA):=by
   unfold tZ;rw[L];show dQ ((a0N l (t.map JA) (ev l ids[i]) (stB l t (ev l ids[i]))).bind _) _;rw[aaT l t (ev l ids[i]) _ hl hs he AL AL,Af];have I:Ws l t (ev l ids[i])=jr (ev l ids[i]) (stB l t (ev l ids[i])) (V4 l t (ev l ids[i]) (stB l t (ev l ids[i]))):=rfl;rw[I]at q;generalize V4 l t (ev l ids[i]) (stB l t (ev l ids[i]))=r at q;generalize stB l t (ev l ids[i])=s at q M
   have O:∀y:Ej,y=jr (ev l ids[i]) s r->dQ (wQ k (i:Int) (t.map JA) (JA y)) (λx=>x=(OB l ids).map JA):=λy hy=>by
    unfold wQ;rw[Dz (by simp only[Oh,DK];omega),Af,wrap_succ i AL]
    grind
   show dQ ((cond (r==0) ((Ug (ev l ids[i]).Kind).bind λJ=>some J) (some false)).bind _) _;rw[aBD,show(cond (r==0) ((some (JJ (ev l ids[i]).Kind)).bind λJ=>some J) (some false))=some (r==0&&JJ (ev l ids[i]).Kind) by cases r==0<;>rfl,Af];cases hc:(r==0&&JJ (ev l ids[i]).Kind)with
   |true=>
    rw[Bd];show dQ ((dh s (ev l ids[i]).Kind (ev l ids[i]).Key (ev l ids[i]).Id).bind _) _;rw[aC9 _ _ _ _ AL,Af];exact O ⟨(ev l ids[i]).Id,s,Gu s (ev l ids[i]).Kind (ev l ids[i]).Key (ev l ids[i]).Id,r⟩ (by unfold jr;rw[hc];rfl)
   |false=>
    rw[BO];exact O ⟨(ev l ids[i]).Id,s,s,r⟩ (by unfold jr;rw[hc];rfl)
  by_cases hz:(ev l ids[i]).bP=[]
  ·have hst:stB l t (ev l ids[i])=[]:=by unfold stB;rw[hz];rfl
   grind
  have hpos:0<(ev l ids[i]).bP.length:=qW.2 hz;rw[L8 RF,Bd,aXN (Y.okay hl hs _ AL),Af];exact hJ
 unfold aI3;rw[DY];exact .ret fE
def aWT (l:AA Ad)(t:AA Ej)(hl:l.length<=1000)(L:t.length<=1000):a8o l (t.map JA)=some (LG l t):=by
 unfold a8o aVS;refine dQ.eq (KA l.length (fuel_lt AL) (λi a=>a=LG (l.take i) t) rfl (λi a k hi ha q=>?_) λa k ha=>?_)
 ·have J:a.length<=i:=aMO
  unfold aGO a5a;have j:(cond ((Lp t l[i].Id).2) (some ((Lp t l[i].Id).1.Err==0)) (some false))=some (Iw t l[i].Id):=by unfold Lp Iw;cases Gs t l[i].Id<;>rfl
  rw[Ce hi,VP _ _ AL,Af,j,Af,wrap_succ i AL];cases I:Iw t l[i].Id with
  |true=>
   rw[Bd,CX hi,Af,Dz Gm,Af];exact q _ (by rw[a9j hi,I,ha];rfl)
  |false=>exact q _ (by rw[a9j hi,I,ha];simp)
 unfold aGO;rw[DY];exact .ret fE
def anq (l:AA Ad)(t:AA Ej)(hl:l.length<=100)(hs:EZ l)(q:Ln l t)(j:t.length<=1000):a9W l (t.map JA)=some (XC l t):=by
 have ha:=aAw l t;have I:=aSZ l (LG l t);unfold a9W yt XC;rw[aWT l t AL j,Af,aXJ l _ AL hs AL,Af,Af];generalize Xp l (LG l t)=H at I;unfold aU0;refine dQ.eq (KA H.length (fuel_lt AL) (λi a=>a=(H.take i).map (MC t)) rfl (λi a k hi ha J=>?_) λa k ha=>?_)
 ·have L:a.length<=i:=oW
  unfold aKf;rw[Ce hi,VP _ _ AL,Af,aBJ,Dz Gm,Af,wrap_succ i AL];exact J _ a8w
 rw[Ho]at ha;unfold aKf;rw[DY,BO,ha,aXN (q.okay hl hs _ AL),Af];cases H with
 |nil=>exact .ret rfl
 |cons x H=>exact .ret rfl
def aAX {c:Int}(I:NS l=some c)(h:c=0->QF l):WS l=some ((OL l c).map JA)/\Ln l (OL l c)/\(OL l c).length<=l.length:=by
 unfold WS aFJ OL;rw[I,Af];cases J:c==0 with
 |false=>exact⟨rfl,λy q=>absurd q H9,F6 _⟩
 |true=>
  have j:=h (eq_of_beq J);have hlen:(Gh l).length=l.length:=by rw[←a5E l];have :=aFN l (QA l) [];simpa[Gh,OB]using this
  rw[Bd,aMZ l j.len j.small j.dep,Af,Af,Af,Gf];cases hd:OX l==0 with
  |false=>exact⟨rfl,λy q=>absurd q H9,F6 _⟩
  |true=>
   rw[FK,BO,aQ3 j,Af,Bd];exact⟨rfl,aUU j,iW hlen⟩
def aoi {c:Int}(j:NS l=some c)(h:c=0->QF l)(hl:l.length<=100)(hs:EZ l):a6h l=some (XC l (OL l c)):=by
 obtain⟨h1,h2,h3⟩:=aAX j h;unfold a6h;rw[h1,Af,anq l _ hl hs h2 AL];rfl
def NH (t:AA Ej)(x:Int):AA BN×Int:=match Gs t x with
 |some y=>(y.before,bif y.err != 0 then 2 else 4)
 |none=>([],0)
section
variable {c:Int}
def afA (q:Qb l=some c)(h:c=0->QF l)(id:Int):Vz l id=some (NH (OL l c) id):=by
 unfold Vz;refine dQ.eq ((run_eq l q h).bind λo I=>?_);rcases I with⟨h1,rfl⟩|⟨h1,_,T,rfl,j⟩
 ·rw[h1];exact .ret rfl
 rw[h1];simp only[Xl];unfold a0p a2e NH;rw[j.r,j.b];cases Gs (Gh l) id with
 |none=>exact .ret rfl
 |some y=>
  show dQ ((cond (y.err != 0) (some 2) (some 4)).bind λJ=>some (y.before,J)) (λr=>r=(y.before,bif y.err != 0 then 2 else 4));cases y.err != 0<;>exact .ret rfl
def aoD (q:Qb l=some c)(h:c=0->QF l)(id:Int):sK l id=some (MC (OL l c) id):=by
 unfold sK;refine dQ.eq ((run_eq l q h).bind λo I=>?_);rcases I with⟨h1,rfl⟩|⟨h1,_,T,rfl,j⟩
 ·rw[h1];exact .ret rfl
 rw[h1];simp only[Xl];unfold a0p MC;rw[j.r,j.a];cases Gs (Gh l) id<;>exact .ret rfl
def anb (q:Qb l=some c)(h:c=0->QF l):eP l=some (LG l (OL l c)):=by
 unfold eP;refine dQ.eq ((run_eq l q h).bind λo j=>?_);rcases j with⟨h1,rfl⟩|⟨h1,j,T,rfl,I⟩
 ·rw[h1,aWv];exact .ret rfl
 rw[h1];show dQ ((qm T.1 T.2.1 T.2.2 l).bind _) _;rw[ac6 I j.len];exact .ret rfl
end
variable {t:AA Ej}
def uS (h:Ln l t){x:Int}{y:Ej}(j:Gs t x=some y):JH l y.before/\JH l y.after:=h y (YD j)
def SB (l:AA Ad)(s:AA BN)(j:Ad):Int:=
 bif !(j.Kind==14)then 1 else bif !dR l j.Content.Target then 5 else bif !(Hq (GI l s) j.bG==3)then 18 else
 bif !decide (j.bG=(ev l j.Content.Target).bG)&&decide (Ey (Fe (GI l s)) j.bG<(Fe (GI l s)).gy)then 20 else 0
def TP (l:AA Ad)(t:AA Ej)(e:Ad):Ac:=Iw t e.Id&&(e.Kind==14&&SB l (NH t e.Id).1 e==0)
def bI (l:AA Ad)(t:AA Ej):AA Ad:=l.filter (TP l t)
def iG (l:AA Ad)(t:AA Ej):AA Ad:=(VQ l).filter (TP l t)
def Zb (l:AA Ad):AA Int:=l.map (·.Content.Target)
def bM (l:AA Ad)(t:AA Ej):AA Int:=FN (Zb (bI l t))
def aaH (l:AA Ad)(t:AA Ej):FN (Zb (iG l t))=bM l t:=FD (NR _) (NR _) λx=>by
 unfold bM;rw[OJ,OJ];unfold Zb iG bI;rw[GH,GH];constructor
 ·rintro⟨e,j,h⟩;obtain⟨h1,h2⟩:=He.1 j;exact⟨e,He.2 ⟨(a8A l).mem_iff.1 h1,h2⟩,h⟩
 rintro⟨e,j,h⟩;obtain⟨h1,h2⟩:=He.1 j;exact⟨e,He.2 ⟨(a8A l).mem_iff.2 h1,h2⟩,h⟩
def aOm (l:AA Ad)(t:AA Ej):(bI l t).length<=l.length:=I9 ..
def aai (l:AA Ad)(t:AA Ej):(iG l t).length<=l.length:=by
 have :=I9 (TP l t) (VQ l);rw[vw]at this;exact this
def ag0 (l:AA Ad)(e:Ad):TP l [] e=false:=by unfold TP Iw Gs;rfl
def aeo (l:AA Ad):iG l []=[]:=sU.2 λe _=>by rw[ag0];decide
def kR {body:(Int->AB Ac)->Int->AB Ac}(l:AA α)(hl:l.length<=1000)(rest:AB Ac)(j:∀k (i:Nat) (h:i<l.length),body k (i:Int)=k (Ar ((i:Int)+1)))(q:∀k,body k (l.length:Int)=rest):bg body Aw 0=rest:=by
 have key:∀n (i:Nat),i+n=l.length->∀m,n<m->bg body m (i:Int)=rest:=by
  intro n
  induction n with
  |zero=>
   intro i hi m hm;obtain⟨m,rfl⟩:∃k,m=k+1:=⟨m-1,AL⟩
   rw[show i=l.length by omega];exact q _
  |succ n I=>
   intro i hi m hm;obtain⟨m,rfl⟩:∃k,m=k+1:=⟨m-1,AL⟩
   have :=j (bg body m) i AL;rw[wrap_succ i AL]at this;exact this.trans (I (i+1) AL m AL)
 exact key l.length 0 AL Aw (fuel_lt AL)
def gu (n:Int):(n != n)=false:=Bf
def aSv {l:AA Int}(h:l.length<=1000):xA l l=some true:=by
 unfold xA aP5;rw[gu,BO];exact kR l h _ (λk i h=>by simp only[aIY,dec_lt h,Bd,CX h,Af,je,BO]) (λk=>by simp only[aIY,DY,BO])
def aMV {l:AA BH}(h:l.length<=1000):V3 l l=some true:=by
 unfold V3 aAY;rw[gu,BO];exact kR l h _ (λk i h=>aRj) (λk=>aHZ)
def apa {l:Ci}(h1:l.Users.length<=1000)(h2:l.Kinds.length<=1000):XD l l=some true:=by
 have h3:bV l l 0=some true:=by
  unfold bV;exact kR l.Kinds h2 _ (λk i h=>by simp only[tH,dec_lt h,Bd,CX h,Af,je,BO,ug]) (λk=>by simp only[tH,DY,BO,SE,Bd,Af])
 unfold XD;rw[gu,gu,BO,Af,BO];unfold vg;exact kR l.Users h1 _ (λk i h=>by simp only[oG,dec_lt h,Bd,CX h,Af,SE,FK,je,BO,a1R]) (λk=>by simp only[oG,DY,BO];exact h3)
def ahF {c:Cx}(h1:c.Allow.length<=1000)(h2:c.iK.length<=1000)(h3:c.Levels.Users.length<=1000)(j:c.Levels.Kinds.length<=1000):UQ c c=some true:=by
 unfold UQ;simp only[SE,Bd,Af,aMV h1,aMV h2,apa h3 j]
def wY (h:Fp e):jf e e=some true:=by
 have :=h.prev;have :=h.auth;have h1:=h.allow;have h2:=h.deny;have h3:=h.users;have j:=h.kinds;unfold jf;simp only[SE,Bd,Af,aSv (l:=e.bP) AL,aSv (l:=e.bQ) AL,ahF (c:=e.Content) AL AL AL AL]
def aVe (h:l.length<=1000)(hs:∀e∈l,Fp e):nG l l=some true:=by
 unfold nG aMD;rw[gu,BO];exact kR l h _ (λk i h=>by simp only[aFq,dec_lt h,Bd,CX h,Af,wY (hs _ (Eu h)),FK,BO]) (λk=>by simp only[aFq,DY,BO])
section
set_option maxRecDepth 20000
set_option maxHeartbeats 1000000
def aob (l:AA Ad)(s:AA BN)(u:BH):Hq (GI l s) u=match s.find? (λx=>(Ea l x.Id).any (Nv u))with |some x=>(ev l x.Id).Content.N|none=>0:=by
 unfold Hq GI ofIds;rw[List.find?_filterMap,List.find?_map];have e:((λa=>(Ea l a).any (Nv u))∘λx:BN=>x.Id)=λx=>(Ea l x.Id).any (Nv u):=rfl;rw[e];cases q:s.find? λx=>(Ea l x.Id).any (Nv u)with
 |none=>rfl
 |some x=>
  have h:=yS q;simp only[Jp,Af];cases j:Ea l x.Id with
  |none=>rw[j]at h;cases h
  |some y=>unfold ev;rw[Ll j]
def aaQ (l:AA Ad)(x:BN)(u:BH)(k:Int->AB Int)(v:Int)(hl:l.length<=1000):aDX l x u k v 0=bif (Ea l x.Id).any (Nv u)then some (ev l x.Id).Content.N else oD k v:=by
 unfold aDX;rw[JG l (fuel_lt AL) (λe=>e.Id==x.Id) (λi=>match l[i]? with |some e=>(cond (Nv u e) (some e.Content.N) (oD k v))|none=>none) (oD k v)]
 ·by_cases h:l.findIdx (λe=>e.Id==x.Id)<l.length
  ·have j:Ea l x.Id=some l[l.findIdx (λe=>e.Id==x.Id)]:=by unfold Ea;rw[Jz,EJ h]
   rw[Dw h,EJ h];unfold ev;rw[Ll j,j];rfl
  have j:Ea l x.Id=none:=by unfold Ea;rw[Jz,Lu AL]
  rw[EC h,j];rfl
 ·intro k i h;unfold aCV;rw[Ce h,CX h,EJ h];simp only[Af];rw[a0H,Af];unfold bne;cases l[i].Id==x.Id<;>rfl
 intro k;unfold aCV;rw[DY];rfl
def a8b (l:AA Ad)(s:AA BN)(u:BH)(hl:l.length<=1000)(hs:s.length<=1000):XP l s u=some (Hq (GI l s) u):=by
 rw[aob];unfold XP aQB;rw[JG s (fuel_lt AL) (λx=>(Ea l x.Id).any (Nv u)) (λi=>some (match s[i]? with |some x=>(ev l x.Id).Content.N|none=>0)) (some 0)]
 ·rw[Jz];by_cases h:s.findIdx (λx=>(Ea l x.Id).any (Nv u))<s.length
  ·rw[Dw h]
  rw[EC h,Lu AL]
 ·intro k i h;unfold aDj;rw[Ce h,aaQ _ _ _ _ _ hl,EJ h];rfl
 intro k;unfold aDj;rw[DY];rfl
def aA8 (l:AA Ad)(s:AA BN)(u:BH)(hl:l.length<=1000)(hs:s.length<=1000):aH l s u=some (Hq (GI l s) u):=by
 unfold aH aRM;refine dQ.eq (KA s.length (fuel_lt AL) (λi a=>a=(s.take i).map (·.Id)) rfl (λi a k hi ha j=>?_) λa k ha=>?_)
 ·have q:a.length<=1000:=oW
  unfold aKC;rw[Ce hi,Dz Gm,Af,wrap_succ i AL];exact j _ a8w
 rw[Ho]at ha;unfold aKC;rw[DY,BO,ha,a8y l _ hl RF,Af,a9e _ _ (by have :=jQ l s;unfold GI at this;omega)];exact .ret rfl
section
variable {l:AA Ad} {s:AA BN} (hl:l.length <= 100) (hsm:EZ l) (hs:s.length <= 100)
include hl hsm hs
theorem aiw {j:Ad}{st:Int}(hA:Vz l j.Id=some (s,st)):vT l j=some (SB l s j):=by
 have J:=jQ l s;have q:EZ (GI l s):=a2P hsm _;have L:=(a9b q).users;unfold vT SB;show(cond (!(j.Kind==14)) _ _)=_;cases j.Kind==14 with
 |false=>rfl
 |true=>
  have I:(Fv l j.Content.Target).2=dR l j.Content.Target:=NT ..;rw[FK,BO,BO,Ld l _ AL,Af,I];cases dR l j.Content.Target with
  |false=>rfl
  |true=>
   rw[FK,BO,BO,hA,Af];show(XP l s j.bG).bind _=_;rw[a8b l s _ AL AL,Af];show(cond (!(Hq (GI l s) j.bG==3)) _ _)=_;cases Hq (GI l s) j.bG==3 with
   |false=>rfl
   |true=>
    rw[FK,BO,BO];show(Zj l s).bind _=_;rw[aNC l s hl AL,Af,a8Y _ AL q,Af,JC];show(cond (!decide (j.bG=(ev l j.Content.Target).bG)) _ _)=_;cases decide (j.bG=(ev l j.Content.Target).bG)with
    |true=>rfl
    |false=>
     rw[JV,Bd];show(SA (Fe (GI l s)) j.bG).bind _=_;rw[ZN _ _ AL,Af];unfold a4o;show(cond (Ey (Fe (GI l s)) j.bG<(Fe (GI l s)).gy) _ _)=_;cases decide (Ey (Fe (GI l s)) j.bG<(Fe (GI l s)).gy)<;>rfl
theorem aeO (j:Ad):a1W l s j=some (SB l s j):=by
 have L:=jQ l s;have q:EZ (GI l s):=a2P hsm _;have M:=(a9b q).users;unfold a1W SB;show(cond (!(j.Kind==14)) _ _)=_;cases j.Kind==14 with
 |false=>rfl
 |true=>
  have I:(Fv l j.Content.Target).2=dR l j.Content.Target:=NT ..;rw[FK,BO,BO,J6 l _ AL,Af,I];cases dR l j.Content.Target with
  |false=>rfl
  |true=>
   rw[FK,BO,BO,aA8 l s _ AL AL,Af];show(cond (!(Hq (GI l s) j.bG==3)) _ _)=_;cases Hq (GI l s) j.bG==3 with
   |false=>rfl
   |true=>
    rw[FK,BO,BO,aWN l s hl AL,Af,a6D _ AL,Af,JC];have J:decide ((Fv l j.Content.Target).1.bG=j.bG)=decide (j.bG=(ev l j.Content.Target).bG):=zB.2 ⟨λh=>h.symm,λh=>h.symm⟩;rw[J];cases decide (j.bG=(ev l j.Content.Target).bG)with
    |true=>rfl
    |false=>
     rw[JV,Bd];show(Rl (Fe (GI l s)) j.bG).bind _=_;rw[XJ _ _ AL,Af];unfold a9d;show(cond (Ey (Fe (GI l s)) j.bG<(Fe (GI l s)).gy) _ _)=_;cases decide (Ey (Fe (GI l s)) j.bG<(Fe (GI l s)).gy)<;>rfl
end
structure Nl (l:List Ad) (t:List Ej):Prop where
 len:l.length<=100
 small:EZ l
 at_:∀id,Vz l id=some (NH t id)
 aft:∀id,sK l id=some (MC t id)
 acc:eP l=some (LG l t)
 G5:WS l=some (t.map JA)
 tok:Ln l t
 aFR:t.length<=l.length
 nd:t≠[]->(l.map (·.Id)).Nodup
def aTD {c:Int}(hs:EZ l)(hl:l.length<=100)(I:Qb l=some c)(L:NS l=some c)(M:c=0->RV l):Nl l (OL l c):=by
 have j:c=0->QF l:=λq=>(M q).ok hl;obtain⟨h1,h2,h3⟩:=aAX L j;refine⟨hl,hs,afA I j,aoD I j,anb I j,h1,h2,h3,λJ=>?_⟩;unfold OL at J;by_cases q:c=0
 ·exact(j q).nodup
 rw[aY.2 q]at J;exact absurd rfl J
def told (hs:EZ l)(hl:l.length<=100):∃c,Nl l (OL l c)/\Qb l=some c/\NS l=some c/\(c=0->RV l):=by
 obtain⟨c,j,q,I⟩:=aJR (λe J=>(hs e J).wide) hl;exact⟨c,aTD hs hl j q I,j,q,I⟩
def ajm (h:Ln l t)(x:Int):JH l (NH t x).1:=by
 unfold NH;cases j:Gs t x with
 |none=>exact .nil l
 |some y=>exact(uS h j).1
def a4s (e:Ad):Yn:=⟨e.Depth,e.Id,e.Content.Target⟩
section
variable {l:AA Ad} {t:AA Ej} (h:Nl l t)
include h
theorem Nl.at_len (x:Int):(NH t x).1.length<=100:=by have :=(ajm h.tok x).length;have :=h.len;omega
theorem Nl.may (j:Ad):vT l j=some (SB l (NH t j.Id).1 j):=aiw h.len h.small (h.at_len _) (st:=(NH t j.Id).2) (h.at_ _)
theorem Nl.known {e:Ad}(j:e∈l)(q:Iw t e.Id=true):Fv l e.Id=(e,true):=by
 have I:=h.nd (λJ=>by rw[J]at q;cases q);have L:dR l e.Id=true:=lS.2 (GH.2 ⟨e,j,rfl⟩);have h1:=(Om L).1;rw[aND I j]at h1;exact Ll h1
theorem Nl.effective:a3D l=some ((bI l t).map a4s):=by
 have hlen:=h.len;unfold a3D;rw[h.acc,Af];unfold LG aTn;have U:(l.filter λe=>Iw t e.Id).length<=l.length:=I9 ..
 have hE:bI l t=(l.filter λe=>Iw t e.Id).filter λe=>e.Kind==14&&SB l (NH t e.Id).1 e==0:=by
  unfold bI;rw[aCT];congr 1;funext e;unfold TP;rw[Bool.and_comm]
 have hm:∀x∈l.filter (λe=>Iw t e.Id),Fv l x.Id=(x,true):=λx J=>h.known (He.1 J).1 (He.1 J).2;rw[hE];generalize(l.filter λe=>Iw t e.Id)=X at U hm;have q:(X.map (·.Id)).length=X.length:=DK ..;refine dQ.eq (KA (X.map (·.Id)).length (fuel_lt AL) (λi a=>a=((X.take i).filter λe=>e.Kind==14&&SB l (NH t e.Id).1 e==0).map a4s) rfl (λi a k hi ha L=>?_) λa k ha=>?_)
 ·have j:i<X.length:=AL
  have Y:a.length<=1000:=by
   rw[ha,DK];have :=I9 (λe=>e.Kind==14&&SB l (NH t e.Id).1 e==0) (X.take i);rw[HY]at this;omega
  unfold aIj;rw[Ce hi,Pn,Ld l _ AL,hm _ (Eu j),Af];simp only[Bd,Af];rw[h.may];have Z:(cond (X[i].Kind==14) ((some (SB l (NH t X[i].Id).1 X[i])).bind λI=>some (I==0)) (some false))=some (X[i].Kind==14&&SB l (NH t X[i].Id).1 X[i]==0):=by cases X[i].Kind==14<;>rfl
  rw[Z,Af];have M:=oh (p:=λe=>e.Kind==14&&SB l (NH t e.Id).1 e==0) j;cases O:X[i].Kind==14&&SB l (NH t X[i].Id).1 X[i]==0 with
  |true=>
   rw[Bd,Dz Gm,Af];unfold wC;rw[wrap_succ i AL];exact L _ (by rw[M,O,ha,Jh];rfl)
  |false=>
   rw[BO];unfold wC;rw[wrap_succ i AL];exact L _ (by rw[M,O,ha,Jh];simp)
 rw[q,Ho]at ha;unfold aIj;rw[DY,BO,ha];exact .ret rfl
theorem Nl.gone:mG l=some (bM l t):=by
 have hlen:=h.len;have j:=aOm l t;unfold mG;rw[h.effective,Af];unfold bM Zb aRx;generalize bI l t=E at j;have q:(E.map a4s).length=E.length:=DK ..;refine dQ.eq (KA (E.map a4s).length (fuel_lt AL) (λi a=>a=(E.take i).map (·.Content.Target)) rfl (λi a k hi ha L=>?_) λa k ha=>?_)
 ·have I:i<E.length:=AL
  have J:a.length<=1000:=oW
  unfold aDc;rw[Ce hi,Pn,Dz Gm,Af,wrap_succ i AL];exact L _ (by rw[map_take I,ha];rfl)
 rw[q,Ho]at ha;have J:a.length<=1000:=by rw[ha,DK];omega
 unfold aDc;rw[DY,BO,←ha];have h2:(Rf a).length<=1099511627776:=by rw[(X6 a).length_eq];omega
 unfold O8 UY;rw[Dw AL,Af,Dw h2,a6M,a8e];exact .ret rfl
theorem Nl.effects:a4i l=some (iG l t):=by
 have hlen:=h.len;have htl:=h.aFR;unfold a4i;rw[h.G5,Af];by_cases J:t=[]
 ·rw[J,aeo];rfl
 have L:=h.nd J
 have M:((t.map JA).length:Int)≠0:=by
  rw[DK];intro e;exact J (I4 AL)
 rw[aY.2 M,BO,aTd l AL,Af];unfold QA iG aT3;have O:=vw l;have hm:∀x∈VQ l,x∈l:=λx I=>(a8A l).mem_iff.1 I;generalize VQ l=X at O hm;have U:(X.map (·.Id)).length=X.length:=DK ..;refine dQ.eq (KA (X.map (·.Id)).length (fuel_lt AL) (λi a=>a=(X.take i).filter (TP l t)) rfl (λi a k hi ha hk=>?_) λa k ha=>?_)
 ·have q:i<X.length:=AL
  have hal:a.length<=1000:=by
   rw[ha];have :=I9 (TP l t) (X.take i);rw[HY]at this;omega
  have I:=hm _ (Eu q)
  have hg:Fv l X[i].Id=(X[i],true):=by
   have h1:=(Om (lS.2 (GH.2 ⟨_,I,rfl⟩))).1;rw[aND L I]at h1;exact Ll h1
  unfold aFu;rw[Ce hi,CX hi,Pn,J6 l _ AL,hg,Af,Af,VP _ _ AL,Af]
  have j:(cond ((Lp t X[i].Id).2) (some ((Lp t X[i].Id).1.Err==0)) (some false))=some (Iw t X[i].Id):=by
   unfold Lp Iw;cases Gs t X[i].Id<;>rfl
  rw[j,Af];have Y:(cond (Iw t X[i].Id) (some (X[i].Kind==14)) (some false))=some (Iw t X[i].Id&&X[i].Kind==14):=by cases Iw t X[i].Id<;>rfl
  rw[Y,Af]
  have Z:(cond (Iw t X[i].Id&&X[i].Kind==14) ((a1W l (Lp t X[i].Id).1.Before X[i]).bind λO6=>some (O6==0)) (some false))=some (TP l t X[i]):=by
   unfold TP;cases hy:Gs t X[i].Id with
   |none=>unfold Iw;rw[hy];rfl
   |some y=>
    have e1:(Lp t X[i].Id).1.Before=(NH t X[i].Id).1:=by unfold Lp NH;rw[hy];rfl
    rw[e1,aeO h.len h.small (h.at_len _)];cases Iw t X[i].Id<;>cases X[i].Kind==14<;>rfl
  rw[Z,Af];have hf:=oh (p:=TP l t) q;cases hq:TP l t X[i]with
  |true=>
   rw[Bd,Dz Gm,Af];unfold xg;rw[wrap_succ i AL];exact hk _ (by rw[hf,hq,ha];rfl)
  |false=>
   rw[BO];unfold xg;rw[wrap_succ i AL];exact hk _ (by rw[hf,hq,ha];simp)
 rw[U,Ho]at ha;unfold aFu;rw[DY,BO,ha];exact .ret rfl
theorem Nl.aKs:uV l=some (bM l t):=by
 have hlen:=h.len;have j:=aai l t;unfold uV;rw[h.effects,Af,←aaH];unfold Zb aTu;generalize iG l t=E at j;refine dQ.eq (KA E.length (fuel_lt AL) (λi a=>a=FN ((E.take i).map (·.Content.Target))) rfl (λi a k hi ha q=>?_) λa k ha=>?_)
 ·have I:a.length<=1000:=by
   rw[ha];have :=ML ((E.take i).map (·.Content.Target));rw[DK,HY]at this;omega
  unfold aIM;rw[Ce hi,a6b _ _ (by rw[ha];exact NR _) AL,Af,wrap_succ i AL];exact q _ (by rw[ha,map_take hi];unfold FN;rw[X5];rfl)
 rw[Ho]at ha;unfold aIM;rw[DY,BO,ha];exact .ret rfl
end
end
def uX (hd:OX l=0):OL l 0=Gh l:=by unfold OL;rw[hd];rfl
def aUw (l:AA Ad)(e:Ad):Nat:=l.findIdx λx=> !decide (x.Id<e.Id)
def aqb (l:AA Ad)(e:Ad):AA Ad:=l.take (aUw l e)++e::l.drop (aUw l e)
def mP {p:α->α->Ac}(hp:∀x y,p x y=true->x=y){a b:AA α}(h:N8 p a b=true):a=b:=by
 unfold N8 at h;rw[Dx]at h;have hlen:a.length=b.length:=by have :=eq_of_beq h.1;omega
 have j:((a.zip b).any λx=> !p x.1 x.2)=false:=by simpa using h.2
 refine jB hlen λi h1 h2=>?_
 have :=aBZ.1 j (a[i],b[i]) (by
  have q:i<(a.zip b).length:=Eh
  have :=Eu q
  rwa [aF0]at this)
 exact hp _ _ aBM
def afW {a b:Ci}(h:qo a b=true):a=b:=by
 unfold qo zW at h;simp only[Dx,OC]at h;obtain⟨h1,h2,⟨⟨⟨⟨⟨⟨j,q⟩,I⟩,J⟩,L⟩,M⟩,O⟩⟩:=h
 have U:=mP (p:=VI) (λx y h=>by
  unfold VI at h;rw[Dx]at h;cases x;cases y;simp only at h
  rw[toList_inj (eq_of_beq h.1),eq_of_beq h.2]) h1
 have Y:=mP (p:=TY) (λx y h=>by
  unfold TY at h;rw[Dx]at h;cases x;cases y;simp only at h
  rw[eq_of_beq h.1,eq_of_beq h.2]) h2
 cases a;cases b;simp only at *;subst U Y j q I J L M O;rfl
variable {k:AA Ad}
section
set_option maxHeartbeats 1000000
def aZn (j:∀e∈k,Fp e)(hl:k.length<=100)(h:NS k=some 0):Qb k=some 0:=by
 obtain⟨c,I,J,_⟩:=aJR (λe q=>(j e q).wide) hl
 grind
end
variable {r:Bv}
section
set_option maxHeartbeats 1000000
structure ag3 (l:List Ad) (e:Ad):Prop where
 facts:RV l
 len:l.length<=50
 deep:OX l=0
 ver:∀x∈l,Uh x=some 0
 fresh:dR l e.Id=false
 good:Uh e=some 0
 small:Fp e
 room:∀x∈l,x.Room=e.Room
def eG (l:AA Ad)(e:Ad):Ac:=e.Kind==1&&Iw (Gh l) e.Id
def RZ (l:AA Ad):Nat:=(l.filter (eG l)).length
structure Hu (r:Bv):Prop where
 id:SH r.Id=0
 set:NS r.Events=some 0
 facts:RV r.Events
 own:∀x∈r.Events,x.Room=r.Id
 deep:OX r.Events=0
 TR:r.Rows.length=r.Events.length
 next:r.Next=(r.Rows.length:Int)
 one:RZ r.Events<=1
 pos:∀i (h:i<r.Rows.length),r.Rows[i].Pos=(i:Int)
 nodup:(r.Rows.map (·.Id)).Nodup
 known:∀x∈r.Rows,dR r.Events x.Id=true
 refs:∀i (h:i<r.Rows.length),∀z,z∈(ev r.Events r.Rows[i].Id).bP\/z∈(ev r.Events r.Rows[i].Id).bQ->∃j,∃hj:j<r.Rows.length,j<i/\r.Rows[j].Id=z
 stat:∀x∈r.Rows,(x.Status=2↔Iw (Gh r.Events) x.Id=false)/\(x.Status=2\/x.Status=3\/x.Status=4)
 aWb:NS r.Waiting=some 0
 aUF:RV r.Waiting
 aWc:∀x∈r.Waiting,x.Room=r.Id
 aWd:∀x∈r.Waiting,dR r.Events x.Id=false
 aWe:r.Waiting.length<=200
 heads:r.QT=Xp r.Events (LG r.Events (Gh r.Events))
 state:r.State=XC r.Events (Gh r.Events)
def aNy (r:Bv):Prop:=∀x∈r.Waiting,QO r.Events x=false
def Hu.ver (h:Hu r)(hl:r.Events.length<=50):∀x∈r.Events,Uh x=some 0:=abL h.set AL
end
section
set_option maxHeartbeats 1000000
structure aQa (l k:List Ad):Prop where
 len:k.length=l.length
 at_:∀i (h:i<l.length) (h':i<k.length),aKw l[i] k[i]
def aQa.ids (h:aQa l k):k.map (·.Id)=l.map (·.Id):=by
 refine jB (by simp[h.len]) λi h1 h2=>?_;rw[DK]at h1 h2;rw[Pn,Pn,(h.at_ i h2 h1).id]
end
variable {x:DN}
section
set_option maxHeartbeats 1000000
def QK (l:AA DN)(id:Int):Ac:=l.any λx=>x.Id==id
def YI (r:Bv)(x:DN):Ac:=((!Iw (Gh r.Events) x.Id)==(x.Status==2))&&((x.Status==2||x.Status==3)||x.Status==4)
def MS (r:Bv)(id:Int):Option DN:=r.Rows.find? λx=>x.Id==id
def SK (r:Bv)(i:Nat)(id:Int):Ac:=match MS r id with
 |none=>false
 |some x=>x.Pos<(i:Int)
def jq (r:Bv)(i:Nat)(x:DN):Ac:=dR r.Events x.Id&&(!QK (r.Rows.take i) x.Id&&(x.Pos==(i:Int)&&(((ev r.Events x.Id).bP.all (QK (r.Rows.take i))&&(ev r.Events x.Id).bQ.all (QK (r.Rows.take i)))&&YI r x)))
def Wq (r:Bv)(i:Nat)(x:DN):Ac:=dR r.Events x.Id&&(x.Pos==(i:Int)&&(((MS r x.Id).map (·.Pos)).getD 0==(i:Int)&&(((ev r.Events x.Id).bP.all (SK r i)&&(ev r.Events x.Id).bQ.all (SK r i))&&YI r x)))
def aZU {l:AA DN}{id:Int}:QK l id=true↔∃j,∃h:j<l.length,l[j].Id=id:=by
 unfold QK;rw[KE];constructor
 ·rintro⟨x,q,h⟩;obtain⟨j,I,rfl⟩:=I8 q
  grind
 grind
def Zt {l:AA DN}{id:Int}:QK (l.take i) id=true↔∃j,∃h:j<l.length,j<i/\l[j].Id=id:=by
 rw[aZU];constructor
 ·grind
 rintro⟨j,I,q,h⟩;exact⟨j,wF,by rw[a3H];exact h⟩
def a3v {id:Int}(h:MS r id=some x):∃m,∃hm:m<r.Rows.length,r.Rows[m]=x/\x.Id=id:=by
 have h1:=YD h;obtain⟨m,hm,e⟩:=I8 h1;exact⟨m,hm,e,by simpa using yS h⟩
def aFU {id:Int}(h:MS r id=none):∀j (q:j<r.Rows.length),r.Rows[j].Id≠id:=λj q e=>by
 have :=aAl.1 h _ (Eu q)
 grind
structure aV (r:Bv):Prop where
 pos:∀i (h:i<r.Rows.length),r.Rows[i].Pos=(i:Int)
 inj:∀i j (hi:i<r.Rows.length) (hj:j<r.Rows.length),r.Rows[i].Id=r.Rows[j].Id->i=j
def aV.find (h:aV r)(hi:i<r.Rows.length):MS r r.Rows[i].Id=some r.Rows[i]:=by
 cases j:MS r r.Rows[i].Id with
 |none=>exact absurd rfl (aFU j i hi)
 |some x=>
  obtain⟨m,hm,rfl,e⟩:=a3v j;have :=h.inj m i hm hi e;subst this;rfl
def aV.beh (h:aV r)(i:Nat)(id:Int):SK r i id=QK (r.Rows.take i) id:=by
 rw[TU,Zt];unfold SK;cases I:MS r id with
 |none=>exact⟨λJ=>absurd J Bool.false_ne_true,λ⟨j,q,_,e⟩=>absurd e (aFU I j q)⟩
 |some x=>
  obtain⟨m,hm,rfl,e⟩:=a3v I;show decide (r.Rows[m].Pos<(i:Int))=true↔_;rw[Ik,h.pos m hm];constructor
  ·intro L;exact⟨m,hm,AL,e⟩
  rintro⟨j,q,M,O⟩;have :=h.inj m j hm q (e.trans O.symm);omega
def aW6 (h:∀i (hi:i<r.Rows.length),jq r i r.Rows[i]=true):aV r:=by
 have hp:∀i (hi:i<r.Rows.length),r.Rows[i].Pos=(i:Int)/\QK (r.Rows.take i) r.Rows[i].Id=false:=λi hi=>by
  have :=h i hi;unfold jq at this;simp only[Dx,OC,RU]at this;exact⟨this.2.2.1,this.2.1⟩
 have q:∀i j (hi:i<r.Rows.length) (I:j<r.Rows.length),r.Rows[i].Id=r.Rows[j].Id->¬i<j:=λi j hi I e J=>by
  have :=Zt.2 ⟨i,hi,J,e⟩;rw[(hp j I).2]at this;cases this
 refine⟨λi hi=>(hp i hi).1,λi j hi I e=>?_⟩;have a:=q i j hi I e;have b:=q j i I hi e.symm;omega
def am4 (h:∀i (hi:i<r.Rows.length),Wq r i r.Rows[i]=true):aV r:=by
 have hp:∀i (hi:i<r.Rows.length),r.Rows[i].Pos=(i:Int)/\((MS r r.Rows[i].Id).map (·.Pos)).getD 0=(i:Int):=λi hi=>by
  have :=h i hi;unfold Wq at this
  grind
 have I:∀i (hi:i<r.Rows.length),MS r r.Rows[i].Id=some r.Rows[i]:=λi hi=>by
  have h1:=(hp i hi).2;cases q:MS r r.Rows[i].Id with
  |none=>
   exact absurd rfl (aFU q i hi)
  |some x=>
   obtain⟨m,hm,rfl,_⟩:=a3v q;rw[q]at h1;have h2:r.Rows[m].Pos=(i:Int):=h1;rw[(hp m hm).1]at h2;have :m=i:=AL
   subst this;rfl
 refine⟨λi hi=>(hp i hi).1,λi j hi J e=>?_⟩;have h1:=I i hi
 grind
def aVb (h:aV r)(hi:i<r.Rows.length):Wq r i r.Rows[i]=jq r i r.Rows[i]:=by
 have h1:SK r i=QK (r.Rows.take i):=funext λid=>h.beh i id
 have h2:QK (r.Rows.take i) r.Rows[i].Id=false:=by
  cases q:QK (r.Rows.take i) r.Rows[i].Id with
  |false=>rfl
  |true=>
   obtain⟨j,I,J,e⟩:=Zt.1 q;have :=h.inj j i I hi e;omega
 unfold Wq jq;rw[h1,h2,h.find hi,h.pos i hi];rw[Jp,OI,h.pos i hi];simp
def aB7 (r:Bv):Ac:=(List.range r.Rows.length).all λi=>jq r i (r.Rows.getD i LK)
def dc (r:Bv):Ac:=(List.range r.Rows.length).all λi=>Wq r i (r.Rows.getD i LK)
def yL {l:AA DN}{p:Nat->DN->Ac}:((List.range l.length).all λi=>p i (l.getD i LK))=true↔∀i (hi:i<l.length),p i l[i]=true:=by
 rw[GK];constructor
 ·intro h i hi;have :=h i (xP.2 hi)
  grind
 grind
def aoH (r:Bv):dc r=aB7 r:=by
 rw[TU];unfold dc aB7;rw[yL,yL];exact⟨λh i hi=>by rw[←aVb (am4 h) hi];exact h i hi,λh i hi=>by rw[aVb (aW6 h) hi];exact h i hi⟩
def aOv:YI r x=true↔(x.Status=2↔Iw (Gh r.Events) x.Id=false)/\(x.Status=2\/x.Status=3\/x.Status=4):=by
 unfold YI;rw[Dx,pY,pY,OC,OC,OC,OC,or_assoc];refine and_congr ?_ Iff.rfl
 grind
def mJ (r:Bv):Ac:=(((r.Rows.length==r.Events.length)&&(r.Next==(r.Rows.length:Int)))&&(RZ r.Events<=1))&&aB7 r
def aaW:mJ r=true↔r.Rows.length=r.Events.length/\r.Next=(r.Rows.length:Int)/\RZ r.Events<=1/\(∀i (h:i<r.Rows.length),r.Rows[i].Pos=(i:Int))/\(r.Rows.map (·.Id)).Nodup/\(∀x∈r.Rows,dR r.Events x.Id=true)/\
 (∀i (h:i<r.Rows.length),∀z,z∈(ev r.Events r.Rows[i].Id).bP\/z∈(ev r.Events r.Rows[i].Id).bQ->∃j,∃J:j<r.Rows.length,j<i/\r.Rows[j].Id=z)/\∀x∈r.Rows,(x.Status=2↔Iw (Gh r.Events) x.Id=false)/\(x.Status=2\/x.Status=3\/x.Status=4):=by
 unfold mJ aB7;rw[Dx,Dx,Dx,OC,OC,Ik,yL];constructor
 ·rintro⟨⟨⟨h1,h2⟩,h3⟩,L⟩;have U:=aW6 L
  have hp:∀i (hi:i<r.Rows.length),dR r.Events r.Rows[i].Id=true/\((∀z∈(ev r.Events r.Rows[i].Id).bP,QK (r.Rows.take i) z=true)/\∀z∈(ev r.Events r.Rows[i].Id).bQ,QK (r.Rows.take i) z=true)/\YI r r.Rows[i]=true:=λi hi=>by
   have :=L i hi;unfold jq at this
   grind
  refine⟨h1,h2,h3,U.pos,?_,λx M=>?_,λi hi z q=>?_,λx M=>?_⟩
  ·rw[nN,jR,Jq];intro i j hi J hij e;have :=U.inj i j hi J e;omega
  ·obtain⟨i,hi,rfl⟩:=I8 M;exact(hp i hi).1
  ·rcases q with q|q
   ·exact Zt.1 ((hp i hi).2.1.1 z q)
   exact Zt.1 ((hp i hi).2.1.2 z q)
  obtain⟨i,hi,rfl⟩:=I8 M;exact aOv.1 (hp i hi).2.2
 rintro⟨h1,h2,h3,L,Y,h6,Z,h8⟩;refine⟨⟨⟨h1,h2⟩,h3⟩,λi hi=>?_⟩
 have I:QK (r.Rows.take i) r.Rows[i].Id=false:=by
  cases hq:QK (r.Rows.take i) r.Rows[i].Id with
  |false=>
   rfl
  |true=>
   obtain⟨j,J,O,e⟩:=Zt.1 hq;rw[nN,jR,Jq]at Y;exact absurd e (Y j i J hi O)
 unfold jq;rw[h6 _ (Eu hi),I,L i hi,aOv.2 (h8 _ (Eu hi))];simp only[Gf,JV,SE,P8,Dx,GK];exact⟨λz q=>Zt.2 (Z i hi z (.inl q)),λz q=>Zt.2 (Z i hi z (.inr q))⟩
def aer (h1:SH r.Id=0)(h2:NS r.Events=some 0)(h3:RV r.Events)(L:∀x∈r.Events,x.Room=r.Id)(M:OX r.Events=0)(O:NS r.Waiting=some 0)(U:RV r.Waiting)(Y:∀x∈r.Waiting,x.Room=r.Id)(Z:∀x∈r.Waiting,dR r.Events x.Id=false)(j:r.Waiting.length<=200)(q:r.QT=Xp r.Events (LG r.Events (Gh r.Events)))(I:r.State=XC r.Events (Gh r.Events))(J:mJ r=true):Hu r:=by
 obtain⟨a1,a2,a3,a4,a5,a6,a7,a8⟩:=aaW.1 J;exact⟨h1,h2,h3,L,M,a1,a2,a3,a4,a5,a6,a7,a8,O,U,Y,Z,j,q,I⟩
end
section
set_option maxRecDepth 20000
set_option maxHeartbeats 1000000
def aRo {g:AA Int}:(((Uo l g).length:Int)==0)=g.all (dR l):=by
 rw[TU,OC,GK];constructor
 ·intro h x j;cases q:dR l x with
  |true=>rfl
  |false=>
   have hm:=a0O.2 ⟨j,q⟩;have :=List.length_pos_of_mem hm;omega
 intro h;cases I:Uo l g with
 |nil=>rfl
 |cons y t=>
  have J:y∈Uo l g:=by rw[I];exact Iu ..
  obtain⟨a,b⟩:=a0O.1 J;rw[h y a]at b;cases b
end
section
set_option maxRecDepth 20000
set_option maxHeartbeats 1000000
def aOy (r:Bv)(id:Int):∀(n:Nat) (a:Int) (b:DN),aS (UR r id) n a b=bg (λk i=>UR r id (λj _=>k j) i LK) n a
 |0,_,_=>rfl
 |n+1,a,b=>by
  have q:aS (UR r id) n=λj _=>bg (λk i=>UR r id (λj _=>k j) i LK) n j:=funext λa=>funext λb=>aOy r id n a b;show UR r id (aS (UR r id) n) a b=UR r id (λj _=>bg (λk i=>UR r id (λj _=>k j) i LK) n j) a LK;rw[q];rfl
def OU (r:Bv)(id:Int):DN×Ac:=match MS r id with
 |some x=>(x,true)
 |none=>(LK,false)
def aN3 (r:Bv)(id:Int)(hl:r.Rows.length<=1000000):kC r id=some (OU r id):=by
 unfold kC aRF;rw[aOy,JG r.Rows (fuel_lt AL) (λx=>x.Id==id) (λi=>match r.Rows[i]? with |some x=>some (x,true)|none=>none) (some (LK,false))]
 ·unfold OU MS;rw[Jz]
  grind
 ·intro k i h;unfold UR;rw[Ce h,EJ h]
 intro k;unfold UR;rw[DY,BO]
end
section
set_option maxRecDepth 20000
set_option maxHeartbeats 1000000
def aoA (l:AA Ad)(e:Ad)(hl:l.length<=1000)(j:Fp e):a7e l e=some (QO l e):=by
 have h1:=j.prev;have h2:=j.auth;unfold a7e QO;rw[uz l _ hl AL,uz l _ hl AL,Af,aRo,Af,aRo];cases e.bP.all (dR l)<;>rfl
def aV7 (r:Bv)(id:Int):∀(n:Nat) (a:Int) (b:DN),aS (VG r id) n a b=bg (λk i=>VG r id (λj _=>k j) i LK) n a
 |0,_,_=>rfl
 |n+1,a,b=>by
  have q:aS (VG r id) n=λj _=>bg (λk i=>VG r id (λj _=>k j) i LK) n j:=funext λa=>funext λb=>aV7 r id n a b;show VG r id (aS (VG r id) n) a b=VG r id (λj _=>bg (λk i=>VG r id (λj _=>k j) i LK) n j) a LK;rw[q];rfl
def row24 (r:Bv)(id:Int)(hl:r.Rows.length<=1000000):eS r id=some (OU r id):=by
 unfold eS aVR;rw[aV7,JG r.Rows (fuel_lt AL) (λx=>x.Id==id) (λi=>match r.Rows[i]? with |some x=>some (x,true)|none=>none) (some (LK,false))]
 ·unfold OU MS;rw[Jz];by_cases h:r.Rows.findIdx (λx=>x.Id==id)<r.Rows.length
  ·rw[Dw h,EJ h]
  rw[EC h,Lu AL]
 ·intro k i h;unfold VG;rw[Ce h,EJ h,CX h];rfl
 intro k;unfold VG;rw[DY,BO]
def aqN (L:QF l):a8D l=some (RZ l:Int):=by
 have hl:=L.len
 have U:(Gh l).length<=1000:=by
  have h1:=BM List.length (aQg l);rw[DK,a5E]at h1;omega
 unfold a8D;rw[aQ3 L,Af];unfold aYE;refine dQ.eq (KA l.length (fuel_lt AL) (λi a=>a=(((l.take i).filter (eG l)).length:Int)) rfl (λi a k hi ha M=>?_) λa k ha=>?_)
 ·have Y:((l.take i).filter (eG l)).length<=i:=FQ (I9 ..) wF;have q:=oh (p:=eG l) hi;obtain⟨y,O⟩:=aQk (lS.2 (GH.2 ⟨_,Eu hi,rfl⟩));have Z:Lp (Gh l) l[i].Id=(JA y,true):=by unfold Lp;rw[O]
  have J:Iw (Gh l) l[i].Id=(y.err==0):=by unfold Iw;rw[O]
  have j:eG l l[i]=(l[i].Kind==1&&(y.err==0)):=by unfold eG;rw[J]
  have I:eG l l[i]=false->dQ (ZV k (i:Int) a) (λx=>x=(RZ l:Int)):=λhm=>by
   rw[hm]at q;unfold ZV;rw[wrap_succ i AL];exact M _ (by rw[ha,q];simp)
  unfold aEq;rw[Ce hi,VP _ _ AL,Af,CX hi,Af,Z];cases h1:l[i].Kind==1 with
  |false=>
   rw[h1,Bool.false_and]at j;exact I j
  |true=>
   rw[h1,Gf]at j;show dQ (cond (y.err==0) (ZV k (i:Int) (Ar (a+1))) (ZV k (i:Int) a)) _;cases h2:y.err==0 with
   |false=>rw[h2]at j;exact I j
   |true=>
    rw[h2]at j;rw[j]at q;rw[Bd];unfold ZV;rw[wrap_succ i AL,ha,wrap_succ _ AL];exact M _ (by rw[q];simp)
 unfold aEq;rw[DY,BO,ha,Ho];exact .ret rfl
def aQE (r:Bv)(ids:AA Int)(i:Nat)(q:r.Rows.length<=1000000)(hi:ids.length<=1000000):a0V r ids (i:Int)=some (ids.all (SK r i)):=by
 unfold a0V aY1;rw[Hw ids (fuel_lt AL) (λx=> !SK r i x) false (some true) (λk j I=>?_) λk=>?_]
 ·rw[mM];cases ids.all (SK r i)<;>rfl
 ·unfold aDo;rw[Ce I,row24 _ _ q,Af];unfold SK OU;cases MS r ids[j]with
  |none=>rfl
  |some x=>
   show((cond (!true) (some true) (some (decide (x.Pos>=(i:Int))))).bind λJ=>bif J then some false else k (Ar ((j:Int)+1)))=bif !decide (x.Pos<(i:Int))then some false else k (Ar ((j:Int)+1))
   rw[←a6d];rfl
 unfold aDo;rw[DY,BO]
def amc (hc:NS r.Events=some 0)(hF:RV r.Events)(hd:OX r.Events=0)(hl:r.Events.length<=100)(hr:r.Rows.length<=1000):a2b r=some (mJ r):=by
 have ho:=hF.ok hl;obtain⟨t1,_,t3⟩:=aAX hc λ_=>ho;rw[uX hd]at t1 t3;unfold a2b;rw[aqN ho,Af]
 have hx:((cond ((r.Rows.length:Int) != (r.Events.length:Int)) (some true) (some (r.Next != (r.Rows.length:Int)))).bind λx1=>(cond x1 (some true) (some (decide ((RZ r.Events:Int)>1)))))=some (!(((r.Rows.length==r.Events.length)&&(r.Next==(r.Rows.length:Int)))&&(RZ r.Events<=1))):=by
  have e1:((r.Rows.length:Int) != (r.Events.length:Int))= !(r.Rows.length==r.Events.length):=by
   by_cases h:r.Rows.length=r.Events.length
   ·rw[h];simp
   rw[show(r.Rows.length==r.Events.length)=false by simpa using h,JV,bne_iff_ne];omega
  have e2:decide ((RZ r.Events:Int)>1)= !decide (RZ r.Events<=1):=by
   by_cases h:RZ r.Events<=1
   ·rw[L8 h,Iq AL];rfl
   rw[Iq h,L8 AL];rfl
  rw[e1,e2];cases r.Rows.length==r.Events.length with
  |false=>rfl
  |true=>
   show(cond (r.Next != (r.Rows.length:Int)) _ _)=_;cases M:r.Next==(r.Rows.length:Int)with
   |false=>rw[show(r.Next != (r.Rows.length:Int))=true by simpa[bne]using M];rfl
   |true=>rw[show(r.Next != (r.Rows.length:Int))=false by simpa[bne]using M];rfl
 have hx':∀{F:Ac->AB Ac},(((cond ((r.Rows.length:Int) != (r.Events.length:Int)) (some true) (some (r.Next != (r.Rows.length:Int)))).bind λx1=>(cond x1 (some true) (some (decide ((RZ r.Events:Int)>1)))).bind F))=F (!(((r.Rows.length==r.Events.length)&&(r.Next==(r.Rows.length:Int)))&&(RZ r.Events<=1))):=λ{F}=>by
  rw[←Option.bind_assoc,hx];rfl
 refine Eq.trans hx' ?_;unfold mJ;cases M:(((r.Rows.length==r.Events.length)&&(r.Next==(r.Rows.length:Int)))&&(RZ r.Events<=1))with
 |false=>rfl
 |true=>
  rw[FK,BO,t1,Af,Gf,←aoH];unfold aSA;refine dQ.eq (dZ r.Rows.length (fuel_lt AL) (λi=>∀j (O:j<r.Rows.length),j<i->Wq r j r.Rows[j]=true) (λj O h=>absurd h (a4a _)) (λi k hi hI hk=>?_) λk hI=>?_)
  ·have I:Wq r i r.Rows[i]=false->dQ (some false) (λx=>x=dc r):=λM=>by
    refine .ret ?_;cases hz:dc r with
    |false=>rfl
    |true=>
     unfold dc at hz;rw[yL.1 hz i hi]at M;cases M
   have J:Wq r i r.Rows[i]=true->dQ (k (Ar ((i:Int)+1))) (λx=>x=dc r):=λM=>by
    rw[wrap_succ i AL];refine hk λj O hji=>?_;by_cases e:j=i
    ·subst e;exact M
    exact hI j O AL
   have hev:(Fv r.Events r.Rows[i].Id).1=ev r.Events r.Rows[i].Id:=rfl
   have hsm:(ev r.Events r.Rows[i].Id).bP.length<=1000/\(ev r.Events r.Rows[i].Id).bQ.length<=1000:=by
    have :=yC ho.small r.Rows[i].Id;have h1:=this.prev;have h2:=this.auth;omega
   unfold aJP;rw[Ce hi,row24 _ _ AL,Af,J6 _ _ AL,Af,VP _ _ AL,Af,hev,aQE r _ i AL AL,aQE r _ i AL AL,NT,aUd];simp only[Af];rw[show(Ea r.Events r.Rows[i].Id).isSome=dR r.Events r.Rows[i].Id from rfl]
   have U:(OU r r.Rows[i].Id).1.Pos=((MS r r.Rows[i].Id).map (·.Pos)).getD 0:=by
    unfold OU;cases MS r r.Rows[i].Id<;>rfl
   rw[U];have L:Wq r i r.Rows[i]=(dR r.Events r.Rows[i].Id&&(r.Rows[i].Pos==(i:Int)&&(((MS r r.Rows[i].Id).map (·.Pos)).getD 0==(i:Int)&&(((ev r.Events r.Rows[i].Id).bP.all (SK r i)&&(ev r.Events r.Rows[i].Id).bQ.all (SK r i))&&YI r r.Rows[i])))):=rfl;cases c1:dR r.Events r.Rows[i].Id with
   |false=>exact I (by rw[L,c1];rfl)
   |true=>
   cases Y:r.Rows[i].Pos==(i:Int)with
   |false=>
    rw[show(r.Rows[i].Pos != (i:Int))=true by simpa[bne]using Y];exact I (by rw[L,Y];simp)
   |true=>
   rw[show(r.Rows[i].Pos != (i:Int))=false by simpa[bne]using Y];cases Z:((MS r r.Rows[i].Id).map (·.Pos)).getD 0==(i:Int)with
   |false=>
    rw[show(((MS r r.Rows[i].Id).map (·.Pos)).getD 0 != (i:Int))=true by simpa[bne]using Z];exact I (by rw[L,Z];simp)
   |true=>
   rw[show(((MS r r.Rows[i].Id).map (·.Pos)).getD 0 != (i:Int))=false by simpa[bne]using Z];cases c4:(ev r.Events r.Rows[i].Id).bP.all (SK r i)with
   |false=>exact I (by rw[L,c4];simp)
   |true=>
   cases c5:(ev r.Events r.Rows[i].Id).bQ.all (SK r i)with
   |false=>exact I (by rw[L,c5];simp)
   |true=>
   have hst:YI r r.Rows[i]=(((errOf (Gh r.Events) r.Rows[i].Id != 0)==(r.Rows[i].Status==2))&&((r.Rows[i].Status==2||r.Rows[i].Status==3)||r.Rows[i].Status==4)):=by
    unfold YI;rw[aXU c1];rfl
   have q:Wq r i r.Rows[i]=YI r r.Rows[i]:=by rw[L,c1,Y,Z,c4,c5];rfl
   rw[hst]at q;show dQ ((cond (!((errOf (Gh r.Events) r.Rows[i].Id != 0)==(r.Rows[i].Status==2))) (some true) ((cond (r.Rows[i].Status != 2) (some (r.Rows[i].Status != 3)) (some false)).bind λx28=>(cond x28 (some (r.Rows[i].Status != 4)) (some false)).bind λZp=>some Zp)).bind λD6=>(cond D6 (some false) (k (Ar ((i:Int)+1))))) _;cases c6:(errOf (Gh r.Events) r.Rows[i].Id != 0)==(r.Rows[i].Status==2)with
   |false=>rw[c6]at q;exact I q
   |true=>
   rw[c6,Gf]at q;unfold bne;cases c7:r.Rows[i].Status==2 with
   |true=>rw[c7]at q;exact J q
   |false=>
   cases c8:r.Rows[i].Status==3 with
   |true=>rw[c7,c8]at q;exact J q
   |false=>
   cases c9:r.Rows[i].Status==4 with
   |true=>rw[c7,c8,c9]at q;exact J q
   |false=>rw[c7,c8,c9]at q;exact I q
  unfold aJP;rw[DY,BO];refine .ret ?_;unfold dc;exact(yL.2 λj O=>hI j O O).symm
end
section
set_option maxRecDepth 20000
set_option maxHeartbeats 1000000
def aT5 (J:∀e∈l,Ry e)(hl:l.length<=100):dQ (a1S r l) (λc=>c=0->NS l=some 0/\RV l/\∀x∈l,x.Room=r.Id):=by
 obtain⟨c,_,L,M⟩:=aJR J hl;unfold a1S;rw[L,Af];refine dQ.bif (λq=>?_) λq=>.ret λh=>?_
 ·obtain rfl:c=0:=eq_of_beq q;have I:=M rfl;refine dQ.bif (λh1=>?_) λh1=>.ret λ_=>⟨rfl,I,?_⟩
  ·have j:0<l.length:=by have :=LW h1;omega
   rw[show Aq l 0=some l[0]from CX j,Af];unfold a0E;refine dQ.bif (λ_=>.ret λh=>GN) λh2=>.ret λ_=>⟨rfl,I,λx O=>?_⟩
   have :l[0].Room=r.Id:=toList_inj LC;rw[I.room x O _ (Eu j),this]
  grind
 have h:c=0:=h;rw[h]at q;cases q
def aqQ (L:∀e∈r.Waiting,Ry e)(hl:r.Events.length<=100)(j:r.Waiting.length<=100):dQ (a6m r) (λc=>c=0->NS r.Waiting=some 0/\RV r.Waiting/\(∀x∈r.Waiting,x.Room=r.Id)/\(∀x∈r.Waiting,dR r.Events x.Id=false)/\aNy r):=by
 unfold a6m;refine(aT5 (r:=r) L j).bind λc M=>dQ.bif (λh=>.ret λq=>?_) λh=>?_
 ·have q:c=0:=q;rw[q]at h;cases h
 obtain rfl:c=0:=LZ
 obtain⟨O,J,U⟩:=M rfl;have hsm:∀e∈r.Waiting,Fp e:=λe Y=>(J.ev e Y).2
 have h2:aE5 r 0=bif r.Waiting.any (QO r.Events)then some 26 else some 0:=by
  unfold aE5;refine Hw r.Waiting (fuel_lt AL) (QO r.Events) 26 (some 0) (λk i hi=>?_) λk=>?_
  ·unfold aEF;rw[Ce hi,aoA _ _ AL (hsm _ (Eu hi)),Af]
  unfold aEF;rw[DY,BO,Iq AL,BO]
 unfold aUj;rw[Hw r.Waiting (fuel_lt AL) (λx=>dR r.Events x.Id) 4 (cond (r.Waiting.any (QO r.Events)) (some 26) (some 0)) (λk i hi=>?_) λk=>?_]
 ·refine dQ.bif (λ_=>.ret λh=>GN) λZ=>dQ.bif (λ_=>.ret λh=>GN) λn2=>.ret λ_=>⟨O,J,U,λx I=>?_,λx I=>?_⟩
  ·have :=aBZ.1 Z x I;simpa using this
  have :=aBZ.1 n2 x I;simpa using this
 ·unfold aCL;rw[Ce hi,J6 _ _ AL,Af,NT];rfl
 unfold aCL;rw[DY,BO,h2]
def ak4 {a b:AA Int}(ha:a.length<=1000):dQ (a3I a b) (λc=>c=true->a=b):=by
 unfold a3I;refine dQ.bif (λ_=>.ret λh=>GN) λh=>?_
 have j:a.length=b.length:=by
  grind
 unfold aU3
 rw[ak (λx y:Int=>x==y) a b ha j false (some true) (λk i h h'=>by
  unfold aH3
  rw[dec_lt h,Bd,CX h,CX h',Af,Af];rfl) λk=>by
  unfold aH3
  rw[DY,BO]]
 refine dQ.bif (λ_=>.ret λh=>GN) λq=>.ret λ_=>?_;refine mP (p:=λx y:Int=>x==y) (λx y h=>eq_of_beq h) ?_;unfold N8
 grind
def wW (x y:BN):Ac:=(x.Kind==y.Kind)&&((x.Key.toList==y.Key.toList)&&(x.Id==y.Id))
def apf {x y:BN}(h:wW x y=true):x=y:=by
 unfold wW at h;simp only[Dx,OC]at h;obtain⟨h1,h2,h3⟩:=h;cases x;cases y;simp only at *;rw[h1,toList_inj h2,h3]
def acU {a b:AA BN}(ha:a.length<=1000):dQ (a7z a b) (λc=>c=true->a=b):=by
 unfold a7z;refine dQ.bif (λ_=>.ret λh=>GN) λh=>?_
 have j:a.length=b.length:=by
  grind
 unfold aOz
 rw[ak wW a b ha j false (some true) (λk i h h'=>by
  unfold aKp uf wW;rw[dec_lt h,Bd,CX h,CX h',Af,Af];unfold bne;cases a[i].Kind==b[i].Kind with
  |false=>rfl
  |true=>
   simp only[Af];cases a[i].Key.toList==b[i].Key.toList with
   |false=>rfl
   |true=>cases a[i].Id==b[i].Id<;>rfl) λk=>by
  unfold aKp
  rw[DY,BO]]
 refine dQ.bif (λ_=>.ret λh=>GN) λq=>.ret λ_=>?_;refine mP (p:=wW) (λx y h=>apf h) ?_;unfold N8
 grind
def ajR (M:r.Id.size<=9223372036854775807)(hw:∀e∈r.Events,Ry e)(O:∀e∈r.Waiting,Ry e)(hl:r.Events.length<=100)(U:r.Waiting.length<=100)(Y:r.Rows.length<=1000)(Z:r.QT.length<=1000)(hls:r.State.length<=1000):
 dQ (a6o r) (λc=>c=0->Hu r/\aNy r):=by
 unfold a6o;rw[(mO M).2,Af];refine dQ.bif (λ_=>.ret λh=>GN) λh1=>?_;have h1:SH r.Id=0:=Y4
 refine(aT5 (r:=r) hw hl).bind λc hc=>dQ.bif (λh=>?_) λh=>?_
 ·obtain rfl:c=0:=eq_of_beq h;obtain⟨L,g2,g3⟩:=hc rfl;have I:=g2.ok hl;rw[aMZ _ hl I.small I.dep,Af];unfold yE;refine dQ.bif (λh2=>.ret λJ=>?_) λh2=>?_
  ·grind
  have hd:OX r.Events=0:=LC
  rw[amc L g2 hd hl Y,Af];refine dQ.bif (λ_=>.ret λh=>GN) λh3=>?_;have h3:mJ r=true:=Wy
  refine(aqQ O hl U).bind λw hwt=>dQ.bif (λh4=>.ret λJ=>?_) λh4=>?_
  ·have J:w=0:=J
   grind
  obtain rfl:w=0:=by simpa using h4
  obtain⟨w1,w2,w3,w4,w5⟩:=hwt rfl;obtain⟨t1,t2,t3⟩:=aAX L λ_=>I;rw[uX hd]at t1 t2 t3;have hal:=aAw r.Events (Gh r.Events)
  have j:a3G r.Events=some (Xp r.Events (LG r.Events (Gh r.Events))):=by
   unfold a3G yt;rw[t1,Af,aWT _ _ AL AL,Af,aXJ _ _ AL I.small AL];rfl
  have q:=aoi L (λ_=>I) hl I.small;rw[uX hd]at q;rw[j,Af];refine(ak4 (b:=Xp r.Events (LG r.Events (Gh r.Events))) Z).bind λs hs=>dQ.bif (λ_=>.ret λh=>GN) λh5=>?_;have h5:=hs (by simpa using h5);rw[q,Af];refine(acU (b:=XC r.Events (Gh r.Events)) hls).bind λu hu=>?_;unfold aBu;refine dQ.bif (λ_=>.ret λh=>GN) λh6=>.ret λ_=>?_;have h6:=hu (by simpa using h6);exact⟨aer h1 L g2 g3 hd w1 w2 w3 w4 AL h5 h6 h3,w5⟩
 unfold yE;refine dQ.bif (λ_=>.ret λJ=>?_) λh2=>?_
 ·have J:c=0:=J
  grind
 grind
end
section
set_option maxRecDepth 20000
set_option maxHeartbeats 1000000
def Uf {R β:Type}{body:(AA β->Int->AB R)->AA β->Int->AB R}(l:AA α)(hl:l.length<=1000)(b:Nat)(q:b<=1000)(p:α->Ac)(g:α->β)(j:AA β->AB R)(I:∀k a (i:Nat) (h:i<l.length),body k a (i:Int)=bif p l[i]then(CZ b a [g l[i]]).bind λy=>k y (Ar ((i:Int)+1))else k a (Ar ((i:Int)+1)))(J:∀k a,body k a (l.length:Int)=j a):aS body Aw [] 0=j ((l.filter p).map g):=by
 have e:=Ig (body:=body) l AL (λa x=>a++bif p x then[g x]else[]) (λi a=>a.length<=i) j (a0:=[]) (Eo _) (λk a i h M=>?_) λk a _=>J k a
 ·rw[e,foldl_append,Ij];congr 1;clear e I J hl
  induction l with
  |nil=>rfl
  |cons x l L=>
   rw[MJ,L];cases hp:p x with
   |true=>rw[aD5 hp];rfl
   |false=>rw[aDf (by simp[hp])];rfl
 rw[I k a i h];cases hp:p l[i]with
 |true=>
  have h1:(a.length+1)*b<=1001*1000:=yI AL q;refine⟨by simp only[Bd,Em,Oh];omega,?_⟩;rw[Bd,Dz (by rw[Oh];omega)];rfl
 |false=>
  refine⟨by simp only[BO,Em,La];omega,?_⟩;rw[BO,BO,MH]
def kM (a b:Int):Int:=bif a==1||b==1 then 1 else bif a==0||b==0 then 0 else bif a==2||b==2 then 2 else a
def ab6 (a b:Int):a1r a b=some (kM a b):=by
 unfold a1r aS0;rw[JG [(1:Int),0,2] (fuel_lt Ba) (λx=>a==x||b==x) (λi=>[(1:Int),0,2][i]?) (some a)]
 ·unfold kM;simp only[WE,List.findIdx_nil];cases a==1||b==1 with
  |true=>rfl
  |false=>
   cases a==0||b==0 with
   |true=>rfl
   |false=>cases a==2||b==2<;>rfl
 ·intro k i h;unfold aQD;show(cond ((i:Int)<([(1:Int),0,2].length:Int)) _ _)=_;rw[Ce h,EJ h];cases a==[(1:Int),0,2][i]with
  |true=>rfl
  |false=>cases b==[(1:Int),0,2][i]<;>rfl
 intro k;rfl
def kN (v:Int):Int:=bif v==1 then 3 else bif v==0 then 2 else bif v==2 then 1 else 0
def aQS (v:Int):fG v=some (kN v):=by
 unfold fG kN;cases v==1<;>cases v==0<;>cases v==2<;>rfl
def abj (v n:Int):(cond (kN n>kN v) n v)=kM v n:=by
 have d:∀{x y:Int},x≠y->(x==y)=false:=λh=>aY.2 h;unfold kM kN;by_cases I:n=1
 ·subst I;by_cases q:v=1
  ·subst q;rfl
  rw[d q];by_cases j:v=0
  ·subst j;rfl
  rw[d j];cases v==2<;>rfl
 rw[d I];by_cases q:v=1
 ·subst q;cases n==0<;>cases n==2<;>rfl
 rw[d q];by_cases J:n=0
 ·subst J;by_cases j:v=0
  ·subst j;rfl
  rw[d j];cases v==2<;>rfl
 rw[d J];by_cases j:v=0
 ·subst j;cases n==2<;>rfl
 rw[d j];by_cases L:n=2
 ·subst L;by_cases v2:v=2
  ·subst v2;rfl
  rw[d v2];rfl
 rw[d L];by_cases v2:v=2
 ·subst v2;rfl
 rw[d v2];rfl
def a7I (l:AA Ad)(s:AA BN):Int:=bif (Hz s 5 CS).2 then(cond ((Fv l (Hz s 5 CS).1).2) ((Fv l (Hz s 5 CS).1).1.Content.N) 0)else 0
def SX (l:AA Ad)(t:AA Ej)(id:Int):Int×Int:=match Gs t id with
 |none=>(0,5)
 |some y=>(cond (y.err==0&&(ev l id).Kind==5) (kM (a7I l y.before) (ev l id).Content.N) (a7I l y.before),0)
def SC (l:AA Ad)(t:AA Ej)(id:Int)(u:BH):AA Int:=match Gs t id with
 |none=>[]
 |some y=>Hq (GI l y.before) u::bif y.err==0&&((ev l id).Kind==2&&(ev l id).Key.toList==u.toList)then[(ev l id).Content.N]else[]
def aXL (x:Int):((cond (x != 0) (2:Int) 4)==0)=false:=by cases x != 0<;>rfl
def aLP (x:Int):((cond (x != 0) (2:Int) 4)==4)=(x==0):=by
 unfold bne;cases x==0<;>rfl
def aVf (l:AA Ad)(t:AA Ej)(id:Int)(u:BH):(SC l t id u).length<=2:=by
 unfold SC;cases Gs t id with
 |none=>exact F6 _
 |some y=>
  show(Hq (GI l y.before) u::bif y.err==0&&((ev l id).Kind==2&&(ev l id).Key.toList==u.toList)then[(ev l id).Content.N]else[]).length<=2;cases y.err==0&&((ev l id).Kind==2&&(ev l id).Key.toList==u.toList)<;>simp
section
variable {l:AA Ad} {t:AA Ej} (h:Nl l t)
include h
theorem Nl.visible (id:Int):a2N l id=some (SX l t id):=by
 have hl:=h.len;unfold a2N SX;rw[h.at_,Af];unfold NH;cases q:Gs t id with
 |none=>rfl
 |some y=>
  dsimp only
  have hp:=(uS h.tok q).1;have I:=hp.length
  have j:∀v,qN l id (y.before,bif y.err != 0 then 2 else 4) v=some (cond (y.err==0&&(ev l id).Kind==5) (kM v (ev l id).Content.N) v,0):=λv=>by
   unfold qN aB5;rw[Ld l _ AL,Af];show((cond ((cond (y.err != 0) (2:Int) 4)==4) (some ((ev l id).Kind==5)) (some false)).bind λJ=>_)=_;rw[aLP];cases y.err==0 with
   |false=>rfl
   |true=>
    rw[Bd,Af,Gf];cases(ev l id).Kind==5 with
    |false=>rfl
    |true=>
     show(a1r v (ev l id).Content.N).bind _=_;rw[ab6];rfl
  show(cond ((cond (y.err != 0) (2:Int) 4)==0) _ ((aB y.before 5 CS).bind _))=_;rw[aXL,BO,aAr y.before 5 CS AL hp.sorted,Af];unfold a7I;cases(Hz y.before 5 CS).2 with
  |false=>simp only[BO];exact j 0
  |true=>
   simp only[Bd];rw[Ld l _ AL,Af];cases(Fv l (Hz y.before 5 CS).1).2 with
   |false=>simp only[BO];exact j 0
   |true=>simp only[Bd];exact j _
theorem Nl.aJW (id:Int):a6l l (t.map JA) id=some (SX l t id):=by
 have hl:=h.len;have J:=h.aFR;unfold a6l SX;rw[VP _ _ AL,Af];unfold Lp;cases L:Gs t id with
 |none=>rfl
 |some y=>
  dsimp only
  have M:=(uS h.tok L).1.length
  have j:∀v,sI l id (JA y,true) v=some (cond (y.err==0&&(ev l id).Kind==5) (kM v (ev l id).Content.N) v,0):=λv=>by
   unfold sI a2o;rw[J6 l _ AL,Af];show((cond (y.err==0) (some ((ev l id).Kind==5)) (some false)).bind λO=>_)=_;cases y.err==0 with
   |false=>rfl
   |true=>
    rw[Bd,Af,Gf];cases(ev l id).Kind==5 with
    |false=>rfl
    |true=>
     show((fG (ev l id).Content.N).bind λq=>(fG v).bind λI=>some (decide (q>I))).bind _=_;rw[aQS,aQS,Af,Af,Af,Bd,←abj];cases decide (kN (ev l id).Content.N>kN v)<;>rfl
  show(Z5 y.before 5 CS).bind _=_;rw[a9i y.before 5 CS AL,Af];unfold a7I;cases(Hz y.before 5 CS).2 with
  |false=>simp only[BO];exact j 0
  |true=>
   simp only[Bd];rw[J6 l _ AL,Af];cases(Fv l (Hz y.before 5 CS).1).2 with
   |false=>simp only[BO];exact j 0
   |true=>simp only[Bd];exact j _
theorem Nl.member (id:Int)(u:BH):a7s l id u=some (SC l t id u):=by
 have hl:=h.len;unfold a7s SC;rw[h.at_,Af];unfold NH;cases j:Gs t id with
 |none=>rfl
 |some y=>
  dsimp only
  have q:=(uS h.tok j).1.length;show(cond ((cond (y.err != 0) (2:Int) 4)==0) _ ((XP l y.before u).bind λL=>(JO l id).bind λI=>(cond ((cond (y.err != 0) (2:Int) 4)==4) (some (I.1.Kind==2)) (some false)).bind _))=_;rw[aXL,BO,a8b l _ u AL AL,Af,Ld l _ AL,Af,aLP];show((cond (y.err==0) (some ((ev l id).Kind==2)) (some false)).bind λJ=>(cond J (some ((ev l id).Key.toList==u.toList)) (some false)).bind _)=_;cases y.err==0 with
  |false=>rfl
  |true=>
   cases(ev l id).Kind==2 with
   |false=>rfl
   |true=>cases(ev l id).Key.toList==u.toList<;>rfl
theorem Nl.aL7 (id:Int)(u:BH):a4P l (t.map JA) id u=some (SC l t id u):=by
 have hl:=h.len;have j:=h.aFR;unfold a4P SC;rw[VP _ _ AL,Af];unfold Lp;cases q:Gs t id with
 |none=>rfl
 |some y=>
  dsimp only
  have I:=(uS h.tok q).1.length;show(aH l y.before u).bind _=_;rw[aA8 l _ u AL AL,Af,J6 l _ AL,Af];show((cond (y.err==0) (some ((ev l id).Kind==2)) (some false)).bind λJ=>(cond J (some ((ev l id).Key.toList==u.toList)) (some false)).bind _)=_;cases y.err==0 with
  |false=>rfl
  |true=>
   cases(ev l id).Kind==2 with
   |false=>rfl
   |true=>cases(ev l id).Key.toList==u.toList<;>rfl
theorem Nl.aKv:aQf l:=λe j=>by
 obtain⟨x,q,rfl⟩:=GH.1 j;exact(h.small x q).prev
theorem Nl.bef (a b:Int):a7F l a b=some (Xz l a b):=by
 have hl:=h.len;have ha:=jX (l:=l) (a2m l [b]).1 λx j=>aU4
 unfold a7F Xz;cases a != b with
 |false=>rfl
 |true=>rw[Bd,ag5 AL h.aKv Bf,Af,aF2 _ _ AL];rfl
theorem Nl.aPZ (a b:Int):a94 l a b=some (Xz l a b):=by
 have hl:=h.len;have ha:=jX (l:=l) (a2m l [b]).1 λx j=>aU4
 unfold a94 Xz;cases a != b with
 |false=>rfl
 |true=>rw[Bd,aYy AL h.aKv Bf,Af,Qj _ _ AL];rfl
end
def Ty (r:Bv)(t:AA Ej)(id:Int)(u:BH)(x:DN):Ac:=x.Status==4&&((x.Id==id||Xz r.Events id x.Id)&&Hq (GI r.Events (MC t x.Id)) u==3)
def kD (r:Bv)(t:AA Ej)(id:Int)(u:BH):Ac:=Hq (GI r.Events r.State) u==3||r.Rows.any (Ty r t id u)
def JD (r:Bv)(t:AA Ej)(id:Int)(u:BH):Int:=
 bif !(OU r id).2||(OU r id).1.Status != 4 then 5 else bif (SX r.Events t id).2 != 0 then 5 else
 bif (SX r.Events t id).1==1||Dv (SC r.Events t id u) 3 then 0 else
 bif ((SX r.Events t id).1==0||((SX r.Events t id).1==2&&Dv (SC r.Events t id u) 1))&&kD r t id u then 0 else 23
structure YA (r:Bv) (t:List Ej):Prop where
 told:Nl r.Events t
 rows:r.Rows.length<=1000
 state:r.State.length<=1000
section
variable {r:Bv} {t:AA Ej} (h:YA r t)
include h
theorem YA.after (x:Int):(MC t x).length<=100:=by have :=(h.told.tok.after x).length;have :=h.told.len;omega
theorem YA.comes (id:Int)(u:BH):a3m r id u=some (kD r t id u):=by
 have hl:=h.told.len;have U:=h.rows;have hs:=h.state;unfold a3m kD;rw[a8b r.Events r.State u AL hs,Af];generalize(Hq (GI r.Events r.State) u==3)=m;unfold aU5;refine dQ.eq (KA r.Rows.length (fuel_lt AL) (λi a=>a=(m||(r.Rows.take i).any (Ty r t id u))) Bf (λi a k hi ha j=>?_) λa k ha=>?_)
 ·unfold aFK;rw[Ce hi];cases J:a with
  |true=>
   unfold vK;refine .ret ?_;rw[J]at ha;cases hm:m with
   |true=>rfl
   |false=>
    rw[hm,Ny]at ha;obtain⟨x,L,q⟩:=KE.1 ha.symm;exact(KE.2 ⟨x,rH L,q⟩).symm
  |false=>
   rw[J]at ha;have M:(m||(r.Rows.take (i+1)).any (Ty r t id u))=Ty r t id u r.Rows[i]:=by rw[a1X hi,←Bool.or_assoc,←ha,Ny]
   have j:∀v,v=Ty r t id u r.Rows[i]->dQ (sJ k (i:Int) v) (· =(m||r.Rows.any (Ty r t id u))):=λv O=>by
    unfold sJ;rw[wrap_succ i AL];exact j v (by rw[M];exact O)
   rw[BO];unfold Ty at j;unfold bne;cases h1:r.Rows[i].Status==4 with
   |false=>exact j _ a7i
   |true=>
    rw[h1,Gf]at j;rw[FK,BO,h.told.bef]
    have e:(cond (!r.Rows[i].Id==id) ((some (Xz r.Events id r.Rows[i].Id)).bind λI=>some (!I)) (some false))=some (!(r.Rows[i].Id==id||Xz r.Events id r.Rows[i].Id)):=by
     cases r.Rows[i].Id==id<;>rfl
    rw[e,Af];cases h2:r.Rows[i].Id==id||Xz r.Events id r.Rows[i].Id with
    |false=>exact j _ a8R
    |true=>
     rw[h2,Gf]at j;rw[FK,BO,h.told.aft,Af,a8b r.Events _ u AL (by have :=h.after r.Rows[i].Id;omega),Af];exact j _ rfl
 unfold aFK vK;rw[DY,BO,ha,Ho];exact .ret rfl
theorem YA.aNO (id:Int)(u:BH):a8X r (t.map JA) id u=some (kD r t id u):=by
 have hl:=h.told.len;have hr:=h.rows;have hs:=h.state;have L:=h.told.aFR;unfold a8X kD;rw[aA8 r.Events r.State u AL hs,Af];cases Hq (GI r.Events r.State) u==3 with
 |true=>rfl
 |false=>
  rw[BO,Ny];unfold aXM;rw[JG r.Rows (fuel_lt AL) (Ty r t id u) (λ_=>some true) (some false)]
  ·by_cases j:r.Rows.findIdx (Ty r t id u)<r.Rows.length
   ·rw[Dw j,KE.2 ⟨_,Eu j,a1L⟩]
   rw[EC j]
   have :r.Rows.any (Ty r t id u)=false:=by
    cases M:r.Rows.any (Ty r t id u)with
    |false=>rfl
    |true=>
     obtain⟨x,q,I⟩:=KE.1 M;exact absurd (aM1 ⟨x,q,I⟩) j
   rw[this]
  ·intro k i hi;unfold aJq Ty;rw[Ce hi,VP _ _ AL,Af,h.told.aPZ,aA8 r.Events _ u AL (by rw[aBJ];have :=h.after r.Rows[i].Id;omega),aBJ];have e:((some (Hq (GI r.Events (MC t r.Rows[i].Id)) u)).bind λJ=>some (J==3))=some (Hq (GI r.Events (MC t r.Rows[i].Id)) u==3):=rfl;rw[e];generalize(Hq (GI r.Events (MC t r.Rows[i].Id)) u==3)=O;generalize(r.Rows[i].Status==4)=U;generalize(r.Rows[i].Id==id)=Y;generalize Xz r.Events id r.Rows[i].Id=Z;cases U<;>cases Y<;>cases Z<;>cases O<;>rfl
  intro k;unfold aJq;rw[DY,BO]
theorem YA.may (id:Int)(u:BH):tC r id u=some (JD r t id u):=by
 have Z:=h.rows;have hv:=aVf r.Events t id u
 have L:(SX r.Events t id).2=0\/(SX r.Events t id).2=5:=by
  unfold SX;cases Gs t id with
  |none=>exact .inr rfl
  |some y=>exact .inl rfl
 unfold tC JD;rw[aN3 r id AL,h.told.visible,h.told.member,h.comes];simp only[Af];rw[VX _ _ AL,VX _ _ AL];generalize(OU r id).2=U;generalize((OU r id).1.Status != 4)=Y;generalize Dv (SC r.Events t id u) 3=M;generalize Dv (SC r.Events t id u) 1=j;generalize kD r t id u=O;generalize SX r.Events t id=p at L;obtain⟨v,x⟩:=p;unfold aAy;cases U with
 |false=>rfl
 |true=>
  cases Y with
  |true=>rfl
  |false=>
   rcases L with rfl|rfl
   ·show(cond (v==1) (some true) ((some M).bind λq=>some q)).bind _=_;cases v==1 with
    |true=>rfl
    |false=>
     cases M with
     |true=>rfl
     |false=>
      show(cond (v==0) (some true) ((cond (v==2) ((some j).bind λI=>some I) (some false)).bind λJ=>some J)).bind _=some (cond (false||false) (0:Int) (cond ((v==0||(v==2&&j))&&O) 0 23));cases v==0<;>cases v==2<;>cases j<;>cases O<;>rfl
   rfl
theorem YA.aNP (id:Int)(u:BH):a2D r (t.map JA) id u=some (JD r t id u):=by
 have O:=h.rows;have U:=aVf r.Events t id u;unfold a2D JD;rw[row24 r id AL,h.told.aJW,h.told.aL7,h.aNO];simp only[Af];rw[Qj _ _ AL,Qj _ _ AL];generalize(OU r id).2=I;generalize((OU r id).1.Status != 4)=J;generalize Dv (SC r.Events t id u) 3=q;generalize Dv (SC r.Events t id u) 1=L;generalize kD r t id u=M;generalize SX r.Events t id=p;obtain⟨v,x⟩:=p;cases I with
 |false=>rfl
 |true=>
  cases J with
  |true=>rfl
  |false=>
   show(cond (x != 0) (some 5) ((some (SC r.Events t id u)).bind λY=>(cond (v==1) (some true) ((some q).bind λj=>some j)).bind _))=some (cond (x != 0) 5 _);cases x != 0 with
   |true=>rfl
   |false=>
    cases v==1 with
    |true=>rfl
    |false=>
     cases q with
     |true=>rfl
     |false=>cases v==0<;>cases v==2<;>cases L<;>cases M<;>rfl
theorem YA.seen (u:BH):a6C r u=some ((r.Rows.filter λx=>JD r t x.Id u==0).map (·.Id)):=by
 unfold a6C aRH;refine Uf r.Rows h.rows 8 Ba (λx=>JD r t x.Id u==0) (·.Id) some (λk a i hi=>?_) λk a=>?_
 ·unfold aIE aBR;rw[Ce hi,h.may,Af]
 unfold aIE;rw[DY,BO]
theorem YA.aO1 (u:BH):a4C r u=some ((r.Rows.filter λx=>JD r t x.Id u==0).map (·.Id)):=by
 unfold a4C;rw[h.told.G5,Af];unfold aQI;refine Uf r.Rows h.rows 8 Ba (λx=>JD r t x.Id u==0) (·.Id) some (λk a i hi=>?_) λk a=>?_
 ·unfold aIl a9K;rw[Ce hi,h.aNP,Af,CX hi,Af]
 unfold aIl;rw[DY,BO]
end
end
def pX (s:AA DN):Prop:=s.Pairwise λa b=>a.Pos<b.Pos
def Ef (s:AA DN)(p:Int):AA DN:=s.filter λx=>x.Pos<p
def Qn (s:AA DN)(p:Int):AA DN:=s.filter λx=>x.Pos>=p
def Jb (s:AA DN)(p:Int)(n:Nat):AA DN:=(Ef s p).drop ((Ef s p).length-n)
def down_up :∀{s:AA DN} (_:pX s) (p:Int),Ef s p++Qn s p=s
 | [],_,_=>rfl
 |x::s,h,p=>by
  have I:=down_up (OE.1 h).2 p;by_cases q:x.Pos<p
  ·have h1:Ef (x::s) p=x::Ef s p:=aD5 WU;have h2:Qn (x::s) p=Qn s p:=aDf WU;rw[h1,h2,XW,I]
  have h1:Ef (x::s) p=[]:=sU.2 λy j=>by
   rcases G7.1 j with rfl|j
   ·simpa using q
   have :=(OE.1 h).1 y j;simp only[Ik];omega
  have h2:Qn (x::s) p=x::s:=UW.2 λy j=>by
   rcases G7.1 j with rfl|j
   ·simp only[Ik];omega
   have :=(OE.1 h).1 y j;simp only[Ik];omega
  rw[h1,h2];rfl
variable {p:Int}{s:AA DN}
def adi {q:Int}(h:q<=p):Ef (Ef s p) q=Ef s q:=by
 unfold Ef;rw[aCT];congr 1;funext x;by_cases j:x.Pos<q
 ·simp[j,show x.Pos<p by omega]
 simp[j]
def ajW {A t:AA DN}(h:pX s)(hd:Ef s p=A++x::t):Ef s x.Pos=A:=by
 have q:x∈Ef s p:=by rw[hd];simp
 have hp:x.Pos<p:=by simpa using(He.1 q).2
 rw[←adi (Int.le_of_lt hp),hd];have I:pX (A++x::t):=by rw[←hd];exact h.sublist V8
 obtain⟨h1,h2,h3⟩:=Sim.1 I;unfold Ef;rw[Ql,UW.2 λy j=>by simpa using h3 y j x Bf,sU.2,MH];intro y j;rcases G7.1 j with rfl|j
 ·simp
 have :=(OE.1 h2).1 y j;simp only[Ik];omega
def apj (s:AA DN)(p:Int)(n:Nat):(Ef s p).take ((Ef s p).length-n)++Jb s p n=Ef s p:=YC ..
def a2X (s:AA DN)(p:Int)(n:Nat):(Jb s p n).length=min n (Ef s p).length:=by
 unfold Jb;rw[NV];omega
variable {n:Nat}
def aJy (h:x∈Jb s p n):x∈s:=(He.1 (aBm h)).1
def ajk (l:AA DN):Int:=(l.head?.map (·.Pos)).getD 0
def aoM (h:pX s)(J:1<=n)(hm:n<(Ef s p).length):
 ajk (Jb s p n)<p/\Ef s (ajk (Jb s p n))++Jb s p n=Ef s p/\(Ef s (ajk (Jb s p n))).length<(Ef s p).length:=by
 have hl:=a2X s p n;have hs:=apj s p n;cases j:Jb s p n with
 |nil=>rw[j]at hl;simp only[La]at hl;omega
 |cons x t=>
  rw[j]at hs hl;have q:x∈Ef s p:=by rw[←hs];simp
  have hp:x.Pos<p:=by simpa using(He.1 q).2
  have I:=ajW h hs.symm;have e:ajk (x::t)=x.Pos:=rfl;rw[e,I];refine⟨hp,hs,?_⟩;rw[HY];omega
def ahD (hm:(Ef s p).length<=n):Jb s p n=Ef s p:=by
 unfold Jb;rw[show(Ef s p).length-n=0 by omega,pU]
variable {A B C E F:Type}
section
set_option maxRecDepth 20000
set_option maxHeartbeats 1000000
def akj {D R:Type}(body:(A->B->C->D->E->F->AB R)->A->B->C->D->E->F->AB R)(n:Nat)(a:A)(b:B)(c:C)(d:D)(e:E)(f:F):zN body (n+1) a b c d e f=body (zN body n) a b c d e f:=rfl
def aUm {D G R:Type}(body:(A->B->C->D->E->F->G->AB R)->A->B->C->D->E->F->G->AB R)(n:Nat)(a:A)(b:B)(c:C)(d:D)(e:E)(f:F)(g:G):Kq body (n+1) a b c d e f g=body (Kq body n) a b c d e f g:=rfl
def apu (l:AA DN)(hl:l.length<=1000):a8E l=some l.reverse:=by
 unfold a8E aVN;refine dQ.eq (Ux (body:=aJS) (Q:=(· =l.reverse)) (λm a b v=>∃i:Nat,a=i/\b=(l.length:Int)-1-i/\i+m=l.length/\v.length=l.length/\∀k,k<l.length->v[k]? =if k<i\/l.length-1-k<i then l[l.length-1-k]? else l[k]?) ?_ Aw l.length _ _ _ (fuel_lt AL) ⟨0,rfl,NG,AL,rfl,λk L=>Bf⟩);rintro m a b v k ⟨i,rfl,rfl,hm,hv,j⟩ L;unfold aJS;refine dQ.bif (λe=>?_) λe=>?_
 ·have J:(i:Int)<(l.length:Int)-1-i:=LW e;have e1:(l.length:Int)-1-i=((l.length-1-i:Nat):Int):=AL
  have h1:i<v.length:=AL
  have h2:l.length-1-i<v.length:=AL
  have h3:l.length-1-i<(v.set i v[l.length-1-i]).length:=by rw[YH];omega
  rw[e1,CX h2,CX h1];simp only[Af,bU];rw[CX h3,Af,wrap_succ i AL];refine L (m-1) _ _ _ AL ⟨i+1,rfl,NG,AL,by simp[hv],λq I=>?_⟩;have M:=j i AL;have O:=j (l.length-1-i) AL;have a3:=j q I;rw[EJ h1,EC AL]at M;rw[EJ h2,EC AL]at O;rw[a4f,a4f,YH];by_cases U:l.length-1-i=q
  ·rw[Dw U,Dw AL,Dw AL,M];congr 1;omega
  rw[EC U];by_cases Y:i=q
  ·rw[Dw Y,Dw AL,Dw AL,O];congr 1;omega
  rw[EC Y,a3];by_cases Z:q<i\/l.length-1-q<i
  ·rw[Dw Z,Dw AL]
  rw[EC Z,EC AL]
 have J:¬(i:Int)<(l.length:Int)-1-i:=Jk e;refine .ret (dG λq=>?_);by_cases I:q<l.length
 ·rw[j q I,List.getElem?_reverse I];by_cases c:q<i\/l.length-1-q<i
  ·rw[Dw c]
  rw[EC c];congr 1;omega
 rw[Lu AL,Lu (by rw[vS];omega)]
def V6 (g:AA Int)(e:Ad):Ad:=bif Dv g e.Id|| !(Sr e==e.Hash)then Ve e else e
def abw (g:AA Int)(e:Ad)(q:g.length<=100000)(j:Fp e):dJ g e=some (V6 g e)/\aX g e=some (V6 g e):=by
 unfold dJ aX V6;rw[VX _ _ AL,Qj _ _ AL,(a1w j.x).1,(a1w j.x).2,(a3y j.x).1,(a3y j.x).2];cases Dv g e.Id<;>cases Sr e==e.Hash<;>exact⟨rfl,rfl⟩
def aaR (g:AA Int)(e:Ad):(V6 g e).Id=e.Id:=by
 unfold V6;cases Dv g e.Id|| !(Sr e==e.Hash)<;>rfl
def aYD (g:AA Int)(h:Fp e):Fp (V6 g e):=by
 unfold V6;cases Dv g e.Id|| !(Sr e==e.Hash)
 ·exact h
 exact aTs h
def ap9 (l:AA Ad)(t:AA Ej):(bM l t).length<=l.length:=by
 have h1:=aOm l t;have h2:=ML (Zb (bI l t));unfold Zb at h2;rw[DK]at h2;unfold bM Zb;omega
def G5 (r:Bv):AA Ej:=Gh r.Events
def NQ (r:Bv):AA Int:=bM r.Events (G5 r)
def D7 (r:Bv)(u:BH):AA DN:=r.Rows.filter λx=>JD r (G5 r) x.Id u==0&& !x.Gone
def LJ (r:Bv)(x:DN):Ad:=V6 (NQ r) (ev r.Events x.Id)
section
variable {r:Bv} (h:Hu r) (hl:r.Events.length <= 50)
include h hl
theorem Hu.seen:YA r (G5 r):=by
 have j:=h.facts.ok AL;have q:=aTD j.small AL (aZn j.small AL h.set) h.set λ_=>h.facts;rw[uX h.deep]at q;have hp:=abq (l:=r.Events) (c:=0) λ_=>j;rw[uX h.deep,←h.state]at hp;exact⟨q,by have :=h.TR;omega,by have :=hp.length;omega⟩
omit hl in
theorem Hu.aNR:aV r:=⟨h.pos,λi j hi q e=>by
 have :=h.nodup;rw[nN,jR,Jq]at this;rcases SPr i j with c|c|c
 ·exact absurd e (this i j hi q c)
 ·exact c
 exact absurd e.symm (this j i q hi c)⟩
omit hl in
theorem Hu.rowAt {x:DN}(j:x∈r.Rows):OU r x.Id=(x,true):=by
 obtain⟨i,hi,rfl⟩:=I8 j;unfold OU;rw[h.aNR.find hi]
omit hl in
theorem Hu.aNS:pX r.Rows:=Jq.2 λi j hi q I=>by rw[h.pos i hi,h.pos j q];omega
omit hl in
theorem Hu.aMa (u:BH):pX (D7 r u):=h.aNS.sublist V8
theorem Hu.EO (u:BH):(D7 r u).length<=50:=by
 have h1:=I9 (λx=>JD r (G5 r) x.Id u==0&& !x.Gone) r.Rows;have :=h.TR;unfold D7;omega
omit hl in
theorem Hu.aMb {x:DN}(j:x∈r.Rows):Dv ((r.Rows.filter λy=> !y.Gone).map (·.Id)) x.Id= !x.Gone:=by
 rw[TU,Me,GH];constructor
 ·rintro⟨y,q,e⟩;obtain⟨h1,h2⟩:=He.1 q;have a:=h.rowAt h1;rw[e,h.rowAt j]at a;rw[(Prod.mk.inj a).1];exact h2
 exact λI=>⟨x,He.2 ⟨j,I⟩,rfl⟩
omit h hl in
theorem aXF {u:BH}{x:DN}(j:x∈r.Rows):Dv ((r.Rows.filter λy=>JD r (G5 r) y.Id u==0).map (·.Id)) x.Id=(JD r (G5 r) x.Id u==0):=by
 rw[TU,Me,GH];constructor
 ·rintro⟨y,q,e⟩;rw[←e];exact(He.1 q).2
 exact λI=>⟨x,He.2 ⟨j,I⟩,rfl⟩
theorem Hu.left:a9M r=some ((r.Rows.filter λy=> !y.Gone).map (·.Id)):=by
 have j:=h.TR;unfold a9M aUX;refine Uf r.Rows AL 8 Ba (λx=> !x.Gone) (·.Id) some (λk a i hi=>?_) λk a=>?_
 ·unfold aEe aAW;rw[Ce hi]
 unfold aEe;rw[DY,BO]
theorem Hu.shown (u:BH):pO r u=some (D7 r u):=by
 have q:=h.TR;have I:=I9 (λy:DN=>JD r (G5 r) y.Id u==0) r.Rows;have J:=I9 (λy:DN=> !y.Gone) r.Rows;unfold pO;rw[(h.seen hl).seen,Af,h.left hl,Af];unfold aQP;have e:=Uf (body:=a9u r ((r.Rows.filter λy=>JD r (G5 r) y.Id u==0).map (·.Id)) ((r.Rows.filter λy=> !y.Gone).map (·.Id))) r.Rows AL 32 Ba (λx=>Dv ((r.Rows.filter λy=>JD r (G5 r) y.Id u==0).map (·.Id)) x.Id&&Dv ((r.Rows.filter λy=> !y.Gone).map (·.Id)) x.Id) _root_.id some (λk a i hi=>?_) λk a=>?_
 ·rw[e,vN];congr 1;exact aHE λx j=>by rw[aXF j,h.aMb j]
 ·unfold a9u a6J;rw[Ce hi,VX _ _ RF,VX _ _ RF,Af];cases Dv ((r.Rows.filter λy=>JD r (G5 r) y.Id u==0).map (·.Id)) r.Rows[i].Id<;>cases Dv ((r.Rows.filter λy=> !y.Gone).map (·.Id)) r.Rows[i].Id<;>rfl
 unfold a9u;rw[DY,BO]
theorem Hu.aBs (u:BH):pq r u=some (D7 r u):=by
 have q:=h.TR;have I:=I9 (λy:DN=>JD r (G5 r) y.Id u==0) r.Rows;unfold pq;rw[(h.seen hl).aO1,Af];unfold aTT;have e:=Uf (body:=aBY r ((r.Rows.filter λy=>JD r (G5 r) y.Id u==0).map (·.Id))) r.Rows AL 32 Ba (λx=>Dv ((r.Rows.filter λy=>JD r (G5 r) y.Id u==0).map (·.Id)) x.Id&& !x.Gone) _root_.id some (λk a i hi=>?_) λk a=>?_
 ·rw[e,vN];congr 1;exact aHE λx j=>by rw[aXF j]
 ·unfold aBY a2c;rw[Ce hi,Qj _ _ RF,CX hi];simp only[Af];cases Dv ((r.Rows.filter λy=>JD r (G5 r) y.Id u==0).map (·.Id)) r.Rows[i].Id<;>cases r.Rows[i].Gone<;>rfl
 unfold aBY;rw[DY,BO]
omit h in
theorem aQA :(NQ r).length<=50:=by
 have :=ap9 r.Events (G5 r);unfold NQ;omega
theorem Hu.form (e:Ad)(j:Fp e):dJ (NQ r) e=some (V6 (NQ r) e)/\aX (NQ r) e=some (V6 (NQ r) e):=abw _ _ (by have :=aQA hl;omega) j
theorem Hu.apy (id:Int):Fp (ev r.Events id):=yC (h.facts.ok AL).small id
theorem Hu.forms (l:AA DN)(j:l.length<=1000):a02 r l=some (l.map (LJ r)):=by
 unfold a02;rw[(h.seen hl).told.gone,Af]
 have e:J4 376 EI 0 (l.length:Int)=some []:=by
  unfold J4;rw[Dw ⟨AL,AL,AL⟩];rfl
 rw[e,Af];unfold aSW;have e:=Uf (body:=a4Z l r (NQ r)) l j 376 Ba (λ_=>true) (LJ r) some (λk a i hi=>?_) λk a=>?_
 ·exact e.trans (by rw[UW.2 λ_ _=>rfl])
 ·unfold a4Z;rw[Ce hi,Ld _ _ AL,Af];show(dJ (NQ r) (ev r.Events l[i].Id)).bind _=_;rw[(h.form hl _ (h.apy hl _)).1,Bd,Af];rfl
 unfold a4Z;rw[DY,BO]
theorem Hu.events (l:AA DN)(q:l.length<=1000)(I:∀x∈l,x∈r.Rows):zO r l=some (l.map (LJ r)):=by
 unfold zO;rw[(h.seen hl).told.aKs,Af];unfold aXT;have e:=Uf (body:=a5i l r (NQ r)) l q 376 Ba (λ_=>true) (LJ r) some (λk a i hi=>?_) λk a=>?_
 ·exact e.trans (by rw[UW.2 λ_ _=>rfl])
 ·unfold a5i aBx;have j:(Fv r.Events l[i].Id).2=true:=by rw[NT];exact h.known _ (I _ (Eu hi))
  rw[Ce hi,J6 _ _ AL,Af,j,Bd];show(aX (NQ r) (ev r.Events l[i].Id)).bind _=_;rw[(h.form hl _ (h.apy hl _)).2,Bd,Af];rfl
 unfold a5i;rw[DY,BO]
theorem Hu.aoR (u:BH)(p:Int):XO r u p=some ((Qn (D7 r u) p).map (·.Id)):=by
 have hs:=h.EO hl u;unfold XO;rw[h.shown hl,Af];unfold aVQ;refine Uf (D7 r u) AL 8 Ba (λx=>x.Pos>=p) (·.Id) some (λk a i hi=>?_) λk a=>?_
 ·unfold aDn a97;rw[Ce hi]
 unfold aDn;rw[DY,BO]
theorem Hu.aFY (u:BH)(p:Int):a4N r u p=some ((Qn (D7 r u) p).map (·.Id)):=by
 have hs:=h.EO hl u;unfold a4N;rw[h.aBs hl,Af];unfold aMG;refine Uf (D7 r u) AL 8 Ba (λx=>x.Pos>=p) (·.Id) some (λk a i hi=>?_) λk a=>?_
 ·unfold aG1 a9l;rw[Ce hi,CX hi,Af]
 unfold aG1;rw[DY,BO]
omit h hl in
theorem aMN (r:Bv)(S:AA DN)(O:S.length<=1000)(p I:Int)(U:0<=I):∀(i:Nat) (_:i<=S.length) (m:Nat) (_:i<m) (j:AA DN) (_:(j.length:Int)<=I) (_:j.length+i<=1000),
 Kq (zq S) m j ((i:Int)-1) r p I [] false=zQ (j++(Ef (S.take i) p).reverse.take (I.toNat-j.length)) r [] (decide (I.toNat-j.length<(Ef (S.take i) p).length))
 |0,_,m,hm,j,_,_=>by
  obtain⟨m,rfl⟩:∃q,m=q+1:=⟨m-1,AL⟩
  rw[aUm];unfold zq;rw[Iq AL,BO];unfold Ef;simp
 |i+1,hi,m,hm,j,hp,hpi=>by
  obtain⟨m,rfl⟩:∃q,m=q+1:=⟨m-1,AL⟩
  have J:i<S.length:=AL
  have L:=aMN r S O p I U i AL m AL;rw[aUm];generalize Kq (zq S) m=kk at L ⊢;unfold zq;have Y:((i+1:Nat):Int)-1=(i:Int):=AL
  have Z:Ar ((i:Int)-1)=(i:Int)-1:=NG
  rw[Y,L8 AL,Bd,CX J,Af];unfold aTQ;show zN _ (9223372036854775807+1) _ _ _ _ _ _=_;rw[akj];unfold aOt;rw[Z];have hd:Ef (S.take (i+1)) p=Ef (S.take i) p++bif S[i].Pos<p then[S[i]]else[]:=oh J
  rw[hd];cases hc:decide (S[i].Pos<p)with
  |false=>
   rw[BO,BO,MH];exact L j hp AL
  |true=>
   rw[Bd,Bd,a7b,aI5];by_cases M:(j.length:Int)>=I
   ·rw[L8 M,Bd,show I.toNat-j.length=0 by omega,yj,MH,L8 Bf]
   rw[Iq M,BO,Dz (by rw[Oh];omega),Af,L (j++[S[i]]) Ri Ri];have e3:I.toNat-j.length=(I.toNat-(j++[S[i]]).length)+1:=Ri
   rw[e3,aBS,aHm,JI,aBS];congr 1;rw[zB];simp only[Em,Oh];omega
def ah (r:Bv)(u:BH)(p:Int)(n:Nat):AA Ad×Int×Ac:=((Jb (D7 r u) p n).map (LJ r),ajk (Jb (D7 r u) p n),decide (n<(Ef (D7 r u) p).length))
omit h hl in
theorem max_zero (x:Int):EL x 0=((EL x 0).toNat:Int):=by
 have :0<=EL x 0:=by
  unfold EL;cases j:decide (0>x)with
  |true=>exact a9w _
  |false=>have :=Jk j;rw[BO];omega
 omega
omit h in
theorem aAE (u:BH)(hs:(D7 r u).length<=50)(p:Int)(n:Nat):(Jb (D7 r u) p n).length<=50:=by
 have h1:=a2X (D7 r u) p n;have h2:=I9 (λx:DN=>x.Pos<p) (D7 r u);unfold Ef at h1;omega
theorem Hu.ak7 (u:BH)(p j:Int):Yi r u p j=some (ah r u p (EL j 0).toNat):=by
 have hs:=h.EO hl u;have q:=aAE hl u hs p (EL j 0).toNat;unfold Yi aJ9;rw[h.shown hl,Af,Af];unfold aMt;have I:Ar (((D7 r u).length:Int)-1)=((D7 r u).length:Int)-1:=NG
 rw[I,aMN r (D7 r u) AL p (EL j 0) (by rw[max_zero];omega) (D7 r u).length (Eo _) Aw (fuel_lt AL) [] (by have :=max_zero j;simp only[La];omega) Uk,Ho,Ij,La,Nat.sub_zero]
 have J:((Ef (D7 r u) p).reverse.take (EL j 0).toNat)=(Jb (D7 r u) p (EL j 0).toNat).reverse:=by
  unfold Jb;rw[List.reverse_drop];simp only[List.take_eq_take_iff,vS];omega
 rw[J];unfold zQ ah;rw[vS];cases L:Jb (D7 r u) p (EL j 0).toNat with
 |nil=>rfl
 |cons x l=>
  rw[L]at q;have M:(((x::l).length:Int)==0)=false:=by rw[aY,H8];omega
  rw[M,BO,apu _ (by rw[vS];omega),Af,List.reverse_reverse,h.forms hl _ AL,Af];rfl
omit h hl in
theorem a5H {u:BH}{x:DN}(j:x∈D7 r u):x∈r.Rows:=(He.1 j).1
theorem Hu.aC0 (u:BH)(p j:Int):a3P r u p j=some (ah r u p (EL j 0).toNat):=by
 have hs:=h.EO hl u;have O:=aAE hl u hs p (EL j 0).toNat;have hd:=I9 (λx:DN=>x.Pos<p) (D7 r u);unfold a3P;rw[h.aBs hl,Af];unfold aUQ;have e:=Uf (body:=a5f (D7 r u) p j r) (D7 r u) AL 32 Ba (λx=>x.Pos<p) _root_.id (λD=>(Gx D (Ar ((D.length:Int)-Hl (EL j 0) (D.length:Int))) (D.length:Int)).bind λq=>bif Hl (EL j 0) (D.length:Int)>0 then(Aq q 0).bind λI=>XL r q j D I.Pos else XL r q j D 0) (λk a i hi=>?_) λk a=>?_
 ·refine e.trans ?_;rw[vN];show(Gx (Ef (D7 r u) p) (Ar (((Ef (D7 r u) p).length:Int)-Hl (EL j 0) ((Ef (D7 r u) p).length:Int))) ((Ef (D7 r u) p).length:Int)).bind (λq=>bif Hl (EL j 0) ((Ef (D7 r u) p).length:Int)>0 then(Aq q 0).bind λI=>XL r q j (Ef (D7 r u) p) I.Pos else XL r q j (Ef (D7 r u) p) 0)=_
  have hm:Hl (EL j 0) ((Ef (D7 r u) p).length:Int)=((min (EL j 0).toNat (Ef (D7 r u) p).length:Nat):Int):=by
   rw[max_zero];unfold Hl;generalize(EL j 0).toNat=n;by_cases c:((Ef (D7 r u) p).length:Int)<(n:Int)
   ·rw[L8 c];simp only[Bd];omega
   rw[Iq c];simp only[BO];omega
  have L:Jb (D7 r u) p (EL j 0).toNat=(Ef (D7 r u) p).drop ((Ef (D7 r u) p).length-min (EL j 0).toNat (Ef (D7 r u) p).length):=by
   unfold Jb;congr 1;omega
  have U:Ar (((Ef (D7 r u) p).length:Int)-((min (EL j 0).toNat (Ef (D7 r u) p).length:Nat):Int))=(((Ef (D7 r u) p).length-min (EL j 0).toNat (Ef (D7 r u) p).length:Nat):Int):=by
   unfold Ef;rw[Vo];omega
  rw[hm,U,WC AL,Af,←L]
  have J:∀v,XL r (Jb (D7 r u) p (EL j 0).toNat) j (Ef (D7 r u) p) v=some ((Jb (D7 r u) p (EL j 0).toNat).map (LJ r),v,decide ((EL j 0).toNat<(Ef (D7 r u) p).length)):=λv=>by
   unfold XL;rw[h.events hl _ AL λx Y=>a5H (aJy Y),Af,hm];congr 3;rw[zB];omega
  unfold ah;have hlen:=a2X (D7 r u) p (EL j 0).toNat;cases M:Jb (D7 r u) p (EL j 0).toNat with
  |nil=>
   rw[M]at J hlen;simp only[La]at hlen;rw[←hlen,Iq AL,BO];exact J 0
  |cons x l=>
   rw[M]at J hlen;rw[←hlen,L8 (by simp only[H8];omega),Bd];exact J x.Pos
 ·unfold a5f aAc;rw[Ce hi,CX hi];rfl
 unfold a5f;rw[DY,BO]
end
end
def lQ :Sz=some true:=A8
def U6 :dQ (Sz.bind λx=>some x) (· =true):=by rw[lQ];exact .ret rfl
section
set_option maxRecDepth 20000
set_option maxHeartbeats 1000000
def aSJ (l:AA Ad)(n:Nat)(Y:n<4611686018427387904):dQ (a1Y l n) (λb=>b=false->l.length<=n/\∀e∈l,Fp e):=by
 have Z:Aw=9223372036854775808:=rfl;unfold a1Y;refine dQ.bif (λ_=>.ret λh=>GN) λL=>?_;have L:=PW L;unfold aXW;refine dZ l.length AL (λi=>∀j,(q:j<i)->(hl:j<l.length)->Fp l[j]) (λj q=>AL) ?_ ?_
 ·intro i k hi I M;unfold aIa;rw[Ce hi,wrap_succ i AL];refine(aQm l[i]).bind λb O=>dQ.bif (λ_=>.ret λh=>GN) λe=>M λj q J=>?_;by_cases U:j=i
  ·subst U;exact O e
  exact I j AL J
 intro k I;unfold aIa;rw[EX];exact .ret λ_=>⟨AL,aL3 λj q=>I j q q⟩
def a1Z (q:r.Id.size<=9223372036854775807):dQ (ZJ r) (λb=>b=false->Hu r/\r.Events.length<=12):=by
 obtain⟨O,U,h1⟩:=aSJ r.Events 12 AL;obtain⟨Y,Z,h2⟩:=aSJ r.Waiting 6 AL;unfold ZJ;rw[show((12:Int))=((12:Nat):Int)from rfl,show((6:Int))=((6:Nat):Int)from rfl,U,Z,Af,Af];have j:dQ (some true) (λb=>b=false->Hu r/\r.Events.length<=12):=.ret λh=>GN
 cases O with
 |true=>exact j
 |false=>
  cases Y with
  |true=>exact j
  |false=>
   have h1:=h1 rfl;have h2:=h2 rfl;cases J:decide ((r.Rows.length:Int)>30)with
   |true=>exact j
   |false=>
    cases L:decide ((r.QT.length:Int)>30)with
    |true=>exact j
    |false=>
     cases M:decide ((r.State.length:Int)>40)with
     |true=>exact j
     |false=>
      cases a4:decide ((r.acQ.length:Int)>30)with
      |true=>exact j
      |false=>
       cases a5:decide ((r.amF.length:Int)>30)with
       |true=>exact j
       |false=>
        have J:=Jk J;have L:=Jk L;have M:=Jk M;obtain⟨c,ec,hc⟩:=ajR q (λe I=>(h1.2 e I).wide) (λe I=>(h2.2 e I).wide) AL AL AL AL AL;rw[ec];refine .ret λh=>⟨(hc ?_).1,h1.1⟩
        simpa using h
def aOW {l:AA Int}(h:l.length<=1000):yg l l=some true:=by
 unfold yg aS9;rw[gu,BO];refine kR l h _ (λk i h=>?_) λk=>?_
 ·unfold aHS;rw[dec_lt h,Bd,CX h,Af,Af,gu,BO]
 unfold aHS;rw[DY,BO]
section
variable {r:Bv} (h:Hu r) (hl:r.Events.length <= 50)
include h hl
theorem Hu.aHY {x:DN}(j:x∈r.Rows):(LJ r x).Id=x.Id:=by
 unfold LJ;rw[aaR];exact(Om (h.known x j)).2
theorem Hu.ids (l:AA DN)(j:l.length<=1000)(q:∀x∈l,x∈r.Rows):jd (l.map (LJ r))=some (l.map (·.Id)):=by
 unfold jd aJC;have e:=Uf (body:=pz (l.map (LJ r))) (l.map (LJ r)) (by rw[DK];exact j) 8 Ba (λ_=>true) (·.Id) some (λk a i hi=>?_) λk a=>?_
 ·rw[e,UW.2 λ_ _=>rfl,Y1];congr 1;exact aCJ λx I=>h.aHY hl (q x I)
 ·unfold pz;rw[Ce hi];rfl
 unfold pz;rw[DY,BO]
theorem Hu.aO2 (u:BH):Qn (D7 r u) 0=D7 r u:=UW.2 λx j=>by
 obtain⟨i,hi,rfl⟩:=I8 (a5H j);rw[h.pos i hi];simp
theorem Hu.fits (u:BH)(p I:Int)(h1:1<=I)(h5:I<=5):dQ (aIH r ⟨u,p,I⟩ ((Qn (D7 r u) p).map (·.Id)) ((Qn (D7 r u) 0).map (·.Id)) [] p 0) (· =true):=by
 have hs:=h.EO hl u;have hr:=h.TR;have hd:=λq=>I9 (λx:DN=>x.Pos<q) (D7 r u);have J:=h.aMa u;have U:EL I 0=I:=by unfold EL;rw[Iq AL,BO]
 have Y:(D7 r u).length<=r.Rows.length:=by unfold D7;exact I9 ..
 have h0:(Ef (D7 r u) p).length<=r.Rows.length:=by have :=hd p;unfold Ef;omega
 have Z:∃(j:Nat) (T:AA DN),(0:Int)=j/\(Ef (D7 r u) p).length=(Ef (D7 r u) p).length/\j+(Ef (D7 r u) p).length<=r.Rows.length/\Ef (D7 r u) p++T=Ef (D7 r u) p/\([]:AA Int)=T.map (·.Id):=⟨0,[],rfl,rfl,AL,MH _,rfl⟩
 have L:(Ef (D7 r u) p).length<Aw:=fuel_lt AL
 suffices key:dQ (iM (aCC r ⟨u,p,I⟩ ((Qn (D7 r u) p).map (·.Id)) ((Qn (D7 r u) 0).map (·.Id))) Aw [] p 0) (· =true)from key
 refine Ux (λ(m:Nat) (ids:AA Int) (q i:Int)=>∃(j:Nat) (T:AA DN),i=j/\m=(Ef (D7 r u) q).length/\j+m<=r.Rows.length/\Ef (D7 r u) q++T=Ef (D7 r u) p/\ids=T.map (·.Id)) ?_ Aw (Ef (D7 r u) p).length [] p 0 L Z;rintro m ids q i k ⟨j,T,rfl,rfl,hj,M,rfl⟩ hk;unfold aCC;have hpl:=a2X (D7 r u) q I.toNat;have O:∀x∈Jb (D7 r u) q I.toNat,x∈r.Rows:=λx hx=>a5H (aJy hx)
 have hTl:T.length<=50:=by
  have :=BM List.length M;rw[Em]at this;have h2:=hd p;unfold Ef at this;omega
 rw[L8 AL,Bd,h.ak7 hl,Af,U];unfold ah
 dsimp only
 rw[h.ids hl _ AL O,Af,Dz (by simp only[DK,La];omega),Af,Ij,Dz (by simp only[DK];omega),Af,DK,Iq AL,BO];cases hm:decide (I.toNat<(Ef (D7 r u) q).length)with
 |true=>
  have hm:=LW hm;obtain⟨g1,g2,g3⟩:=aoM (n:=I.toNat) J AL hm;have e1:(((Jb (D7 r u) q I.toNat).length:Int) != I)=false:=by rw[bne_eq_false_iff_eq];omega
  have e2:decide (ajk (Jb (D7 r u) q I.toNat)>=q)=false:=Iq AL;rw[Bd,e1,e2];simp only[BO,Af,FK];rw[wrap_succ j AL];refine hk _ _ _ _ g3 ⟨j+1,Jb (D7 r u) q I.toNat++T,rfl,rfl,AL,?_,by rw[Jh]⟩;rw[←JI,g2,M]
 |false=>
  have hm:=Jk hm;rw[ahD AL];simp only[BO,Af,JV,Bd]
  have e:(Ef (D7 r u) q).map (·.Id)++T.map (·.Id)++(Qn (D7 r u) p).map (·.Id)=(D7 r u).map (·.Id):=by
   rw[←Jh,M,←Jh,down_up J]
  have hu:=I9 (λx:DN=>x.Pos>=p) (D7 r u);have hq:=hd q;rw[Dz (by simp only[Em,DK];unfold Ef Qn;omega),Af,e,h.aO2 hl,aOW RF,Af,Bd,lQ];exact .ret rfl
end
def alV (r:Bv)(a:NK)(j:r.Id.size<=9223372036854775807):a2V r a=some true:=by
 refine dQ.eq ?_;unfold a2V;refine(a1Z j).bind λb L=>?_;cases b with
 |true=>simp only[Bd,BO,Af];exact U6
 |false=>
  obtain⟨h,hl⟩:=L rfl;cases decide ((a.User.size:Int)>100)with
  |true=>simp only[Bd,BO,Af];exact U6
  |false=>
   cases h1:decide (a.Limit<1)with
   |true=>simp only[Bd,BO,Af];exact U6
   |false=>
    cases J:decide (a.Limit>5)with
    |true=>simp only[Bd,BO,Af];exact U6
    |false=>
     have h1:=Jk h1;have J:=Jk J;show dQ ((XO r a.User 0).bind λq=>(XO r a.User a.Pos).bind λI=>aIH r a I q [] a.Pos 0) _;rw[h.aoR AL,Af,h.aoR AL,Af];exact h.fits AL a.User a.Pos a.Limit AL AL
def dS (s:AA DN)(k n:Nat):AA DN:=(s.drop (k-n)).take (min s.length (k+n+1)-(k-n))
def O1 (s:AA DN)(id:Int):Nat:=s.findIdx λx=>x.Id==id
def U2 (r:Bv)(u:BH)(id j:Int):AA Ad×Int:=
 bif JD r (G5 r) id u != 0 then([],JD r (G5 r) id u)else
 if O1 (D7 r u) id<(D7 r u).length then((dS (D7 r u) (O1 (D7 r u) id) (min (EL j 0).toNat (D7 r u).length)).map (LJ r),0)else([],27)
def aXB {k:Nat}(h:x∈dS s k n):x∈s:=aBm (rH h)
def aBd (s:AA DN)(k n:Nat):(dS s k n).length<=s.length:=by
 unfold dS;rw[HY,NV];omega
def aJ4 (a b:Nat):Hl (a:Int) (b:Int)=((min a b:Nat):Int):=by
 unfold Hl;by_cases c:(b:Int)<(a:Int)
 ·rw[L8 c];simp only[Bd];omega
 rw[Iq c];simp only[BO];omega
def aWM (s:AA DN)(hs:s.length<=1000)(k n:Nat)(L:k<s.length)(M:n<=s.length):
 Gx s (EL 0 (Ar ((k:Int)-(n:Int)))) (Hl (s.length:Int) (Ar ((Ar ((k:Int)+(n:Int)))+1)))=some (dS s k n)/\
 Gx s (EL (Ar ((k:Int)-(n:Int))) 0) (Hl (Ar ((Ar ((k:Int)+(n:Int)))+1)) (s.length:Int))=some (dS s k n):=by
 have j:Ar ((k:Int)-(n:Int))=(k:Int)-(n:Int):=NG
 have q:Ar ((Ar ((k:Int)+(n:Int)))+1)=((k+n+1:Nat):Int):=by rw[Vo,Vo];omega
 have I:EL 0 ((k:Int)-(n:Int))=((k-n:Nat):Int):=by
  unfold EL;by_cases c:(k:Int)-(n:Int)>0
  ·rw[L8 c,Bd];omega
  rw[Iq c,BO];omega
 have J:EL ((k:Int)-(n:Int)) 0=((k-n:Nat):Int):=by
  unfold EL;by_cases c:(0:Int)>(k:Int)-(n:Int)
  ·rw[L8 c,Bd];omega
  rw[Iq c,BO];omega
 rw[j,q,I,J,aJ4,aJ4,Nat.min_comm (k+n+1),dz AL AL];exact⟨rfl,rfl⟩
section
variable {r:Bv} (h:Hu r) (hl:r.Events.length <= 50)
include h hl
omit h in
theorem aWK (u:BH)(j:Int):Hl (EL j 0) ((D7 r u).length:Int)=((min (EL j 0).toNat (D7 r u).length:Nat):Int):=by
 rw[max_zero,aJ4];rfl
theorem Hu.around (u:BH)(id j:Int):Yz r u id j=some (U2 r u id j):=by
 have hs:=h.EO hl u;unfold Yz U2;rw[(h.seen hl).may,Af];cases JD r (G5 r) id u != 0 with
 |true=>rfl
 |false=>
  rw[BO,BO,h.shown hl,Af]
  have e:aAJ (D7 r u) (λa0=>a1K a0 id)=some (if O1 (D7 r u) id<(D7 r u).length then(O1 (D7 r u) id:Int)else -1):=by
   unfold aAJ aUr;rw[JG (D7 r u) (fuel_lt AL) (λx=>x.Id==id) (λi=>some (i:Int)) (some (-1))]
   ·unfold O1;split<;>rfl
   ·intro k i hi;unfold aFf a1K;rw[Ce hi];rfl
   intro k;unfold aFf;rw[DY,BO]
  rw[e,Af];by_cases q:O1 (D7 r u) id<(D7 r u).length
  ·rw[Dw q,Dw q,Iq AL,BO,aWK hl,(aWM _ AL _ _ q (aFH ..)).1,Af,h.forms hl _ (by have :=aBd (D7 r u) (O1 (D7 r u) id) (min (EL j 0).toNat (D7 r u).length);omega)];rfl
  rw[EC q,EC q];rfl
theorem Hu.aMc (u:BH)(id j:Int):a98 r u id j=some (U2 r u id j):=by
 have hs:=h.EO hl u;have hr:=h.TR;unfold a98 aIF U2;rw[(h.seen hl).told.G5,Af,(h.seen hl).aNP,Af,Af];cases hm:JD r (G5 r) id u != 0 with
 |true=>rfl
 |false=>
  have hm:JD r (G5 r) id u=0:=rV
  rw[BO,BO,row24 r id AL,Af]
  have J:∃x∈r.Rows,x.Id=id:=by
   cases U:MS r id with
   |none=>
    have :(OU r id).2=false:=by unfold OU;rw[U]
    unfold JD at hm;rw[this]at hm;simp at hm
   |some x=>
    obtain⟨m,hm,h1,h2⟩:=a3v U;exact⟨x,h1▸Eu hm,h2⟩
  obtain⟨x,J,rfl⟩:=J;rw[h.rowAt J];cases Y:x.Gone with
  |true=>
   have hn:¬O1 (D7 r u) x.Id<(D7 r u).length:=λI=>by
    have h1:((D7 r u)[O1 (D7 r u) x.Id].Id==x.Id)=true:=a1L (p:=λy:DN=>y.Id==x.Id) (w:=I);have h2:=Eu I;obtain⟨h3,Z⟩:=He.1 h2;have h5:=h.rowAt h3;rw[eq_of_beq h1,h.rowAt J]at h5;rw[←(Prod.mk.inj h5).1,Y]at Z;simp at Z
   rw[EC hn];rfl
  |false=>
   have L:x∈D7 r u:=He.2 ⟨J,by rw[hm,Y];rfl⟩;have I:O1 (D7 r u) x.Id<(D7 r u).length:=aM1 ⟨x,L,Bf⟩;rw[Dw I,BO,h.aBs hl,Af];unfold aLa
   have key:∀n (i:Nat),i+n=O1 (D7 r u) x.Id->∀m,n<m->bg (lV (D7 r u) x.Id j r) m (i:Int)=some ((dS (D7 r u) (O1 (D7 r u) x.Id) (min (EL j 0).toNat (D7 r u).length)).map (LJ r),0):=by
    intro n
    induction n with
    |zero=>
     intro i hi m M;obtain⟨m,rfl⟩:∃q,m=q+1:=⟨m-1,AL⟩
     have hi:i=O1 (D7 r u) x.Id:=AL
     subst hi;show lV (D7 r u) x.Id j r (bg _ m) _=_;unfold lV;have h1:=a1L (p:=λy:DN=>y.Id==x.Id) (w:=I);have h2:((D7 r u)[O1 (D7 r u) x.Id].Id != x.Id)=false:=by rw[bne_eq_false_iff_eq];exact eq_of_beq h1
     rw[CX I,Af,h2,BO,aWK hl,(aWM _ AL _ _ I (aFH ..)).2,Af,h.events hl _ (by have :=aBd (D7 r u) (O1 (D7 r u) x.Id) (min (EL j 0).toNat (D7 r u).length);omega) λy hy=>a5H (aXB hy)];rfl
    |succ n ih=>
     intro i hi m M;obtain⟨m,rfl⟩:∃q,m=q+1:=⟨m-1,AL⟩
     have O:i<(D7 r u).length:=AL
     show lV (D7 r u) x.Id j r (bg _ m) _=_;unfold lV
     have h1:((λy:DN=>y.Id==x.Id) (D7 r u)[i])=false:=by
      have :=aIs (p:=λy:DN=>y.Id==x.Id) (xs:=D7 r u) (i:=i) (show i<O1 (D7 r u) x.Id by omega);simpa using this
     have h2:((D7 r u)[i].Id != x.Id)=true:=by unfold bne;rw[show((D7 r u)[i].Id==x.Id)=false from h1];rfl
     rw[CX O,Af,h2,Bd,wrap_succ i AL];exact ih (i+1) AL m AL
   exact key (O1 (D7 r u) x.Id) 0 AL Aw (fuel_lt AL)
theorem Hu.axf (x:DN):Fp (LJ r x):=aYD _ (h.apy hl _)
end
def agV (r:Bv)(a:NK)(j:r.Id.size<=9223372036854775807):a7v r a=some true:=by
 refine dQ.eq ?_;unfold a7v;refine(a1Z j).bind λb q=>?_;cases b with
 |true=>simp only[Bd,BO,Af];exact U6
 |false=>
  obtain⟨h,hl⟩:=q rfl;cases decide ((a.User.size:Int)>100)with
  |true=>simp only[Bd,BO,Af];exact U6
  |false=>
   have hl:r.Events.length<=50:=AL
   have hs:=h.EO hl a.User;have I:=aAE hl a.User hs a.Pos (EL a.Limit 0).toNat;have L:=I9 (λx:DN=>x.Pos>=a.Pos) (D7 r a.User);show dQ ((Yi r a.User a.Pos a.Limit).bind _) _;rw[h.ak7 hl,Af,h.aC0 hl,Af,h.aoR hl,Af,h.aFY hl,Af,aOW (by rw[DK];unfold Qn;omega),Af,Bd];unfold ah
   rw[aVe RF λe J=>by
    obtain⟨x,_,rfl⟩:=GH.1 J
    exact h.axf hl x]
   unfold qY aLB aC;simp only[Af,Bd,SE,lQ];exact .ret rfl
def anm (r:Bv)(a:NK)(q:r.Id.size<=9223372036854775807):a2Y r a=some true:=by
 refine dQ.eq ?_;unfold a2Y;refine(a1Z q).bind λb I=>?_;cases b with
 |true=>simp only[Bd,BO,Af];exact U6
 |false=>
  obtain⟨h,hl⟩:=I rfl;cases decide ((a.User.size:Int)>100)with
  |true=>simp only[Bd,BO,Af];exact U6
  |false=>
   have hl:r.Events.length<=50:=AL
   have hs:=h.EO hl a.User;show dQ ((Yz r a.User a.Pos a.Limit).bind _) _
   have e:nG (U2 r a.User a.Pos a.Limit).1 (U2 r a.User a.Pos a.Limit).1=some true:=by
    refine aVe ?_ λe j=>?_
    ·unfold U2;cases JD r (G5 r) a.Pos a.User != 0 with
     |true=>exact F6 _
     |false=>
      rw[BO];split
      ·have :=aBd (D7 r a.User) (O1 (D7 r a.User) a.Pos) (min (EL a.Limit 0).toNat (D7 r a.User).length);rw[DK];omega
      exact F6 _
    unfold U2 at j;cases hm:JD r (G5 r) a.Pos a.User != 0 with
    |true=>rw[hm]at j;cases j
    |false=>
     rw[hm,BO]at j;split at j
     ·obtain⟨x,_,rfl⟩:=GH.1 j;exact h.axf hl x
     cases j
   rw[h.around hl,Af,h.aMc hl,Af,e];simp only[Af,Bd,SE,lQ];exact .ret rfl
def aYu (r:Bv)(e:Ad)(j:r.Id.size<=9223372036854775807):a9y r e=some true:=by
 refine dQ.eq ?_;unfold a9y;refine(a1Z j).bind λb q=>?_;cases b with
 |true=>simp only[Bd,BO,Af];exact U6
 |false=>
  obtain⟨h,hl⟩:=q rfl;have hl:r.Events.length<=50:=AL
  obtain⟨b,J,q⟩:=aQm e;rw[J];cases b with
  |true=>simp only[Bd,BO,Af];exact U6
  |false=>
   have I:=q rfl;show dQ ((a1T r e).bind λL=>(a3h r e).bind _) _;unfold a1T a3h;rw[(h.seen hl).told.gone,(h.seen hl).told.aKs,Af,Af];show dQ (((dJ (NQ r) e).bind _).bind λL=>((aX (NQ r) e).bind _).bind _) _;rw[(h.form hl e I).1,(h.form hl e I).2];unfold a3E;simp only[Af,wY (aYD _ I),Bd,lQ];exact .ret rfl
def acJ {a b:Cx}(h:sF a b=true):a=b:=by
 unfold sF at h;simp only[Dx,OC]at h;obtain⟨⟨⟨⟨⟨⟨⟨h1,h2⟩,h3⟩,j⟩,q⟩,I⟩,J⟩,L⟩:=h;have M:=toList_inj h1;have O:=toList_inj q;have U:=mP (p:=Ur) (λx y h=>toList_inj (eq_of_beq h)) I;have Y:=mP (p:=Ur) (λx y h=>toList_inj (eq_of_beq h)) J;have Z:=afW L;cases a;cases b;simp only at *;subst M h2 h3 j O U Y Z;rfl
def aiR (hs:Fp e)(q:Uh e=some 0)(I:(Sr e==e.Hash)=false):Ve e=e:=by
 unfold Uh at q;obtain⟨c,L,j⟩:=Du q;obtain⟨M,j⟩:=TF j;rw[(a1w hs.x).2,Af,I,JV,Bd,aGY,Af,aTF _ hs.content,Af]at j;unfold eI at j;obtain⟨J,_⟩:=KO j Ba;have :=acJ nO;unfold Ve;rw[←this]
section
variable {r:Bv} (h:Hu r) (hl:r.Events.length <= 50)
include h hl
theorem Hu.want {x:DN}(M:x∈r.Rows)(l:AA Ad)(i:Nat)(hi:i<l.length)(q:l[i]=LJ r x)(k:Int->AB Ac):aDv (NQ r) (ev r.Events x.Id,true) l (i:Int) k 0 (ev r.Events x.Id)=k (Ar ((i:Int)+1)):=by
 have hg:=aQA hl;have hs:=h.apy hl x.Id;unfold aDv;have e:=a2K (body:=aA4 (NQ r) (ev r.Events x.Id,true) l (i:Int) k) (NQ r) AL (λa y=>bif y==(ev r.Events x.Id).Id then Ve (ev r.Events x.Id)else a) (λ_ _=>True) (λa=>(jf l[i] a).bind λI=>bif !I then some false else k (Ar ((i:Int)+1))) (a0:=ev r.Events x.Id) trivial (λk2 a j O _=>⟨trivial,?_⟩) λk2 a _=>?_
 ·refine e.trans ?_
  have U:∀(g:AA Int) (a:Ad),g.foldl (λa y=>bif y==(ev r.Events x.Id).Id then Ve (ev r.Events x.Id)else a) a=bif Dv g (ev r.Events x.Id).Id then Ve (ev r.Events x.Id)else a:=by
   intro g
   induction g with
   |nil=>intro a;rfl
   |cons y g Y=>
    intro a;rw[Hy,Y];have L:Dv (y::g) (ev r.Events x.Id).Id=(((ev r.Events x.Id).Id==y)||Dv g (ev r.Events x.Id).Id):=by unfold Dv;rw[List.contains_cons]
    rw[L];by_cases J:y=(ev r.Events x.Id).Id
    ·subst J;rw[SE,Bd,a3a,Bd];cases Dv g (ev r.Events x.Id).Id<;>rfl
    rw[aY.2 J,aY.2 (λe=>J e.symm),Ny,BO]
  rw[U,q];unfold LJ V6;cases L:Dv (NQ r) (ev r.Events x.Id).Id with
  |true=>rw[a3a,Bd,wY (aTs hs)];rfl
  |false=>
   rw[Ny,BO];cases Z:Sr (ev r.Events x.Id)==(ev r.Events x.Id).Hash with
   |true=>rw[FK,BO,wY hs];rfl
   |false=>
    have hm:=(Om (h.known x M)).1;rw[JV,Bd,aiR hs (h.ver hl _ (PN hm)) Z,wY hs];rfl
 ·unfold aA4 a8T;rw[Ce O];cases(NQ r)[j]==(ev r.Events x.Id).Id with
  |true=>rw[Bd,Bd,(a3y hs.x).1];rfl
  |false=>rfl
 unfold aA4;rw[DY,BO,CX hi];rfl
theorem Hu.secrets (a:NK)(rows:AA DN)(L:rows.length<=1000)(M:∀x∈rows,x∈D7 r a.User):a7U (rows.map (LJ r)) r (NQ r) a 0=some true:=by
 have O:=h.TR;unfold a7U;refine kR (rows.map (LJ r)) (by rw[DK];exact L) _ (λk i hi=>?_) λk=>?_
 ·have I:i<rows.length:=by rw[DK]at hi;exact hi
  have U:=M _ (Eu I);obtain⟨h1,h2⟩:=He.1 U;simp only[Dx,OC,RU]at h2;have q:(rows.map (LJ r))[i]=LJ r rows[i]:=Pn ..;have j:(rows.map (LJ r))[i].Id=rows[i].Id:=by rw[q,h.aHY hl h1]
  have J:Fv r.Events rows[i].Id=(ev r.Events rows[i].Id,true):=Ll (Om (h.known _ h1)).1;unfold aDO;rw[Ce hi,j,Ld _ _ AL,Af,CX hi,Af,j,aN3 r _ AL,Af,J,h.rowAt h1];simp only[FK,BO,h2.2,Af];rw[j,(h.seen hl).may,h2.1,Af];unfold l9;rw[bne_self_eq_false,BO];exact h.want hl h1 _ i hi q k
 unfold aDO;rw[DY,BO,lQ,Af]
end
def anl (r:Bv)(a:NK)(I:r.Id.size<=9223372036854775807):a4m r a=some true:=by
 refine dQ.eq ?_;unfold a4m;refine(a1Z I).bind λb O=>?_;cases b with
 |true=>simp only[Bd,BO,Af];exact U6
 |false=>
  obtain⟨h,hl⟩:=O rfl;cases decide ((a.User.size:Int)>100)with
  |true=>simp only[Bd,BO,Af];exact U6
  |false=>
   have hl:r.Events.length<=50:=AL
   have hs:=h.EO hl a.User;have U:=aAE hl a.User hs r.Next (EL (r.Rows.length:Int) 0).toNat;have J:∀x∈Jb (D7 r a.User) r.Next (EL (r.Rows.length:Int) 0).toNat,x∈D7 r a.User:=λx j=>aJy j;simp only[BO,Af]
   have hA:∃l:AA DN,l.length<=50/\(∀x∈l,x∈D7 r a.User)/\(U2 r a.User a.Pos a.Limit).1=l.map (LJ r)/\((U2 r a.User a.Pos a.Limit).2≠0->l=[]):=by
    unfold U2;cases JD r (G5 r) a.Pos a.User != 0 with
    |true=>exact⟨[],F6 _,λx j=>absurd j H9,rfl,λ_=>rfl⟩
    |false=>
     rw[BO];split
     ·exact⟨_,FQ (aBd ..) hs,λx j=>aXB j,rfl,λY=>absurd rfl Y⟩
     exact⟨[],F6 _,λx j=>absurd j H9,rfl,λ_=>rfl⟩
   obtain⟨l,n1,Z,n3,n4⟩:=hA;unfold qY;rw[Af,h.ak7 hl,Af,h.around hl,Af,n3,(h.seen hl).told.gone,Af]
   have q:dQ ((CZ 376 [] (ah r a.User r.Next (EL (r.Rows.length:Int) 0).toNat).1).bind λL=>(CZ 376 L (l.map (LJ r))).bind λM=>a7U M r (NQ r) a 0) (· =true):=by
    unfold ah;rw[Dz (by simp only[DK,La];omega),Af,Ij,Dz (by simp only[DK];omega),Af,←Jh,h.secrets hl a _ MO λx j=>(KG.1 j).elim (J x) (Z x)];exact .ret rfl
   cases hz:(U2 r a.User a.Pos a.Limit).2 != 0 with
   |false=>exact q
   |true=>
    have :=n4 (by simpa using hz);subst this;exact q
end
def Vl (P:Ch)(t:Bq)(e:α->D)(V:α->Prop):Prop:=∀ ⦃H:Type⦄ (enc:Bq×BJ->H) (w:BU) (base:Nat) (spare:Nat->Ac) (held:Ac),fU enc P w base spare held t e V
section
variable {P:Ch} {t:Bq} {α β:Type}
def EY (P:Ch)(t:Bq)(fs:Bh Field)(i o:Nat)(e:α->AA D)(V:α->Prop):Prop:=∀ ⦃H:Type⦄ (enc:Bq×BJ->H) (w:BU) (base:Nat) (spare:Nat->Ac) (held:Ac) Aw cs x,P.underlying t=some (.struct fs)->DataW.trod enc P w base spare held Aw t cs=some x->∃a:α,V a/\RI w (e a) (cs.drop o)
variable {fs:Bh Field} {i o:Nat} {u:Bq} {en:α->D} {V:α->Prop} {e:β->AA D} {V':β->Prop}
def EY.z (j:P.cellsOf t=o:=by kernel_rfl):EY (α:=Unit) P t fs i o (λ_=>[]) (λ_=>True):=λ_ enc w base spare held Aw cs x q h=>
 ⟨(),trivial,by have :=abZ q h _ j;rw[a1F AL];exact .nil w⟩
def EY.c (J:Vl P u en V)(k2:EY P t fs (i+1) (o+P.cellsOf u) e V')(j:(fs[i]?).map (λf=>(f.type,f.offset))=some (u,o):=by kernel_rfl):
 EY P t fs i o (λa:α×β=>(en a.1).cells++e a.2) (λa=>V a.1/\V' a.2):=λ_ enc w base spare held Aw cs x q h=>by
 obtain⟨a,h1,h2⟩:=an0 q h i u o (P.cellsOf u) (by cases I:fs[i]? with |none=>simp[I]at j|some f=>simp[I]at j;obtain⟨rfl,rfl⟩:=j;rfl) (J enc w base spare held);obtain⟨b,L,M⟩:=k2 enc w base spare held Aw cs x q h;refine⟨(a,b),⟨h1,L⟩,?_⟩;have :=h2.append M;rw[←aG2,YC]at this;exact this
def TV {X:Type}{eX:X->D}(j:P.underlying t=some (.struct fs))(F:EY P t fs 0 0 e V')(f:β->X)(g:X->β)(q:∀a,g (f a)=a:=by exact λ_=>rfl)(I:∀a,(eX (f a)).cells=e a:=by exact λ_=>rfl):
 Vl P t eX (λx=>V' (g x)):=λ_ enc w base spare held Aw cs x h=>by
 obtain⟨a,h1,h3⟩:=F enc w base spare held Aw cs x j h;exact⟨f a,by show V' (g (f a));rw[q];exact h1,by rw[I];exact h3⟩
def Vl.vd (_:Vl P t en V):=V
def Ie {k:IntKind}(j:P.underlying t=some (.int k)):Vl P t (λn=>D.lit (.int k n)) (λn:Int=>k.min<=n/\n<=k.max):=λ_ _ _ _ _ _=>aiI j
def aGb (j:P.underlying t=some .bool):Vl P t EH (λ_=>True):=λ_ _ _ _ _ _=>aal j
def Qq (j:P.underlying t=some .string):Vl P t DV (λs=>s.size<=maxLen):=λ_ _ _ _ _ _=>adn j
def SV {u:Bq}{sz:Nat}(I:P.underlying t=some (.slice u))(J:Vl P u en V)(L:P.cellsOf u=sz:=by kernel_rfl)(j:0<sz:=by decide)(q:∀a,(en a).cells.length=sz:=by exact λ_=>rfl):Vl P t (BR en) (λl=>l.length<=maxLen/\∀x∈l,V x):=λ_ _ _ _ _ _=>aof I L j q (J _ _ _ _ _)
end
set_option maxRecDepth 20000 in
def aZM :=TV (eX:=F5) Tryz.underlying83 (EY.c (Qq NW) (EY.c (Ie IL) EY.z)) (λ(a0,a1,_)=>⟨a0,a1⟩) λx=>(x.User,x.N,())
set_option maxRecDepth 20000 in
def ai3 :=TV (eX:=F8) Tryz.underlying165 (EY.c (Ie Tryz.underlying45) (EY.c (Ie IL) EY.z)) (λ(a0,a1,_)=>⟨a0,a1⟩) λx=>(x.Kind,x.N,())
set_option maxRecDepth 20000 in
def aoa :=TV (eX:=FW) Tryz.underlying50 (EY.c (SV (sz:=2) Tryz.underlying47 aZM) (EY.c (SV (sz:=2) Tryz.underlying48 ai3) (EY.c (Ie IL) (EY.c (Ie IL) (EY.c (Ie IL) (EY.c (Ie IL) (EY.c (Ie IL) (EY.c (Ie IL) (EY.c (Ie IL) EY.z))))))))) (λ(a0,a1,a2,a3,a4,a5,a6,a7,a8,_)=>⟨a0,a1,a2,a3,a4,a5,a6,a7,a8⟩) λx=>(x.Users,x.Kinds,x.User,x.Message,x.State,x.iJ,x.kT,x.oq,x.gy,())
set_option maxRecDepth 20000 in
def agl :=TV (eX:=Fz) Tryz.underlying52 (EY.c (Qq NW) (EY.c (Ie IL) (EY.c (Ie IL) (EY.c (aGb SG) (EY.c (Qq NW) (EY.c (SV (sz:=1) Tryz.underlying46 (Qq NW)) (EY.c (SV (sz:=1) Tryz.underlying46 (Qq NW)) (EY.c aoa EY.z)))))))) (λ(a0,a1,a2,a3,a4,a5,a6,a7,_)=>⟨a0,a1,a2,a3,a4,a5,a6,a7⟩) λx=>(x.Text,x.N,x.Target,x.Thread,x.Via,x.Allow,x.iK,x.Levels,())
set_option maxRecDepth 20000 in
def aam :=TV (eX:=abt) Tryz.underlying54 (EY.c (Qq NW) (EY.c (Ie IL) EY.z)) (λ(a0,a1,_)=>⟨a0,a1⟩) λx=>(x.Server,x.Sum,())
set_option maxRecDepth 20000 in
def aFI :=TV (eX:=Au) Tryz.underlying56 (EY.c (Ie IL) (EY.c (Qq NW) (EY.c (Qq NW) (EY.c (Ie Tryz.underlying45) (EY.c (aGb SG) (EY.c (Qq NW) (EY.c (Ie IL) (EY.c (Ie IL) (EY.c (SV (sz:=1) a1g (Ie IL)) (EY.c (SV (sz:=1) a1g (Ie IL)) (EY.c agl (EY.c (Ie IL) (EY.c aam EY.z))))))))))))) (λ(a0,a1,a2,a3,a4,a5,a6,a7,a8,a9,a10,a11,a12,_)=>⟨a0,a1,a2,a3,a4,a5,a6,a7,a8,a9,a10,a11,a12⟩) λx=>(x.Id,x.Room,x.bG,x.Kind,x.State,x.Key,x.Time,x.Depth,x.bP,x.bQ,x.Content,x.Hash,x.rM,())
set_option maxRecDepth 20000 in
def ac3 :=TV (eX:=D5) Tryz.underlying66 (EY.c (Ie IL) (EY.c (Ie IL) (EY.c (Ie Tryz.underlying64) (EY.c (aGb SG) EY.z)))) (λ(a0,a1,a2,a3,_)=>⟨a0,a1,a2,a3⟩) λx=>(x.Pos,x.Id,x.Status,x.Gone,())
set_option maxRecDepth 20000 in
def alL :=TV (eX:=BQ) Tryz.underlying147 (EY.c (Ie Tryz.underlying45) (EY.c (Qq NW) (EY.c (Ie IL) EY.z))) (λ(a0,a1,a2,_)=>⟨a0,a1,a2⟩) λx=>(x.Kind,x.Key,x.Id,())
set_option maxRecDepth 20000 in
def anI :=TV (eX:=aC1) Tryz.underlying403 (EY.c (Qq NW) (EY.c (Ie IL) (EY.c (Ie IL) (EY.c (Ie IL) EY.z)))) (λ(a0,a1,a2,a3,_)=>⟨a0,a1,a2,a3⟩) λx=>(x.User,x.Thread,x.Id,x.Time,())
set_option maxRecDepth 20000 in
def apM :=TV (eX:=aKc) Tryz.underlying405 (EY.c (Qq NW) (EY.c (Ie IL) EY.z)) (λ(a0,a1,_)=>⟨a0,a1⟩) λx=>(x.User,x.Until,())
set_option maxRecDepth 20000 in
def qQ :=TV (eX:=EG) rD (EY.c (Qq NW) (EY.c (SV (sz:=29) rE aFI) (EY.c (SV (sz:=4) Tryz.underlying23 ac3) (EY.c (SV (sz:=29) rE aFI) (EY.c (SV (sz:=1) a1g (Ie IL)) (EY.c (SV (sz:=3) Tryz.underlying26 alL) (EY.c (Ie IL) (EY.c (SV (sz:=4) Tryz.underlying27 anI) (EY.c (SV (sz:=2) Tryz.underlying28 apM) EY.z))))))))) (λ(a0,a1,a2,a3,a4,a5,a6,a7,a8,_)=>⟨a0,a1,a2,a3,a4,a5,a6,a7,a8⟩) λx=>(x.Id,x.Events,x.Rows,x.Waiting,x.QT,x.State,x.Next,x.acQ,x.amF,())
def mF :=Vl.vd qQ
set_option maxRecDepth 20000 in
def a3x :=TV (eX:=OT) yP (EY.c (Qq NW) (EY.c (Ie IL) (EY.c (Ie IL) EY.z))) (λ(a0,a1,a2,_)=>⟨a0,a1,a2⟩) λx=>(x.User,x.Pos,x.Limit,())
def a2H (h:mF r):r.Id.size<=9223372036854775807:=by
 have h1:r.Id.size<=maxLen/\_:=h;exact FQ h1.1 Ba
variable {P:Prop}
def ajU (r:Bv)(a:NK)(h:mF r)(_:P):a7v r a=some true:=agV r a (a2H h)
def ahd (r:Bv)(a:NK)(h:mF r)(_:P):a2Y r a=some true:=anm r a (a2H h)
def ahb (r:Bv)(a:NK)(h:mF r)(_:P):a2V r a=some true:=alV r a (a2H h)
def acD (r:Bv)(a:NK)(h:mF r)(_:P):a4m r a=some true:=anl r a (a2H h)
def aYZ (r:Bv)(e:Ad)(h:mF r)(_:P):a9y r e=some true:=aYu r e (a2H h)
end Go.Proofs.YteiakhlfaaifnaaGreat
