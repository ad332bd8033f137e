/- Part 7 of the proofs. -/
import Derived.Test.YtfmoknlmaldmlaaGreatRv6
set_option linter.defProp false
set_option linter.unnecessarySimpa false
set_option linter.unusedSectionVars false
set_option linter.unusedVariables false
set_option linter.unusedSimpArgs false
namespace Go.Proofs.YtfmoknlmaldmlaaGreat
open Go.RowKit Go.Proofs.Tryz
variable {α:Type}
def NY (p:α->α->AY)(a b:AA α):AY:=((a.length:Int)==(b.length:Int))&& !((a.zip b).any λx=> !p x.1 x.2)
theorem W9 {R}{body}(p:α->α->AY)(a b:AA α)(ha:a.length<=1000)(j:a.length=b.length)(bad:R)rest(u:∀k (i:Nat) (h:i<a.length) (h':i<b.length),body k (i:Int)=bif !p a[i] b[i]then some bad else k (Au ((i:Int)+1)))(q:∀k,body k (a.length:Int)=rest):bn body Am 0=bif (a.zip b).any λx=> !p x.1 x.2 then some bad else rest:=by
 have hl:(a.zip b).length=a.length:=Ei
 refine H7 (a.zip b) (by rw[hl];exact aDY AB) (λx=> !p x.1 x.2) bad rest (λk i h=>?_) (λk=>by rw[hl];exact q k)
 grind
variable {b:AA α}
def len_eq {a:AA α}(h:((a.length:Int)==(b.length:Int))=true):a.length=b.length:=aG9
def Xv (x y:BL):AY:=x.toList==y.toList
def VX (x y:IQ):AY:=x.User.toList==y.User.toList&&x.N==y.N
def Ty (x y:KL):AY:=x.Kind==y.Kind&&x.N==y.N
def a3G {a b}(ha:a.length<=1000):a0d a b=some (NY Xv a b)/\Uz a b=some (NY Xv a b):=by
 unfold a0d Uz NY;simp only[bne];cases h:((a.length:Int)==(b.length:Int))with
 |false=>exact⟨rfl,rfl⟩
 |true=>
  have j:=len_eq h;simp only[Eu,BH,GZ];unfold aRp a7h
  rw[W9 Xv a b ha j false (some true) (λk i h h'=>by simp only[aBV,dec_lt h,BZ,CQ h,CQ h',Ac];rfl) (λk=>by simp only[aBV,DR,BH]),
   W9 Xv a b ha j false (some true) (λk i h h'=>by simp only[a5O,dec_lt h,BZ,CQ h,CQ h',Ac];rfl) (λk=>aEu)]
  cases(a.zip b).any λx=> !Xv x.1 x.2<;>exact⟨rfl,rfl⟩
def akY {a b}(ha:a.length<=1000):a6Q a b=some (NY VX a b):=by
 unfold a6Q NY;simp only[bne];cases h:((a.length:Int)==(b.length:Int))with
 |false=>rfl
 |true=>
  have j:=len_eq h;simp only[Eu,BH,GZ];unfold aQQ;rw[W9 VX a b ha j false (some true) (λk i h h'=>by simp only[aKY,dec_lt h,BZ,CQ h,CQ h',Ac,a9N,VX,LZ]) (λk=>by simp only[aKY,DR,BH])];cases(a.zip b).any λx=> !VX x.1 x.2<;>rfl
def aiL {a b}(ha:a.length<=1000):a8F a b=some (NY Ty a b):=by
 unfold a8F NY;simp only[bne];cases h:((a.length:Int)==(b.length:Int))with
 |false=>rfl
 |true=>
  have j:=len_eq h;simp only[Eu,BH,GZ];unfold aUd;rw[W9 Ty a b ha j false (some true) (λk i h h'=>by simp only[aCF,dec_lt h,BZ,CQ h,CQ h',Ac,a6N,Ty,LZ]) (λk=>by simp only[aCF,DR,BH])];cases(a.zip b).any λx=> !Ty x.1 x.2<;>rfl
def vV (a b:Ci):AY:=(a.User==b.User)&&(a.Message==b.Message)&&(a.State==b.State)&&(a.gY==b.gY)&&(a.lg==b.lg)&&(a.oV==b.oV)&&(a.iq==b.iq)
def oQ (a b:Ci):AY:=NY VX a.Users b.Users&&(NY Ty a.Kinds b.Kinds&&vV a b)
theorem aYK {a b}(h1:a.Users.length<=1000)(h2:a.Kinds.length<=1000):XP a b=some (oQ a b):=by
 unfold XP oQ NY;simp only[bne];cases j:((a.Users.length:Int)==(b.Users.length:Int))with
 |false=>
  rfl
 |true=>
  cases q:((a.Kinds.length:Int)==(b.Kinds.length:Int))with
  |false=>
   simp
  |true=>
   have u:=len_eq j;have ek:=len_eq q
   have h3:bT a b 0=bif (a.Kinds.zip b.Kinds).any λx=> !Ty x.1 x.2 then some false else some (vV a b):=by
    unfold bT;refine W9 Ty a.Kinds b.Kinds h2 ek false (some (vV a b)) (λk i h h'=>?_) (λk=>?_)
    ·simp only[nH,dec_lt h,BZ,CQ h,CQ h',Ac,um,Ty,bne]
     grind
    simp only[nH,DR,BH,Mc,Ac,U3];rfl
   simp only[Eu,BH,Ac,GZ];unfold a0S
   rw[W9 VX a.Users b.Users h1 u false (bT a b 0) (λk i h h'=>by
    simp only[mG,dec_lt h,BZ,CQ h,CQ h',Ac,a0k,VX,bne]
    cases a.Users[i].User.toList==b.Users[i].User.toList<;>cases a.Users[i].N==b.Users[i].N<;>rfl) (λk=>by simp only[mG,DR,BH]),h3]
   cases(a.Users.zip b.Users).any λx=> !VX x.1 x.2<;>cases(a.Kinds.zip b.Kinds).any λx=> !Ty x.1 x.2<;>rfl
def a0y (a b:D9):AY:=(a.Text.toList==b.Text.toList)&&(a.N==b.N)&&(a.Target==b.Target)&&(a.Thread==b.Thread)&&(a.Via.toList==b.Via.toList)&&NY Xv a.Allow b.Allow&&NY Xv a.iD b.iD&&oQ a.Levels b.Levels
variable {a:D9}
def aJ5 b(ha:Qd a):VJ a b=some (a0y a b):=by
 have h1:=ha.allow;have h2:=ha.deny;have h3:=ha.users;have j:=ha.kinds;unfold VJ a0y;rw[(a3G (a:=a.Allow) AB).2,(a3G (a:=a.iD) AB).2,aYK (a:=a.Levels) AB AB];simp only[Mc,Ac,U3]
def ab6 b(ha:Qd a):a4g a b=some (a0y a b):=by
 have h1:=ha.allow;have h2:=ha.deny;have h3:=ha.users;have M:=ha.kinds;unfold a4g a0y oQ vV;rw[(a3G (a:=a.Allow) AB).1,(a3G (a:=a.iD) AB).1,akY (a:=a.Levels.Users) AB,aiL (a:=a.Levels.Kinds) AB];simp only[Mc,Ac,U3,tJ,bne];generalize(a.Text.toList==b.Text.toList)=j;generalize(a.N==b.N)=q;generalize(a.Target==b.Target)=u;generalize(a.Thread==b.Thread)=z;generalize(a.Via.toList==b.Via.toList)=I;generalize NY Xv a.Allow b.Allow=J;generalize NY Xv a.iD b.iD=L;generalize NY VX a.Levels.Users b.Levels.Users=O;generalize NY Ty a.Levels.Kinds b.Levels.Kinds=U;cases j<;>cases q<;>cases u<;>cases z<;>cases I<;>cases J<;>cases L<;>first|rfl|(simp only[Eu,Bool.or_self,BH,GZ,Bool.and_self,Bool.and_assoc])
variable {e:AQ}
theorem ali (j:LU e)v:EI (bQ e v) ((UH e v).bind λu=>(cond (u != 0) (some u) ((KU e.Kind e.Content).bind λz=>some z))):=by
 have h1:=j.room;have h2:=j.sender;have h3:=j.key;have Z:=j.prev;have h5:=j.auth;unfold bQ UH;rw[ae8 j,(jR (s:=e.Room) AB).2,(aP (s:=e.bU) AB).2,aW0 AB];cases v with
 |true=>
  exact .ret _
 |false=>
  simp only[BH,Ac,bne,Mc,tJ];generalize(TA e.Room==0)=a;generalize(SG e.bU==0)=b;generalize Wq e.Kind e.Key=I;cases a with
  |false=>
   exact .ret _
  |true=>
   cases b with
   |false=>
    exact .ret _
   |true=>
    cases I with
    |false=>
     exact .ret _
    |true=>
     simp only[Eu,Bool.or_self,Bool.and_self,BH,a5p];refine Ij (λ_=>.ret _) λ_=>Ij (λ_=>.ret _) λhlen=>?_;simp only[a6m,sO]at hlen;obtain⟨J,L,M⟩:=aQS (l:=e.bG) AB;obtain⟨O,U,Y⟩:=aQS (l:=e.bI) AB;rw[L,U,M,Y];simp only[Ac,Mc,tJ,a5p];cases J with
     |false=>
      exact .ret _
     |true=>
     cases O with
     |false=>
      exact .ret _
     |true=>
     simp only[Eu,BH]
     have hs:decide ((Au ((e.bG.length:Int)+(e.bI.length:Int)))>0)=(decide ((e.bG.length:Int)>0)||((e.bI.length:Int)>0)):=by
      rw[Nr AB AB]
      grind
     rw[hs];generalize(cond ((e.bG.length:Int)==0) (!e.Kind==1) false)=p;generalize(cond (e.Kind==1) (decide ((e.bG.length:Int)>0)||((e.bI.length:Int)>0)) false)=q;cases p with
     |true=>
      exact .ret _
     |false=>
      cases q with
      |true=>
       exact .ret _
      |false=>
       exact EI.bind (ajv e.Kind j.content) λx=>.ret _
def aXR (q:LU e):EI (a8c e) (qU e):=by
 have j:=ali q;unfold a8c qU a3b;rw[show jk e.Kind=V4 e.Kind from rfl];simp only[a5p,bne,Mc,Ac];refine Ij (λ_=>j _) λ_=>Ij (λ_=>j _) λ_=>?_;have hs:∃b,V4 e.Kind=some b:=by unfold V4;cases decide (e.Kind>=1)<;>cases decide (e.Kind<=10)<;>exact⟨_,rfl⟩
 obtain⟨b,u⟩:=hs;rw[u];simp only[Ac,a5p];refine Ij (λ_=>j _) λ_=>Ij (λ_=>?_) λ_=>j _;cases e.Kind==2 with
 |true=>exact j _
 |false=>exact j _
def Zg (j:WI e):Td e=some (Xn e==e.Hash)/\Rz e=some (Xn e==e.Hash):=a7l j.content.atw
def ajj (j:WI e)v:EI (jr e v) (pY e v):=by
 have h2:e.bU.size<=2000:=j.sender;unfold jr pY;obtain⟨q,u⟩:=aQD j;obtain⟨z,I⟩:=lU (s:=e.bU) AB;rw[q,u,z,I];refine Ij (λ_=>.ret _) λ_=>?_;simp only[Ac];refine Ij (λ_=>.ret _) λ_=>?_;unfold a4a a6x;show EI (cond (!((e.sF.Server.toList==(splitB e.bU (N8 e.bU)).2.1.toList)&&((e.sF.Sum==e.Id)&&true))) (some 12) (some 0)) _;simp only[bne];cases(e.sF.Server.toList==(splitB e.bU (N8 e.bU)).2.1.toList)<;>cases(e.sF.Sum==e.Id)<;>exact .ret _
variable {a:Int}
theorem Ky {c}{X}(h:(cond c (some a) X)=some 0)(ha:a≠0):c=false/\X=some 0:=by
 grind
theorem UC {x}(h:(cond (a != 0) (some a) x)=some 0):a=0/\x=some 0:=by
 grind
theorem firsts {R}{body}{ok:R}(l:AA α)(hl:l.length<=9223372036854775807)(P:Nat->Prop)(u:∀k (i:Nat),i<l.length->body k (i:Int)=some ok->P i/\k ((i+1:Nat):Int)=some ok)(q:Nat)(h:bn body Am (q:Int)=some ok):∀i,q<=i->i<l.length->P i:=by
 have key:∀n (i:Nat) m,i+n=l.length->n<m->bn body m (i:Int)=some ok->∀j,i<=j->j<l.length->P j:=by
  intro n
  induction n with
  |zero=>
   grind
  |succ n z=>
   intro i m hi hm I j h1 h2;obtain⟨m,rfl⟩:∃J,m=J+1:=⟨m-1,AB⟩
   obtain⟨a,b⟩:=u (bn body m) i AB I;rcases aGr h1 with rfl|h1
   ·exact a
   exact z (i+1) m AB AB b j h1 h2
 intro i h1 h2;have L:Am=9223372036854775808:=rfl;exact key (l.length-q) q Am AB AB h i h1 h2
def qw {l:AA α}{Q:α->Prop}(h:∀i,0<=i->i<l.length->∀x,l[i]? =some x->Q x):∀x∈l,Q x:=λx j=>by
 obtain⟨i,hi,rfl⟩:=GY j;exact h i (FQ _) hi _ (ES hi)
def acG (s:BL)a b(j:b<=s.size):(s.extract a b).size=b-a:=by rw[aCS];omega
variable {l:AA Int}
def aRn {p}(h:TB l p=true):l.length<=32:=(aQF h).2
variable {s:BL}
def xO {m}(h:IU s m=true):s.size<=100:=by
 unfold IU Xh at h;simp only[Di,Io]at h;have h1:=h.2.1.1;have h2:=aRn h.2.1.2
 have h3:(DI (UG s)).length<=32:=by
  have :=h.2.2;unfold cV at this;simp only[Di]at this;exact aRn this.1.1
 rw[JH]at h2 h3;unfold Wy at h2;unfold UG at h3;rw[acG _ _ _ AB]at h2 h3;omega
theorem aPP (hs:s.size<=9223372036854775807)(h:Yi s=some 0):s.size<=100/\IU s 64=true:=by
 rw[(aP hs).2]at h;have h:=E5 h;unfold SG at h;cases hm:IU s 64 with
 |true=>
  exact⟨xO hm,rfl⟩
 |false=>
  grind
theorem aZA (hs:s.size<=9223372036854775807)(h:kE s=some 0):s.size<=100/\IU s 33=true:=by
 rw[(jR hs).2]at h;have h:=E5 h;unfold TA at h;cases hm:IU s 33 with
 |true=>
  exact⟨xO hm,rfl⟩
 |false=>
  grind
theorem aQt (hs:s.size<=9223372036854775807)(h:qx s=some 0):s.size<=100:=by
 rw[(aG4 hs).2]at h;have h:=E5 h;unfold a5C at h
 grind
def aVO {l}(hl:l.length<=9223372036854775807)(hs:∀s∈l,s.size<=9223372036854775807)(h:UR l=some 0):l.length<=100/\∀s∈l,s.size<=100:=by
 unfold UR at h;obtain⟨h1,h⟩:=Ky h Bl;refine⟨aJ8,qw (firsts l hl (λi=>∀x,l[i]? =some x->x.size<=100) (λk i hi j=>?_) 0 h)⟩;unfold zi at j;rw[Ch hi]at j;obtain⟨x,u,j⟩:=Du j;obtain⟨e,j⟩:=UC j;subst e;rw[wrap_succ i AB]at j;exact⟨λy q=>by rw[ES hi]at q;obtain rfl:=E5 q;exact aQt (hs _ (EU hi)) u,j⟩
variable {c:D9}
def ae2 (hl:c.Allow.length<=9223372036854775807)(hs:∀s∈c.Allow,s.size<=9223372036854775807)(h:jl c=some 0):c.Allow.length<=100/\∀s∈c.Allow,s.size<=100:=by
 unfold jl at h;obtain⟨x,_,h⟩:=Du h;obtain⟨_,h⟩:=Ky h Bl;obtain⟨h1,h⟩:=Ky h Bl;refine⟨aJ8,qw (firsts c.Allow hl (λi=>∀x,c.Allow[i]? =some x->x.size<=100) (λk i hi j=>?_) 0 h)⟩;unfold a7Q yO at j;rw[Ch hi]at j;obtain⟨x,I,j⟩:=Du j;obtain⟨e,j⟩:=Ky j Bl;have q:x=0:=U6
 subst q;refine⟨λy u=>by rw[ES hi]at u;obtain rfl:=E5 u;exact(aZA (hs _ (EU hi)) I).1,?_⟩;cases hp:decide ((i:Int)>0)with
 |true=>
  rw[hp,BZ]at j;obtain⟨y,_,j⟩:=Du j;obtain⟨z,_,j⟩:=Du j;obtain⟨_,j⟩:=Ky j Bl
  rwa [wrap_succ i AB]at j
 |false=>
  rw[hp,BH,BH]at j
  rwa [wrap_succ i AB]at j
def ajy {l}(hl:l.length<=9223372036854775807)(hs:∀u∈l,u.User.size<=9223372036854775807)(h:Yn l=some 0):l.length<=100/\∀u∈l,u.User.size<=100:=by
 unfold Yn at h;obtain⟨h1,h⟩:=Ky h Bl;refine⟨aJ8,qw (firsts l hl (λi=>∀x,l[i]? =some x->x.User.size<=100) (λk i hi q=>?_) 0 h)⟩
 have J:∀v,rZ l (i:Int) k v=some 0->k ((i+1:Nat):Int)=some 0:=λv j=>by
  unfold rZ at j;obtain⟨_,j⟩:=Ky j Bl;obtain⟨y,_,j⟩:=Du j;obtain⟨z,_,j⟩:=Du j;obtain⟨_,j⟩:=Ky j Bl
  rwa [wrap_succ i AB]at j
 unfold wJ at q;rw[Ch hi]at q;obtain⟨x,L,O⟩:=Du q;obtain⟨e,hd⟩:=Ky O Bl;have I:x=0:=U6
 rw[I]at L;refine⟨λy M=>by rw[ES hi]at M;obtain rfl:=E5 M;exact(aPP (hs _ (EU hi)) L).1,?_⟩;cases hp:decide ((i:Int)>0)with
 |true=>
  rw[hp,BZ]at hd;obtain⟨y,_,U⟩:=Du hd;obtain⟨z,_,Y⟩:=Du U;exact J _ Y
 |false=>
  rw[hp,BH]at hd;exact J _ hd
theorem abW {l}(h:dD l=some 0):l.length<=100:=by
 unfold dD at h
 grind
def empty_of (h:(s.toList==CX.toList)=true):s.size<=100:=by rw[a9p]at h;have :=eq_of_beq h;omega
def aWH {l}(h:P5 l=true):l.Users=[]/\l.Kinds=[]:=by
 unfold P5 at h;simp only[Di]at h;exact⟨Uy h.1.1.1.1.1.1.1.1,Uy h.1.1.1.1.1.1.1.2⟩
theorem ajX {k}(L:KZ c)(h:KU k c=some 0):Qd c:=by
 unfold KU at h;rw[(a5d k).2,Ac]at h;obtain⟨x2,Z,h⟩:=Du h;obtain⟨e2,h⟩:=Ky h Bl;subst e2
 have J:iR k c=some true:=by
  cases hk:(decide (k>=1)&&(k<=14))with
  |false=>
   grind
  |true=>
   rw[hk]at Z;obtain⟨y,O,M⟩:=Du (show(iR k c).bind (λx4=>some (!x4))=some false from Z);have M:=E5 M;cases y with
   |true=>
    exact O
   |false=>
    cases M
 obtain⟨x6,_,h⟩:=Du h;obtain⟨x7,U,h⟩:=Du h;cases x7 with
 |true=>
  have M:lZ (c.Text.toList==CX.toList) (c.N==0) (c.Target==0) (!c.Thread) (c.Via.toList==CX.toList) ((c.Allow.length:Int)==0) ((c.iD.length:Int)==0) (P5 c.Levels)=true:=by
   cases x6 with
   |false=>
    cases U
   |true=>
    rw[aSi]at U;exact E5 U
  unfold lZ at M;simp only[Di]at M;obtain⟨⟨⟨⟨⟨⟨⟨t1,_⟩,_⟩,_⟩,t5⟩,t6⟩,t7⟩,t8⟩:=M;have p:=aWH t8;have q1:=empty_of t1;have q2:=empty_of t5;have a1:=Uy t6;have a2:=Uy t7;refine⟨?_,?_,?_,?_,AB,AB,?_,?_,?_⟩<;>first|rw[a1]|rw[a2]|rw[p.1]|rw[p.2]
  all_goals first|exact FQ _|exact λx hx=>absurd hx H9
 |false=>
  rw[BH]at h;obtain⟨x11,j,h⟩:=Du h;obtain⟨e,h⟩:=UC h;subst e;obtain⟨x13,_,h⟩:=Du h;obtain⟨_,h⟩:=UC h;obtain⟨x15,_,h⟩:=Du h;obtain⟨_,h⟩:=UC h;obtain⟨x17,I,h⟩:=Du h;obtain⟨e,h⟩:=UC h;subst e
  have ht:c.Text.size<=2000:=by
   unfold Zz at j;cases h9:k==9 with
   |true=>
    rw[h9,BZ]at j;cases h0:(c.Text.toList==CX.toList)with
    |true=>
     have :=empty_of h0;omega
    |false=>
     rw[h0,BH]at j;obtain⟨y,O,j⟩:=Du j;obtain rfl:=E5 j;have :=aQt L.text O;omega
   |false=>
    rw[h9,BH]at j;obtain⟨y,_,j⟩:=Du j;obtain⟨_,j⟩:=Ky j Bl;obtain⟨z,M,j⟩:=Du j;obtain⟨e,_⟩:=Ky j Bl;subst e;cases hd:decide ((c.Text.size:Int)>400)with
    |true=>
     rw[hd]at M;cases M
    |false=>
     have :=Nj hd;omega
  have hv:c.Via.size<=2000:=by
   unfold Zf at I;cases h0:(c.Via.toList==CX.toList)with
   |true=>
    have :=empty_of h0;omega
   |false=>
    rw[h0,BH]at I;obtain⟨_,I⟩:=Ky I Bl;obtain⟨y,O,I⟩:=Du I;obtain rfl:=E5 I;have :=(aPP L.via O).1;omega
  have Y:∀{l:AA BL},(∀s∈l,s.size<=100)->∀s∈l,s.size<=2000:=λh s hs=>EC (h s hs) AB;cases h4:k==4 with
  |true=>
   have e4:=eq_of_beq h4;subst e4;rw[MC,BZ]at h;obtain⟨y,O,h⟩:=Du h;obtain rfl:=E5 h;obtain⟨r1,r2⟩:=ae2 L.allow L.allows O;rw[aT6 (K:=4) (c:=c) (show _=some false by kernel_rfl) (show _=some true by kernel_rfl) (show _=some false by kernel_rfl) (show _=some false by kernel_rfl) (show _=some false by kernel_rfl) (show _=some true by kernel_rfl) (show _=some false by kernel_rfl) (show _=some false by kernel_rfl)]at J;have ho:=E5 J;unfold NU at ho;simp only[Di,Nv]at ho;have d:=Uy ho.1.2;have p:=aWH ho.2;refine⟨r1,?_,?_,?_,ht,hv,Y r2,?_,?_⟩<;>first|rw[d]|rw[p.1]|rw[p.2]
   all_goals first|exact FQ _|exact λx hx=>absurd hx H9
  |false=>
   rw[h4,BH]at h;obtain⟨y1,hy1,h⟩:=Du h;obtain⟨e,h⟩:=UC h;subst e;obtain⟨y2,hy2,h⟩:=Du h;obtain⟨e,h⟩:=UC h;subst e;obtain⟨y3,q,h⟩:=Du h;obtain rfl:=E5 h;unfold Yg at q;obtain⟨z1,hz1,q⟩:=Du q;obtain⟨e,q⟩:=UC q;subst e;obtain⟨z2,hz2,q⟩:=Du q;obtain⟨e,q⟩:=UC q;subst e;obtain⟨a1,a2⟩:=aVO L.allow L.allows hy1;obtain⟨d1,d2⟩:=aVO L.deny L.denies hy2;obtain⟨u1,u2⟩:=ajy L.users L.names hz1;exact⟨a1,d1,u1,abW hz2,ht,hv,Y a2,Y d2,λu hu=>EC (u2 u hu) AB⟩
structure fZ (e:AQ):Prop where
 kind:1<=e.Kind/\e.Kind<=14
 state:e.State=JE e.Kind
 keyed:e.Key=CX\/e.Kind=2\/e.Kind=9
 room:IU e.Room 33=true
 sender:IU e.bU 64=true
 key:Wq e.Kind e.Key=true
 time:0<=e.Time/\e.Time<=1000000000
 depth:1<=e.Depth/\e.Depth<=100000
 prev:e.bG.length<=10/\Inc e.bG/\∀x∈e.bG,0<=x
 auth:e.bI.length<=8/\Inc e.bI/\∀x∈e.bI,0<=x
 short:e.bG=[]->e.Kind=1
 form:e.Kind=1->e.bG=[]/\e.bI=[]
 content:KU e.Kind e.Content=some 0
 small:WI e
def aWo (hl:l.length<=9223372036854775807)(h:jm l=some true):Inc l/\∀x∈l,0<=x:=by
 unfold jm aDb at h
 have u:=firsts l hl (λi=>∀x,l[i]? =some x->0<=x/\∀y,0<i->l[i-1]? =some y->y<x) (λk i hi q=>by
  have J:∀v,gG k (i:Int) v=some true->v=false/\k ((i+1:Nat):Int)=some true:=λv L=>by
   unfold gG at L;cases v with
   |true=>cases L
   |false=>rw[BH,wrap_succ i AB]at L;exact⟨rfl,L⟩
  unfold a4Q at q;rw[Ch hi]at q;cases M:decide (l[i]<0)with
  |true=>rw[M,BZ]at q;cases(J _ q).1
  |false=>
   have Y:=Nj M;rw[M,BH]at q;cases hp:decide ((i:Int)>0)with
   |false=>
    have Z:=Nj hp;rw[hp,BH]at q;refine⟨λx z=>?_,(J _ q).2⟩;rw[ES hi]at z;obtain rfl:=E5 z;exact⟨AB,λy Y O=>AB⟩
   |true=>
    rw[hp,BZ,CQ hi,Ac,zV hi hl hp,Ac]at q;obtain⟨h1,h2⟩:=J _ q;refine⟨λx z=>?_,h2⟩;rw[ES hi]at z;obtain rfl:=E5 z;refine⟨AB,λy Y O=>?_⟩;rw[ES AB]at O;obtain rfl:=E5 O
    have :=Nj h1;omega) 0 h
 have I:∀i,(hi:i+1<l.length)->l[i]<l[i+1]:=λi hi=>(u (i+1) AB hi _ (ES hi)).2 _ AB (ES AB);refine⟨?_,λx z=>?_⟩
 ·rw[Inc,JU];intro i j hi J U
  induction j with
  |zero=>omega
  |succ j ih=>
   have h1:=I j J;rcases aGr (Nat.le_of_lt_succ U)with rfl|h2
   ·exact h1
   have :=ih AB h2;omega
 obtain⟨i,hi,rfl⟩:=GY z;exact(u i (FQ _) hi _ (ES hi)).1
variable {v:Int}
theorem xX {c}{X}{f}(j:f true≠some v)(h:((cond c (some true) X).bind f)=some v):c=false/\X.bind f=some v:=by
 grind
def aez (L:LU e)(h:qU e=some 0):fZ e:=by
 unfold qU at h;obtain⟨x1,h1,h⟩:=Du h;obtain⟨e1,h⟩:=UC h;subst e1;obtain⟨x3,h3,h⟩:=Du h;obtain rfl:=E5 h;have J:=ajX L.content h3
 have M:∀v,UH e v=some 0->v=false:=λv hv=>by
  cases v with
  |true=>cases hv
  |false=>rfl
 have Z:UH e false=some 0/\(1<=e.Kind/\e.Kind<=14)/\e.State=JE e.Kind/\(e.Key=CX\/e.Kind=2\/e.Kind=9):=by
  unfold a3b at h1;cases Y:decide (e.Kind<1)with
  |true=>rw[Y,BZ]at h1;cases M _ h1
  |false=>
   cases c2:decide (e.Kind>14)with
   |true=>rw[Y,c2,BH,BZ]at h1;cases M _ h1
   |false=>
    rw[Y,c2,BH,BH,a3J,Ac]at h1;have k1:=Nj Y;have k2:=Nj c2;cases c3:(e.State==JE e.Kind)with
    |false=>rw[c3,JZ,BZ]at h1;cases M _ h1
    |true=>
     rw[c3,Eu,BH]at h1;refine⟨?_,⟨AB,AB⟩,eq_of_beq c3,?_⟩
     all_goals cases c4:(e.Key.toList==CX.toList)with
     |true=>rw[c4,Eu,BH]at h1;first|exact h1|exact .inl (toList_inj (eq_of_beq c4))
     |false=>
      rw[c4,JZ,BZ]at h1;cases c5:(e.Kind != 2)with
      |false=>rw[c5,BH]at h1;first|exact h1|exact .inr (.inl (by simpa using c5))
      |true=>
       rw[c5,BZ]at h1;have :=M _ h1;rw[this]at h1
       first|exact h1|exact .inr (.inr aC6)
 clear h1 M;obtain⟨h1,hk,hst,O⟩:=Z;unfold UH at h1;rw[BH,(jR (s:=e.Room) L.room).2,(aP (s:=e.bU) L.sender).2,aW0 L.key]at h1;simp only[Ac]at h1
 have u:IU e.Room 33=true:=by
  cases hm:IU e.Room 33 with
  |true=>rfl
  |false=>unfold TA at h1;rw[hm]at h1;cases h1
 have r0:TA e.Room=0:=by unfold TA;rw[u];rfl
 rw[r0,PW,BH,Ac]at h1
 have z:IU e.bU 64=true:=by
  cases hm:IU e.bU 64 with
  |true=>rfl
  |false=>unfold SG at h1;rw[hm]at h1;cases h1
 have u0:SG e.bU=0:=by unfold SG;rw[z];rfl
 rw[u0,PW,BH,Ac]at h1
 have j:Wq e.Kind e.Key=true:=by
  cases hm:Wq e.Kind e.Key with
  |true=>rfl
  |false=>rw[hm]at h1;cases h1
 rw[j,Eu,BH]at h1;obtain⟨t1,h1⟩:=xX Mem h1;rw[Ac]at h1;obtain⟨t2,h1⟩:=xX Mem h1;rw[Ac]at h1;obtain⟨t3,h1⟩:=xX Mem h1;rw[Ac]at h1;obtain⟨t4,h1⟩:=Ky h1 Bl;obtain⟨t5,h1⟩:=xX Mem h1;rw[Ac]at h1;obtain⟨t6,h1⟩:=Ky h1 Bl;obtain⟨x21,h21,h1⟩:=Du h1;obtain⟨t7,h1⟩:=xX Mem h1;rw[Option.bind_assoc]at h1;obtain⟨x24,h24,h1⟩:=Du h1;rw[Ac]at h1;obtain⟨t8,h1⟩:=Ky h1 Bl;obtain⟨x26,U,h1⟩:=Du h1;obtain⟨t9,h1⟩:=Ky h1 Bl;obtain⟨x29,I,h1⟩:=Du h1;obtain⟨t10,_⟩:=Ky h1 Bl;have e21:x21=true:=by simpa using t7
 have e24:x24=true:=by simpa using t8
 subst e21 e24 t9 t10;have p1:=Nj t5;have p2:=Nj t6;have r1:=aWo L.prev h21;have r2:=aWo L.auth h24;have d1:=Nj t1;have d2:=Nj t2;have d3:=Nj t3;have d4:=Nj t4
 have hkz:e.Key.size<=2000:=by
  rcases O with h|h|h
  ·rw[h];exact FQ _
  ·unfold Wq at j;rw[ET h]at j;have :SG e.Key=0:=Vj
   unfold SG at this;cases hm:IU e.Key 64 with
   |true=>have :=xO hm;omega
   |false=>rw[hm]at this;cases this
  unfold Wq at j;rw[Ee AB,ET h]at j;unfold a1P at j;simp only[Di,Io]at j;have :=j.1.2;omega
 have z1:=xO u;have z2:=xO z;refine⟨hk,hst,O,u,z,j,⟨AB,AB⟩,⟨AB,AB⟩,⟨AB,r1⟩,⟨AB,r2⟩,λhp=>?_,λhk1=>?_,h3,⟨?_,?_,J.allow,J.deny,J.users,J.kinds,?_,?_,hkz,J.text,J.via,FQ _,J.allows,J.denies,J.names⟩⟩
 ·rw[hp]at U;have :=E5 U;simpa using this
 ·rw[hk1]at I;have I:((cond ((e.bG.length:Int)>0) (some true) (some (decide ((e.bI.length:Int)>0)))).bind λx31=>some x31)=some false:=I;cases q:decide ((e.bG.length:Int)>0)with
  |true=>rw[q]at I;cases I
  |false=>
   rw[q]at I;have q2:=E5 I;have :=Nj q;have :=Nj q2;exact⟨Hu AB,Hu AB⟩
 ·show e.bG.length<=40;omega
 ·show e.bI.length<=40;omega
 ·show e.Room.size<=2000;omega
 show e.bU.size<=2000;omega
theorem a6V (L:LU e):∃c,a1i e=some c/\KY e=some c/\(c=0->fZ e/\Et e):=by
 obtain⟨x,z,u⟩:=aXR L;unfold a1i KY;rw[z,u,Ac,Ac];cases I:x != 0 with
 |true=>
  grind
 |false=>
  obtain rfl:x=0:=qh
  have M:=aez L u;have hs:=M.small;have J:e.bU.size<=2000:=hs.sender;rw[BH,BH,(Zg hs).1,(Zg hs).2,aOz _ hs.content,aFN];simp only[Ac];rw[ab6 _ hs.content,aJ5 _ hs.content];simp only[Ac]
  have key:∀v,∃c,jr e v=some c/\pY e v=some c/\(c=0->fZ e/\Et e):=λv=>by
   obtain⟨c,j,U⟩:=ajj hs v;refine⟨c,j,U,λY=>⟨M,?_⟩⟩;subst Y;unfold jr at j;obtain⟨_,j⟩:=Ky j Bl;rw[(aQD hs).1,Ac]at j;obtain⟨_,j⟩:=Ky j Bl;rw[(lU (s:=e.bU) AB).1,Ac]at j;obtain⟨O,_⟩:=Ky (show(cond (!((e.sF.Server.toList==(splitB e.bU (N8 e.bU)).2.1.toList)&&((e.sF.Sum==e.Id)&&true))) (some 12) (some 0))=some (0:Int)from j) Bl
   have Z:e.sF.Server=(splitB e.bU (N8 e.bU)).2.1:=by
    cases q:(e.sF.Server.toList==(splitB e.bU (N8 e.bU)).2.1.toList)with
    |true=>
     exact toList_inj (eq_of_beq q)
    |false=>
     rw[q]at O;cases O
   have hz:=(ae6 e.bU J).2.2;exact⟨hs.prev,hs.auth,hs.allow,hs.deny,hs.users,hs.kinds,hs.room,hs.sender,hs.key,hs.text,hs.via,by rw[Z];exact hz,hs.allows,hs.denies,hs.names⟩
  cases(!(Xn e==e.Hash))with
  |true=>
   rw[BZ,BZ];exact key _
  |false=>
   rw[BH,BH];exact key _
def aJY {f g:(Int->AL Int)->Int->AL Int}N lo(hs:∀k k' (i:Nat),lo<=i->i<N->EI (k ((i+1:Nat):Int)) (k' ((i+1:Nat):Int))->EI (f k (i:Int)) (g k' (i:Int)))(z:∀k k',EI (f k (N:Int)) (g k' (N:Int))):
 ∀n (i:Nat),lo<=i->i+n=N->∀m j,n<m->n<j->EI (bn f m (i:Int)) (bn g j (i:Int)):=by
 intro n
 induction n with
 |zero=>
  intro i u hi m j h1 h2;obtain⟨m,rfl⟩:∃q,m=q+1:=⟨m-1,AB⟩
  obtain⟨j,rfl⟩:∃q,j=q+1:=⟨j-1,AB⟩
  have :i=N:=AB
  subst this;exact z _ _
 |succ n I=>
  intro i u hi m j h1 h2;obtain⟨m,rfl⟩:∃q,m=q+1:=⟨m-1,AB⟩
  obtain⟨j,rfl⟩:∃q,j=q+1:=⟨j-1,AB⟩
  exact hs _ _ i u AB (I (i+1) AB AB m j AB AB)
def lasts {R}{body}{ok:R}N(L:N<=9223372036854775807)(P:Nat->Prop)(I:∀k (i:Nat),i<N->body k (i:Int)=some ok->P i/\k ((i+1:Nat):Int)=some ok)q(M:q<=N)(h:bn body Am (q:Int)=some ok):(∀i,q<=i->i<N->P i)/\∃k,body k (N:Int)=some ok:=by
 have key:∀n (i:Nat) m,i+n=N->n<m->bn body m (i:Int)=some ok->(∀j,i<=j->j<N->P j)/\∃k,body k (N:Int)=some ok:=by
  intro n
  induction n with
  |zero=>
   intro i m hi hm u;obtain⟨m,rfl⟩:∃z,m=z+1:=⟨m-1,AB⟩
   have :i=N:=AB
   subst this;exact⟨λj h1 h2=>AB,_,u⟩
  |succ n J=>
   intro i m hi hm u;obtain⟨m,rfl⟩:∃z,m=z+1:=⟨m-1,AB⟩
   obtain⟨a,b⟩:=I (bn body m) i AB u;obtain⟨c,d⟩:=J (i+1) m AB AB b;refine⟨λj h1 h2=>?_,d⟩;rcases aGr h1 with rfl|h1
   ·exact a
   exact c j h1 h2
 have O:Am=9223372036854775808:=rfl;exact key (N-q) q Am AB AB h
variable {i:Nat}
def aLy {l:AA α}(h:i+1<l.length)(hl:l.length<=1000000):Ak l (Au (((i+1:Nat):Int)-1))=some l[i]:=by
 rw[show Au (((i+1:Nat):Int)-1)=(i:Int) by rw[ZN];omega,CQ AB]
variable {l:AA AQ}
theorem akE (L:∀e∈l,LU e)(hl:l.length<=1000):EI (Nk l) (KN l):=by
 by_cases I:l=[]
 ·subst I;exact⟨0,A8,A8⟩
 have q:0<l.length:=lG.2 I;have M:Am=9223372036854775807+1:=rfl
 have h3:EI (a3c l 1) (a3R l 1):=by
  unfold a3c a3R;refine aJY l.length 1 (λk k' i z hi u=>?_) (λk k'=>?_) (l.length-1) 1 (ER _) AB Am Am AB AB
  ·obtain⟨i,rfl⟩:∃j,i=j+1:=⟨i-1,AB⟩
   unfold a2k xG;rw[Ch hi,dec_lt hi,BZ,aLy hi AB,Ac,Ac,CQ hi,Ac,wrap_succ (i+1) AB];show EI (cond (l[i+1].Id<=l[i].Id) (some 8) (k _)) (cond (l[i].Id>=l[i+1].Id) (some 8) (k' _));exact Ij (λ_=>.ret _) λ_=>u
  unfold a2k xG;rw[DR];exact .ret _
 have J:Ak l 0=some l[0]:=CQ (i:=0) q
 have h2:EI (zs l 0) (a4R l 1):=by
  have O:∀k,Ze l k 0=k 1:=λk=>by
   unfold Ze;rw[show decide ((0:Int)<(l.length:Int))=true by simpa using q,BZ,J,Ac,Ac,MC];rfl
  have U:zs l 0=bn (Ze l) 9223372036854775807 1:=by
   unfold zs;rw[M];exact O _
  rw[U];unfold a4R;refine aJY l.length 1 (λk k' i z hi u=>?_) (λk k'=>?_) (l.length-1) 1 (ER _) AB _ Am AB AB
  ·unfold Ze yR;rw[Ch hi,Ch hi,J,Ac,Ac,wrap_succ i AB];exact Ij (λ_=>.ret _) λ_=>u
  unfold Ze yR
  grind
 unfold Nk KN;rw[G6 (show ¬(l.length:Int)>2000 by omega),BH,BH];unfold aCT a8E;refine aJY l.length 0 (λk k' i _ hi u=>?_) (λk k'=>?_) l.length 0 (ER _) AB Am Am AB AB
 ·unfold vG pF;obtain⟨c,Y,Z,_⟩:=a6V (L _ (EU hi));rw[Ch hi,Ch hi,Y,Z,Ac,Ac,wrap_succ i AB];exact Ij (λ_=>.ret _) λ_=>u
 unfold vG pF
 grind
structure MG (l:List AQ):Prop where
 ev:∀e∈l,fZ e/\Et e
 room:∀x∈l,∀y∈l,x.Room=y.Room
 inc:Inc (l.map (·.Id))
theorem amJ {f:Nat->Int}:∀(n i j:Nat),(∀k,i<=k->k<j->f k<f (k+1))->i+n=j->0<n->f i<f j:=by
 intro n
 induction n with
 |zero=>
  grind
 |succ n z=>
  intro i j h q _;rcases V8 n with u|u
  ·subst u;rw[←q];exact h i (ER _) AB
  have a:=h i (ER _) AB;have b:=z (i+1) j (λk h1 h2=>h k AB h2) AB u;omega
theorem aix (hw:∀e∈l,LU e)(hl:l.length<=1000)(h:Nk l=some 0):MG l:=by
 unfold Nk at h;rw[G6 (show ¬(l.length:Int)>2000 by omega),BH]at h;unfold aCT at h
 obtain⟨p1,k1,h⟩:=lasts l.length AB (λi=>∀x,l[i]? =some x->fZ x/\Et x) (λk i hi u=>by
  unfold vG at u;obtain⟨c,c1,_,c3⟩:=a6V (hw _ (EU hi));rw[Ch hi,c1,Ac,wrap_succ i AB]at u;obtain⟨e,u⟩:=UC u
  exact⟨λx I=>by rw[ES hi]at I;obtain rfl:=E5 I;exact c3 e,u⟩) 0 (FQ _) h
 unfold vG at h;rw[DR,BH]at h;unfold zs at h
 obtain⟨p2,k2,h⟩:=lasts l.length AB (λi=>∀x y,l[i]? =some x->l[0]? =some y->x.Room=y.Room) (λk i hi u=>by
  unfold Ze at u;have g0:Ak l 0=some l[0]:=CQ (i:=0) AB;rw[Ch hi,g0,Ac,wrap_succ i AB]at u;obtain⟨e,u⟩:=Ky u Bl;refine⟨λx y I J=>?_,u⟩;rw[ES hi]at I;rw[ES AB]at J;obtain rfl:=E5 I;obtain rfl:=E5 J
  exact toList_inj U6) 0 (FQ _) h
 unfold Ze at h;rw[DR,BH]at h;refine⟨qw p1,λx I y J=>?_,?_⟩
 ·have key:∀x∈l,∀y,l[0]? =some y->x.Room=y.Room:=qw λi hi M x I y J=>p2 i hi M x y I J;have h0:0<l.length:=List.length_pos_of_mem I;have e0:l[0]? =some l[0]:=ES h0
  grind
 by_cases U:l=[]
 ·subst U;exact .nil
 have L:0<l.length:=lG.2 U;unfold a3c at h
 obtain⟨p3,_⟩:=lasts l.length AB (λi=>∀j x y,i=j+1->l[i]? =some x->l[j]? =some y->y.Id<x.Id) (λk i hi u=>by
  unfold a2k at u;rw[Ch hi]at u;obtain⟨z,Y,u⟩:=Du u;obtain⟨e,u⟩:=Ky u Bl;rw[wrap_succ i AB]at u;refine⟨λj x y Z I J=>?_,u⟩;subst Z;rw[aLy hi AB]at Y;rw[ES hi]at I;rw[ES AB]at J;obtain rfl:=E5 I;obtain rfl:=E5 J;obtain rfl:=E5 Y
  have :=Nj e;omega) 1 L h
 rw[Inc,eM,JU];intro i j hi Z hij
 have :=amJ (f:=λq=>(l.getD q Eo).Id) (j-i) i j (λk h1 h2=>by
  have O:k+1<l.length:=AB
  have :=p3 (k+1) AB O k l[k+1] l[k] rfl (ES O) (ES AB)
  simpa[List.getD,ES O,ES (show k<l.length by omega)]using this) AB AB
 grind
def MG.ok (h:MG l)(hl:l.length<=100):Kq l:=⟨hl,λe j=>(h.ev e j).2,UD h.inc,λe j=>(h.ev e j).1.depth⟩
def aVD (j:∀e∈l,LU e)(hl:l.length<=100):∃c,Nk l=some c/\KN l=some c/\(c=0->MG l):=by
 obtain⟨c,q,u⟩:=akE j AB;exact⟨c,q,u,λh=>aix j AB (by rw[q,h])⟩
def akM e:He e (Ro e):=by
 refine⟨rfl,rfl,rfl,rfl,rfl,rfl,rfl,rfl,rfl,λh=>?_,λh=>?_⟩
 ·show(PE e.Kind e.Content).N=_;rcases h with h|h<;>rw[h]<;>rfl
 show(PE e.Kind e.Content).Levels=_;rw[h];rfl
def ajW (h:Et e):Et (Ro e):=by
 have j:=h.content.strip e.Kind;exact⟨h.prev,h.auth,j.allow,j.deny,j.users,j.kinds,h.room,h.sender,h.key,j.text,j.via,h.server,j.allows,j.denies,j.names⟩
def jQ (q:KN l=some 0)(hl:l.length<=100):∀x∈l,KY x=some 0:=by
 unfold KN at q;obtain⟨_,h⟩:=Ky q Bl;unfold a8E at h
 obtain⟨z,_⟩:=lasts l.length AB (λi=>∀x,l[i]? =some x->KY x=some 0) (λk i hi j=>by
  unfold pF at j;rw[Ch hi]at j;obtain⟨y,I,j⟩:=Du j;obtain⟨e,j⟩:=UC j;subst e;rw[wrap_succ i AB]at j
  exact⟨λx u=>by rw[ES hi]at u;obtain rfl:=E5 u;exact I,j⟩) 0 (FQ _) h
 exact qw z
structure aNU (l k:List AQ):Prop where
 ref:KN k=some 0
 prog:Nk k=some 0
 facts:MG k
 deep:Hf k=0
 ids:k.map (·.Id)=l.map (·.Id)
 agr:Hw l k (l.map (·.Id))
variable {k:AA AQ}
def ahv (h:aNU l k)(J:MG l)(hl:l.length<=100)(u:k.length<=100)(hd:Hf l=0):(∀x,FX (DK k) x=FX (DK l) x)/\OA k (DK k)=OA l (DK l)/\Gx k (DK k)=Gx l (DK l):=by
 have I:=J.ok hl;have q:=h.facts.ok u;have L:=aKL h.agr I hd q h.deep
 have h1:∀x,FX (DK k) x=FX (DK l) x:=λx=>by
  by_cases j:x∈l.map (·.Id)
  ·exact(L x j).1
  have z:∀{m:AA AQ},x∉m.map (·.Id)->FX (DK m) x=none:=λ{m} hm=>by
   rw[Fn0,aD4];exact λM=>hm (Hz.1 (rE.1 M))
  rw[z j,z (by rw[h.ids];exact j)]
 have h2:Gx k (DK k)=Gx l (DK l):=by
  rw[aE5,aE5,h.ids];exact Z7 λx _=>by unfold GX;rw[h1]
 exact⟨h1,aiS h.agr I hd q h.deep (λx j=>by rw[aE5]at j;exact(Hg.1 j).1) h2,h2⟩
def KO (x:FM):JA:=⟨x.id,x.before,x.after,x.err⟩
def Qk (t:AA FM)(x:Int):JA×AY:=match FX t x with
 |some y=>(KO y,true)
 |none=>(Wu,false)
def aQN t x:(Qk t x).1.After=JF t x:=by unfold Qk JF;cases FX t x<;>rfl
def aOi t x:(Qk t x).1.Err=errOf t x:=by unfold Qk errOf;cases FX t x<;>rfl
theorem fQ t x(O:t.length<=1000000):XJ (t.map KO) x=some (Qk t x):=by
 unfold XJ aLr;have hm:(t.map KO).length=t.length:=DY ..;refine dK.eq (ZX (body:=aH2 (t.map KO) x) (Q:=(· =Qk t x)) (λn a _=>∃i:Nat,a=i/\i+n=t.length/\∀j,(q:j<i)->(hl:j<t.length)->¬(t[j].id==x)=true) ?_ Am t.length 0 _ (fuel_lt AB) ⟨0,rfl,AB,λj q=>AB⟩);rintro n a b k ⟨i,rfl,U,I⟩ J;unfold aH2;by_cases hi:i<t.length
 ·have u:i<(t.map KO).length:=AB
  rw[Ch u,CQ u,Ac,P9];show dK (cond (t[i].id==x) (some (KO t[i],true)) (k _ b)) _;cases L:t[i].id==x with
  |true=>
   have z:FX t x=some t[i]:=by
    unfold FX;rw[List.find?_eq_some_iff_getElem]
    grind
   exact .ret (by unfold Qk;rw[z])
  |false=>
   refine J (n-1) _ _ AB ⟨i+1,wrap_succ i AB,AB,λj q hl=>?_⟩;by_cases e:j=i
   ·subst e;rw[L];simp
   exact I j AB hl
 have :i=t.length:=AB
 subst this;rw[←hm,DR]
 have z:FX t x=none:=by
  unfold FX;rw[a4b];intro y M;obtain⟨j,q,rfl⟩:=GY M;exact I j q q
 exact .ret (by unfold Qk;rw[z])
def aQO t x:aAV t x=XJ t x:=rfl
theorem alb l t e s(hl:l.length<=100)(hs:EZ l)(j:Et e)(hsl:s.length<=100)(M:t.length<=1000):a1L l (t.map KO) e s=some (PI l t e s):=by
 have h1:=j.auth;have h2:=oq l s
 have I:∀v,wu e (t.map KO) l s v=some (cond (v != 0) v (bif e.bI.any (λx=>errOf t x != 0)then 16 else KP e (JX l s))):=λv=>by
  unfold wu aNL
  refine dK.eq (JJ e.bI.length (fuel_lt AB) (λi a=>a=bif v != 0 then v else bif (e.bI.take i).any (λx=>errOf t x != 0)then 16 else 0) (by cases q:v != 0 with
   |true=>
    rfl
   |false=>exact Xj) (λi a k hi ha O=>?_) λa k ha=>?_)
  ·unfold aCg a8J;rw[Ch hi,aQO,fQ _ _ AB,Ac,aOi,wrap_succ i AB];have J:(cond (a==0) (some (errOf t e.bI[i] != 0)) (some false))=some (a==0&&errOf t e.bI[i] != 0):=by cases a==0<;>rfl
   rw[J,Ac]
   have u:∀b:Int,b=(cond (a==0&&errOf t e.bI[i] != 0) 16 a)->b=bif v != 0 then v else bif (e.bI.take (i+1)).any (λx=>errOf t x != 0)then 16 else 0:=λb L=>by
    rw[yQ hi,L,ha]
    grind
   grind
  unfold aCg;rw[DR,BH,ha,Gw,aLV l s hl AB,Ac,a7o e (JX l s) AB (aHV hs _) j];cases q:v != 0 with
  |true=>
   simp only[BZ,q];exact .ret rfl
  |false=>
   cases e.bI.any (λx=>errOf t x != 0)with
   |true=>
    exact .ret rfl
   |false=>
    exact .ret rfl
 unfold a1L PI jZ;rw[ag9 l e hl j,Ac,aOc l e AB AB,Ac,a7o e _ (EC (a4u l e) AB) (hs.from e) j,Ac,I,I];have z:(Rq l e != 0)= !(Rq l e==0):=rfl;rw[z]
 grind
def aDE l:∀(ids:AA Int) (t:AA FM),(ids.foldl (λt id=>t++[Jy l t (ev l id)]) t).length=t.length+ids.length
 | [],t=>rfl
 |x::ids,t=>by rw[Gf,aDE l ids,Ef,Gh];simp;omega
theorem aEU (h:Kq l):jC l=some ((DK l).map KO):=by
 have hl:=h.len;have hs:=h.small;have M:=a7z l;unfold jC;rw[akj l AB,Ac];unfold DK;generalize J9 l=ids at M;unfold aUM;refine dK.eq (JJ ids.length (fuel_lt AB) (λi a=>a=(Ig l (ids.take i)).map KO) rfl (λi a k hi ha hk=>?_) λa k ha=>?_)
 ·have O:OL l (Ig l (ids.take i)):=a8p hl hs _ _ λy hy=>absurd hy H9
  have U:(Ig l (ids.take i)).length<=100:=by
   have :=aDE l (ids.take i) [];unfold Ig;rw[this,Hl,Qp];omega
  have q:=aBU l hi;have he:=a4p hs ids[i];have Y:=he.prev;generalize Ig l (ids.take i)=t at ha O U q;subst ha;unfold aHt;rw[Ch hi,MI l _ AB,Ac];have I:(Ii l ids[i]).1=ev l ids[i]:=rfl;unfold aMN;refine Sm (body:=aJC (Ii l ids[i]) l k (i:Int)) (Q:=_) (λn a b c=>∃j:Nat,b=j/\j+n=(ev l ids[i]).bG.length/\c=t.map KO/\a=((ev l ids[i]).bG.take j).map (JF t)) ?_ Am (ev l ids[i]).bG.length [] 0 (t.map KO) (fuel_lt AB) ⟨0,rfl,AB,rfl,rfl⟩;rintro n a b c k2 ⟨j,rfl,hn,rfl,ha⟩ Z;unfold aJC;rw[I];by_cases hj:j<(ev l ids[i]).bG.length
  ·have hal:a.length<=j:=zZ
   rw[Ch hj,aQO,fQ _ _ AB,Ac,aQN,Dw G7,Ac,wrap_succ j AB];exact Z (n-1) _ _ _ AB ⟨j+1,rfl,AB,rfl,by rw[map_take hj,ha]⟩
  have :j=(ev l ids[i]).bG.length:=AB
  subst this;rw[Gw]at ha;subst ha;rw[DR,BH];have hp:=O.stB hl hs Y;have J:=hp.length
  have hJ:dK (a04 l (Ii l ids[i]) k (i:Int) (t.map KO) ⟨(ev l ids[i]).Id,stB l t (ev l ids[i]),[],0⟩) (λx=>x=(Ig l ids).map KO):=by
   unfold a04;rw[I];show dK ((a1L l (t.map KO) (ev l ids[i]) (stB l t (ev l ids[i]))).bind _) _;rw[alb l t (ev l ids[i]) _ hl hs he AB AB,Ac];have u:Jy l t (ev l ids[i])=ZM (ev l ids[i]) (stB l t (ev l ids[i])) (PI l t (ev l ids[i]) (stB l t (ev l ids[i]))):=rfl;rw[u]at q;generalize PI l t (ev l ids[i]) (stB l t (ev l ids[i]))=r at q;generalize stB l t (ev l ids[i])=s at q J
   have L:∀y:FM,y=ZM (ev l ids[i]) s r->dK (yG k (i:Int) (t.map KO) (KO y)) (λx=>x=(Ig l ids).map KO):=λy hy=>by
    unfold yG;rw[Dw (by simp only[OC,DY];omega),Ac,wrap_succ i AB]
    grind
   show dK ((cond (r==0) ((V4 (ev l ids[i]).Kind).bind λz=>some z) (some false)).bind _) _;rw[a3J,show(cond (r==0) ((some (JE (ev l ids[i]).Kind)).bind λz=>some z) (some false))=some (r==0&&JE (ev l ids[i]).Kind) by cases r==0<;>rfl,Ac];cases hc:(r==0&&JE (ev l ids[i]).Kind)with
   |true=>
    rw[BZ];show dK ((iO s (ev l ids[i]).Kind (ev l ids[i]).Key (ev l ids[i]).Id).bind _) _;rw[aBI _ _ _ _ AB,Ac];exact L ⟨(ev l ids[i]).Id,s,Gy s (ev l ids[i]).Kind (ev l ids[i]).Key (ev l ids[i]).Id,r⟩ (by unfold ZM;rw[hc];rfl)
   |false=>
    rw[BH];exact L ⟨(ev l ids[i]).Id,s,s,r⟩ (by unfold ZM;rw[hc];rfl)
  by_cases hz:(ev l ids[i]).bG=[]
  ·have hst:stB l t (ev l ids[i])=[]:=by unfold stB;rw[hz];rfl
   grind
  have hpos:0<(ev l ids[i]).bG.length:=lG.2 hz;rw[IX Z4,BZ,aMW (O.okay hl hs _ AB),Ac];exact hJ
 unfold aHt;rw[DR];exact .ret aj
def aHB l t(hl:l.length<=1000)(I:t.length<=1000):a2c l (t.map KO)=some (Gx l t):=by
 unfold a2c aSm;refine dK.eq (JJ l.length (fuel_lt AB) (λi a=>a=Gx (l.take i) t) rfl (λi a k hi ha q=>?_) λa k ha=>?_)
 ·have z:a.length<=i:=aQ9
  unfold aIk a3f;have j:(cond ((Qk t l[i].Id).2) (some ((Qk t l[i].Id).1.Err==0)) (some false))=some (GX t l[i].Id):=by unfold Qk GX;cases FX t l[i].Id<;>rfl
  rw[Ch hi,fQ _ _ AB,Ac,j,Ac,wrap_succ i AB];cases u:GX t l[i].Id with
  |true=>
   rw[BZ,CQ hi,Ac,Dw G7,Ac];exact q _ (by rw[a6k hi,u,ha];rfl)
  |false=>exact q _ (by rw[a6k hi,u,ha];simp)
 unfold aIk;rw[DR];exact .ret aj
def aMs l t(hl:l.length<=100)(hs:EZ l)(q:OL l t)(j:t.length<=1000):qc l (t.map KO)=some (OA l t):=by
 have ha:=Y6 l t;have u:=a02 l (Gx l t);unfold qc XC OA;rw[aHB l t AB j,Ac,aHh l _ AB hs AB,Ac,Ac];generalize Jk l (Gx l t)=H at u;unfold aPA;refine dK.eq (JJ H.length (fuel_lt AB) (λi a=>a=(H.take i).map (JF t)) rfl (λi a k hi ha z=>?_) λa k ha=>?_)
 ·have I:a.length<=i:=zZ
  unfold aKP;rw[Ch hi,fQ _ _ AB,Ac,aQN,Dw G7,Ac,wrap_succ i AB];exact z _ a4M
 rw[Gw]at ha;unfold aKP;rw[DR,BH,ha,aMW (q.okay hl hs _ AB),Ac];cases H with
 |nil=>exact .ret rfl
 |cons x H=>exact .ret rfl
def a1q {c}(u:KN l=some c)(h:c=0->Kq l):mD l=some ((Q9 l c).map KO)/\OL l (Q9 l c)/\(Q9 l c).length<=l.length:=by
 unfold mD aDi Q9;rw[u,Ac];cases z:c==0 with
 |false=>exact⟨rfl,λy q=>absurd q H9,FQ _⟩
 |true=>
  have j:=h (eq_of_beq z);have hlen:(DK l).length=l.length:=by rw[←a7z l];have :=aDE l (J9 l) [];simpa[DK,Ig]using this
  rw[BZ,aCs l j.len j.small j.dep,Ac,Ac,Ac,GZ];cases hd:Hf l==0 with
  |false=>exact⟨rfl,λy q=>absurd q H9,FQ _⟩
  |true=>
   rw[Eu,BH,aEU j,Ac,BZ];exact⟨rfl,aEn j,QL hlen⟩
def aj9 {c}(j:KN l=some c)(h:c=0->Kq l)(hl:l.length<=100)(hs:EZ l):a7M l=some (OA l (Q9 l c)):=by
 obtain⟨h1,h2,h3⟩:=a1q j h;unfold a7M;rw[h1,Ac,aMs l _ hl hs h2 AB];rfl
def a5y (t:AA FM)(x:Int):AA BK×Int:=match FX t x with
 |some y=>(y.before,bif y.err != 0 then 2 else 4)
 |none=>([],0)
def Uf (l:AA AQ)(t:AA FM):AA Int:=l.filterMap λe=>(FX t e.Id).map λy=>bif y.err != 0 then 2 else 4
section
variable {c:Int}
def akK (q:Nk l=some c)(h:c=0->Kq l)id:mY l id=some (a5y (Q9 l c) id):=by
 unfold mY;refine dK.eq ((run_eq l q h).bind λo u=>?_);rcases u with⟨h1,rfl⟩|⟨h1,_,T,rfl,j⟩
 ·rw[h1];exact .ret rfl
 rw[h1];simp only[gV];unfold aFj wz a5y;rw[j.r,j.b];cases FX (DK l) id with
 |none=>exact .ret rfl
 |some y=>
  show dK ((cond (y.err != 0) (some 2) (some 4)).bind λz=>some (y.before,z)) (λr=>r=(y.before,bif y.err != 0 then 2 else 4));cases y.err != 0<;>exact .ret rfl
def acK (q:Nk l=some c)(h:c=0->Kq l):a5f l=some (Gx l (Q9 l c)):=by
 unfold a5f;refine dK.eq ((run_eq l q h).bind λo j=>?_);rcases j with⟨h1,rfl⟩|⟨h1,j,T,rfl,u⟩
 ·rw[h1,aNn];exact .ret rfl
 rw[h1];show dK ((dW T.1 T.2.1 T.2.2 l).bind _) _;rw[aRl u j.len];exact .ret rfl
def ald t(h:i<l.length):Uf (l.take (i+1)) t=Uf (l.take i) t++((FX t l[i].Id).map λy=>bif y.err != 0 then 2 else 4).toList:=by
 unfold Uf;rw[MX h,iY];congr 1
def aeD l t:(Uf l t).length<=l.length:=List.length_filterMap_le ..
def aO4 (u:Nk l=some c)(h:c=0->Kq l):qW l=some (Uf l (Q9 l c)):=by
 unfold qW;refine dK.eq ((run_eq l u h).bind λo j=>?_);rcases j with⟨h1,rfl⟩|⟨h1,j,T,rfl,z⟩
 ·rw[h1];exact .ret (show[]=Uf l []from(List.filterMap_eq_nil_iff.2 λ_ _=>rfl).symm)
 rw[h1];have hl:=j.len;show dK (aKk l [] 0 T.1 T.2.1 T.2.2) _;unfold aKk;refine a9c (body:=aEe l) (Q:=(· =Uf l (DK l))) (λn a b c d e=>∃i:Nat,b=i/\i+n=l.length/\a=Uf (l.take i) (DK l)/\c=T.1/\d=T.2.1/\e=T.2.2) ?_ Am l.length [] 0 _ _ _ (fuel_lt AB) ⟨0,rfl,AB,rfl,rfl,rfl,rfl⟩;rintro n a b c d e k ⟨i,rfl,M,ha,rfl,rfl,rfl⟩ I;unfold aEe;by_cases hi:i<l.length
 ·have J:a.length<=i:=by rw[ha];exact EC (aeD _ _) iZ
  obtain⟨y,q⟩:=qH (Hz.2 (FB.2 ⟨_,EU hi,rfl⟩));unfold wz;rw[Ch hi,z.err];have L:errOf (DK l) l[i].Id=y.err:=by unfold errOf;rw[q];rfl
  rw[L,show(cond (y.err != 0) (some 2) (some 4))=some (cond (y.err != 0) (2:Int) 4) by cases y.err != 0<;>rfl,Ac,Dw G7,Ac,wrap_succ i AB];exact I (n-1) _ _ _ _ _ AB ⟨i+1,rfl,AB,by rw[ald _ hi,q,ha];rfl,rfl,rfl,rfl⟩
 have :i=l.length:=AB
 subst this;rw[EJ];exact .ret aj
end
def QN (hd:Hf l=0):Q9 l 0=DK l:=by unfold Q9;rw[hd];rfl
def P6 (l:AA AQ)(e:AQ):Nat:=l.findIdx λx=> !decide (x.Id<e.Id)
def DJ (l:AA AQ)(e:AQ):AA AQ:=l.take (P6 l e)++e::l.drop (P6 l e)
def UU (e x:AQ):AY:= !(x.Room.toList==e.Room.toList)
def aUE l e:P6 l e<=l.length:=a8w
def Pv l e:(DJ l e).length=l.length+1:=by
 have :=aUE l e;unfold DJ;rw[Ef,Gh,Hl,Lh];omega
theorem Og {x}:x∈DJ l e↔x=e\/x∈l:=by
 unfold DJ;rw[Ia,FP];constructor
 ·grind
 rintro(h|h)
 ·exact .inr (.inl h)
 rw[←Vf (P6 l e) l]at h;rcases Ia.1 h with h|h
 ·exact .inl h
 exact .inr (.inr h)
section
variable {l:AA AQ} {e:AQ} (hl:l.length <= 1000)
include hl
theorem aVU :Vu l e=bif l.any (UU e)then some ([],13)else(cond (bP l e.Id) ((Td e).bind λq=>(cond q ((Ak l ((l.findIdx λx=>x.Id==e.Id:Nat):Int)).bind λI=>(Td I).bind λJ=>some (!J)) (some false)).bind λj=>some ((cond j (l.set (l.findIdx λx=>x.Id==e.Id) e) l),0)) (some (DJ l e,0))):=by
 have u:a1K l=some l:=by
  unfold a1K;rw[Dw QD];rfl
 have z:sU l e.Id=some (if l.findIdx (λx=>x.Id==e.Id)<l.length then((l.findIdx (λx=>x.Id==e.Id):Nat):Int)else -1):=by
  unfold sU a1b;rw[yj l AB _ (λx=>x.Id==e.Id) λ_=>rfl];rfl
 have L:aDy l l e 0=some (DJ l e,0):=by
  have U:∀i:Nat,i<=l.length->(a7a l (i:Int) [e]).bind (λO=>some (O,(0:Int)))=some (l.take i++e::l.drop i,0):=λi hi=>by
   have h1:aAd l (i:Int) [e]=some (l.take i++e::l.drop i):=by
    show(if(0<=(i:Int)/\(i:Int)<=(l.length:Int))/\l.length<=34359738368 then some (l.take (i:Int).toNat++e::l.drop (i:Int).toNat)else none)=_;rw[ET ⟨⟨AB,AB⟩,AB⟩,Uu]
   unfold a7a;rw[h1];rfl
  unfold aDy;rw[Jh l (fuel_lt AB) (λx=> !decide (x.Id<e.Id)) (λi=>some (l.take i++e::l.drop i,(0:Int))) (some (l.take l.length++e::l.drop l.length,0))]
  ·unfold DJ P6;split
   ·rfl
   rename_i Y;have :=a8w (xs:=l) (p:=λx=> !decide (x.Id<e.Id));rw[show l.findIdx (λx=> !decide (x.Id<e.Id))=l.length by omega]
  ·intro k i h;unfold aGq a1j;rw[Ch h,U i AB];cases decide (l[i].Id<e.Id)<;>rfl
  intro k;unfold aGq a1j;rw[DR,BH,BH,U l.length (ER _)]
 unfold Vu aNw;rw[H7 l (fuel_lt AB) (UU e) ([],13) (cond (bP l e.Id) ((Td e).bind λq=>(cond q ((Ak l ((l.findIdx λx=>x.Id==e.Id:Nat):Int)).bind λI=>(Td I).bind λJ=>some (!J)) (some false)).bind λj=>some ((cond j (l.set (l.findIdx λx=>x.Id==e.Id) e) l),0)) (some (DJ l e,0)))]
 ·intro k i h;unfold aGx;rw[Ch h];rfl
 intro k;unfold aGx;rw[DR,BH,z,Ac,u,Ac,L]
 have M:bP l e.Id=decide (l.findIdx (λx=>x.Id==e.Id)<l.length):=by
  unfold bP Eh;rw[Oz,List.find?_isSome,Io,Xe]
 rw[M];by_cases h:l.findIdx (λx=>x.Id==e.Id)<l.length
 ·rw[ET h,IX h,G6 (show ¬(((l.findIdx (λx=>x.Id==e.Id):Nat):Int)<0) by omega),IX (show((l.findIdx (λx=>x.Id==e.Id):Nat):Int)>=0 by omega)];simp only[BH,BZ,Ac];unfold a6F;congr 1;funext q;congr 1;funext j;cases j with
  |true=>rw[BZ,CQ h,Uu];rfl
  |false=>rfl
 rw[Ee h,G6 h,IX (show(-1:Int)<0 by omega),G6 (show ¬((-1:Int)>=0) by omega),G6 (show ¬((l.length:Int)>=2000) by omega)];rfl
end
theorem aAJ {p}(hp:∀x y,p x y=true->x=y){a}(h:NY p a b=true):a=b:=by
 unfold NY at h;rw[Di]at h;have hlen:a.length=b.length:=by have :=eq_of_beq h.1;omega
 have j:((a.zip b).any λx=> !p x.1 x.2)=false:=by simpa using h.2
 refine Y4 hlen λi h1 h2=>?_
 have :=Ws.1 j (a[i],b[i]) (by
  have q:i<(a.zip b).length:=Ei
  have :=EU q
  rwa [aKU]at this)
 grind
theorem aff {a b}(h:oQ a b=true):a=b:=by
 unfold oQ vV at h;simp only[Di,NP]at h;obtain⟨h1,h2,⟨⟨⟨⟨⟨⟨j,q⟩,u⟩,z⟩,I⟩,J⟩,L⟩⟩:=h
 have M:=aAJ (p:=VX) (λx y h=>by
  unfold VX at h;rw[Di]at h;cases x;cases y;simp only at h
  rw[toList_inj (eq_of_beq h.1),eq_of_beq h.2]) h1
 have O:=aAJ (p:=Ty) (λx y h=>by
  unfold Ty at h;rw[Di]at h;cases x;cases y;simp only at h
  rw[eq_of_beq h.1,eq_of_beq h.2]) h2
 cases a;cases b
 grind
variable {a:AQ}
def aYw {b}(ha:Qd (Ro a).Content)(hp:a.bG.length<=1000)(M:a.bI.length<=1000):∃r,Vt (Ro a) (Ro b)=some r/\(r=true->a.Id=b.Id/\He a b):=by
 unfold Vt;rw[a2r _ _ (show(Ro a).bG.length<=_ from EC hp AB),a2r _ _ (show(Ro a).bI.length<=_ from EC M AB),aJ5 _ ha];simp only[Mc,Ac,U3];refine⟨_,rfl,λh=>?_⟩;simp only[Di,NP]at h;obtain⟨⟨⟨⟨⟨⟨⟨⟨⟨⟨⟨⟨⟨h1,h2⟩,h3⟩,z⟩,h5⟩,O⟩,U⟩,Y⟩,J⟩,j⟩,q⟩,Z⟩,h13⟩,h14⟩:=h;have z:a.Kind=b.Kind:=z;have J:a.bG=b.bG:=by unfold qP at J;exact Ov J
 have j:a.bI=b.bI:=by unfold qP at j;exact Ov j
 unfold a0y at q;simp only[Di,NP]at q;have L:(PE a.Kind a.Content).N=(PE b.Kind b.Content).N:=q.1.1.1.1.1.1.2;have I:(PE a.Kind a.Content).Levels=(PE b.Kind b.Content).Levels:=aff q.2;refine⟨h1,h1.symm,toList_inj h2.symm,toList_inj h3.symm,z.symm,toList_inj O.symm,U.symm,Y.symm,J.symm,j.symm,λu=>?_,λu=>?_⟩
 ·rw[←z]at L;rcases u with u|u<;>rw[u]at L<;>exact L.symm
 rw[←z,u]at I;exact I.symm
def ac3 (u:(l.map (·.Id)).Nodup)(J:(k.map (·.Id)).Nodup)(hd:Hf l=0)(hs:∀e∈l,∃f∈k,f.Id=e.Id/\He e f):Hw l k (l.map (·.Id)):=by
 have q:∀x∈l.map (·.Id),ev l x∈l:=λx j=>Jf (J7 (Hz.2 j)).1;refine⟨u,λx j=>?_,λx j a ha=>Hz.1 ((ku hd (q x j)).2 a ha).1,λx j a ha=>Hz.1 ((ku hd (q x j)).1 a ha).1⟩;obtain⟨e,z,rfl⟩:=FB.1 j;obtain⟨f,I,h1,h2⟩:=hs e z;have L:ev l e.Id=e:=dQ u z;have M:ev k e.Id=f:=by rw[←h1];exact dQ J I
 rw[L,M];exact⟨Hz.2 j,Hz.2 (FB.2 ⟨f,I,h1⟩),h2⟩
def aJJ x:Y5 x=some (Ro x):=by unfold Y5;rw[aFN];rfl
variable {x:Int}{y:AQ}
section
set_option maxHeartbeats 1000000
def aLX {α β}{f g:α->AL β}:∀{L:AA α},(∀x∈L,f x=g x)->L.filterMap f=L.filterMap g
 | [],_=>rfl
 |x::L,h=>by rw[SK,SK,h x (Gv ..),aLX λy j=>h y (I7 _ j)]
def aIJ {R}{body}s n(z:n<=1000)(hs:s<=n)(rest:AL R)(j:∀k (i:Nat),s<=i->i<n->body k (i:Int)=k ((i+1:Nat):Int))(q:∀k,body k (n:Int)=rest):bn body Am (s:Int)=rest:=by
 have key:∀d (i:Nat),i+d=n->s<=i->∀m,d<m->bn body m (i:Int)=rest:=by
  intro d
  induction d with
  |zero=>
   intro i hi _ m hm;obtain⟨m,rfl⟩:∃k,m=k+1:=⟨m-1,AB⟩
   rw[show i=n by omega];exact q _
  |succ d u=>
   intro i hi h1 m hm;obtain⟨m,rfl⟩:∃k,m=k+1:=⟨m-1,AB⟩
   exact(j (bn body m) i h1 AB).trans (u (i+1) AB AB m AB)
 exact key (n-s) s AB (ER _) Am (fuel_lt AB)
theorem aPd (I:∀x∈k,KY x=some 0)(J:∀x∈k,∀y∈k,x.Room=y.Room)(hi:Inc (k.map (·.Id)))(hl:k.length<=100)(q:0<k.length):KN k=some 0:=by
 unfold KN;rw[G6 (show ¬(k.length:Int)>2000 by omega),BH];unfold a8E;refine aIJ 0 k.length AB AB _ (λf i _ h=>?_) λf=>?_
 ·unfold pF;rw[Ch h,I _ (EU h),Ac,PW,BH,wrap_succ i AB]
 unfold pF;rw[DR,BH];unfold a4R;refine aIJ 1 k.length AB AB _ (λf i _ h=>?_) λf=>?_
 ·have z:Ak k 0=some k[0]:=CQ q;unfold yR;rw[Ch h,z,Ac,J _ (EU h) _ (EU q),wrap_succ i AB];simp
 unfold yR;rw[DR,BH];unfold a3R;refine aIJ 1 k.length AB AB _ (λf i h1 h=>?_) λf=>?_
 ·obtain⟨j,rfl⟩:∃j,i=j+1:=⟨i-1,AB⟩
  have L:Au (((j+1:Nat):Int)-1)=(j:Int):=by rw[show((j+1:Nat):Int)-1=(j:Int) by omega];exact Nr AB AB
  have u:j<k.length:=AB
  have M:k[j].Id<k[j+1].Id:=by
   have :=JU.1 hi j (j+1) (by rw[DY];exact u) (by rw[DY];exact h) AB
   grind
  unfold xG;rw[dec_lt h,BZ,L,CQ u,CQ h];simp only[Ac];rw[G6 (show ¬(k[j].Id>=k[j+1].Id) by omega),BH,wrap_succ (j+1) AB]
 unfold xG
 grind
theorem lJ (j:∀e∈k,Et e)(hl:k.length<=100)(h:KN k=some 0):Nk k=some 0:=by
 obtain⟨c,u,z,_⟩:=aVD (λe q=>(j e q).wide) hl
 grind
def aSg (j:(l.map (·.Id)).Nodup):Eh l x=some y↔y∈l/\y.Id=x:=by
 refine⟨λh=>⟨Jf h,a5B h⟩,λ⟨h1,h2⟩=>?_⟩;have h3:=(J7 (Hz.2 (FB.2 ⟨y,h1,rfl⟩))).1;rw[dQ j h1,h2]at h3;exact h3
theorem aOR (hi:Inc (l.map (·.Id)))(J:e.Id∉l.map (·.Id)):Inc ((DJ l e).map (·.Id)):=by
 have hp:l.Pairwise λa b=>a.Id<b.Id:=eM.1 hi;have L:∀x∈l,x.Id≠e.Id:=λx q h=>J (FB.2 ⟨x,q,h⟩)
 have h1:∀x∈l.take (P6 l e),x.Id<e.Id:=λx q=>by
  obtain⟨j,u,rfl⟩:=GY q;rw[Hl]at u;rw[lH];have :=aHH (p:=λx:AQ=> !decide (x.Id<e.Id)) (xs:=l) (i:=j) (by unfold P6 at u;omega);simpa using this
 have h2:∀x∈l.drop (P6 l e),e.Id<x.Id:=λx q=>by
  obtain⟨j,u,rfl⟩:=GY q;rw[Lh]at u;rw[aKR];have z:P6 l e<l.length:=AB
  have O:¬(l[P6 l e].Id<e.Id):=by
   show ¬(l[l.findIdx λx=> !decide (x.Id<e.Id)].Id<e.Id)
   grind
  have M:l[P6 l e].Id<=l[P6 l e+j].Id:=by
   rcases V8 j with rfl|I
   ·exact a0U _
   exact Int.le_of_lt (JU.1 hp _ _ z AB AB)
  grind
 unfold Inc;rw[eM];unfold DJ;rw[Zd,QZ]
 grind
end
variable {r:Bj}{w:AA AQ}{z:Int}
section
set_option maxHeartbeats 1000000
structure LM (l:List AQ) (e:AQ):Prop where
 facts:MG l
 len:l.length<=50
 deep:Hf l=0
 ver:∀x∈l,KY x=some 0
 fresh:bP l e.Id=false
 good:KY e=some 0
 small:Et e
 room:∀x∈l,x.Room=e.Room
theorem aC9 (hs:Et e)(h:KY e=some 0):fZ e:=by
 obtain⟨c,j,q,u⟩:=a6V hs.wide
 grind
section
variable {l:AA AQ} {e:AQ} (h:LM l e)
include h
theorem LM.ok:Kq l:=h.facts.ok aIq
theorem LM.aNh:fZ e:=aC9 h.small h.good
theorem LM.aMo:e.Id∉l.map (·.Id):=λhm=>by have :=Hz.2 hm;rw[h.fresh]at this;cases this
theorem LM.ar7:MG (DJ l e):=by
 refine⟨λx j=>?_,λx j y J=>?_,aOR h.facts.inc h.aMo⟩
 ·rcases Og.1 j with rfl|j
  ·exact⟨h.aNh,h.small⟩
  exact h.facts.ev x j
 rcases Og.1 j with z|q<;>rcases Og.1 J with I|u
 ·rw[z,I]
 ·rw[z];exact(h.room y u).symm
 ·rw[I];exact h.room x q
 exact h.facts.room x q y u
theorem LM.len':(DJ l e).length<=51:=by have :=h.len;rw[Pv];omega
theorem LM.ok':Kq (DJ l e):=h.ar7.ok aIu
theorem LM.aNi:∀x∈DJ l e,KY x=some 0:=λx j=>by
 rcases Og.1 j with rfl|j
 ·exact h.good
 exact h.ver x j
theorem LM.ref':KN (DJ l e)=some 0:=aPd h.aNi h.ar7.room h.ar7.inc aIu a7D
theorem LM.prog':Nk (DJ l e)=some 0:=lJ h.ok'.small aIu h.ref'
theorem LM.get {x:Int}(j:bP l x=true):Eh (DJ l e) x=Eh l x:=by
 have h1:=(J7 j).1;rw[h1];exact(aSg h.ok'.nodup).2 ⟨Og.2 (.inr (Jf h1)),a5B h1⟩
theorem LM.aK3 {x:Int}(j:bP l x=true):bP (DJ l e) x=true:=by unfold bP;rw[h.get j];exact j
theorem LM.ev' {x:Int}(j:bP l x=true):ev (DJ l e) x=ev l x:=by unfold ev Ii;rw[h.get j]
theorem LM.self:Eh (DJ l e) e.Id=some e:=(aSg h.ok'.nodup).2 ⟨Og.2 (.inl rfl),rfl⟩
theorem LM.aK4:ev (DJ l e) e.Id=e:=dQ h.ok'.nodup (Og.2 (.inl rfl))
theorem LM.anO:bP (DJ l e) e.Id=true:=by unfold bP;rw[h.self];rfl
theorem LM.aJq {x:Int}:bP (DJ l e) x=true↔x=e.Id\/bP l x=true:=by
 constructor
 ·intro j;obtain⟨y,q,rfl⟩:=FB.1 (Hz.1 j);rcases Og.1 q with rfl|q
  ·exact .inl rfl
  exact .inr (Hz.2 (FB.2 ⟨y,q,rfl⟩))
 rintro(rfl|j)
 ·exact h.anO
 exact h.aK3 j
variable (hd:Hf (DJ l e) = 0)
include hd
theorem LM.agr:Hw l (DJ l e) (l.map (·.Id)):=ac3 h.ok.nodup h.ok'.nodup h.deep λx j=>⟨x,Og.2 (.inr j),rfl,.refl x⟩
theorem LM.lines {x:Int}(j:bP l x=true):FX (DK (DJ l e)) x=FX (DK l) x:=(aKL (h.agr hd) h.ok h.deep h.ok' hd x (Hz.1 j)).1
theorem LM.aH1 {x:Int}(j:bP l x=true):GX (DK (DJ l e)) x=GX (DK l) x:=by unfold GX;rw[h.lines hd j]
omit hd
theorem LM.evs {s:AA BK}(hs:∀x∈s,bP l x.Id=true):JX (DJ l e) s=JX l s:=by
 unfold JX ofIds;refine aLX λa ha=>?_;obtain⟨y,j,rfl⟩:=FB.1 ha;exact h.get (hs y j)
end
def KI (l:AA AQ)(e:AQ):AY:=e.Kind==1&&GX (DK l) e.Id
def GI (l:AA AQ):Nat:=(l.filter (KI l)).length
theorem ag0 l e p:((DJ l e).filter p).length=(l.filter p).length+(cond (p e) 1 0):=by
 have j:(l.filter p).length=((l.take (P6 l e)).filter p).length+((l.drop (P6 l e)).filter p).length:=by
  rw[←Ef,←RZ,Vf]
 unfold DJ
 grind
def LM.made (h:LM l e)(hd:Hf (DJ l e)=0):GI (DJ l e)=GI l+(cond (KI (DJ l e) e) 1 0):=by
 unfold GI;rw[ag0];congr 2;refine Z7 λx j=>?_;unfold KI;rw[h.aH1 hd (Hz.2 (FB.2 ⟨x,j,rfl⟩))]
structure GR (r:Bj):Prop where
 id:TA r.Id=0
 set:KN r.Events=some 0
 facts:MG r.Events
 own:∀x∈r.Events,x.Room=r.Id
 deep:Hf r.Events=0
 Ea:r.Rows.length=r.Events.length
 next:r.Next=(r.Rows.length:Int)
 one:GI r.Events<=1
 pos:∀i (h:i<r.Rows.length),r.Rows[i].Pos=(i:Int)
 nodup:(r.Rows.map (·.Id)).Nodup
 known:∀x∈r.Rows,bP r.Events x.Id=true
 refs:∀i (h:i<r.Rows.length),∀z,z∈(ev r.Events r.Rows[i].Id).bG\/z∈(ev r.Events r.Rows[i].Id).bI->∃j,∃hj:j<r.Rows.length,j<i/\r.Rows[j].Id=z
 stat:∀x∈r.Rows,(x.Status=2↔GX (DK r.Events) x.Id=false)/\(x.Status=2\/x.Status=3\/x.Status=4)
 aao:KN r.Waiting=some 0
 qy:MG r.Waiting
 J3:∀x∈r.Waiting,x.Room=r.Id
 PX:∀x∈r.Waiting,bP r.Events x.Id=false
 ap6:r.Waiting.length<=200
 heads:r.uP=Jk r.Events (Gx r.Events (DK r.Events))
 state:r.State=OA r.Events (DK r.Events)
def TU (r:Bj):Prop:=∀x∈r.Waiting,Fr r.Events x=false
def NW (r:Bj)(e:AQ):Int:=bif GX (DK (DJ r.Events e)) e.Id then(cond (KP e (JX r.Events r.State)==0) 4 3)else 2
def OZ (r:Bj)(e:AQ):F5:={ LG with Pos:=r.Next,Id:=e.Id,Status:=NW r e }
def Ll (r:Bj)(e:AQ):Bj:=
 { r with Rows:=r.Rows++[OZ r e],Next:=r.Next+1,Events:=DJ r.Events e,uP:=Jk (DJ r.Events e) (Gx (DJ r.Events e) (DK (DJ r.Events e))),State:=OA (DJ r.Events e) (DK (DJ r.Events e)) }
def IB (r:Bj)(e:AQ):Bj×Int:=
 bif Hf (DJ r.Events e) != 0 then(r,15)else bif decide (0<GI r.Events)&&KI (DJ r.Events e) e then(r,17)else(Ll r e,0)
def GR.ver (h:GR r)(hl:r.Events.length<=50):∀x∈r.Events,KY x=some 0:=jQ h.set AB
def GR.aDw (h:GR r)(hl:r.Events.length<=50)(j:KY e=some 0)(hs:Et e)(q:e.Room=r.Id)(u:bP r.Events e.Id=false):LM r.Events e:=
 ⟨h.facts,hl,h.deep,h.ver hl,u,j,hs,λx z=>by rw[h.own x z,q]⟩
def GR.aMp (h:GR r)(hl:r.Events.length<=50):∀x∈r.State,bP r.Events x.Id=true:=λx j=>by
 have hp:=vP (l:=r.Events) (c:=0) λ_=>h.facts.ok AB;rw[QN h.deep]at hp;rw[h.state]at j;exact(hp.named x j).1
theorem aic (h:Fr l e=true)(j:z∈e.bG\/z∈e.bI):bP l z=true:=by
 unfold Fr at h
 grind
def GR.rowOf (h:GR r)(L:bP r.Events z=true):∃j,∃J:j<r.Rows.length,r.Rows[j].Id=z:=by
 have O:=UD h.facts.inc
 have h1:∀x∈r.Rows.map (·.Id),x∈r.Events.map (·.Id):=λx q=>by
  obtain⟨y,I,rfl⟩:=FB.1 q;exact Hz.1 (h.known y I)
 have u:z∈r.Rows.map (·.Id):=by
  refine oZ λM=>?_
  have :=qm (a:=z::r.Rows.map (·.Id)) (b:=r.Events.map (·.Id)) (KX.2 ⟨M,h.nodup⟩) λx q=>by
   rcases FP.1 q with rfl|q
   ·exact Hz.1 L
   exact h1 x q
  rw[Gh,DY,DY,h.Ea]at this;omega
 obtain⟨y,I,e⟩:=FB.1 u;obtain⟨j,J,rfl⟩:=GY I;exact⟨j,J,e⟩
def GR.more (h:GR r)(hl:r.Events.length<=50)(hv:KY e=some 0)(hs:Et e)(hr:e.Room=r.Id)(hf:bP r.Events e.Id=false)(hw:∀x∈r.Waiting,x.Id≠e.Id)(hrd:Fr r.Events e=true)(hd:Hf (DJ r.Events e)=0)(hc:(decide (0<GI r.Events)&&KI (DJ r.Events e) e)=false):GR (Ll r e):=by
 have ha:=h.aDw hl hv hs hr hf;have Z:∀x∈r.Rows,x.Id≠e.Id:=λx u I=>by have :=h.known x u;rw[I,hf]at this;cases this
 have hlt:∀i (hi:i<(r.Rows++[OZ r e]).length),(∃J:i<r.Rows.length,(r.Rows++[OZ r e])[i]=r.Rows[i])\/(i=r.Rows.length/\(r.Rows++[OZ r e])[i]=OZ r e):=λi hi=>by
  by_cases I:i<r.Rows.length
  ·exact .inl ⟨I,a2d I⟩
  rw[Ef,OC]at hi;have :i=r.Rows.length:=AB
  subst this;exact .inr ⟨rfl,BU⟩
 refine⟨h.id,ha.ref',ha.ar7,λx u=>?_,hd,?_,?_,?_,λi hi=>?_,?_,λx u=>?_,λi hi z M=>?_,λx u=>?_,h.aao,h.qy,h.J3,λx u=>?_,h.ap6,rfl,rfl⟩
 ·rcases Og.1 u with rfl|u
  ·exact hr
  exact h.own x u
 ·show(r.Rows++[OZ r e]).length=(DJ r.Events e).length;rw[Ef,OC,Pv,h.Ea]
 ·show r.Next+1=((r.Rows++[OZ r e]).length:Int);rw[Ef,OC,h.next];omega
 ·show GI (DJ r.Events e)<=1;rw[ha.made hd];have :=h.one;cases I:KI (DJ r.Events e) e with
  |false=>rw[BH];omega
  |true=>
   rw[I,LZ,sO]at hc;rw[BZ];omega
 ·rcases hlt i hi with⟨J,O⟩|⟨e0,O⟩
  ·show(r.Rows++[OZ r e])[i].Pos=_;rw[O];exact h.pos i J
  show(r.Rows++[OZ r e])[i].Pos=_;rw[O,e0];exact h.next
 ·show((r.Rows++[OZ r e]).map (·.Id)).Nodup;rw[JY,rM];refine⟨h.nodup,BU,λx u y hy=>?_⟩;obtain⟨q,I,rfl⟩:=FB.1 u;have hy:y=e.Id:=by simpa[OZ]using hy
  rw[hy];exact Z q I
 ·have u:x∈r.Rows++[OZ r e]:=u;rcases Ia.1 u with u|u
  ·exact ha.aK3 (h.known x u)
  rw[Je.1 u];exact ha.anO
 ·have M:z∈(ev (DJ r.Events e) (r.Rows++[OZ r e])[i].Id).bG\/z∈(ev (DJ r.Events e) (r.Rows++[OZ r e])[i].Id).bI:=M
  have hgo:∀j,(U:j<r.Rows.length)->r.Rows[j].Id=z->j<i->∃j,∃U:j<(r.Rows++[OZ r e]).length,j<i/\(r.Rows++[OZ r e])[j].Id=z:=λj U L Y=>
   ⟨j,LV,Y,by rw[a2d U];exact L⟩
  rcases hlt i hi with⟨J,O⟩|⟨e0,O⟩
  ·rw[O,ha.ev' (h.known _ (EU J))]at M;obtain⟨j,U,Y,L⟩:=h.refs i J z M;exact hgo j U L Y
  rw[O]at M;have M:z∈(ev (DJ r.Events e) e.Id).bG\/z∈(ev (DJ r.Events e) e.Id).bI:=M;rw[ha.aK4]at M;obtain⟨j,U,L⟩:=h.rowOf (aic hrd M);exact hgo j U L AB
 ·have u:x∈r.Rows++[OZ r e]:=u;show(x.Status=2↔GX (DK (DJ r.Events e)) x.Id=false)/\_;rcases Ia.1 u with u|u
  ·rw[ha.aH1 hd (h.known x u)];exact h.stat x u
  rw[Je.1 u];show(NW r e=2↔GX (DK (DJ r.Events e)) e.Id=false)/\(NW r e=2\/NW r e=3\/NW r e=4);unfold NW;cases GX (DK (DJ r.Events e)) e.Id with
  |false=>simp
  |true=>cases KP e (JX r.Events r.State)==0<;>simp
 cases I:bP (DJ r.Events e) x.Id with
 |false=>exact I
 |true=>
  rcases ha.aJq.1 I with I|I
  ·exact absurd I (hw x u)
  rw[h.PX x u]at I;cases I
def Vz (b:AL AQ)(e:AQ):AY:=match b with
 |none=>true
 |some x=>NS e x
def Ie (l:AA AQ)(b:AL AQ)(e:AQ):AL AQ:=bif Fr l e&&Vz b e then some e else b
def Pj (l w:AA AQ):AL AQ:=w.foldl (Ie l) none
theorem aO7 l:∀(w:AA AQ) (b:AL AQ) (e:AQ),w.foldl (Ie l) b=some e->b=some e\/(e∈w/\Fr l e=true)
 | [],b,e,h=>.inl h
 |x::w,b,e,h=>by
  rw[Gf]at h;rcases aO7 l w _ e h with h|⟨h1,h2⟩
  ·unfold Ie at h
   grind
  grind
def y8 (h:Pj l w=some e):e∈w/\Fr l e=true:=by
 rcases aO7 l w none e h with h|h
 ·cases h
 exact h
def aBh l:∀(w:AA AQ) (b:AQ),∃e,w.foldl (Ie l) (some b)=some e
 | [],b=>⟨b,rfl⟩
 |x::w,b=>by
  rw[Gf];unfold Ie;cases(Fr l x&&Vz (some b) x)with
  |false=>exact aBh l w b
  |true=>exact aBh l w x
def aU5 l:∀{w:AA AQ},Pj l w=none->∀x∈w,Fr l x=false
 | [],_,_,j=>absurd j H9
 |y::w,h,x,j=>by
  have h:w.foldl (Ie l) (Ie l none y)=none:=h;cases q:Fr l y with
  |true=>
   have u:Ie l none y=some y:=by unfold Ie;rw[q];rfl
   rw[u]at h;obtain⟨e,z⟩:=aBh l w y;rw[z]at h;cases h
  |false=>
   have u:Ie l none y=none:=by unfold Ie;rw[q];rfl
   rw[u]at h;rcases FP.1 j with rfl|j
   ·exact q
   exact aU5 l (w:=w) h x j
def Fq (w:AA AQ)(id:Int):AA AQ:=w.filter λx=>x.Id != id
def Fj :Nat->Bj->Bj
 |0,r=>r
 |n+1,r=>match Pj r.Events r.Waiting with
  |none=>r
  |some e=>Fj n (IB { r with Waiting:=Fq r.Waiting e.Id } e).1
def aDd (q:∀x∈k,KY x=some 0)(u:∀x∈k,∀y∈k,x.Room=y.Room)(hi:Inc (k.map (·.Id)))(hl:k.length<=100):KN k=some 0:=by
 rcases V8 k.length with j|j
 ·obtain rfl:k=[]:=Hu j;rfl
 exact aPd q u hi hl j
theorem Rch (h:e∈w):(Fq w e.Id).length<w.length:=by
 unfold Fq;rw[List.length_filter_lt_length_iff_exists]
 grind
def aDS w id:(Fq w id).length<=w.length:=MS ..
def GR.drop (h:GR r)(z:r.Waiting.length<=100)id:GR { r with Waiting:=Fq r.Waiting id }:=by
 have j:∀x∈Fq r.Waiting id,x∈r.Waiting:=λx q=>(Hg.1 q).1
 have u:MG (Fq r.Waiting id):=⟨λx q=>h.qy.ev x (j x q),λx q y I=>h.qy.room x (j x q) y (j y I),by
  unfold Fq Inc
  exact h.qy.inc.sublist (Vd.map _)⟩
 refine{ h with aao:=?_,qy:=u,J3:=λx q=>h.J3 x (j x q),PX:=λx q=>h.PX x (j x q),ap6:=EC (aDS ..) h.ap6 };exact aDd (λx q=>jQ h.aao z x (j x q)) u.room u.inc (EC (aDS ..) z)
theorem Uj r e:((IB r e).1=r/\(IB r e).2≠0)\/(IB r e=(Ll r e,0)/\Hf (DJ r.Events e)=0/\(decide (0<GI r.Events)&&KI (DJ r.Events e) e)=false):=by
 unfold IB
 grind
def vI :∀(n:Nat) {r:Bj},GR r->r.Waiting.length<=n->r.Events.length+n<=50->GR (Fj n r)/\TU (Fj n r)
 |0,r,h,z,_=>⟨h,λx j=>by
  have j:x∈r.Waiting:=j;rw[Hu (show r.Waiting.length=0 by omega)]at j
  exact absurd j H9⟩
 |n+1,r,h,z,hl=>by
  unfold Fj;cases u:Pj r.Events r.Waiting with
  |none=>exact⟨h,aU5 _ u⟩
  |some e=>
   obtain⟨h1,h2⟩:=y8 u;have hd:=h.drop AB e.Id;have I:=Rch h1;have q:=h.qy.ev e h1;rcases Uj { r with Waiting:=Fq r.Waiting e.Id } e with⟨q1,_⟩|⟨q1,q2,q3⟩
   ·show GR (Fj n (IB _ e).1)/\TU (Fj n (IB _ e).1);rw[q1];exact vI n hd (show(Fq r.Waiting e.Id).length<=n by omega) (show r.Events.length+n<=50 by omega)
   show GR (Fj n (IB _ e).1)/\TU (Fj n (IB _ e).1);rw[q1]
   have hm:=hd.more (e:=e) (show r.Events.length<=50 by omega) (jQ h.aao AB e h1) q.2 (h.J3 e h1) (h.PX e h1) (λx j=>by
    have :=(Hg.1 j).2
    simpa using this) h2 q2 q3
   exact vI n hm (show(Fq r.Waiting e.Id).length<=n by omega) (show(DJ r.Events e).length+n<=50 by rw[Pv];omega)
end
variable {x:AQ}
section
set_option maxHeartbeats 1000000
structure QO (l k:List AQ):Prop where
 len:k.length=l.length
 at_:∀i (h:i<l.length) (h':i<k.length),He l[i] k[i]
def QO.ids (h:QO l k):k.map (·.Id)=l.map (·.Id):=by
 refine Y4 (by simp[h.len]) λi h1 h2=>?_;rw[DY]at h1 h2;rw[P9,P9,(h.at_ i h2 h1).id]
def QO.ap8 (h:QO l k)x:bP k x=bP l x:=by rw[Oz,Hz,Hz,h.ids]
theorem aQ3 {m}{x}(hm:bP m x=false):ev m x=Eo:=by
 unfold bP at hm
 have :Eh m x=none:=by cases j:Eh m x with
  |none=>
   rfl
  |some e=>
   grind
 unfold ev;rw[SC this]
theorem QO.evS (h:QO l k)(z:(l.map (·.Id)).Nodup){x}(I:bP l x=true):He (ev l x) (ev k x):=by
 obtain⟨e,J,rfl⟩:=FB.1 (Hz.1 I);obtain⟨i,j,rfl⟩:=GY J;have q:i<k.length:=by rw[h.len];exact j
 have hs:=h.at_ i j q;have u:(k.map (·.Id)).Nodup:=by rw[h.ids];exact z
 have L:ev l l[i].Id=l[i]:=dQ z (EU j);have M:ev k l[i].Id=k[i]:=by rw[←hs.id];exact dQ u (EU q)
 grind
def QO.ok (h:QO l k)(I:MG l)(hl:l.length<=100)(J:∀x∈k,KY x=some 0)(hs:∀x∈k,Et x):KN k=some 0/\MG k:=by
 have L:∀x∈k,∀y∈k,x.Room=y.Room:=λx q y O=>by
  obtain⟨i,hi,rfl⟩:=GY q;obtain⟨j,M,rfl⟩:=GY O;have u:i<l.length:=aKi
  have z:j<l.length:=by rw[←h.len];exact M
  rw[(h.at_ i u hi).room,(h.at_ j z M).room];exact I.room _ (EU u) _ (EU z)
 have hi:Inc (k.map (·.Id)):=by rw[h.ids];exact I.inc
 exact⟨aDd J L hi (by rw[h.len];exact hl),λx q=>⟨aC9 (hs x q) (J x q),hs x q⟩,L,hi⟩
theorem QO.half (h:QO l k)(O:MG l)(hl:l.length<=100)(hd:Hf l=0)(Y:∀x∈k,KY x=some 0)(hs:∀x∈k,Et x):aNU l k:=by
 obtain⟨U,Z⟩:=h.ok O hl Y hs;have z:=UD O.inc
 have u:∀x,Ho k x=Ho l x:=λx=>by
  show(ev k x).Depth=(ev l x).Depth;cases q:bP l x with
  |true=>
   exact(h.evS z q).depth
  |false=>
   rw[aQ3 q,aQ3 (by rw[h.ap8];exact q)]
 refine⟨U,lJ hs (by rw[h.len];exact hl) U,Z,?_,h.ids,⟨z,λx q=>?_,λx q a ha=>?_,λx q a ha=>?_⟩⟩
 ·unfold Hf at hd ⊢;cases h1:U1 l with
  |false=>
   grind
  |true=>
   rw[h1,BZ]at hd;cases h2:l.all (QX l)with
   |false=>
    grind
   |true=>
    have I:U1 k=true:=by
     unfold U1 at h1 ⊢;rw[FW]at h1 ⊢;intro e J;obtain⟨i,hi,rfl⟩:=GY J;have j:i<l.length:=aKi
     have :=h1 _ (EU j);have hs:=h.at_ i j hi;unfold Fr at this ⊢;rw[hs.prev,hs.auth,show bP k=bP l from funext h.ap8];exact this
    have L:k.all (QX k)=true:=by
     rw[FW]at h2 ⊢;intro e J;obtain⟨i,hi,rfl⟩:=GY J;have j:i<l.length:=aKi
     have :=h2 _ (EU j);have hs:=h.at_ i j hi;unfold QX at this ⊢;rw[hs.prev,hs.auth,hs.depth,show Ho k=Ho l from funext u];exact this
    rw[I,L];rfl
 ·have M:=Hz.2 q;exact⟨M,by rw[h.ap8];exact M,h.evS z M⟩
 ·exact Hz.1 ((ku hd (Jf (J7 (Hz.2 q)).1)).2 a ha).1
 exact Hz.1 ((ku hd (Jf (J7 (Hz.2 q)).1)).1 a ha).1
def QO.heads (h:QO l k)(j:(l.map (·.Id)).Nodup)ids:Jk k ids=Jk l ids:=by
 unfold Jk;refine Z7 λx _=>?_;congr 1;refine any_congr λy _=>?_;unfold JV;rw[h.ap8];cases q:bP l y with
 |false=>rfl
 |true=>rw[(h.evS j q).prev]
theorem GR.aNj (h:GR r)(hl:r.Events.length<=50)(j:QO r.Events k)(O:∀x∈k,KY x=some 0)(hs:∀x∈k,Et x):GR { r with Events:=k }/\(TU r->TU { r with Events:=k }):=by
 have J:=j.half h.facts AB h.deep O hs;have M:=UD h.facts.inc;obtain⟨U,Y,Z⟩:=ahv J h.facts AB (by rw[j.len];omega) h.deep;have L:∀x,GX (DK k) x=GX (DK r.Events) x:=λx=>by unfold GX;rw[U]
 have u:∀x,Fr k x=Fr r.Events x:=λx=>by unfold Fr;rw[show bP k=bP r.Events from funext j.ap8]
 refine⟨⟨h.id,J.ref,J.facts,λx q=>?_,J.deep,h.Ea.trans j.len.symm,h.next,?_,h.pos,h.nodup,λx q=>(j.ap8 _).trans (h.known x q),λi hi z hz=>?_,λx q=>?_,h.aao,h.qy,h.J3,λx q=>(j.ap8 _).trans (h.PX x q),h.ap6,?_,?_⟩,λhr x q=>(u x).trans (hr x q)⟩
 ·obtain⟨i,hi,rfl⟩:=GY q;have I:i<r.Events.length:=by rw[←j.len];exact hi
  rw[(j.at_ i I hi).room];exact h.own _ (EU I)
 ·have :GI k=GI r.Events:=by
   have hm:∀(m:AA AQ),GI m=((m.map λe=>(e.Kind,e.Id)).filter λp=>p.1==1&&GX (DK m) p.2).length:=λm=>by
    unfold GI;rw[List.filter_map,DY];rfl
   have hp:(k.map λe=>(e.Kind,e.Id))=r.Events.map λe=>(e.Kind,e.Id):=by
    refine Y4 (by simp[j.len]) λi h1 h2=>?_;rw[DY]at h1 h2;rw[P9,P9,(j.at_ i h2 h1).id,(j.at_ i h2 h1).kind]
   grind
  show GI k<=1;rw[this];exact h.one
 ·have hs:=j.evS M (h.known _ (EU hi));exact h.refs i hi z (by rw[←hs.prev,←hs.auth];exact hz)
 ·show(x.Status=2↔GX (DK k) x.Id=false)/\_;rw[L];exact h.stat x q
 ·show r.uP=Jk k (Gx k (DK k));rw[Z,j.heads M];exact h.heads
 show r.State=OA k (DK k);rw[Y];exact h.state
def rC (e:AQ):AY:=Xn e==e.Hash
def Nl (l:AA AQ)(x:AQ):AA AQ:=bif rC x&& !rC (ev l x.Id)then l.set (l.findIdx λy=>y.Id==x.Id) x else l
theorem a6K {x}(u:bP l x=true):∃h:(l.findIdx λy=>y.Id==x)<l.length,l[l.findIdx λy=>y.Id==x]=ev l x:=by
 obtain⟨q,z⟩:=J7 u
 have j:(l.findIdx λy=>y.Id==x)<l.length:=by
  rw[Xe];exact⟨_,Jf q,by rw[z];exact MC _⟩
 refine⟨j,?_⟩;have h3:l.find? (λy=>y.Id==x)=some (ev l x):=q;rw[Kw,ES j]at h3
 grind
def ahN l:QO l l:=⟨rfl,λ_ _ _=>.refl _⟩
def aVi (u:bP l x.Id=true)(hs:He (ev l x.Id) x):QO l (Nl l x):=by
 unfold Nl;cases rC x&& !rC (ev l x.Id)with
 |false=>exact ahN l
 |true=>
  obtain⟨q,j⟩:=a6K u;refine⟨jT ..,λi h h'=>?_⟩;show He l[i] (l.set _ x)[i];rw[List.getElem_set];split
  ·rename_i z;subst z;rw[j];exact hs
  exact .refl _
theorem ZT (h:y∈Nl l x):y∈l\/y=x:=by
 unfold Nl at h
 grind
def a7c (r:Bj)(id:Int):Int:=((r.Rows.find? λx=>x.Id==id).map (·.Status)).getD 0
def Oy (r:Bj)(x:AQ):Bj×Int×Int:=
 bif !decide (x.Room=r.Id)then(r,0,13)else
 bif bP r.Events x.Id then({ r with Events:=Nl r.Events x },a7c r x.Id,0)else
 bif !bP r.Waiting x.Id&&Fr r.Events x then(cond ((IB r x).2 != 0) (r,0,(IB r x).2) (Fj r.Waiting.length (IB r x).1,a7c (Fj r.Waiting.length (IB r x).1) x.Id,0))else
 bif !bP r.Waiting x.Id&&decide (200<=r.Waiting.length)then(r,0,29)else
 ({ r with Waiting:=bif bP r.Waiting x.Id then Nl r.Waiting x else DJ r.Waiting x },1,0)
structure wP (r:Bj) (x:AQ):Prop where
 ver:KY x=some 0
 small:Et x
 sim:∀y∈r.Events,y.Id=x.Id->He y x
 aNk:∀y∈r.Waiting,y.Id=x.Id->He y x
def oJ {x}(h:bP l x=true):ev l x∈l/\(ev l x).Id=x:=⟨Jf (J7 h).1,(J7 h).2⟩
theorem GR.receive (h:GR r)(L:TU r)(hl:r.Events.length+r.Waiting.length<=48)(z:wP r x):GR (Oy r x).1/\TU (Oy r x).1:=by
 have hv:=h.ver AB;have M:=jQ h.aao AB;unfold Oy;cases q:decide (x.Room=r.Id)with
 |false=>
  grind
 |true=>
 have q:=Ov q;rw[Eu,BH];cases O:bP r.Events x.Id with
 |true=>
  rw[BZ];obtain⟨Z,g2⟩:=oJ O
  obtain⟨a,b⟩:=h.aNj AB (aVi O (z.sim _ Z g2)) (λy j=>by
   rcases ZT j with j|rfl
   ·exact hv y j
   ·exact z.ver) λy j=>by
   rcases ZT j with j|rfl
   ·exact(h.facts.ev y j).2
   exact z.small
  exact⟨a,b L⟩
 |false=>
 rw[BH];cases U:(!bP r.Waiting x.Id&&Fr r.Events x)with
 |true=>
  rw[Di]at U;have u:bP r.Waiting x.Id=false:=by simpa using U.1
  rw[BZ];rcases Uj r x with⟨q1,q2⟩|⟨q1,q2,q3⟩
  ·rw[show((IB r x).2 != 0)=true by simpa using q2,BZ];exact⟨h,L⟩
  rw[q1]
  exact vI _ (h.more AB z.ver z.small q O (λy j hyx=>by
   have :=Hz.2 (FB.2 ⟨y,j,hyx⟩)
   rw[u]at this;cases this) U.2 q2 q3) (ER _) (show(DJ r.Events x).length+r.Waiting.length<=50 by rw[Pv];omega)
 |false=>
 rw[BH];cases I:(!bP r.Waiting x.Id&&(200<=r.Waiting.length))with
 |true=>
  grind
 |false=>
 rw[BH];cases u:bP r.Waiting x.Id with
 |true=>
  rw[BZ];obtain⟨Z,g2⟩:=oJ u;have hs:=z.aNk _ Z g2;have hsl:=aVi u hs
  obtain⟨c1,c2⟩:=hsl.ok h.qy AB (λy j=>by
   rcases ZT j with j|rfl
   ·exact M y j
   ·exact z.ver) λy j=>by
   rcases ZT j with j|rfl
   ·exact(h.qy.ev y j).2
   exact z.small
  refine⟨{ h with aao:=c1,qy:=c2,J3:=λy j=>?_,PX:=λy j=>?_,ap6:=?_ },λy j=>?_⟩
  ·rcases ZT j with j|rfl
   ·exact h.J3 y j
   exact q
  ·rcases ZT j with j|rfl
   ·exact h.PX y j
   exact O
  ·show(Nl r.Waiting x).length<=200;rw[hsl.len];exact h.ap6
  rcases ZT j with j|rfl
  ·exact L y j
  have h1:=L _ Z;unfold Fr at h1 ⊢;rw[hs.prev,hs.auth];exact h1
 |false=>
  rw[BH];rw[u,JZ,GZ]at U I;have Y:x.Id∉r.Waiting.map (·.Id):=λhm=>by have :=Hz.2 hm;rw[u]at this;cases this
  have J:∀a∈DJ r.Waiting x,a.Room=r.Id:=λa ha=>by
   rcases Og.1 ha with rfl|ha
   ·exact q
   exact h.J3 a ha
  have hF:MG (DJ r.Waiting x):=⟨λy j=>by
   rcases Og.1 j with rfl|j
   ·exact⟨aC9 z.small z.ver,z.small⟩
   exact h.qy.ev y j,λa ha b hb=>(J a ha).trans (J b hb).symm,aOR h.qy.inc Y⟩
  refine⟨{ h with aao:=?_,qy:=hF,J3:=J,PX:=λy j=>?_,ap6:=?_ },λy j=>?_⟩
  ·exact aDd (λy j=>by
    rcases Og.1 j with rfl|j
    ·exact z.ver
    exact M y j) hF.room hF.inc a7D
  ·rcases Og.1 j with rfl|j
   ·exact O
   exact h.PX y j
  ·show(DJ r.Waiting x).length<=200;rw[Pv];have :=Nj I;omega
  rcases Og.1 j with rfl|j
  ·exact U
  exact L y j
end
section
set_option maxHeartbeats 1000000
structure Grown (r s:Bj):Prop where
 id:s.Id=r.Id
 ev:∀y,bP r.Events y=true->Eh s.Events y=Eh r.Events y
 rows:∃t,s.Rows=r.Rows++t
def Grown.refl r:Grown r r:=⟨rfl,λ_ _=>rfl,[],BU⟩
def adB {y}(h:Eh k y=Eh l y):bP k y=bP l y:=by unfold bP;rw[h]
def Grown.trans {r s t}(h:Grown r s)(k:Grown s t):Grown r t:=by
 obtain⟨u,q⟩:=h.rows;obtain⟨v,z⟩:=k.rows;exact⟨k.id.trans h.id,λy j=>(k.ev y (by rw[adB (h.ev y j)];exact j)).trans (h.ev y j),u++v,by rw[z,q,JK]⟩
def GR.aFs (h:GR r)(hl:r.Events.length<=50)(j:KY e=some 0)(hs:Et e)(q:e.Room=r.Id)(u:bP r.Events e.Id=false):Grown r (Ll r e):=
 ⟨rfl,λ_ z=>(h.aDw hl j hs q u).get z,[OZ r e],rfl⟩
def aFA :∀(n:Nat) {r:Bj},GR r->r.Waiting.length<=n->r.Events.length+n<=50->Grown r (Fj n r)
 |0,r,_,_,_=>.refl r
 |n+1,r,h,hw,hl=>by
  unfold Fj;cases z:Pj r.Events r.Waiting with
  |none=>exact .refl r
  |some e=>
   obtain⟨h1,h2⟩:=y8 z;have hd:=h.drop AB e.Id;have I:=Rch h1;have j:=h.qy.ev e h1;have q:Grown r { r with Waiting:=Fq r.Waiting e.Id }:=⟨rfl,λ_ _=>rfl,[],BU⟩
   rcases Uj { r with Waiting:=Fq r.Waiting e.Id } e with⟨q1,_⟩|⟨q1,q2,q3⟩
   ·show Grown r (Fj n (IB _ e).1);rw[q1];exact q.trans (aFA n hd (show(Fq r.Waiting e.Id).length<=n by omega) (show r.Events.length+n<=50 by omega))
   show Grown r (Fj n (IB _ e).1);rw[q1];have u:=jQ h.aao AB e h1
   have hm:=hd.more (e:=e) (show r.Events.length<=50 by omega) u j.2 (h.J3 e h1) (h.PX e h1) (λx J=>by
    have :=(Hg.1 J).2
    simpa using this) h2 q2 q3
   exact q.trans ((hd.aFs (show r.Events.length<=50 by omega) u j.2 (h.J3 e h1) (h.PX e h1)).trans (aFA n hm (show(Fq r.Waiting e.Id).length<=n by omega) (show(DJ r.Events e).length+n<=50 by rw[Pv];omega)))
end
section
set_option maxHeartbeats 1000000
def He.trans {x y z}(h:He x y)(k:He y z):He x z:=
 ⟨k.id.trans h.id,k.room.trans h.room,k.sender.trans h.sender,k.kind.trans h.kind,k.key.trans h.key,k.time.trans h.time,k.depth.trans h.depth,k.prev.trans h.prev,k.auth.trans h.auth,
  λj=>(k.n (by rw[h.kind];exact j)).trans (h.n j),λj=>(k.levels (by rw[h.kind];exact j)).trans (h.levels j)⟩
end
section
set_option maxHeartbeats 1000000
def J8 (l:AA F5)(id:Int):AY:=l.any λx=>x.Id==id
def Sl (r:Bj)(x:F5):AY:=((!GX (DK r.Events) x.Id)==(x.Status==2))&&((x.Status==2||x.Status==3)||x.Status==4)
def NK (r:Bj)(id:Int):Option F5:=r.Rows.find? λx=>x.Id==id
def Ry (r:Bj)(i:Nat)(id:Int):AY:=match NK r id with
 |none=>false
 |some x=>x.Pos<(i:Int)
def Rh (r:Bj)(i:Nat)(x:F5):AY:=bP r.Events x.Id&&(!J8 (r.Rows.take i) x.Id&&(x.Pos==(i:Int)&&(((ev r.Events x.Id).bG.all (J8 (r.Rows.take i))&&(ev r.Events x.Id).bI.all (J8 (r.Rows.take i)))&&Sl r x)))
def WV (r:Bj)(i:Nat)(x:F5):AY:=bP r.Events x.Id&&(x.Pos==(i:Int)&&(((NK r x.Id).map (·.Pos)).getD 0==(i:Int)&&(((ev r.Events x.Id).bG.all (Ry r i)&&(ev r.Events x.Id).bI.all (Ry r i))&&Sl r x)))
theorem ahi {l}{id}:J8 l id=true↔∃j,∃h:j<l.length,l[j].Id=id:=by
 unfold J8;rw[Ja];constructor
 ·rintro⟨x,q,h⟩;obtain⟨j,u,rfl⟩:=GY q
  grind
 grind
theorem dI {l:AA F5}{id}:J8 (l.take i) id=true↔∃j,∃h:j<l.length,j<i/\l[j].Id=id:=by
 rw[ahi];constructor
 ·grind
 rintro⟨j,u,q,h⟩;exact⟨j,iZ,by rw[lH];exact h⟩
def aHb {id}{x}(h:NK r id=some x):∃m,∃hm:m<r.Rows.length,r.Rows[m]=x/\x.Id=id:=by
 have h1:=YH h;obtain⟨m,hm,e⟩:=GY h1;exact⟨m,hm,e,by simpa using aAN h⟩
theorem aBi {id}(h:NK r id=none):∀j (q:j<r.Rows.length),r.Rows[j].Id≠id:=λj q e=>by
 have :=a4b.1 h _ (EU q)
 grind
structure kR (r:Bj):Prop where
 pos:∀i (h:i<r.Rows.length),r.Rows[i].Pos=(i:Int)
 inj:∀i j (hi:i<r.Rows.length) (hj:j<r.Rows.length),r.Rows[i].Id=r.Rows[j].Id->i=j
def kR.find (h:kR r)(hi:i<r.Rows.length):NK r r.Rows[i].Id=some r.Rows[i]:=by
 cases j:NK r r.Rows[i].Id with
 |none=>exact absurd rfl (aBi j i hi)
 |some x=>
  obtain⟨m,hm,rfl,e⟩:=aHb j;have :=h.inj m i hm hi e;subst this;rfl
def kR.beh (h:kR r)i id:Ry r i id=J8 (r.Rows.take i) id:=by
 rw[Oz,dI];unfold Ry;cases u:NK r id with
 |none=>exact⟨λz=>absurd z Bool.false_ne_true,λ⟨j,q,_,e⟩=>absurd e (aBi u j q)⟩
 |some x=>
  obtain⟨m,hm,rfl,e⟩:=aHb u;show decide (r.Rows[m].Pos<(i:Int))=true↔_;rw[Io,h.pos m hm];constructor
  ·intro I;exact⟨m,hm,AB,e⟩
  rintro⟨j,q,J,L⟩;have :=h.inj m j hm q (e.trans L.symm);omega
def aWl (h:∀i (hi:i<r.Rows.length),Rh r i r.Rows[i]=true):kR r:=by
 have hp:∀i (hi:i<r.Rows.length),r.Rows[i].Pos=(i:Int)/\J8 (r.Rows.take i) r.Rows[i].Id=false:=λi hi=>by
  have :=h i hi;unfold Rh at this;simp only[Di,NP,Vx]at this;exact⟨this.2.2.1,this.2.1⟩
 have q:∀i j (hi:i<r.Rows.length) (u:j<r.Rows.length),r.Rows[i].Id=r.Rows[j].Id->¬i<j:=λi j hi u e z=>by
  have :=dI.2 ⟨i,hi,z,e⟩;rw[(hp j u).2]at this;cases this
 refine⟨λi hi=>(hp i hi).1,λi j hi u e=>?_⟩;have a:=q i j hi u e;have b:=q j i u hi e.symm;omega
theorem aYv (h:∀i (hi:i<r.Rows.length),WV r i r.Rows[i]=true):kR r:=by
 have hp:∀i (hi:i<r.Rows.length),r.Rows[i].Pos=(i:Int)/\((NK r r.Rows[i].Id).map (·.Pos)).getD 0=(i:Int):=λi hi=>by
  have :=h i hi;unfold WV at this
  grind
 have u:∀i (hi:i<r.Rows.length),NK r r.Rows[i].Id=some r.Rows[i]:=λi hi=>by
  have h1:=(hp i hi).2;cases q:NK r r.Rows[i].Id with
  |none=>
   exact absurd rfl (aBi q i hi)
  |some x=>
   obtain⟨m,hm,rfl,_⟩:=aHb q;rw[q]at h1;have h2:r.Rows[m].Pos=(i:Int):=h1;rw[(hp m hm).1]at h2;have :m=i:=AB
   subst this;rfl
 refine⟨λi hi=>(hp i hi).1,λi j hi z e=>?_⟩;have h1:=u i hi
 grind
def aMr (h:kR r)(hi:i<r.Rows.length):WV r i r.Rows[i]=Rh r i r.Rows[i]:=by
 have h1:Ry r i=J8 (r.Rows.take i):=funext λid=>h.beh i id
 have h2:J8 (r.Rows.take i) r.Rows[i].Id=false:=by
  cases q:J8 (r.Rows.take i) r.Rows[i].Id with
  |false=>rfl
  |true=>
   obtain⟨j,u,z,e⟩:=dI.1 q;have :=h.inj j i u hi e;omega
 unfold WV Rh;rw[h1,h2,h.find hi,h.pos i hi];rw[Kr,OO,h.pos i hi];simp
def RS (r:Bj):AY:=(List.range r.Rows.length).all λi=>Rh r i (r.Rows.getD i LG)
def fD (r:Bj):AY:=(List.range r.Rows.length).all λi=>WV r i (r.Rows.getD i LG)
theorem jV {l:AA F5}{p:Nat->F5->AY}:((List.range l.length).all λi=>p i (l.getD i LG))=true↔∀i (hi:i<l.length),p i l[i]=true:=by
 rw[FW];constructor
 ·intro h i hi;have :=h i (lD.2 hi)
  grind
 grind
def akm r:fD r=RS r:=by
 rw[Oz];unfold fD RS;rw[jV,jV];exact⟨λh i hi=>by rw[←aMr (aYv h) hi];exact h i hi,λh i hi=>by rw[aMr (aWl h) hi];exact h i hi⟩
theorem aOO {x}:Sl r x=true↔(x.Status=2↔GX (DK r.Events) x.Id=false)/\(x.Status=2\/x.Status=3\/x.Status=4):=by
 unfold Sl;rw[Di,ZE,ZE,NP,NP,NP,NP,or_assoc];refine and_congr ?_ Iff.rfl
 grind
def XH (r:Bj):AY:=(((r.Rows.length==r.Events.length)&&(r.Next==(r.Rows.length:Int)))&&(GI r.Events<=1))&&RS r
theorem aO9:XH r=true↔r.Rows.length=r.Events.length/\r.Next=(r.Rows.length:Int)/\GI r.Events<=1/\(∀i (h:i<r.Rows.length),r.Rows[i].Pos=(i:Int))/\(r.Rows.map (·.Id)).Nodup/\(∀x∈r.Rows,bP r.Events x.Id=true)/\
 (∀i (h:i<r.Rows.length),∀z,z∈(ev r.Events r.Rows[i].Id).bG\/z∈(ev r.Events r.Rows[i].Id).bI->∃j,∃I:j<r.Rows.length,j<i/\r.Rows[j].Id=z)/\∀x∈r.Rows,(x.Status=2↔GX (DK r.Events) x.Id=false)/\(x.Status=2\/x.Status=3\/x.Status=4):=by
 unfold XH RS;rw[Di,Di,Di,NP,NP,Io,jV];constructor
 ·rintro⟨⟨⟨h1,h2⟩,h3⟩,J⟩;have O:=aWl J
  have hp:∀i (hi:i<r.Rows.length),bP r.Events r.Rows[i].Id=true/\((∀z∈(ev r.Events r.Rows[i].Id).bG,J8 (r.Rows.take i) z=true)/\∀z∈(ev r.Events r.Rows[i].Id).bI,J8 (r.Rows.take i) z=true)/\Sl r r.Rows[i]=true:=λi hi=>by
   have :=J i hi;unfold Rh at this
   grind
  refine⟨h1,h2,h3,O.pos,?_,λx L=>?_,λi hi z q=>?_,λx L=>?_⟩
  ·rw[dX,eM,JU];intro i j hi I Z e;have :=O.inj i j hi I e;omega
  ·obtain⟨i,hi,rfl⟩:=GY L;exact(hp i hi).1
  ·rcases q with q|q
   ·exact dI.1 ((hp i hi).2.1.1 z q)
   exact dI.1 ((hp i hi).2.1.2 z q)
  obtain⟨i,hi,rfl⟩:=GY L;exact aOO.1 (hp i hi).2.2
 rintro⟨h1,h2,h3,J,U,h6,Y,h8⟩;refine⟨⟨⟨h1,h2⟩,h3⟩,λi hi=>?_⟩
 have u:J8 (r.Rows.take i) r.Rows[i].Id=false:=by
  cases hq:J8 (r.Rows.take i) r.Rows[i].Id with
  |false=>
   rfl
  |true=>
   obtain⟨j,I,M,e⟩:=dI.1 hq;rw[dX,eM,JU]at U;exact absurd e (U j i I hi M)
 unfold Rh;rw[h6 _ (EU hi),u,J i hi,aOO.2 (h8 _ (EU hi))];simp only[GZ,JZ,MC,LZ,Di,FW];exact⟨λz q=>dI.2 (Y i hi z (.inl q)),λz q=>dI.2 (Y i hi z (.inr q))⟩
def akg (h1:TA r.Id=0)(h2:KN r.Events=some 0)(h3:MG r.Events)(I:∀x∈r.Events,x.Room=r.Id)(J:Hf r.Events=0)(L:KN r.Waiting=some 0)(M:MG r.Waiting)(O:∀x∈r.Waiting,x.Room=r.Id)(U:∀x∈r.Waiting,bP r.Events x.Id=false)(j:r.Waiting.length<=200)(q:r.uP=Jk r.Events (Gx r.Events (DK r.Events)))(u:r.State=OA r.Events (DK r.Events))(z:XH r=true):GR r:=by
 obtain⟨Y,Z,a3,a4,a5,a6,a7,a8⟩:=aO9.1 z;exact⟨h1,h2,h3,I,J,Y,Z,a3,a4,a5,a6,a7,a8,L,M,O,U,j,q,u⟩
def GR.aHs (h:GR r):XH r=true:=aO9.2 ⟨h.Ea,h.next,h.one,h.pos,h.nodup,h.known,h.refs,h.stat⟩
end
section
set_option maxRecDepth 20000
set_option maxHeartbeats 1000000
def aDD k v x:∀m:AA (Int×AY),x∈(EM m k v).map (·.1)↔x=k\/x∈m.map (·.1)
 | []=>by unfold EM;simp
 |p::m=>by
  unfold EM;cases j:k==p.1 with
  |true=>
   rw[BZ,Gz,Gz,FP,FP,eq_of_beq j];exact⟨λh=>h.elim .inl λh=>.inr (.inr h),λh=>h.elim .inl λh=>h.elim .inl .inr⟩
  |false=>
   rw[BH,Gz,Gz,FP,FP,aDD k v x m];exact⟨λh=>h.elim (λh=>.inr (.inl h)) λh=>h.elim .inl λh=>.inr (.inr h),λh=>h.elim (λh=>.inr (.inl h)) λh=>h.elim .inl λh=>.inr (.inr h)⟩
def aNS k v:∀m:AA (Int×AY),(m.map (·.1)).Nodup->((EM m k v).map (·.1)).Nodup
 | [],_=>by unfold EM;simp
 |p::m,h=>by
  rw[Gz,KX]at h;unfold EM;cases j:k==p.1 with
  |true=>
   rw[BZ,Gz,KX,eq_of_beq j];exact h
  |false=>
   rw[BH,Gz,KX];refine⟨λhm=>?_,aNS k v m h.2⟩;rcases(aDD k v p.1 m).1 hm with e|e
   ·rw[e,MC]at j;cases j
   exact h.1 e
def aGy k x:∀m:AA (Int×AY),(m.map (·.1)).Nodup->(x∈(Lm m k).map (·.1)↔x∈m.map (·.1)/\x≠k)
 | [],_=>by unfold Lm;simp
 |p::m,h=>by
  rw[Gz,KX]at h;unfold Lm;cases u:k==p.1 with
  |true=>
   rw[BZ,Gz,FP,←eq_of_beq u];rw[←eq_of_beq u]at h;exact⟨λj=>⟨.inr j,λe=>h.1 (e▸j)⟩,λ⟨j,q⟩=>j.elim (λe=>absurd e q) id⟩
  |false=>
   rw[BH,Gz,Gz,FP,FP,aGy k x m h.2];refine⟨λj=>j.elim (λe=>⟨.inl e,λz=>?_⟩) λ⟨a,b⟩=>⟨.inr a,b⟩,λ⟨j,q⟩=>j.elim .inl λa=>.inr ⟨a,q⟩⟩;rw[←z,e,MC]at u;cases u
theorem aW4 k:∀m:AA (Int×AY),(m.map (·.1)).Nodup->((Lm m k).map (·.1)).Nodup
 | [],_=>by unfold Lm;simp
 |p::m,h=>by
  have j:=h;rw[Gz,KX]at h;unfold Lm;cases q:k==p.1 with
  |true=>
   grind
  |false=>
   rw[BH,Gz,KX];exact⟨λhm=>h.1 ((aGy k p.1 m h.2).1 hm).1,aW4 k m h.2⟩
theorem aMZ :∀(g:AA Int) (m:AA (Int×AY)),(m.map (·.1)).Nodup->((g.foldl (λa x=>EM a x true) m).map (·.1)).Nodup/\∀x,x∈(g.foldl (λa x=>EM a x true) m).map (·.1)↔x∈m.map (·.1)\/x∈g
 | [],m,h=>⟨h,λx=>BU⟩
 |y::g,m,h=>by
  rw[Gf];obtain⟨j,q⟩:=aMZ g (EM m y true) (aNS y true m h);refine⟨j,λx=>?_⟩;rw[q,aDD,FP]
  grind
theorem aPN :∀(l:AA AQ) (m:AA (Int×AY)),(m.map (·.1)).Nodup->((l.foldl (λa e=>Lm a e.Id) m).map (·.1)).Nodup/\∀x,x∈(l.foldl (λa e=>Lm a e.Id) m).map (·.1)↔x∈m.map (·.1)/\x∉l.map (·.Id)
 | [],m,h=>⟨h,λx=>BU⟩
 |e::l,m,h=>by
  rw[Gf];obtain⟨j,q⟩:=aPN l (Lm m e.Id) (aW4 e.Id m h);refine⟨j,λx=>?_⟩;rw[q,aGy _ _ _ h,Gz,FP]
  grind
def aMT :∀(m:AA (Int×AY)) (r:AA Int),r.length+m.length<=1000000->List.foldlM kT r m=some (r++m.map (·.1))
 | [],r,_=>BU
 |p::m,r,h=>by
  rw[Gh]at h
  have e:kT r p=some (r++[p.1]):=by
   unfold kT;rw[Dw G7];rfl
  rw[VZ,e];show List.foldlM kT (r++[p.1]) m=_;rw[aMT m (r++[p.1]) aEw,JK];rfl
theorem agJ {m}(hm:m.length<=1000000):ZI m=some (O9 (m.map (·.1))):=by
 unfold ZI
 have h1:Jg 8 (0:Int) 0 (m.length:Int)=some []:=by
  unfold Jg
  grind
 rw[h1,Ac,aMT m [] QD,Ir,Ac];unfold yJ PS
 grind
def ae5 {l}(h:l.Nodup):Inc (O9 l):=by
 have z:(O9 l).Nodup:=(VG l).nodup_iff.2 h;have hp:(O9 l).Pairwise (λa b=>a<=b):=a1d l;unfold Inc;rw[JU]at hp ⊢;intro i j hi u q;have h1:=hp i j hi u q;have h2:(O9 l)[i]≠(O9 l)[j]:=JU.1 (dX.1 z) i j hi u q;omega
def aV1 l g(hl:l.length<=1000)(I:g.length<=1000):eY l g=some (RP l g):=by
 obtain⟨J,q⟩:=aMZ g [] aZ;obtain⟨u,z⟩:=aPN l _ J
 have hlen:((l.foldl (λa e=>Lm a e.Id) (g.foldl (λa x=>EM a x true) [])).map (·.1)).length<=g.length:=qm u λx L=>by
  rcases(q x).1 ((z x).1 L).1 with h|h
  ·exact absurd h H9
  exact h
 rw[DY]at hlen;have hs:=agJ (m:=l.foldl (λa e=>Lm a e.Id) (g.foldl (λa x=>EM a x true) [])) (EC hlen (EC I AB))
 have M:O9 ((l.foldl (λa e=>Lm a e.Id) (g.foldl (λa x=>EM a x true) [])).map (·.1))=RP l g:=DU (ae5 u) (aYJ _ _) λx=>by
  rw[(VG _).mem_iff,z,q,pR]
  have O:bP l x=false↔x∉l.map (·.Id):=by
   rw[←Hz];cases bP l x<;>simp
  rw[O];simp
 rw[M]at hs
 have U:∀m:AA (Int×AY),a9x l 0 m=(ZI (l.foldl (λa e=>Lm a e.Id) m)).bind λj=>some j:=λm=>by
  unfold a9x
  exact o8 (body:=a3P l) l AB (λa e=>Lm a e.Id) (λ_ _=>True) (λa=>(ZI a).bind λj=>some j) trivial (λk a i h _=>⟨trivial,by
   unfold a3P
   rw[Ch h]⟩) λk a _=>by
   unfold a3P;rw[DR,BH]
 unfold eY aS7
 rw[o8 (body:=a4c g l) g AB (λa x=>EM a x true) (λ_ _=>True) (λa=>a9x l 0 a) trivial (λk a i h _=>⟨trivial,by
    unfold a4c
    rw[Ch h]⟩) λk a _=>by
    unfold a4c
    rw[DR,BH],U,hs]
 rfl
def a5q {g}:(((RP l g).length:Int)==0)=g.all (bP l):=by
 rw[Oz,NP,FW];constructor
 ·intro h x j;cases q:bP l x with
  |true=>rfl
  |false=>
   have hm:=pR.2 ⟨j,q⟩;have :=List.length_pos_of_mem hm;omega
 intro h;cases u:RP l g with
 |nil=>rfl
 |cons y t=>
  have z:y∈RP l g:=by rw[u];exact Gv ..
  obtain⟨a,b⟩:=pR.1 z;rw[h y a]at b;cases b
theorem ready_eq l e(hl:l.length<=1000)(j:Et e):jP l e=some (Fr l e):=by
 have h1:=j.prev;have h2:=j.auth;unfold jP Fr;rw[aV1 l _ hl AB,aV1 l _ hl AB,Ac,a5q,Ac,a5q]
 grind
theorem aX9 (I:Kq l):Uf l (DK l)=l.map λe=>bif GX (DK l) e.Id then 4 else 2:=by
 have :∀m:AA AQ,(∀e∈m,e∈l)->Uf m (DK l)=m.map λe=>bif GX (DK l) e.Id then(4:Int)else 2:=by
  intro m
  induction m with
  |nil=>
   exact λ_=>rfl
  |cons e m j=>
   intro h;have j:=j λx u=>h x (I7 _ u);unfold Uf at j ⊢;obtain⟨y,q⟩:=qH (Hz.2 (FB.2 ⟨e,h e (Gv ..),rfl⟩));have z:GX (DK l) e.Id=(y.err==0):=by unfold GX;rw[q]
   rw[SK,q,Kr,Gz,j,z];show(cond (!(y.err==0)) (2:Int) 4)::_=_;cases y.err==0<;>rfl
 grind
def aFp (L:Nk l=some 0)(z:Kq l)(hd:Hf l=0):iT l=some (GI l:Int):=by
 have hl:=z.len;have hs:=aO4 L λ_=>z;rw[QN hd,aX9 z]at hs;unfold iT;rw[hs,Ac];unfold aL4;refine dK.eq (JJ l.length (fuel_lt AB) (λi a=>a=(((l.take i).filter (KI l)).length:Int)) rfl (λi a k hi ha I=>?_) λa k ha=>?_)
 ·have M:((l.take i).filter (KI l)).length<=i:=EC (MS ..) iZ;have u:i<(l.map λe=>bif GX (DK l) e.Id then(4:Int)else 2).length:=a3n
  have J:=CQ u;rw[P9]at J;have q:=pK (p:=KI l) hi;unfold aDQ a5u;rw[Ch hi,dec_lt u,J];have j:KI l l[i]=(l[i].Kind==1&&GX (DK l) l[i].Id):=rfl;cases h1:l[i].Kind==1 with
  |false=>
   rw[h1,xk]at j;rw[j]at q;simp only[BH,Ac];rw[wrap_succ i AB];exact I _ (by rw[ha,q];simp)
  |true=>
   rw[h1,GZ]at j;simp only[BZ,Ac];cases h2:GX (DK l) l[i].Id with
   |false=>
    rw[h2]at j;rw[j]at q;rw[show((cond false (4:Int) 2)==4)=false from rfl,BH,wrap_succ i AB];exact I _ (by rw[ha,q];simp)
   |true=>
    rw[h2]at j;rw[j]at q;rw[show((cond true (4:Int) 2)==4)=true from rfl,BZ,wrap_succ i AB,ha,wrap_succ _ AB];exact I _ (by rw[q];simp)
 unfold aDQ;rw[DR,BH,ha,Gw];exact .ret rfl
def aNo (q:Nk l=some 0)(j:Kq l)(hd:Hf l=0):nV l=some (Jk l (Gx l (DK l))):=by
 have hl:=j.len;have ha:=acK q λ_=>j;rw[QN hd]at ha;have u:=Y6 l (DK l);unfold nV;rw[ha,Ac,aUr l _ hl j.small AB];rfl
end
variable {b:AL AQ}{z:AQ}
section
set_option maxRecDepth 20000
set_option maxHeartbeats 1000000
def akP {l}(h:l.length<=1000000):a15 l=some l:=by
 unfold a15;rw[Dw QD];rfl
def aOZ (hl:l.length<=1000)(j:∀x∈l,x.Room=e.Room)(q:bP l e.Id=false):Vu l e=some (DJ l e,0):=by
 have u:l.any (UU e)=false:=by
  rw[Ws];intro x z;unfold UU;rw[j x z];simp
 rw[aVU hl,u,BH,q,BH]
theorem aRt (hl:l.length<=1000)(z:∀x∈l,x.Room=e.Room)(q:bP l e.Id=true)(hs:∀x∈l,Et x)(I:Et e):Vu l e=some (Nl l e,0):=by
 have J:l.any (UU e)=false:=by
  rw[Ws];intro x L;unfold UU;rw[z x L];simp
 obtain⟨j,u⟩:=a6K q;rw[aVU hl,J,BH,q,BZ,(Zg I.x).1,Ac,CQ j,u,Ac,(Zg (hs _ (oJ q).1).x).1];unfold Nl rC
 grind
def aVb (hs:EZ l)s:EZ (JX l s):=aHV hs _
theorem aNv (h:GR r)(hl:r.Events.length<=50)(hv:KY e=some 0)(hs:Et e)(hr:e.Room=r.Id)(Y:bP r.Events e.Id=false):pO r e=some (IB r e):=by
 have ha:=h.aDw hl hv hs hr Y;have M:=ha.ok;have j:=ha.ok';have hl':=ha.len';have c0:Nk r.Events=some 0:=lJ M.small AB h.set;have hrl:=h.Ea;have Z:=h.next
 have hst:r.State.length<=50:=by
  have hp:=vP (l:=r.Events) (c:=0) λ_=>M;rw[QN h.deep]at hp;rw[h.state];exact EC hp.length hl
 unfold pO IB;rw[G6 (show ¬(r.Events.length:Int)>=2000 by omega),BH,aOZ AB ha.room Y,Ac];show(cond ((0:Int) != 0) _ ((Zq (DJ r.Events e)).bind _))=_;rw[PW,BH,aDs _ AB j.small j.dep,Ac];cases hd:Hf (DJ r.Events e) != 0 with
 |true=>
  rfl
 |false=>
  have q:Hf (DJ r.Events e)=0:=by simpa using hd
  rw[BH,BH,aFp c0 M h.deep,Ac];show((cond ((GI r.Events:Int)>0) ((iT (DJ r.Events e)).bind _) _).bind _)=_;rw[aFp ha.prog' j q,Ac]
  have hx:(cond ((GI r.Events:Int)>0) (some (decide ((GI (DJ r.Events e):Int)>(GI r.Events:Int)))) (some false))=some (decide (0<GI r.Events)&&KI (DJ r.Events e) e):=by
   rw[ha.made q];by_cases hp:0<GI r.Events
   ·rw[IX (show(GI r.Events:Int)>0 by omega),BZ,IX hp,GZ];cases KI (DJ r.Events e) e with
    |true=>
     grind
    |false=>
     grind
   grind
  rw[hx,Ac];cases hc:(decide (0<GI r.Events)&&KI (DJ r.Events e) e)with
  |true=>
   rfl
  |false=>
   have J:=akK ha.prog' (λ_=>j) e.Id;rw[QN q]at J;have z:=aVu ha.prog' λ_=>j;rw[QN q]at z;rw[BH,BH];show(mY (DJ r.Events e) e.Id).bind _=_;rw[J,Ac];obtain⟨y,hy⟩:=qH ha.anO;have I:GX (DK (DJ r.Events e)) e.Id=(y.err==0):=by unfold GX;rw[hy]
   have h2:(a5y (DK (DJ r.Events e)) e.Id).2=bif y.err != 0 then 2 else 4:=by unfold a5y;rw[hy]
   have U:∀v,XZ r (DJ r.Events e,0) v=some ({ Ll r e with Rows:=r.Rows++[v] },0):=λv=>by
    unfold XZ;rw[akP AB,Ac,Dw G7,Ac];show(nV (DJ r.Events e)).bind _=_;rw[aNo ha.prog' j q,Ac];show(ny (DJ r.Events e)).bind _=_;rw[z,Ac]
    have hw:Au (({ r with Rows:=r.Rows++[v] }:Bj).Next+1)=r.Next+1:=by
     show Au (r.Next+1)=r.Next+1;exact Nr AB AB
    rw[hw];rfl
   have hm:∀n,NW r e=n->some ({ Ll r e with Rows:=r.Rows++[(⟨r.Next,e.Id,n,false⟩:F5)] },(0:Int))=some (Ll r e,0):=λn Z=>by
    subst Z;rfl
   rw[h2];cases L:y.err==0 with
   |false=>
    have u:NW r e=2:=by unfold NW;rw[I,L];rfl
    rw[show(y.err != 0)=true by simpa[bne]using L];show XZ r (DJ r.Events e,0) _=_;rw[U];exact hm 2 u
   |true=>
    rw[show(y.err != 0)=false by simpa[bne]using L];show(mO r.Events r.State).bind _=_;rw[aLD _ _ AB AB,Ac,a5P e _ (EC (oq _ _) AB) (aVb M.small _) hs,Ac];cases O:KP e (JX r.Events r.State)==0 with
    |true=>
     have u:NW r e=4:=by unfold NW;rw[I,L,O];rfl
     rw[show(KP e (JX r.Events r.State) != 0)=false by simpa[bne]using O];show XZ r (DJ r.Events e,0) _=_;rw[U];exact hm 4 u
    |false=>
     have u:NW r e=3:=by unfold NW;rw[I,L,O];rfl
     rw[show(KP e (JX r.Events r.State) != 0)=true by simpa[bne]using O];show XZ r (DJ r.Events e,0) _=_;rw[U];exact hm 3 u
theorem aZp j(hl:j.length<=1000)(h:∀x∈j,x.length<=1000):a1T j=some j.flatten:=by
 have u:∀m:AA (AA AQ),(∀x∈m,x.length<=1000)->m.flatten.length<=m.length*1000:=by
  intro m
  induction m with
  |nil=>
   grind
  |cons x m z=>
   intro hm;have h1:=hm x (Gv ..);have h2:=z λy I=>hm y (I7 _ I);rw[List.flatten_cons,Ef,Gh];omega
 have q:∀{i:Nat} (hi:i<j.length),(j.take (i+1)).flatten=(j.take i).flatten++j[i]:=λ{i} hi=>by
  rw[MX hi,List.flatten_append];simp
 have hlen:∀i,(j.take i).flatten.length<=1000000:=λi=>by
  have h1:=u (j.take i) λx J=>h x (dZ J)
  grind
 unfold a1T aWh;refine dK.eq (JJ j.length (fuel_lt AB) (λi a=>a=((j.take i).flatten.length:Int)) rfl (λi a k hi ha L=>?_) λa k ha=>?_)
 ·have h1:=hlen (i+1);have h2:=BF List.length (q hi);rw[Ef]at h2;unfold a5x;rw[Ch hi,ha,Nr AB AB,G6 AB,BH,wrap_succ i AB]
  grind
 have h1:=hlen j.length
 have M:a8y a=some []:=by
  unfold a8y dJ
  grind
 unfold a5x;rw[DR,BH,M,Ac];unfold aS5;refine JJ j.length (fuel_lt AB) (λi a=>a=(j.take i).flatten) rfl (λi a k hi ha L=>?_) λa k ha=>?_
 ·have h1:=hlen (i+1);have h2:=BF List.length (q hi);rw[Ef]at h2;unfold a8n;rw[Ch hi,ha,Dw AB,Ac,wrap_succ i AB]
  grind
 unfold a8n;rw[DR,BH,ha,Gw];exact .ret rfl
def aNN :∀(l:AA AQ) (j:Nat) (z:j<l.length),(l.map (·.Id)).Nodup->l.take j++l.drop (j+1)=Fq l l[j].Id
 | [],j,z,_=>absurd z (Zu _)
 |x::l,0,_,q=>by
  rw[Gz,KX]at q;unfold Fq
  have h1:l.filter (λy=>y.Id != x.Id)=l:=pU.2 λy L=>by
   have :y.Id≠x.Id:=λe=>q.1 (FB.2 ⟨y,L,e⟩);simpa using this
  show l=(x::l).filter λy=>y.Id != x.Id;rw[List.filter_cons_of_neg BU,h1]
 |x::l,j+1,z,q=>by
  rw[Gz,KX]at q;have u:j<l.length:=aI
  have J:=aNN l j u q.2;have I:x.Id≠l[j].Id:=λe=>q.1 (FB.2 ⟨l[j],EU u,e.symm⟩);unfold Fq at J ⊢;show x::(l.take j++l.drop (j+1))=(x::l).filter λy=>y.Id != l[j].Id;rw[List.filter_cons_of_pos qh,J]
def aPj (h:i<w.length):(w.take (i+1)).foldl (Ie l) none=Ie l ((w.take i).foldl (Ie l) none) w[i]:=by
 rw[MX h,Uw];rfl
def aPq (h1:Fr l e=true)(h2:Vz b e=true):Ie l b e=some e:=by unfold Ie;rw[h1,h2];rfl
def aSA (h2:Vz b e=false):Ie l b e=b:=by unfold Ie;rw[h2,Bool.and_false];rfl
def aRM (h1:Fr l e=false):Ie l b e=b:=by unfold Ie;rw[h1,xk];rfl
def ahc (q:r.Waiting.length<=0)k3 v2:oK r k3 v2 (-1) 0=some r:=by
 have j:r.Waiting=[]:=Hu AB;unfold oK;refine dK.eq (JJ 0 (fuel_lt AB) (λ_ a=>a= -1) rfl (λi a k hi=>absurd hi (Zu _)) λa k ha=>?_);unfold a8x;rw[j,ha,G6 (show ¬((0:Nat):Int)<(([]:AA AQ).length:Int) by simp),BH,IX (show(-1:Int)<0 by omega),BZ];exact .ret rfl
theorem aXH {n}{k3}{v2}(ih:∀{r:Bj},GR r->r.Waiting.length<=n->r.Events.length+n<=50->k3 r v2=some (Fj n r))(h:GR r)(hw:r.Waiting.length<=n+1)(hl:r.Events.length+(n+1)<=50):oK r k3 v2 (-1) 0=some (Fj (n+1) r):=by
 have hsm:∀e∈r.Waiting,Et e:=λe he=>(h.qy.ev e he).2;unfold oK;refine dK.eq (JJ r.Waiting.length (fuel_lt AB) (λi a=>((r.Waiting.take i).foldl (Ie r.Events) none=none/\a= -1)\/∃j,∃J:j<r.Waiting.length,a=(j:Int)/\(r.Waiting.take i).foldl (Ie r.Events) none=some r.Waiting[j]) (.inl ⟨rfl,rfl⟩) (λi a k hi ha hk=>?_) λa k ha=>?_)
 ·have hb:=aPj (l:=r.Events) hi;unfold a8x;rw[Ch hi,ready_eq _ _ AB (hsm _ (EU hi)),Ac];cases L:Fr r.Events r.Waiting[i]with
  |false=>
   have hp:(r.Waiting.take (i+1)).foldl (Ie r.Events) none=(r.Waiting.take i).foldl (Ie r.Events) none:=by
    rw[hb,aRM L]
   rw[JZ,BZ];unfold a1R;rw[wrap_succ i AB];exact hk a (by rw[hp];exact ha)
  |true=>
   have u:Vz ((r.Waiting.take i).foldl (Ie r.Events) none) r.Waiting[i]=true->dK (kN k (i:Int) a true) λx=>x=Fj (n+1) r:=λq=>by
    show dK (k (i:Int) (Au ((i:Int)+1))) _;rw[wrap_succ i AB];exact hk _ (.inr ⟨i,hi,rfl,by rw[hb,aPq L q]⟩)
   have z:Vz ((r.Waiting.take i).foldl (Ie r.Events) none) r.Waiting[i]=false->dK (kN k (i:Int) a false) λx=>x=Fj (n+1) r:=λq=>by
    show dK (k a (Au ((i:Int)+1))) _;rw[wrap_succ i AB];exact hk _ (by rw[hb,aSA q];exact ha)
   rw[Eu,BH];rcases ha with⟨h1,h2⟩|⟨j,J,h2,h1⟩
   ·rw[h2,IX (show(-1:Int)<0 by decide),BZ,←h2];exact u yt
   have q:Vz ((r.Waiting.take i).foldl (Ie r.Events) none) r.Waiting[i]=NS r.Waiting[i] r.Waiting[j]:=yt
   unfold NS at q;rw[h2,G6 (show ¬(j:Int)<0 by omega),BH,CQ J,Ac];cases c1:decide (r.Waiting[i].Depth<r.Waiting[j].Depth)with
   |true=>
    rw[c1,Bool.true_or]at q;rw[BZ,←h2];exact u q
   |false=>
    rw[c1,RY]at q;rw[BH,Ac];cases c2:r.Waiting[i].Depth==r.Waiting[j].Depth with
    |false=>
     rw[c2,xk]at q;rw[BH,←h2];exact z q
    |true=>
     rw[c2,GZ]at q;rw[BZ,Ac,←h2];cases c3:decide (r.Waiting[i].Id<r.Waiting[j].Id)with
     |true=>
      grind
     |false=>
      grind
 rw[Gw]at ha;unfold a8x;rw[DR,BH];rcases ha with⟨h1,h2⟩|⟨j,J,h2,h1⟩
 ·have h1:Pj r.Events r.Waiting=none:=h1;rw[h2,IX (show(-1:Int)<0 by decide),BZ];refine .ret ?_;unfold Fj;rw[h1]
 have h1:Pj r.Events r.Waiting=some r.Waiting[j]:=h1;obtain⟨I,b2⟩:=y8 h1;have hd:=h.drop AB r.Waiting[j].Id;have hdl:=Rch I;have M:=h.qy.ev _ I;have hv:=jQ h.aao AB _ I;have O:=aNv hd (show r.Events.length<=50 by omega) hv M.2 (h.J3 _ I) (h.PX _ I)
 have hg1:I8 r.Waiting 0 (j:Int)=some (r.Waiting.take j):=by
  show I8 r.Waiting ((0:Nat):Int) (j:Int)=_;rw[bF (l:=r.Waiting) (lo:=0) (hi:=j) AB AB];simp
 have hg2:I8 r.Waiting (((j+1:Nat)):Int) (r.Waiting.length:Int)=some (r.Waiting.drop (j+1)):=by
  rw[bF (l:=r.Waiting) (lo:=j+1) (hi:=r.Waiting.length) AB (ER _),RU (by rw[Lh];omega)]
 have U:=aZp [r.Waiting.take j,r.Waiting.drop (j+1)] BU (by
  intro x Y;rcases FP.1 Y with rfl|Y
  ·rw[Hl];omega
  rw[Je.1 Y,Lh];omega)
 have hfl:[r.Waiting.take j,r.Waiting.drop (j+1)].flatten=Fq r.Waiting r.Waiting[j].Id:=by
  rw[←aNN r.Waiting j J (UD h.qy.inc)];simp
 rw[hfl]at U;rw[h2,G6 (show ¬(j:Int)<0 by omega),BH,CQ J,Ac,hg1,Ac,wrap_succ j AB,hg2,Ac,U,Ac,O,Ac]
 have Z:Fj (n+1) r=Fj n (IB { r with Waiting:=Fq r.Waiting r.Waiting[j].Id } r.Waiting[j]).1:=by
  show(match Pj r.Events r.Waiting with
   |none=>r
   |some e=>Fj n (IB { r with Waiting:=Fq r.Waiting e.Id } e).1)=_
  rw[h1]
 rw[Z];refine .of ?_;rcases Uj { r with Waiting:=Fq r.Waiting r.Waiting[j].Id } r.Waiting[j]with⟨q1,_⟩|⟨q1,q2,q3⟩
 ·grind
 rw[q1]
 have hm:=hd.more (e:=r.Waiting[j]) (show r.Events.length<=50 by omega) hv M.2 (h.J3 _ I) (h.PX _ I) (λx Y=>by
  have :=(Hg.1 Y).2
  simpa using this) b2 q2 q3
 exact ih hm (show(Fq r.Waiting r.Waiting[j].Id).length<=n by omega) (show(DJ r.Events r.Waiting[j]).length+n<=50 by rw[Pv];omega)
theorem aKT :∀(n:Nat) (r:Bj),(Fj n r).Events.length<=r.Events.length+n
 |0,r=>ER _
 |n+1,r=>by
  unfold Fj;cases Pj r.Events r.Waiting with
  |none=>
   grind
  |some e=>
   show(Fj n (IB { r with Waiting:=Fq r.Waiting e.Id } e).1).Events.length<=_;have h1:=aKT n (IB { r with Waiting:=Fq r.Waiting e.Id } e).1
   have h2:(IB { r with Waiting:=Fq r.Waiting e.Id } e).1.Events.length<=r.Events.length+1:=by
    rcases Uj { r with Waiting:=Fq r.Waiting e.Id } e with⟨q1,_⟩|⟨q1,_⟩
    ·grind
    rw[q1];show(DJ r.Events e).length<=_;rw[Pv];omega
   omega
def aU9 {A B R}(body:(A->B->AL R)->A->B->AL R)n a b:aQ body (n+1) a b=body (aQ body n) a b:=rfl
def agn k3 r v2:wO k3 r v2=oK r k3 v2 (-1) 0:=rfl
theorem aeX v2:∀(m n:Nat),n<m->∀(r:Bj),GR r->r.Waiting.length<=n->r.Events.length+n<=50->aQ wO m r v2=some (Fj n r):=by
 intro m
 induction m with
 |zero=>
  grind
 |succ m q=>
  intro n hm r h j hl;rw[aU9,agn];cases n with
  |zero=>
   exact ahc j (aQ wO m) v2
  |succ n=>
   exact aXH (k3:=aQ wO m) (v2:=v2) (λ{r} h1 h2 h3=>q n AB r h1 h2 h3) h j hl
def aXw (h:GR r)(hl:r.Events.length+r.Waiting.length<=50):yC r=some (Fj r.Waiting.length r):=by
 unfold yC aP4;exact aeX Jl Am r.Waiting.length (fuel_lt AB) r h (ER _) hl
def aNf r id:∀(n:Nat) (a:Int) (b:F5),aQ (Vb r id) n a b=bn (λk i=>Vb r id (λj _=>k j) i LG) n a
 |0,_,_=>rfl
 |n+1,a,b=>by
  have q:aQ (Vb r id) n=λj _=>bn (λk i=>Vb r id (λj _=>k j) i LG) n j:=funext λa=>funext λb=>aNf r id n a b;show Vb r id (aQ (Vb r id) n) a b=Vb r id (λj _=>bn (λk i=>Vb r id (λj _=>k j) i LG) n j) a LG;rw[q];rfl
def Ub (r:Bj)(id:Int):F5×AY:=match NK r id with
 |some x=>(x,true)
 |none=>(LG,false)
theorem aVc r id(hl:r.Rows.length<=1000000):Yc r id=some (Ub r id):=by
 unfold Yc aUC;rw[aNf,Jh r.Rows (fuel_lt AB) (λx=>x.Id==id) (λi=>match r.Rows[i]? with |some x=>some (x,true)|none=>none) (some (LG,false))]
 ·unfold Ub NK;rw[Kw]
  grind
 ·intro k i h;unfold Vb;rw[Ch h,ES h]
 intro k;unfold Vb;rw[DR,BH]
def a8q r id:(Ub r id).1.Status=a7c r id:=by
 unfold Ub a7c NK;cases r.Rows.find? λx=>x.Id==id<;>rfl
theorem agK (h:kM e=some (z,v))(j:v≠0):Wh r e=some (r,0,v):=by
 unfold Wh
 grind
def akF (h:GR r)(hl:r.Events.length+r.Waiting.length<=48)(u:wP r x)(he:kM e=some (x,0)):Wh r e=some (Oy r x):=by
 have ho:=h.facts.ok AB;have hrl:=h.Ea;have M:∀y∈r.Events,Et y:=ho.small;have O:∀y∈r.Waiting,Et y:=λy z=>(h.qy.ev y z).2;unfold Wh Oy;rw[he,Ac];show(cond ((0:Int) != 0) _ (cond (!(x.Room.toList==r.Id.toList)) _ ((ND r.Events x.Id).bind _)))=_;rw[PW,BH,show(x.Room.toList==r.Id.toList)=decide (x.Room=r.Id)from JM];cases j:decide (x.Room=r.Id)with
 |false=>rfl
 |true=>
 have j:=Ov j;have U:∀y∈r.Events,y.Room=x.Room:=λy z=>by rw[h.own y z,j]
 have J:∀y∈r.Waiting,y.Room=x.Room:=λy z=>by rw[h.J3 y z,j]
 rw[Eu,BH,BH,OD r.Events _ AB,Ac,MF];show(cond (bP r.Events x.Id) _ _)=_;cases Y:bP r.Events x.Id with
 |true=>
  rw[BZ,BZ];show(Yc r x.Id).bind _=_;rw[aVc r _ AB,Ac];show(Vu r.Events x).bind _=_;rw[aRt AB U Y M u.small,Ac];show some ({ r with Events:=Nl r.Events x },(Ub r x.Id).1.Status,(0:Int))=_;rw[a8q]
 |false=>
 rw[BH,BH];show(ND r.Waiting x.Id).bind _=_;rw[OD r.Waiting _ AB,Ac,MF];rw[show(Eh r.Waiting x.Id).isSome=bP r.Waiting x.Id from rfl];show((cond (!bP r.Waiting x.Id) ((jP r.Events x).bind λI=>some I) (some false)).bind _)=_;rw[ready_eq _ _ AB u.small];have hx:(cond (!bP r.Waiting x.Id) ((some (Fr r.Events x)).bind λI=>some I) (some false))=some (!bP r.Waiting x.Id&&Fr r.Events x):=by cases bP r.Waiting x.Id<;>rfl
 rw[hx,Ac];cases Z:(!bP r.Waiting x.Id&&Fr r.Events x)with
 |true=>
  rw[Di]at Z;have q:bP r.Waiting x.Id=false:=by simpa using Z.1
  rw[BZ,BZ];show(pO r x).bind _=_;rw[aNv h AB u.ver u.small j Y,Ac];rcases Uj r x with⟨q1,q2⟩|⟨q1,q2,q3⟩
  ·rw[show((IB r x).2 != 0)=true by simpa using q2];rfl
  have hm:=h.more AB u.ver u.small j Y (λy z hyx=>by
   have :=Hz.2 (FB.2 ⟨y,z,hyx⟩)
   rw[q]at this;cases this) Z.2 q2 q3
  have L:(DJ r.Events x).length+r.Waiting.length<=50:=a7D
  have hs:=aXw hm L;have hg:=vI r.Waiting.length hm (ER _) L
  have hgl:(Fj r.Waiting.length (Ll r x)).Rows.length<=1000000:=by
   have h1:=hg.1.Ea;have h2:=aKT r.Waiting.length (Ll r x);have h3:(Ll r x).Events.length=r.Events.length+1:=Pv _ _;omega
  rw[q1];show(cond ((0:Int) != 0) _ ((yC (Ll r x)).bind _))=_;rw[PW,BH,hs,Ac];show(Yc (Fj r.Waiting.length (Ll r x)) x.Id).bind _=_;rw[aVc _ _ hgl,Ac,a8q];rfl
 |false=>
 rw[BH,BH]
 have hx2:(cond (!bP r.Waiting x.Id) (some (decide ((r.Waiting.length:Int)>=200))) (some false))=some (!bP r.Waiting x.Id&&(200<=r.Waiting.length)):=by
  have :decide ((r.Waiting.length:Int)>=200)=decide (200<=r.Waiting.length):=by
   by_cases h:200<=r.Waiting.length
   ·rw[IX h,IX AB]
   rw[G6 h,G6 AB]
  rw[this];cases bP r.Waiting x.Id<;>rfl
 rw[hx2,Ac];cases hfull:(!bP r.Waiting x.Id&&(200<=r.Waiting.length))with
 |true=>rfl
 |false=>
 rw[BH,BH];show(Vu r.Waiting x).bind _=_;cases q:bP r.Waiting x.Id with
 |true=>
  rw[aRt AB J q O u.small];rfl
 |false=>
  rw[aOZ AB J q];rfl
end
variable {b:AQ}
section
set_option maxRecDepth 20000
set_option maxHeartbeats 1000000
def aYS (ha:Et a):∃r,Vt a b=some r:=by
 have h1:=ha.prev;have h2:=ha.auth;unfold Vt;rw[a2r _ _ AB,a2r _ _ AB,aJ5 _ ha.content];simp only[Mc,Ac,U3];exact⟨_,rfl⟩
end
section
set_option maxRecDepth 20000
set_option maxHeartbeats 1000000
def KZ.strip (h:KZ c)k:KZ (PE k c):=by
 have j:(0:Nat)<=9223372036854775807:=FQ _;unfold PE
 repeat' split
 all_goals first|exact h|exact⟨by first|exact h.allow|exact j,by first|exact h.deny|exact j,by first|exact h.users|exact j,by first|exact h.kinds|exact j,by first|exact h.text|exact j,by first|exact h.via|exact j,by first|exact h.allows|simp[Ew],by first|exact h.denies|simp[Ew],by first|exact h.names|simp[Ew,L8]⟩
def LU.strip {e}(h:LU e):LU (Ro e):=⟨h.prev,h.auth,h.room,h.sender,h.key,h.server,h.content.strip e.Kind⟩
theorem abE (j:LU e)(hm:TY e.Content<=1048576):∃y v,kM e=some (y,v)/\fO e=some (y,v)/\(v=0->KY y=some 0/\Et y/\He e y):=by
 have q:∀x,LU x->He e x->∃y v,wS x=some (y,v)/\uZ x=some (y,v)/\(v=0->KY y=some 0/\Et y/\He e y):=λx I hs=>by
  obtain⟨c,J,u,L⟩:=a6V I;unfold wS uZ;rw[J,u,Ac];cases M:c != 0 with
  |true=>
   grind
  |false=>
   have z:c=0:=by simpa using M
   exact⟨_,_,rfl,rfl,λ_=>⟨by rw[u,z],(L z).2,hs⟩⟩
 unfold kM fO;rw[(a7l hm).1,(a7l hm).2,Ac,Ac];cases Xn e==e.Hash with
 |true=>
  exact q e j (.refl e)
 |false=>
  have h1:eI e=some (Ro e):=by unfold eI;rw[aTE _ hm];rfl
  rw[JZ,BZ,BZ,h1,aJJ,Ac,Ac];exact q _ j.strip (akM e)
def ajV (ha:Et a)(u:∃w,Rz b=some w):dK (a7W a b) (λt=>t=false->He a b):=by
 have hp:=ha.prev;have j:=ha.auth;obtain⟨r,h1,h2⟩:=aYw (a:=a) (b:=b) (ajW ha).content AB AB;obtain⟨q,j⟩:=aYS (b:=b) ha;obtain⟨w,z⟩:=u;unfold a7W;rw[aJJ,aJJ,Ac,Ac,h1,Ac];cases r with
 |false=>exact .ret λh=>H6
 |true=>
  rw[Eu,BH,(Zg ha.x).2,Ac];refine dK.bif (λ_=>?_) λ_=>.ret λ_=>(h2 rfl).2;rw[z,Ac];refine dK.bif (λ_=>?_) λ_=>.ret λ_=>(h2 rfl).2;rw[j,Ac];exact .ret λ_=>(h2 rfl).2
end
section
set_option maxRecDepth 20000
set_option maxHeartbeats 1000000
def aGk l e(hl:l.length<=1000)(j:Et e):kD l e=some (Fr l e):=by
 have h1:=j.prev;have h2:=j.auth;unfold kD Fr;rw[a07 l _ hl AB,a07 l _ hl AB,Ac,a5q,Ac,a5q];cases e.bG.all (bP l)<;>rfl
def aQV r id:∀(n:Nat) (a:Int) (b:F5),aQ (VL r id) n a b=bn (λk i=>VL r id (λj _=>k j) i LG) n a
 |0,_,_=>rfl
 |n+1,a,b=>by
  have q:aQ (VL r id) n=λj _=>bn (λk i=>VL r id (λj _=>k j) i LG) n j:=funext λa=>funext λb=>aQV r id n a b;show VL r id (aQ (VL r id) n) a b=VL r id (λj _=>bn (λk i=>VL r id (λj _=>k j) i LG) n j) a LG;rw[q];rfl
def row24 r id(hl:r.Rows.length<=1000000):YK r id=some (Ub r id):=by
 unfold YK aSd;rw[aQV,Jh r.Rows (fuel_lt AB) (λx=>x.Id==id) (λi=>match r.Rows[i]? with |some x=>some (x,true)|none=>none) (some (LG,false))]
 ·unfold Ub NK;rw[Kw];by_cases h:r.Rows.findIdx (λx=>x.Id==id)<r.Rows.length
  ·rw[ET h,ES h]
  rw[Ee h,Oe AB]
 ·intro k i h;unfold VL;rw[Ch h,ES h,CQ h];rfl
 intro k;unfold VL;rw[DR,BH]
def aRE (I:Kq l):tN l=some (GI l:Int):=by
 have hl:=I.len
 have M:(DK l).length<=1000:=by
  have h1:=BF List.length (aD4 l);rw[DY,a7z]at h1;omega
 unfold tN;rw[aEU I,Ac];unfold aNg;refine dK.eq (JJ l.length (fuel_lt AB) (λi a=>a=(((l.take i).filter (KI l)).length:Int)) rfl (λi a k hi ha J=>?_) λa k ha=>?_)
 ·have O:((l.take i).filter (KI l)).length<=i:=EC (MS ..) iZ;have q:=pK (p:=KI l) hi;obtain⟨y,L⟩:=qH (Hz.2 (FB.2 ⟨_,EU hi,rfl⟩));have U:Qk (DK l) l[i].Id=(KO y,true):=by unfold Qk;rw[L]
  have z:GX (DK l) l[i].Id=(y.err==0):=by unfold GX;rw[L]
  have j:KI l l[i]=(l[i].Kind==1&&(y.err==0)):=by unfold KI;rw[z]
  have u:KI l l[i]=false->dK (Yx k (i:Int) a) (λx=>x=(GI l:Int)):=λhm=>by
   rw[hm]at q;unfold Yx;rw[wrap_succ i AB];exact J _ (by rw[ha,q];simp)
  unfold aBy;rw[Ch hi,fQ _ _ AB,Ac,CQ hi,Ac,U];cases h1:l[i].Kind==1 with
  |false=>
   rw[h1,xk]at j;exact u j
  |true=>
   rw[h1,GZ]at j;show dK (cond (y.err==0) (Yx k (i:Int) (Au (a+1))) (Yx k (i:Int) a)) _;cases h2:y.err==0 with
   |false=>rw[h2]at j;exact u j
   |true=>
    rw[h2]at j;rw[j]at q;rw[BZ];unfold Yx;rw[wrap_succ i AB,ha,wrap_succ _ AB];exact J _ (by rw[q];simp)
 unfold aBy;rw[DR,BH,ha,Gw];exact .ret rfl
def aNB r ids(i:Nat)(q:r.Rows.length<=1000000)(hi:ids.length<=1000000):a0s r ids (i:Int)=some (ids.all (Ry r i)):=by
 unfold a0s aTR;rw[H7 ids (fuel_lt AB) (λx=> !Ry r i x) false (some true) (λk j u=>?_) λk=>?_]
 ·rw[qN];cases ids.all (Ry r i)<;>rfl
 ·unfold aDB;rw[Ch u,row24 _ _ q,Ac];unfold Ry Ub;cases NK r ids[j]with
  |none=>rfl
  |some x=>
   show((cond (!true) (some true) (some (decide (x.Pos>=(i:Int))))).bind λz=>bif z then some false else k (Au ((j:Int)+1)))=bif !decide (x.Pos<(i:Int))then some false else k (Au ((j:Int)+1))
   rw[←a5i];rfl
 unfold aDB;rw[DR,BH]
def aXE (hc:KN r.Events=some 0)(hF:MG r.Events)(hd:Hf r.Events=0)(hl:r.Events.length<=100)(hr:r.Rows.length<=1000):a5n r=some (XH r):=by
 have Z:=hF.ok hl;obtain⟨t1,_,t3⟩:=a1q hc λ_=>Z;rw[QN hd]at t1 t3;unfold a5n;rw[aRE Z,Ac]
 have hx:((cond ((r.Rows.length:Int) != (r.Events.length:Int)) (some true) (some (r.Next != (r.Rows.length:Int)))).bind λx1=>(cond x1 (some true) (some (decide ((GI r.Events:Int)>1)))))=some (!(((r.Rows.length==r.Events.length)&&(r.Next==(r.Rows.length:Int)))&&(GI r.Events<=1))):=by
  have e1:((r.Rows.length:Int) != (r.Events.length:Int))= !(r.Rows.length==r.Events.length):=by
   by_cases h:r.Rows.length=r.Events.length
   ·rw[h];simp
   rw[show(r.Rows.length==r.Events.length)=false by simpa using h,JZ,bne_iff_ne];omega
  have e2:decide ((GI r.Events:Int)>1)= !decide (GI r.Events<=1):=by
   by_cases h:GI r.Events<=1
   ·rw[IX h,G6 AB];rfl
   rw[G6 h,IX AB];rfl
  rw[e1,e2];cases r.Rows.length==r.Events.length with
  |false=>rfl
  |true=>
   show(cond (r.Next != (r.Rows.length:Int)) _ _)=_;cases J:r.Next==(r.Rows.length:Int)with
   |false=>rw[show(r.Next != (r.Rows.length:Int))=true by simpa[bne]using J];rfl
   |true=>rw[show(r.Next != (r.Rows.length:Int))=false by simpa[bne]using J];rfl
 have hx':∀{F:AY->AL AY},(((cond ((r.Rows.length:Int) != (r.Events.length:Int)) (some true) (some (r.Next != (r.Rows.length:Int)))).bind λx1=>(cond x1 (some true) (some (decide ((GI r.Events:Int)>1)))).bind F))=F (!(((r.Rows.length==r.Events.length)&&(r.Next==(r.Rows.length:Int)))&&(GI r.Events<=1))):=λ{F}=>by
  rw[←Option.bind_assoc,hx];rfl
 refine Eq.trans hx' ?_;unfold XH;cases J:(((r.Rows.length==r.Events.length)&&(r.Next==(r.Rows.length:Int)))&&(GI r.Events<=1))with
 |false=>rfl
 |true=>
  rw[Eu,BH,t1,Ac,GZ,←akm];unfold aSw;refine dK.eq (ay r.Rows.length (fuel_lt AB) (λi=>∀j (L:j<r.Rows.length),j<i->WV r j r.Rows[j]=true) (λj L h=>absurd h (Zu _)) (λi k hi hI hk=>?_) λk hI=>?_)
  ·have u:WV r i r.Rows[i]=false->dK (some false) (λx=>x=fD r):=λJ=>by
    refine .ret ?_;cases hz:fD r with
    |false=>rfl
    |true=>
     unfold fD at hz;rw[jV.1 hz i hi]at J;cases J
   have z:WV r i r.Rows[i]=true->dK (k (Au ((i:Int)+1))) (λx=>x=fD r):=λJ=>by
    rw[wrap_succ i AB];refine hk λj L hji=>?_;by_cases e:j=i
    ·subst e;exact J
    exact hI j L AB
   have hev:(Ii r.Events r.Rows[i].Id).1=ev r.Events r.Rows[i].Id:=rfl
   have hsm:(ev r.Events r.Rows[i].Id).bG.length<=1000/\(ev r.Events r.Rows[i].Id).bI.length<=1000:=by
    have :=a4p Z.small r.Rows[i].Id;have h1:=this.prev;have h2:=this.auth;omega
   unfold aI2;rw[Ch hi,row24 _ _ AB,Ac,MI _ _ AB,Ac,fQ _ _ AB,Ac,hev,aNB r _ i AB AB,aNB r _ i AB AB,MF,aOi];simp only[Ac];rw[show(Eh r.Events r.Rows[i].Id).isSome=bP r.Events r.Rows[i].Id from rfl]
   have M:(Ub r r.Rows[i].Id).1.Pos=((NK r r.Rows[i].Id).map (·.Pos)).getD 0:=by
    unfold Ub;cases NK r r.Rows[i].Id<;>rfl
   rw[M];have I:WV r i r.Rows[i]=(bP r.Events r.Rows[i].Id&&(r.Rows[i].Pos==(i:Int)&&(((NK r r.Rows[i].Id).map (·.Pos)).getD 0==(i:Int)&&(((ev r.Events r.Rows[i].Id).bG.all (Ry r i)&&(ev r.Events r.Rows[i].Id).bI.all (Ry r i))&&Sl r r.Rows[i])))):=rfl;cases c1:bP r.Events r.Rows[i].Id with
   |false=>exact u (by rw[I,c1];rfl)
   |true=>
   cases O:r.Rows[i].Pos==(i:Int)with
   |false=>
    rw[show(r.Rows[i].Pos != (i:Int))=true by simpa[bne]using O];exact u (by rw[I,O];simp)
   |true=>
   rw[show(r.Rows[i].Pos != (i:Int))=false by simpa[bne]using O];cases U:((NK r r.Rows[i].Id).map (·.Pos)).getD 0==(i:Int)with
   |false=>
    rw[show(((NK r r.Rows[i].Id).map (·.Pos)).getD 0 != (i:Int))=true by simpa[bne]using U];exact u (by rw[I,U];simp)
   |true=>
   rw[show(((NK r r.Rows[i].Id).map (·.Pos)).getD 0 != (i:Int))=false by simpa[bne]using U];cases c4:(ev r.Events r.Rows[i].Id).bG.all (Ry r i)with
   |false=>exact u (by rw[I,c4];simp)
   |true=>
   cases c5:(ev r.Events r.Rows[i].Id).bI.all (Ry r i)with
   |false=>exact u (by rw[I,c5];simp)
   |true=>
   have hst:Sl r r.Rows[i]=(((errOf (DK r.Events) r.Rows[i].Id != 0)==(r.Rows[i].Status==2))&&((r.Rows[i].Status==2||r.Rows[i].Status==3)||r.Rows[i].Status==4)):=by
    unfold Sl;rw[aN6 c1];rfl
   have q:WV r i r.Rows[i]=Sl r r.Rows[i]:=by rw[I,c1,O,U,c4,c5];rfl
   rw[hst]at q;show dK ((cond (!((errOf (DK r.Events) r.Rows[i].Id != 0)==(r.Rows[i].Status==2))) (some true) ((cond (r.Rows[i].Status != 2) (some (r.Rows[i].Status != 3)) (some false)).bind λx28=>(cond x28 (some (r.Rows[i].Status != 4)) (some false)).bind λx30=>some x30)).bind λx26=>(cond x26 (some false) (k (Au ((i:Int)+1))))) _;cases c6:(errOf (DK r.Events) r.Rows[i].Id != 0)==(r.Rows[i].Status==2)with
   |false=>rw[c6]at q;exact u q
   |true=>
   rw[c6,GZ]at q;unfold bne;cases Y:r.Rows[i].Status==2 with
   |true=>rw[Y]at q;exact z q
   |false=>
   cases c8:r.Rows[i].Status==3 with
   |true=>rw[Y,c8]at q;exact z q
   |false=>
   cases c9:r.Rows[i].Status==4 with
   |true=>rw[Y,c8,c9]at q;exact z q
   |false=>rw[Y,c8,c9]at q;exact u q
  unfold aI2;rw[DR,BH];refine .ret ?_;unfold fD;exact(jV.2 λj L=>hI j L L).symm
end
variable {a b:AA BK}
section
set_option maxRecDepth 20000
set_option maxHeartbeats 1000000
theorem aPW (z:∀e∈l,LU e)(hl:l.length<=100):dK (a0E r l) (λc=>c=0->KN l=some 0/\MG l/\∀x∈l,x.Room=r.Id):=by
 obtain⟨c,_,I,J⟩:=aVD z hl;unfold a0E;rw[I,Ac];refine dK.bif (λq=>?_) λq=>.ret λh=>?_
 ·obtain rfl:c=0:=eq_of_beq q;have u:=J rfl;refine dK.bif (λh1=>?_) λh1=>.ret λ_=>⟨rfl,u,?_⟩
  ·have j:0<l.length:=by have :=Ov h1;omega
   rw[show Ak l 0=some l[0]from CQ j,Ac];unfold uT;refine dK.bif (λ_=>.ret λh=>H6) λh2=>.ret λ_=>⟨rfl,u,λx L=>?_⟩
   have :l[0].Room=r.Id:=toList_inj LP;rw[u.room x L _ (EU j),this]
  grind
 have h:c=0:=h;rw[h]at q;cases q
def ab4 (J:∀e∈r.Waiting,LU e)(hl:r.Events.length<=100)(j:r.Waiting.length<=100):dK (a6W r) (λc=>c=0->KN r.Waiting=some 0/\MG r.Waiting/\(∀x∈r.Waiting,x.Room=r.Id)/\(∀x∈r.Waiting,bP r.Events x.Id=false)/\TU r):=by
 unfold a6W;refine(aPW (r:=r) J j).bind λc L=>dK.bif (λh=>.ret λq=>?_) λh=>?_
 ·have q:c=0:=q;rw[q]at h;cases h
 obtain rfl:c=0:=Oa
 obtain⟨M,I,O⟩:=L rfl;have u:∀e∈r.Waiting,Et e:=λe U=>(I.ev e U).2
 have h2:aIx r 0=bif r.Waiting.any (Fr r.Events)then some 26 else some 0:=by
  unfold aIx;refine H7 r.Waiting (fuel_lt AB) (Fr r.Events) 26 (some 0) (λk i hi=>?_) λk=>?_
  ·unfold aDz;rw[Ch hi,aGk _ _ AB (u _ (EU hi)),Ac]
  unfold aDz;rw[DR,BH,G6 AB,BH]
 unfold aLF;rw[H7 r.Waiting (fuel_lt AB) (λx=>bP r.Events x.Id) 4 (cond (r.Waiting.any (Fr r.Events)) (some 26) (some 0)) (λk i hi=>?_) λk=>?_]
 ·refine dK.bif (λ_=>.ret λh=>H6) λY=>dK.bif (λ_=>.ret λh=>H6) λZ=>.ret λ_=>⟨M,I,O,λx z=>?_,λx z=>?_⟩
  ·have :=Ws.1 Y x z;simpa using this
  have :=Ws.1 Z x z;simpa using this
 ·unfold aIR;rw[Ch hi,MI _ _ AB,Ac,MF];rfl
 unfold aIR;rw[DR,BH,h2]
theorem aYh {a b}(ha:a.length<=1000):dK (Zl a b) (λc=>c=true->a=b):=by
 unfold Zl;refine dK.bif (λ_=>.ret λh=>H6) λh=>?_
 have j:a.length=b.length:=by
  grind
 unfold aBr
 rw[W9 (λx y:Int=>x==y) a b ha j false (some true) (λk i h h'=>by
  unfold vk
  rw[dec_lt h,BZ,CQ h,CQ h',Ac,Ac];rfl) λk=>by
  unfold vk
  rw[DR,BH]]
 refine dK.bif (λ_=>.ret λh=>H6) λq=>.ret λ_=>?_;refine aAJ (p:=λx y:Int=>x==y) (λx y h=>eq_of_beq h) ?_;unfold NY
 grind
def WW (x y:BK):AY:=(x.Kind==y.Kind)&&((x.Key.toList==y.Key.toList)&&(x.Id==y.Id))
def ajm {x y}(h:WW x y=true):x=y:=by
 unfold WW at h;simp only[Di,NP]at h;obtain⟨h1,h2,h3⟩:=h;cases x;cases y;simp only at *;rw[h1,toList_inj h2,h3]
theorem aZc (ha:a.length<=1000):dK (Xu a b) (λc=>c=true->a=b):=by
 unfold Xu;refine dK.bif (λ_=>.ret λh=>H6) λh=>?_
 have j:a.length=b.length:=by
  grind
 unfold a5j
 rw[W9 WW a b ha j false (some true) (λk i h h'=>by
  unfold ZP jY WW;rw[dec_lt h,BZ,CQ h,CQ h',Ac,Ac];unfold bne;cases a[i].Kind==b[i].Kind with
  |false=>rfl
  |true=>
   simp only[Ac];cases a[i].Key.toList==b[i].Key.toList with
   |false=>rfl
   |true=>cases a[i].Id==b[i].Id<;>rfl) λk=>by
  unfold ZP
  rw[DR,BH]]
 refine dK.bif (λ_=>.ret λh=>H6) λq=>.ret λ_=>?_;refine aAJ (p:=WW) (λx y h=>ajm h) ?_;unfold NY
 grind
theorem aYg (L:r.Id.size<=9223372036854775807)(hw:∀e∈r.Events,LU e)(M:∀e∈r.Waiting,LU e)(hl:r.Events.length<=100)(O:r.Waiting.length<=100)(U:r.Rows.length<=1000)(Y:r.uP.length<=1000)(Z:r.State.length<=1000):
 dK (lF r) (λc=>c=0->GR r/\TU r):=by
 unfold lF;rw[(jR L).2,Ac];refine dK.bif (λ_=>.ret λh=>H6) λh1=>?_;have h1:TA r.Id=0:=V9
 refine(aPW (r:=r) hw hl).bind λc hc=>dK.bif (λh=>?_) λh=>?_
 ·obtain rfl:c=0:=eq_of_beq h;obtain⟨J,g2,g3⟩:=hc rfl;have z:=g2.ok hl;rw[aCs _ hl z.small z.dep,Ac];unfold vM;refine dK.bif (λh2=>.ret λI=>?_) λh2=>?_
  ·grind
  have hd:Hf r.Events=0:=LP
  rw[aXE J g2 hd hl U,Ac];refine dK.bif (λ_=>.ret λh=>H6) λh3=>?_;have h3:XH r=true:=YL
  refine(ab4 M hl O).bind λw hwt=>dK.bif (λh4=>.ret λI=>?_) λh4=>?_
  ·have I:w=0:=I
   grind
  obtain rfl:w=0:=by simpa using h4
  obtain⟨w1,w2,w3,w4,w5⟩:=hwt rfl;obtain⟨t1,t2,t3⟩:=a1q J λ_=>z;rw[QN hd]at t1 t2 t3;have hal:=Y6 r.Events (DK r.Events)
  have j:a8G r.Events=some (Jk r.Events (Gx r.Events (DK r.Events))):=by
   unfold a8G XC;rw[t1,Ac,aHB _ _ AB AB,Ac,aHh _ _ AB z.small AB];rfl
  have q:=aj9 J (λ_=>z) hl z.small;rw[QN hd]at q;rw[j,Ac];refine(aYh (b:=Jk r.Events (Gx r.Events (DK r.Events))) Y).bind λs hs=>dK.bif (λ_=>.ret λh=>H6) λh5=>?_;have h5:=hs (by simpa using h5);rw[q,Ac];refine(aZc (b:=OA r.Events (DK r.Events)) Z).bind λu hu=>?_;unfold a4l;refine dK.bif (λ_=>.ret λh=>H6) λh6=>.ret λ_=>?_;have h6:=hu (by simpa using h6);exact⟨akg h1 J g2 g3 hd w1 w2 w3 w4 AB h5 h6 h3,w5⟩
 unfold vM;refine dK.bif (λ_=>.ret λI=>?_) λh2=>?_
 ·have I:c=0:=I
  grind
 grind
end
section
set_option maxRecDepth 20000
set_option maxHeartbeats 1000000
def aTB :a6X=some true:=A8
def WS {body}(l:AA α)(hl:l.length<=1000)(rest:AL AY)(j:∀k (i:Nat) (h:i<l.length),body k (i:Int)=k (Au ((i:Int)+1)))(q:∀k,body k (l.length:Int)=rest):bn body Am 0=rest:=by
 have key:∀n (i:Nat),i+n=l.length->∀m,n<m->bn body m (i:Int)=rest:=by
  intro n
  induction n with
  |zero=>
   intro i hi m hm;obtain⟨m,rfl⟩:∃k,m=k+1:=⟨m-1,AB⟩
   rw[show i=l.length by omega];exact q _
  |succ n u=>
   intro i hi m hm;obtain⟨m,rfl⟩:∃k,m=k+1:=⟨m-1,AB⟩
   have :=j (bn body m) i AB;rw[wrap_succ i AB]at this;exact this.trans (u (i+1) AB m AB)
 exact key l.length 0 AB Am (fuel_lt AB)
def Vg (n:Int):(n != n)=false:=BU
def aOp {l}(h:l.length<=1000):kZ l l=some true:=by
 unfold kZ aCh;rw[Vg,BH];exact WS l h _ (λk i h=>by simp only[a0C,dec_lt h,BZ,CQ h,Ac,PW,BH]) (λk=>by simp only[a0C,DR,BH])
def aQX {l}(h:l.length<=1000):Uz l l=some true:=by
 unfold Uz a7h;rw[Vg,BH];exact WS l h _ (λk i h=>aQG) (λk=>aEu)
def ai0 {l}(h1:l.Users.length<=1000)(h2:l.Kinds.length<=1000):XP l l=some true:=by
 have h3:bT l l 0=some true:=by
  unfold bT;exact WS l.Kinds h2 _ (λk i h=>by simp only[nH,dec_lt h,BZ,CQ h,Ac,PW,BH,um]) (λk=>by simp only[nH,DR,BH,MC,BZ,Ac])
 unfold XP;rw[Vg,Vg,BH,Ac,BH];unfold a0S;exact WS l.Users h1 _ (λk i h=>by simp only[mG,dec_lt h,BZ,CQ h,Ac,MC,Eu,PW,BH,a0k]) (λk=>by simp only[mG,DR,BH];exact h3)
def adC (h1:c.Allow.length<=1000)(h2:c.iD.length<=1000)(h3:c.Levels.Users.length<=1000)(j:c.Levels.Kinds.length<=1000):VJ c c=some true:=by
 unfold VJ;simp only[MC,BZ,Ac,aQX h1,aQX h2,ai0 h3 j]
def acC (h:Et e):Vt e e=some true:=by
 have :=h.prev;have :=h.auth;have h1:=h.allow;have h2:=h.deny;have h3:=h.users;have j:=h.kinds;unfold Vt;simp only[MC,BZ,Ac,aOp (l:=e.bG) AB,aOp (l:=e.bI) AB,adC (c:=e.Content) AB AB AB AB]
def aP9 (h:l.length<=1000)(hs:∀e∈l,Et e):a1Q l l=some true:=by
 unfold a1Q aVz;rw[Vg,BH];exact WS l h _ (λk i h=>by simp only[aJy,dec_lt h,BZ,CQ h,Ac,acC (hs _ (EU h)),Eu,BH]) (λk=>by simp only[aJy,DR,BH])
def akH {l}(h:l.length<=1000):a6H l l=some true:=by
 unfold a6H aRy;rw[Vg,BH];exact WS l h _ (λk i h=>by simp only[aFv,dec_lt h,BZ,CQ h,Ac,aB4,MC,LZ,Eu,BH]) (λk=>by simp only[aFv,DR,BH])
def aVv {l}(h:l.length<=1000):Zl l l=some true:=by
 unfold Zl aBr;rw[Vg,BH];exact WS l h _ (λk i h=>by simp only[vk,dec_lt h,BZ,CQ h,Ac,PW,BH]) (λk=>by simp only[vk,DR,BH])
def aSh {l}(h:l.length<=1000):Xu l l=some true:=by
 unfold Xu a5j;rw[Vg,BH];exact WS l h _ (λk i h=>by simp only[ZP,jY,dec_lt h,BZ,CQ h,Ac,PW,MC,Eu,BH]) (λk=>by simp only[ZP,DR,BH])
def ael (h1:r.jK.length<=1000)(h2:r.nU.length<=1000):a8L r r=some true:=by
 have h3:aCU r r 0=some true:=by
  unfold aCU;exact WS r.nU h2 _ (λk i h=>by simp only[aJf,dec_lt h,BZ,CQ h,Ac,a8O,MC,LZ,Eu,BH]) (λk=>by simp only[aJf,DR,BH])
 unfold a8L;rw[Vg,Vg,BH,Ac,BH];unfold aPo;exact WS r.jK h1 _ (λk i h=>by simp only[aFo,dec_lt h,BZ,CQ h,Ac,a7g,MC,LZ,Eu,BH]) (λk=>by simp only[aFo,DR,BH];exact h3)
def aZs (h:GR r)(hl:r.Events.length<=50)(J:r.Waiting.length<=1000)(h1:r.jK.length<=1000)(h2:r.nU.length<=1000):a3L r r=some true:=by
 have q:=h.facts.ok AB;have hp:=vP (l:=r.Events) (c:=0) λ_=>q;rw[QN h.deep,←h.state]at hp;have u:=hp.length;have z:=h.Ea
 have I:r.uP.length<=r.Events.length:=by
  rw[h.heads];exact EC (a02 _ _) (Y6 _ _)
 unfold a3L;simp only[MC,BZ,Ac,aP9 (l:=r.Events) AB λe j=>(h.facts.ev e j).2,aP9 (l:=r.Waiting) AB λe j=>(h.qy.ev e j).2,akH (l:=r.Rows) AB,aVv (l:=r.uP) AB,aSh (l:=r.State) AB,ael h1 h2]
theorem aH9 {P:AQ->Prop}:∀(n:Nat) {r:Bj},(∀z∈r.Events,P z)->(∀z∈r.Waiting,P z)->(∀z∈(Fj n r).Events,P z)/\(∀z∈(Fj n r).Waiting,P z)/\(Fj n r).Events.length+(Fj n r).Waiting.length<=r.Events.length+r.Waiting.length/\(Fj n r).jK=r.jK/\(Fj n r).nU=r.nU
 |0,r,h1,h2=>⟨h1,h2,ER _,rfl,rfl⟩
 |n+1,r,h1,h2=>by
  unfold Fj;cases I:Pj r.Events r.Waiting with
  |none=>
   grind
  |some e=>
   obtain⟨u,J⟩:=y8 I;have hd:=Rch u;have j:∀z∈Fq r.Waiting e.Id,P z:=λz q=>h2 z (Hg.1 q).1;show(∀z∈(Fj n (IB { r with Waiting:=Fq r.Waiting e.Id } e).1).Events,P z)/\(∀z∈(Fj n (IB { r with Waiting:=Fq r.Waiting e.Id } e).1).Waiting,P z)/\(Fj n (IB { r with Waiting:=Fq r.Waiting e.Id } e).1).Events.length+(Fj n (IB { r with Waiting:=Fq r.Waiting e.Id } e).1).Waiting.length<=_/\(Fj n (IB { r with Waiting:=Fq r.Waiting e.Id } e).1).jK=_/\(Fj n (IB { r with Waiting:=Fq r.Waiting e.Id } e).1).nU=_;rcases Uj { r with Waiting:=Fq r.Waiting e.Id } e with⟨q1,_⟩|⟨q1,_,_⟩
   ·rw[q1];obtain⟨a,b,c,d,f⟩:=aH9 n (r:={ r with Waiting:=Fq r.Waiting e.Id }) h1 j;exact⟨a,b,EC c (by show r.Events.length+(Fq r.Waiting e.Id).length<=_;omega),d,f⟩
   rw[q1]
   obtain⟨a,b,c,d,f⟩:=aH9 n (r:=Ll { r with Waiting:=Fq r.Waiting e.Id } e) (λz q=>by
    rcases Og.1 q with rfl|q
    ·exact h2 z u
    exact h1 z q) j
   exact⟨a,b,EC c (by show(DJ r.Events e).length+(Fq r.Waiting e.Id).length<=_;rw[Pv];omega),d,f⟩
theorem aMC l x:(Nl l x).length=l.length:=by
 unfold Nl
 grind
def ajf {P:AQ->Prop}(h1:∀z∈r.Events,P z)(h2:∀z∈r.Waiting,P z)(I:P x):(∀z∈(Oy r x).1.Events,P z)/\(∀z∈(Oy r x).1.Waiting,P z)/\(Oy r x).1.Events.length+(Oy r x).1.Waiting.length<=r.Events.length+r.Waiting.length+1/\(Oy r x).1.jK=r.jK/\(Oy r x).1.nU=r.nU:=by
 have j:(∀z∈r.Events,P z)/\(∀z∈r.Waiting,P z)/\r.Events.length+r.Waiting.length<=r.Events.length+r.Waiting.length+1/\r.jK=r.jK/\r.nU=r.nU:=⟨h1,h2,Nat.le_succ _,rfl,rfl⟩
 have q:∀l:AA AQ,(∀z∈l,P z)->∀z∈Nl l x,P z:=λl hl z j=>by
  rcases ZT j with j|rfl
  ·exact hl z j
  exact I
 have u:∀l:AA AQ,(∀z∈l,P z)->∀z∈DJ l x,P z:=λl hl z j=>by
  rcases Og.1 j with rfl|j
  ·exact I
  exact hl z j
 unfold Oy;cases M:decide (x.Room=r.Id)with
 |false=>exact j
 |true=>
 rw[Eu,BH];cases O:bP r.Events x.Id with
 |true=>exact⟨q _ h1,h2,by show(Nl r.Events x).length+r.Waiting.length<=_;rw[aMC];omega,rfl,rfl⟩
 |false=>
 rw[BH];cases U:(!bP r.Waiting x.Id&&Fr r.Events x)with
 |true=>
  rw[BZ];rcases Uj r x with⟨J,L⟩|⟨J,L,Y⟩
  ·rw[show((IB r x).2 != 0)=true by simpa using L,BZ];exact j
  rw[J];obtain⟨a,b,c,d,f⟩:=aH9 (P:=P) r.Waiting.length (r:=Ll r x) (u _ h1) h2;exact⟨a,b,EC c (by show(DJ r.Events x).length+r.Waiting.length<=_;rw[Pv];omega),d,f⟩
 |false=>
 rw[BH];cases Z:(!bP r.Waiting x.Id&&(200<=r.Waiting.length))with
 |true=>exact j
 |false=>
  rw[BH];cases c6:bP r.Waiting x.Id with
  |true=>exact⟨h1,q _ h2,by show r.Events.length+(Nl r.Waiting x).length<=_;rw[aMC];omega,rfl,rfl⟩
  |false=>exact⟨h1,u _ h2,by show r.Events.length+(DJ r.Waiting x).length<=_;rw[Pv];omega,rfl,rfl⟩
theorem amQ r:dK (mM r) (λb=>b=true->r.Events.length<=12/\r.Waiting.length<=8/\r.Rows.length<=30/\r.uP.length<=30/\r.State.length<=60/\r.jK.length<=30/\r.nU.length<=30):=by
 unfold mM;simp only[Mc,Ac,U3];refine .ret λh=>?_
 grind
def ahH (hl:l.length<=1000)(hs:∀z∈l,Et z)(Z:∃w,Rz e=some w):dK (rP (e::l)) (λb=>b=true->∀z∈l,z.Id=e.Id->He z e):=by
 have hlen:(e::l).length=l.length+1:=Gh
 have u:∀j (I:j<(e::l).length),∃w,Rz (e::l)[j]=some w:=λj I=>by
  match j,I with
  |0,_=>exact Z
  |j+1,I=>exact⟨_,(Zg (hs _ (EU AB)).x).2⟩
 unfold rP aLu;refine ay (e::l).length (fuel_lt AB) (λn=>∀a,(ha:a<l.length)->a+1<n->l[a].Id=e.Id->He l[a] e) (λa _ h=>absurd h (Zu _)) (λi f hi O hf=>?_) λf O=>?_
 ·unfold aCl;rw[dec_lt hi,BZ];unfold aTt;refine ay i (fuel_lt AB) (λn=>∀a,(ha:a<l.length)->a+1=i->0<n->l[a].Id=e.Id->He l[a] e) (λa _ _ h=>absurd h (Nat.lt_irrefl _)) (λj g I U hg=>?_) λg U=>?_
  ·have J:j<(e::l).length:=AB
   have Y:∃a,∃ha:a<l.length,i=a+1:=⟨i-1,AB,AB⟩
   obtain⟨a,ha,rfl⟩:=Y
   have L:(j=0->l[a].Id=e.Id->He l[a] e)->dK (a1W g (j:Int) false) (λb=>b=true->∀z∈l,z.Id=e.Id->He z e):=λh=>by
    unfold a1W;rw[BH,wrap_succ j AB];refine hg λb hb hba _ q=>?_;obtain rfl:b=a:=AB
    by_cases M:j=0
    ·exact h M q
    exact U b hb rfl AB q
   unfold aGP;rw[dec_lt I,BZ,CQ hi,CQ J];simp only[Ac];refine dK.bif (λ_=>?_) λc=>L λM q=>?_
   ·refine(ajV (hs _ (EU ha)) (u j J)).bind λt ht=>?_;cases t with
    |true=>exact .ret λh=>H6
    |false=>
     refine L λM _=>?_;subst M;exact ht rfl
   subst M;have c:(l[a].Id==e.Id)=false:=c;rw[q]at c;simp at c
  unfold aGP;rw[G6 (show ¬(i:Int)<(i:Int) by omega),BH,wrap_succ i AB];refine hf λa ha hai q=>?_;by_cases h:a+1=i
  ·exact U a ha h AB q
  exact O a ha AB q
 unfold aCl;rw[DR,BH];refine .ret λ_ z hz q=>?_;obtain⟨a,ha,rfl⟩:=GY hz;exact O a ha AB q
structure aE6 (r:Bj) (e:AQ):Prop where
 id:r.Id.size<=9223372036854775807
 ev:∀x∈r.Events,LU x
 evW:∀x∈r.Waiting,LU x
 wide:LU e
 atw:TY e.Content<=1048576
def aln (h:aE6 r e)(f:AY->AL AY)(Y:f true=some true)(hf:GR r->TU r->r.Events.length<=12->r.Waiting.length<=8->r.jK.length<=30->r.nU.length<=30->(∀y v,kM e=some (y,v)->fO e=some (y,v)->(v=0->wP r y)->f false=some true)):
 ((mM r).bind λq=>(cond (!q) (f true) ((lF r).bind λu=>(cond (u != 0) (f true) ((D5 376 [e] r.Events).bind λI=>(D5 376 I r.Waiting).bind λJ=>(rP J).bind λL=>f (!L))))))=some true:=by
 have key:dK ((mM r).bind λq=>(cond (!q) (f true) ((lF r).bind λu=>(cond (u != 0) (f true) ((D5 376 [e] r.Events).bind λI=>(D5 376 I r.Waiting).bind λJ=>(rP J).bind λL=>f (!L)))))) (· =true):=by
  refine(amQ r).bind λb hb=>dK.bif (λ_=>.of Y) λh1=>?_;obtain⟨b1,b2,b3,b4,b5,b6,b7⟩:=hb V9;refine(aYg h.id h.ev h.evW AB AB AB AB AB).bind λc hc=>dK.bif (λ_=>.of Y) λh2=>?_;obtain⟨M,Z⟩:=hc LP;rw[Dw G7,Ac,Dw VH,Ac]
  have hsm:∀z∈r.Events++r.Waiting,Et z:=λz j=>by
   rcases Ia.1 j with j|j
   ·exact(M.facts.ev z j).2
   exact(M.qy.ev z j).2
  refine(ahH (e:=e) (l:=r.Events++r.Waiting) LV hsm ⟨_,(a7l h.atw).2⟩).bind λa ha=>?_;cases a with
  |false=>exact .of Y
  |true=>
   have ha:=ha rfl;obtain⟨y,v,q1,q2,q3⟩:=abE h.wide h.atw;refine .of (hf M Z b1 b2 b6 b7 y v q1 q2 λhv=>?_);obtain⟨g1,g2,U⟩:=q3 hv;exact⟨g1,g2,λz j O=>(ha z (Ia.2 (.inl j)) (O.trans U.id)).trans U,λz j O=>(ha z (Ia.2 (.inr j)) (O.trans U.id)).trans U⟩
 exact key.eq
end
section
set_option maxRecDepth 20000
set_option maxHeartbeats 1000000
theorem acR (l:AA AQ)e(hl:l.length<=1000):∀i,i<=l.length->∀d,d<=l.length-i->∀m,d<m->aQ (Vm (i:Int) e) m ((i+d:Nat):Int) (l.take (i+d)++(l++[e]).getD (i+d) Eo::l.drop (i+d))=some (l.take i++e::l.drop i,0):=by
 intro i z d
 induction d with
 |zero=>
  intro _ m hm;obtain⟨m,rfl⟩:∃I,m=I+1:=⟨m-1,AB⟩
  show Vm (i:Int) e (aQ (Vm (i:Int) e) m) _ _=_;generalize aQ (Vm (i:Int) e) m=k;unfold Vm;rw[show decide (((i+0:Nat):Int)>(i:Int))=false by simp];simp only[BH,QB];have hlen:i<(l.take i++(l++[e]).getD i Eo::l.drop i).length:=Ei
  rw[CQ hlen,Ac,Uu,a5w _ _ _ hlen];simp[aIS,aBo,lI z]
 |succ d L=>
  intro hd m hm;obtain⟨m,rfl⟩:∃I,m=I+1:=⟨m-1,AB⟩
  have u:=L AB m AB;show Vm (i:Int) e (aQ (Vm (i:Int) e) m) _ _=_;generalize aQ (Vm (i:Int) e) m=k at u ⊢;unfold Vm;rw[show decide (((i+(d+1):Nat):Int)>(i:Int))=true by simp;omega];simp only[BZ];have w:Au (((i+(d+1):Nat):Int)-1)=((i+d:Nat):Int):=OW
  have j:i+d<l.length:=AB
  have h1:i+d<(l.take (i+(d+1))++(l++[e]).getD (i+(d+1)) Eo::l.drop (i+(d+1))).length:=Ei
  have h2:i+(d+1)<(l.take (i+(d+1))++(l++[e]).getD (i+(d+1)) Eo::l.drop (i+(d+1))).length:=Ei
  rw[w,CQ h1,Ac,CQ h2,Ac]
  have M:(l.take (i+(d+1))++(l++[e]).getD (i+(d+1)) Eo::l.drop (i+(d+1)))[i+d]=l[i+d]:=by
   grind
  rw[M,Uu,a5w _ _ _ h2]
  have q:(l.take (i+(d+1))++(l++[e]).getD (i+(d+1)) Eo::l.drop (i+(d+1))).take (i+(d+1))++l[i+d]::(l.take (i+(d+1))++(l++[e]).getD (i+(d+1)) Eo::l.drop (i+(d+1))).drop (i+(d+1)+1)=l.take (i+d)++(l++[e]).getD (i+d) Eo::l.drop (i+d):=by
   have J:(l.take (i+(d+1))).length=i+(d+1):=Ei
   rw[(a3w _ _ _ J).1,(a3w _ _ _ J).2];have h3:(l++[e]).getD (i+d) Eo=l[i+d]:=by simp[List.getD,KH j,j]
   rw[h3,show i+(d+1)=i+d+1 by omega,MX j,Nc j,JK];rfl
  rw[q];exact u
def aYb (hl:l.length<=1000)(O:l.any (UU e)=false)(U:bP l e.Id=false):VI l e=some (DJ l e,0):=by
 have j:∀i,i<=l.length->(D5 376 l [e]).bind (λu=>aHF (i:Int) e (Au ((u.length:Int)-1)) u)=some (l.take i++e::l.drop i,0):=λi hi=>by
  rw[Dw G7,Ac]
  have Y:Au (((l++[e]).length:Int)-1)=((i+(l.length-i):Nat):Int):=by
   rw[Ef,OC,ZN];omega
  have :=acR l e hl i hi (l.length-i) (ER _) Am (fuel_lt AB);unfold aHF;rw[Y];rw[show i+(l.length-i)=l.length by omega]at this ⊢;have Z:l.take l.length++(l++[e]).getD l.length Eo::l.drop l.length=l++[e]:=by simp[List.getD]
  rw[Z]at this;exact this
 have z:∀x∈l,x.Id≠e.Id:=λx I q=>by
  have :=Hz.2 (FB.2 ⟨x,I,q⟩);rw[U]at this;cases this
 have J:l.findIdx (λx=> !decide (x.Id<=e.Id))=P6 l e:=by
  unfold P6
  have :∀L:AA AQ,(∀x∈L,x.Id≠e.Id)->L.findIdx (λx=> !decide (x.Id<=e.Id))=L.findIdx (λx=> !decide (x.Id<e.Id)):=by
   intro L
   induction L with
   |nil=>exact λ_=>rfl
   |cons x L ih=>
    intro h;have h1:=h x (Gv ..);rw[V3,V3,ih λy hy=>h y (I7 _ hy),show decide (x.Id<=e.Id)=decide (x.Id<e.Id)from aG3.2 AB]
  exact this l z
 have M:aJl l l e 0=some (DJ l e,0):=by
  unfold aJl;rw[Jh l (fuel_lt AB) (λx=> !decide (x.Id<=e.Id)) (λi=>some (l.take i++e::l.drop i,0)) (some (l.take l.length++e::l.drop l.length,0))]
  ·rw[J];unfold DJ;split
   ·rfl
   have :=aUE l e;rw[show P6 l e=l.length by omega]
  ·intro k i h;unfold aEL vN;rw[Ch h,j i AB];cases decide (l[i].Id<=e.Id)<;>rfl
  intro k;unfold aEL vN;rw[DR,BH,BH,j l.length (ER _)]
 unfold VI aHC;rw[H7 l (fuel_lt AB) (UU e) ([],13) (some (DJ l e,0)),O]
 ·rfl
 ·intro k i h;unfold a0z;rw[Ch h];rfl
 intro k;unfold a0z
 have hp:ZB l e.Id=some (-1):=by
  rw[a4w l e.Id AB,Ee];intro q;rw[Xe]at q;obtain⟨x,I,hq⟩:=q;exact z x I (eq_of_beq hq)
 rw[DR,BH,Dw QD,Ac,Ir,hp,Ac,G6 (show ¬((-1:Int)>=0) by omega),BH,G6 (show ¬((l.length:Int)>=2000) by omega),BH,M]
def aQW (hl:l.length<=1000)(j:∀x∈l,x.Room=e.Room)(q:bP l e.Id=false):VI l e=some (DJ l e,0):=by
 refine aYb hl ?_ q;rw[Ws];intro x u;unfold UU;rw[j x u];simp
theorem aX6 (hl:l.length<=1000)(z:∀x∈l,x.Room=e.Room)(u:bP l e.Id=true)(hs:∀x∈l,Et x)(I:Et e):VI l e=some (Nl l e,0):=by
 have J:l.any (UU e)=false:=by
  rw[Ws];intro x L;unfold UU;rw[z x L];simp
 obtain⟨j,q⟩:=a6K u;unfold VI aHC;rw[H7 l (fuel_lt AB) (UU e) ([],13) (some (Nl l e,0)),J]
 ·rfl
 ·intro k i h;unfold a0z;rw[Ch h];rfl
 intro k;unfold a0z
 have hp:ZB l e.Id=some ((l.findIdx λy=>y.Id==e.Id:Nat):Int):=by
  rw[a4w l e.Id AB,ET j]
 rw[DR,BH,Dw QD,Ac,Ir,hp,Ac,IX (show((l.findIdx λy=>y.Id==e.Id:Nat):Int)>=0 by omega),BZ,(Zg I.x).2,Ac,CQ j,q,Ac,(Zg (hs _ (oJ u).1).x).2];unfold Nl rC a2o
 grind
def aL2 (h:GR r)(hl:r.Events.length<=50)(hv:KY e=some 0)(hs:Et e)(hr:e.Room=r.Id)(hf:bP r.Events e.Id=false):eK r e=some (IB r e):=by
 have ha:=h.aDw hl hv hs hr hf;have O:=ha.ok;have j:=ha.ok';have hl':=ha.len';have hrl:=h.Ea;have hn:=h.next
 have hst:r.State.length<=50:=by
  have hp:=vP (l:=r.Events) (c:=0) λ_=>O;rw[QN h.deep]at hp;rw[h.state];exact EC hp.length hl
 unfold eK IB;rw[G6 (show ¬(r.Events.length:Int)>=2000 by omega),BH,aQW AB ha.room hf,Ac];show(cond ((0:Int) != 0) _ ((iQ (DJ r.Events e)).bind _))=_;rw[PW,BH,aCs _ AB j.small j.dep,Ac];cases hd:Hf (DJ r.Events e) != 0 with
 |true=>rfl
 |false=>
  have U:Hf (DJ r.Events e)=0:=by simpa using hd
  obtain⟨t1,t2,t3⟩:=a1q ha.ref' λ_=>j;rw[QN U]at t1 t2 t3;have hal:=Y6 (DJ r.Events e) (DK (DJ r.Events e));obtain⟨y,hy⟩:=qH ha.anO;have u:GX (DK (DJ r.Events e)) e.Id=(y.err==0):=by unfold GX;rw[hy]
  have I:Qk (DK (DJ r.Events e)) e.Id=(KO y,true):=by unfold Qk;rw[hy]
  rw[BH,BH];show(jC (DJ r.Events e)).bind _=_;rw[aEU j,Ac,fQ _ _ AB,Ac,I];show((cond (e.Kind==1) (some (y.err==0)) (some false)).bind _)=_
  have hx:(cond (e.Kind==1) (some (y.err==0)) (some false))=some (KI (DJ r.Events e) e):=by
   unfold KI;rw[u];cases e.Kind==1<;>rfl
  rw[hx,Ac,aRE O]
  have Y:(cond (KI (DJ r.Events e) e) ((some (GI r.Events:Int)).bind λZ=>some (decide (Z>0))) (some false))=some (decide (0<GI r.Events)&&KI (DJ r.Events e) e):=by
   cases KI (DJ r.Events e) e with
   |false=>rw[Bool.and_false];rfl
   |true=>
    rw[LZ,BZ,Ac];by_cases hp:0<GI r.Events
    ·rw[IX (show(GI r.Events:Int)>0 by omega),IX hp]
    rw[G6 (show ¬(GI r.Events:Int)>0 by omega),G6 hp]
  rw[Y,Ac];cases hc:(decide (0<GI r.Events)&&KI (DJ r.Events e) e)with
  |true=>rfl
  |false=>
   have z:XC (DJ r.Events e) ((DK (DJ r.Events e)).map KO)=some (Jk (DJ r.Events e) (Gx (DJ r.Events e) (DK (DJ r.Events e)))):=by
    unfold XC;rw[aHB _ _ AB AB,Ac,aHh _ _ AB j.small AB];rfl
   have J:=aMs (DJ r.Events e) _ AB j.small t2 AB;rw[BH,BH]
   have hj:∀v,XB r (DJ r.Events e,0) ((DK (DJ r.Events e)).map KO) v=some ({ Ll r e with Rows:=r.Rows++[v] },0):=λv=>by
    unfold XB;rw[Dw QD,Ac,Ir,Dw G7,Ac];show(XC (DJ r.Events e) _).bind _=_;rw[z,Ac];show(qc (DJ r.Events e) _).bind _=_;rw[J,Ac]
    have hw:Au (({ r with Rows:=r.Rows++[v] }:Bj).Next+1)=r.Next+1:=by
     show Au (r.Next+1)=r.Next+1;exact Nr AB AB
    rw[hw];rfl
   have hm:∀n,NW r e=n->some ({ Ll r e with Rows:=r.Rows++[(⟨r.Next,e.Id,n,false⟩:F5)] },(0:Int))=some (Ll r e,0):=λn hn=>by
    subst hn;rfl
   show(cond (y.err != 0) _ _)=_;cases L:y.err==0 with
   |false=>
    have q:NW r e=2:=by unfold NW;rw[u,L];rfl
    rw[show(y.err != 0)=true by simpa[bne]using L];show XB r (DJ r.Events e,0) _ _=_;rw[hj];exact hm 2 q
   |true=>
    rw[show(y.err != 0)=false by simpa[bne]using L];show(nZ (DJ r.Events e) r.State).bind _=_;rw[aLV _ _ AB AB,Ac,ha.evs (h.aMp hl),a7o e _ (EC (oq _ _) AB) (aVb O.small _) hs,Ac];cases M:KP e (JX r.Events r.State)==0 with
    |true=>
     have q:NW r e=4:=by unfold NW;rw[u,L,M];rfl
     rw[show(KP e (JX r.Events r.State) != 0)=false by simpa[bne]using M];show XB r (DJ r.Events e,0) _ _=_;rw[hj];exact hm 4 q
    |false=>
     have q:NW r e=3:=by unfold NW;rw[u,L,M];rfl
     rw[show(KP e (JX r.Events r.State) != 0)=true by simpa[bne]using M];show XB r (DJ r.Events e,0) _ _=_;rw[hj];exact hm 3 q
def nX (b:AL AQ):AQ×AY:=match b with
 |some e=>(e,true)
 |none=>(Eo,false)
theorem aeR (hs:∀e∈r.Waiting,Et e)(hl:r.Events.length<=1000)(Z:r.Waiting.length<=1000):aAQ r=some (nX (Pj r.Events r.Waiting)):=by
 unfold aAQ aUj;refine dK.eq (Sm (body:=aAM r) (Q:=(· =nX (Pj r.Events r.Waiting))) (λn a b c=>∃i:Nat,b=i/\i+n=r.Waiting.length/\(c,a)=nX ((r.Waiting.take i).foldl (Ie r.Events) none)) ?_ Am r.Waiting.length false 0 Eo (fuel_lt AB) ⟨0,rfl,AB,rfl⟩);rintro n a b c k ⟨i,rfl,hn,I⟩ O;by_cases hi:i<r.Waiting.length
 ·have U:=aPj (l:=r.Events) hi;unfold aAM;rw[Ch hi,aGk _ _ AB (hs _ (EU hi)),Ac]
  have q:Fr r.Events r.Waiting[i]=true->Vz ((r.Waiting.take i).foldl (Ie r.Events) none) r.Waiting[i]=true->dK (gB k (i:Int) true r.Waiting[i]) (· =nX (Pj r.Events r.Waiting)):=λh1 h2=>by
   unfold gB;exact O (n-1) _ _ _ AB ⟨i+1,wrap_succ i AB,AB,by rw[U,aPq h1 h2];rfl⟩
  have j:Ie r.Events ((r.Waiting.take i).foldl (Ie r.Events) none) r.Waiting[i]=(r.Waiting.take i).foldl (Ie r.Events) none->dK (gB k (i:Int) a c) (· =nX (Pj r.Events r.Waiting)):=λh=>by
   unfold gB;exact O (n-1) _ _ _ AB ⟨i+1,wrap_succ i AB,AB,by rw[U,h];exact I⟩
  cases u:Fr r.Events r.Waiting[i]with
  |false=>
   rw[BH,Ac,BH];exact j (aRM u)
  |true=>
   have key:∀B:AL AQ,(c,a)=nX B->(cond (!a) (some true) (some (decide (r.Waiting[i].Depth<c.Depth)))).bind (λJ=>(cond J (some true) ((cond (r.Waiting[i].Depth==c.Depth) (some (decide (r.Waiting[i].Id<c.Id))) (some false)).bind λL=>some L)).bind λM=>some M)=some (Vz B r.Waiting[i]):=λB Y=>by
    cases B with
    |none=>
     obtain⟨rfl,rfl⟩:=Prod.mk.inj Y;rfl
    |some x=>
     obtain⟨rfl,rfl⟩:=Prod.mk.inj Y;rw[Eu,BH,Ac];show _=some (NS r.Waiting[i] c);unfold NS;cases decide (r.Waiting[i].Depth<c.Depth)with
     |true=>
      rfl
     |false=>
      grind
   rw[BZ,key _ I,Ac];cases z:Vz ((r.Waiting.take i).foldl (Ie r.Events) none) r.Waiting[i]with
   |true=>
    exact q u z
   |false=>
    exact j (aSA z)
 have :i=r.Waiting.length:=AB
 subst this;rw[Gw]at I;unfold aAM;rw[DR,BH];exact .ret I
def ab8 l id(hl:l.length<=1000):a0O l id=some (Fq l id):=by
 unfold a0O aOm;refine dK.eq (JJ l.length (fuel_lt AB) (λi a=>a=Fq (l.take i) id) rfl (λi a k hi ha q=>?_) λa k ha=>?_)
 ·have z:a.length<=i:=by rw[ha];exact EC (aDS _ _) iZ
  have j:Fq (l.take (i+1)) id=Fq (l.take i) id++bif (l[i].Id != id)then[l[i]]else[]:=pK hi
  unfold aHx a9w;rw[Ch hi,wrap_succ i AB];cases u:l[i].Id != id with
  |true=>
   rw[BZ,CQ hi,Ac,Dw G7,Ac];exact q _ (by rw[j,u,ha];rfl)
  |false=>
   rw[BH];exact q _ (by rw[j,u,ha];simp)
 rw[Gw]at ha;unfold aHx;rw[DR,BH];exact .ret ha
theorem ab1 v2:∀(m n:Nat),n<m->∀(r:Bj),GR r->r.Waiting.length<=n->r.Events.length+n<=50->aQ a2w m r v2=some (Fj n r):=by
 intro m
 induction m with
 |zero=>
  grind
 |succ m I=>
  intro n hm r h hw hl;rw[aU9];generalize hK:aQ a2w m=K at I ⊢;unfold a2w;rw[aeR (λe M=>(h.qy.ev e M).2) AB AB,Ac];cases J:Pj r.Events r.Waiting with
  |none=>
   have :Fj n r=r:=by
    cases n with
    |zero=>
     rfl
    |succ n=>
     unfold Fj;rw[J]
   rw[this];rfl
  |some e=>
   obtain⟨j,O⟩:=y8 J;have hd:=h.drop AB e.Id;have U:=Rch j;have q:=h.qy.ev _ j;have L:=jQ h.aao AB _ j;have u:=aL2 hd (show r.Events.length<=50 by omega) L q.2 (h.J3 _ j) (h.PX _ j);show(a0O r.Waiting e.Id).bind _=_;rw[ab8 _ _ AB,Ac];show(eK { r with Waiting:=Fq r.Waiting e.Id } e).bind _=_;rw[u,Ac];obtain⟨n,rfl⟩:∃Y,n=Y+1:=⟨n-1,AB⟩
   have z:Fj (n+1) r=Fj n (IB { r with Waiting:=Fq r.Waiting e.Id } e).1:=by
    show(match Pj r.Events r.Waiting with
     |none=>r
     |some e=>Fj n (IB { r with Waiting:=Fq r.Waiting e.Id } e).1)=_
    rw[J]
   rw[z];rcases Uj { r with Waiting:=Fq r.Waiting e.Id } e with⟨q1,_⟩|⟨q1,q2,q3⟩
   ·rw[q1];exact I n AB _ hd (show(Fq r.Waiting e.Id).length<=n by omega) (show r.Events.length+n<=50 by omega)
   rw[q1]
   have hm:=hd.more (e:=e) (show r.Events.length<=50 by omega) L q.2 (h.J3 _ j) (h.PX _ j) (λx Z=>by
    have :=(Hg.1 Z).2
    simpa using this) O q2 q3
   exact I n AB _ hm (show(Fq r.Waiting e.Id).length<=n by omega) (show(DJ r.Events e).length+n<=50 by rw[Pv];omega)
def ahB (h:GR r)(hl:r.Events.length+r.Waiting.length<=50):a0l r=some (Fj r.Waiting.length r):=by
 unfold a0l aUI;exact ab1 Jl Am r.Waiting.length (fuel_lt AB) r h (ER _) hl
theorem ahe (h:fO e=some (z,v))(j:v≠0):iK r e=some (r,0,v):=by
 unfold iK
 grind
def ak5 (h:GR r)(hl:r.Events.length+r.Waiting.length<=48)(u:wP r x)(he:fO e=some (x,0)):iK r e=some (Oy r x):=by
 have ho:=h.facts.ok AB;have hrl:=h.Ea;have M:∀y∈r.Events,Et y:=ho.small;have O:∀y∈r.Waiting,Et y:=λy z=>(h.qy.ev y z).2;unfold iK Oy;rw[he,Ac];show(cond ((0:Int) != 0) _ (cond (!(x.Room.toList==r.Id.toList)) _ ((Ju r.Events x.Id).bind _)))=_;rw[PW,BH,show(x.Room.toList==r.Id.toList)=decide (x.Room=r.Id)from JM];cases j:decide (x.Room=r.Id)with
 |false=>rfl
 |true=>
 have j:=Ov j;have U:∀y∈r.Events,y.Room=x.Room:=λy z=>by rw[h.own y z,j]
 have J:∀y∈r.Waiting,y.Room=x.Room:=λy z=>by rw[h.J3 y z,j]
 rw[Eu,BH,BH,MI r.Events _ AB,Ac,MF];show(cond (bP r.Events x.Id) _ _)=_;cases Y:bP r.Events x.Id with
 |true=>
  rw[BZ,BZ];show(YK r x.Id).bind _=_;rw[row24 r _ AB,Ac];show(VI r.Events x).bind _=_;rw[aX6 AB U Y M u.small,Ac];show some ({ r with Events:=Nl r.Events x },(Ub r x.Id).1.Status,(0:Int))=_;rw[a8q]
 |false=>
 rw[BH,BH];show(Ju r.Waiting x.Id).bind _=_;rw[MI r.Waiting _ AB,Ac,MF];rw[show(Eh r.Waiting x.Id).isSome=bP r.Waiting x.Id from rfl];show((cond (!bP r.Waiting x.Id) ((kD r.Events x).bind λI=>some I) (some false)).bind _)=_;rw[aGk _ _ AB u.small];have hx:(cond (!bP r.Waiting x.Id) ((some (Fr r.Events x)).bind λI=>some I) (some false))=some (!bP r.Waiting x.Id&&Fr r.Events x):=by cases bP r.Waiting x.Id<;>rfl
 rw[hx,Ac];cases Z:(!bP r.Waiting x.Id&&Fr r.Events x)with
 |true=>
  rw[Di]at Z;have q:bP r.Waiting x.Id=false:=by simpa using Z.1
  rw[BZ,BZ];show(eK r x).bind _=_;rw[aL2 h AB u.ver u.small j Y,Ac];rcases Uj r x with⟨q1,q2⟩|⟨q1,q2,q3⟩
  ·rw[show((IB r x).2 != 0)=true by simpa using q2];rfl
  have hm:=h.more AB u.ver u.small j Y (λy z hyx=>by
   have :=Hz.2 (FB.2 ⟨y,z,hyx⟩)
   rw[q]at this;cases this) Z.2 q2 q3
  have L:(DJ r.Events x).length+r.Waiting.length<=50:=a7D
  have hs:=ahB hm L;have hg:=vI r.Waiting.length hm (ER _) L
  have hgl:(Fj r.Waiting.length (Ll r x)).Rows.length<=1000000:=by
   have h1:=hg.1.Ea;have h2:=aKT r.Waiting.length (Ll r x);have h3:(Ll r x).Events.length=r.Events.length+1:=Pv _ _;omega
  rw[q1];show(cond ((0:Int) != 0) _ ((a0l (Ll r x)).bind _))=_;rw[PW,BH,hs,Ac];show(YK (Fj r.Waiting.length (Ll r x)) x.Id).bind _=_;rw[row24 _ _ hgl,Ac,a8q];rfl
 |false=>
 rw[BH,BH]
 have hx2:(cond (!bP r.Waiting x.Id) (some (decide ((r.Waiting.length:Int)>=200))) (some false))=some (!bP r.Waiting x.Id&&(200<=r.Waiting.length)):=by
  have :decide ((r.Waiting.length:Int)>=200)=decide (200<=r.Waiting.length):=by
   by_cases h:200<=r.Waiting.length
   ·rw[IX h,IX AB]
   rw[G6 h,G6 AB]
  rw[this];cases bP r.Waiting x.Id<;>rfl
 rw[hx2,Ac];cases hfull:(!bP r.Waiting x.Id&&(200<=r.Waiting.length))with
 |true=>rfl
 |false=>
 rw[BH,BH];show(VI r.Waiting x).bind _=_;cases q:bP r.Waiting x.Id with
 |true=>
  rw[aX6 AB J q O u.small];rfl
 |false=>
  rw[aQW AB J q];rfl
end
section
set_option maxRecDepth 20000
set_option maxHeartbeats 1000000
theorem ad1 j(hl:j.length<=1000)(h:∀x∈j,x.length<=1000):a1X j=some j.flatten:=by
 have u:∀m:AA (AA Int),(∀x∈m,x.length<=1000)->m.flatten.length<=m.length*1000:=by
  intro m
  induction m with
  |nil=>
   grind
  |cons x m z=>
   intro hm;have h1:=hm x (Gv ..);have h2:=z λy I=>hm y (I7 _ I);rw[List.flatten_cons,Ef,Gh];omega
 have q:∀{i:Nat} (hi:i<j.length),(j.take (i+1)).flatten=(j.take i).flatten++j[i]:=λ{i} hi=>by
  rw[MX hi,List.flatten_append];simp
 have hlen:∀i,(j.take i).flatten.length<=1000000:=λi=>by
  have h1:=u (j.take i) λx J=>h x (dZ J)
  grind
 unfold a1X aLa;refine dK.eq (JJ j.length (fuel_lt AB) (λi a=>a=((j.take i).flatten.length:Int)) rfl (λi a k hi ha L=>?_) λa k ha=>?_)
 ·have h1:=hlen (i+1);have h2:=BF List.length (q hi);rw[Ef]at h2;unfold a6r;rw[Ch hi,ha,Nr AB AB,G6 AB,BH,wrap_succ i AB]
  grind
 have h1:=hlen j.length
 have M:a2A a=some []:=by
  unfold a2A dJ
  grind
 unfold a6r;rw[DR,BH,M,Ac];unfold aVH;refine JJ j.length (fuel_lt AB) (λi a=>a=(j.take i).flatten) rfl (λi a k hi ha L=>?_) λa k ha=>?_
 ·have h1:=hlen (i+1);have h2:=BF List.length (q hi);rw[Ef]at h2;unfold a3Y;rw[Ch hi,ha,Dw AB,Ac,wrap_succ i AB]
  grind
 unfold a3Y;rw[DR,BH,ha,Gw];exact .ret rfl
def alH {R}{body}(l:AA α)(hl:l.length<=1000)(rest:AL R)(j:∀k (i:Nat) (h:i<l.length),body k (i:Int)=k (Au ((i:Int)+1)))(q:∀k,body k (l.length:Int)=rest):bn body Am 0=rest:=by
 have key:∀n (i:Nat),i+n=l.length->∀m,n<m->bn body m (i:Int)=rest:=by
  intro n
  induction n with
  |zero=>
   intro i hi m hm;obtain⟨m,rfl⟩:∃k,m=k+1:=⟨m-1,AB⟩
   rw[show i=l.length by omega];exact q _
  |succ n u=>
   intro i hi m hm;obtain⟨m,rfl⟩:∃k,m=k+1:=⟨m-1,AB⟩
   have :=j (bn body m) i AB;rw[wrap_succ i AB]at this;exact this.trans (u (i+1) AB m AB)
 exact key l.length 0 AB Am (fuel_lt AB)
theorem contains_eq (hl:l.length<=1000){f}p(j:∀x∈l,f x=some (p x)):a0b l f=some (l.any p):=by
 have h1:WH l f=some (if l.findIdx p<l.length then((l.findIdx p:Nat):Int)else -1):=by
  unfold WH aEf;rw[Jh l (fuel_lt AB) p (λi=>some (i:Int)) (some (-1))]
  ·split<;>rfl
  ·intro k i h;unfold wY;rw[Ch h,j _ (EU h)];rfl
  intro k;unfold wY;rw[EJ]
 unfold a0b;rw[h1,Ac];by_cases h:l.findIdx p<l.length
 ·rw[ET h,IX AB]
  grind
 rw[Ee h,G6 AB];cases q:l.any p with
 |false=>
  rfl
 |true=>
  grind
def kK (r:Bj)(i:Nat)(m:AA (Int×Int)):Prop:=∀id,(DF m id).isSome=J8 (r.Rows.take i) id/\∀v,DF m id=some v->v<(i:Int)
def aZ2 (hi:i<r.Rows.length)id:J8 (r.Rows.take (i+1)) id=(J8 (r.Rows.take i) id||r.Rows[i].Id==id):=by
 unfold J8;rw[MX hi,aAH];simp
theorem adG (hi:i<r.Rows.length){m}(h:kK r i m):kK r (i+1) (EM m r.Rows[i].Id (i:Int)):=λid=>by
 obtain⟨h1,h2⟩:=h id;rw[Qe,aZ2 hi]
 grind
def ZU (r:Bj):AA Int:=r.Events.map λe=>bif GX (DK r.Events) e.Id then 4 else 2
def aY8 (h:i<(ZU r).length)(h':i<r.Events.length):(ZU r)[i]=bif GX (DK r.Events) r.Events[i].Id then 4 else 2:=P9 ..
def aaK r:kK r 0 []:=λid=>⟨by unfold J8 DF;simp,λv j=>by unfold DF at j;cases j⟩
def ah5 {T}(hs:∀n (a:Int) b c k,(∃i:Nat,a=i/\i+n=r.Rows.length/\b=r/\kK r i c/\∀j (q:j<r.Rows.length),j<i->Rh r j r.Rows[j]=true)->(∀m' (a':Int) b' c',m'<n->(∃i:Nat,a'=i/\i+m'=r.Rows.length/\b'=r/\kK r i c'/\∀j (q:j<r.Rows.length),j<i->Rh r j r.Rows[j]=true)->dK (k a' b' c') (· =RS r))->dK (dY r T k a b c) (· =RS r))(hl:r.Rows.length<=1000):dK (iG (dY r T) Am 0 r []) (· =RS r):=by
 have u:∃i:Nat,(0:Int)=i/\i+r.Rows.length=r.Rows.length/\r=r/\kK r i []/\∀j (q:j<r.Rows.length),j<i->Rh r j r.Rows[j]=true:=⟨0,rfl,LC _,rfl,aaK r,λj q h=>absurd h (Zu _)⟩
 exact Sm (body:=dY r T) (Q:=(· =RS r)) (λn (a:Int) (b:Bj) (c:AA (Int×Int))=>∃i:Nat,a=i/\i+n=r.Rows.length/\b=r/\kK r i c/\∀j (q:j<r.Rows.length),j<i->Rh r j r.Rows[j]=true) hs Am r.Rows.length 0 r [] (fuel_lt AB) u
def ajg (hc:KN r.Events=some 0)(hF:MG r.Events)(hd:Hf r.Events=0)(hl:r.Events.length<=100)(hr:r.Rows.length<=1000):vK r=some (XH r):=by
 have ho:=hF.ok hl;have U:=lJ ho.small AB hc;have hst:=aO4 U λ_=>ho;rw[QN hd,aX9 ho]at hst;have hst:qW r.Events=some (ZU r):=hst;unfold vK;rw[aFp U ho hd,Ac,hst];unfold XH
 have J:∀F:AL AY,((cond ((r.Rows.length:Int) != (r.Events.length:Int)) (some true) (some (r.Next != (r.Rows.length:Int)))).bind λx1=>(cond x1 (some true) (some (decide ((GI r.Events:Int)>1)))).bind λx3=>(cond x3 (some false) F))=bif (((r.Rows.length==r.Events.length)&&(r.Next==(r.Rows.length:Int)))&&(GI r.Events<=1))then F else some false:=λF=>by
  have e1:((r.Rows.length:Int) != (r.Events.length:Int))= !(r.Rows.length==r.Events.length):=by
   by_cases h:r.Rows.length=r.Events.length
   ·rw[h];simp
   rw[show(r.Rows.length==r.Events.length)=false by simpa using h,JZ,bne_iff_ne];omega
  have e2:decide ((GI r.Events:Int)>1)= !decide (GI r.Events<=1):=by
   by_cases h:GI r.Events<=1
   ·rw[IX h,G6 AB];rfl
   rw[G6 h,IX AB];rfl
  rw[e1,e2];unfold bne;cases r.Rows.length==r.Events.length<;>cases r.Next==(r.Rows.length:Int)<;>cases decide (GI r.Events<=1)<;>rfl
 refine Eq.trans (J _) ?_;cases Y:(((r.Rows.length==r.Events.length)&&(r.Next==(r.Rows.length:Int)))&&(GI r.Events<=1))with
 |false=>rfl
 |true=>
  rw[BZ,GZ,Ac];refine dK.eq (o:=iG (dY r (ZU r)) Am 0 r []) (ah5 (r:=r) (T:=ZU r) ?_ hr);rintro n a b c k ⟨i,rfl,hn,rfl,hP,hI⟩ hk;by_cases hi:i<b.Rows.length
  ·have q:Rh b i b.Rows[i]=false->dK (some false) (λx=>x=RS b):=λY=>by
    refine .ret ?_;cases hz:RS b with
    |false=>rfl
    |true=>
     unfold RS at hz;rw[jV.1 hz i hi]at Y;cases Y
   have L:Rh b i b.Rows[i]=true->dK (k (Au ((i:Int)+1)) b (EM c b.Rows[i].Id (i:Int))) (λx=>x=RS b):=λY=>by
    refine hk (n-1) _ _ _ AB ⟨i+1,wrap_succ i AB,AB,rfl,adG hi hP,λj M hji=>?_⟩;by_cases e:j=i
    ·subst e;exact Y
    exact hI j M AB
   have I:Rh b i b.Rows[i]=(bP b.Events b.Rows[i].Id&&(!J8 (b.Rows.take i) b.Rows[i].Id&&(b.Rows[i].Pos==(i:Int)&&(((ev b.Events b.Rows[i].Id).bG.all (J8 (b.Rows.take i))&&(ev b.Events b.Rows[i].Id).bI.all (J8 (b.Rows.take i)))&&Sl b b.Rows[i])))):=rfl;unfold dY;rw[Ch hi,yj b.Events AB (λa0=>aA7 a0 b.Rows[i]) (λa0=>a0.Id==b.Rows[i].Id) λ_=>rfl,Ac];cases O:bP b.Events b.Rows[i].Id with
   |false=>
    have hno:¬(b.Events.findIdx λa0=>a0.Id==b.Rows[i].Id)<b.Events.length:=λh=>by
     rw[Xe]at h;obtain⟨x,J,hxe⟩:=h;have :=Hz.2 (FB.2 ⟨x,J,eq_of_beq hxe⟩);rw[O]at this;cases this
    rw[Ee hno];exact q (by rw[I,O];rfl)
   |true=>
   obtain⟨u,Z⟩:=a6K O;rw[ET u,G6 (show ¬((b.Events.findIdx λa0=>a0.Id==b.Rows[i].Id:Nat):Int)<0 by omega),BH,(hP b.Rows[i].Id).1,Ac];cases c2:J8 (b.Rows.take i) b.Rows[i].Id with
   |true=>exact q (by rw[I,c2];simp)
   |false=>
   rw[BH,Ac];cases c3:b.Rows[i].Pos==(i:Int)with
   |false=>
    rw[show(b.Rows[i].Pos != (i:Int))=true by simpa[bne]using c3];exact q (by rw[I,c3];simp)
   |true=>
   have hml:(b.Events.findIdx λy=>y.Id==b.Rows[i].Id)<(ZU b).length:=by unfold ZU;rw[DY];exact u
   have hg:Ak (ZU b) ((b.Events.findIdx λy=>y.Id==b.Rows[i].Id:Nat):Int)=some (cond (GX (DK b.Events) b.Rows[i].Id) 4 2):=by
    rw[CQ hml,aY8 hml u,Z,(oJ O).2]
   have hsm:=(hF.ev _ (oJ O).1).2;have h1:=hsm.prev;have h2:=hsm.auth
   have hcc:=ad1 [(ev b.Events b.Rows[i].Id).bG,(ev b.Events b.Rows[i].Id).bI] BU (by
    intro x J;rcases FP.1 J with rfl|J
    ·omega
    rw[Je.1 J];omega)
   rw[show(b.Rows[i].Pos != (i:Int))=false by simpa[bne]using c3,BH,Ac,G6 AB,BH,CQ u,Z,Ac,Ac,hcc,Ac];have hfl:[(ev b.Events b.Rows[i].Id).bG,(ev b.Events b.Rows[i].Id).bI].flatten=(ev b.Events b.Rows[i].Id).bG++(ev b.Events b.Rows[i].Id).bI:=BU
   rw[hfl];unfold aQI;rw[H7 ((ev b.Events b.Rows[i].Id).bG++(ev b.Events b.Rows[i].Id).bI) (fuel_lt LV) (λz=> !J8 (b.Rows.take i) z) false (cond (Sl b b.Rows[i]) (k (Au ((i:Int)+1)) b (EM c b.Rows[i].Id (i:Int))) (some false)) (λg j M=>?_) λg=>?_]
   ·have hall:(((ev b.Events b.Rows[i].Id).bG++(ev b.Events b.Rows[i].Id).bI).any λz=> !J8 (b.Rows.take i) z)= !((ev b.Events b.Rows[i].Id).bG.all (J8 (b.Rows.take i))&&(ev b.Events b.Rows[i].Id).bI.all (J8 (b.Rows.take i))):=by
     rw[←List.all_append,List.any_eq_not_all_not];simp
    rw[hall];cases c4:((ev b.Events b.Rows[i].Id).bG.all (J8 (b.Rows.take i))&&(ev b.Events b.Rows[i].Id).bI.all (J8 (b.Rows.take i)))with
    |false=>exact q (by rw[I,c4];simp)
    |true=>
     rw[Eu,BH];cases c5:Sl b b.Rows[i]with
     |false=>exact q (by rw[I,c5];simp)
     |true=>exact L (by rw[I,O,c2,c3,c4,c5];rfl)
   ·unfold aKf;rw[Ch M,Qe];generalize((ev b.Events b.Rows[i].Id).bG++(ev b.Events b.Rows[i].Id).bI)[j]=z;obtain⟨p1,p2⟩:=hP z;cases hz:z==b.Rows[i].Id with
    |true=>
     have :J8 (b.Rows.take i) z=false:=by rw[eq_of_beq hz];exact c2
     rw[this];show(cond (!(some (i:Int)).isSome) _ (some (decide ((some (i:Int)).getD 0>=(i:Int))))).bind _=_;rw[show decide ((some (i:Int)).getD 0>=(i:Int))=true from IX (a0U _)];rfl
    |false=>
     rw[BH];cases hm:DF c z with
     |none=>
      rw[hm]at p1;rw[←p1];rfl
     |some v=>
      rw[hm]at p1;have :=p2 v hm;rw[←p1];show(cond (!(some v).isSome) _ (some (decide ((some v).getD 0>=(i:Int))))).bind _=_;rw[show decide ((some v).getD 0>=(i:Int))=false from G6 (by show ¬v>=(i:Int);omega)];rfl
   unfold aKf;rw[DR,BH,hg,Ac];unfold Sl bne;cases GX (DK b.Events) b.Rows[i].Id<;>cases b.Rows[i].Status==2<;>cases b.Rows[i].Status==3<;>cases b.Rows[i].Status==4<;>rfl
  have :i=b.Rows.length:=AB
  subst this;unfold dY;rw[DR,BH];refine .ret ?_
  have :RS b=true:=by
   unfold RS;rw[jV];exact λj M=>hI j M M
  rw[this]
theorem acf (ha:a.length<=1000):a9G a b=Xu a b:=by
 unfold a9G Xu;cases u:((a.length:Int) != (b.length:Int))with
 |true=>
  rfl
 |false=>
  have j:a.length=b.length:=by
   grind
  rw[BH,BH];unfold aQu a5j
  have q:bn (ZP a b) Am 0=bif (a.zip b).any λx=> !WW x.1 x.2 then some false else some true:=W9 WW a b ha j false (some true) (λk i h h'=>by
   unfold ZP jY WW;rw[dec_lt h,BZ,CQ h,CQ h',Ac,Ac];unfold bne;cases a[i].Kind==b[i].Kind with
   |false=>rfl
   |true=>
    simp only[Ac];cases a[i].Key.toList==b[i].Key.toList with
    |false=>rfl
    |true=>cases a[i].Id==b[i].Id<;>rfl) λk=>by
   unfold ZP;rw[DR,BH]
  rw[q];refine W9 WW a b ha j false (some true) (λk i h h'=>?_) λk=>?_
  ·unfold aEN aAj WW;rw[dec_lt h,BZ,CQ h,CQ h',Ac,Ac,LZ]
  unfold aEN;rw[DR,BH]
def aZg a b:aGt a b=Zl a b:=rfl
end
section
set_option maxRecDepth 20000
set_option maxHeartbeats 1000000
theorem aSx (j:KN l=some 0)(q:MG l)(u:∀x∈l,x.Room=r.Id)(hl:l.length<=100):fG r l=some 0:=by
 unfold fG;rw[lJ (λe z=>(q.ev e z).2) AB j,Ac];show aJc l r 0=some 0;unfold aJc;refine alH l AB _ (λk i hi=>?_) λk=>?_
 ·unfold aEG;rw[Ch hi,u _ (EU hi),MC];rfl
 unfold aEG
 grind
theorem aYp (I:r.Id.size<=9223372036854775807)(h:GR r)(L:TU r)(hl:r.Events.length<=50)(M:r.Waiting.length<=50):wF r=some 0:=by
 have q:=h.facts.ok AB;have z:=lJ q.small AB h.set;have O:=h.Ea;have hp:=vP (l:=r.Events) (c:=0) λ_=>q;rw[QN h.deep,←h.state]at hp;have U:=hp.length
 have Y:r.uP.length<=r.Events.length:=by
  rw[h.heads];exact EC (a02 _ _) (Y6 _ _)
 have J:∀e∈r.Waiting,Et e:=λe Z=>(h.qy.ev e Z).2;have n1:(r.Waiting.any λx=>bP r.Events x.Id)=false:=Ws.2 λx u=>by rw[h.PX x u];simp
 have n2:r.Waiting.any (Fr r.Events)=false:=Ws.2 λx u=>by rw[L x u];simp
 have h2c:rD r r=some false:=by
  unfold rD
  rw[contains_eq AB (λx=>bP r.Events x.Id) λx u=>by
   unfold a3o
   rw[OD _ _ AB,Ac,MF];rfl,n1];rfl
 have h3c:vW r=some false:=by
  unfold vW
  rw[contains_eq AB (Fr r.Events) λx u=>by
   unfold a6v
   rw[ready_eq _ _ AB (J x u)];rfl,n2];rfl
 have h4c:vS r=some false:=by
  unfold vS
  grind
 have j:=aVu z λ_=>q;rw[QN h.deep,←h.state]at j
 have h5c:a1a r=some false:=by
  unfold a1a;rw[aNo z q h.deep,←h.heads,Ac,aZg,aVv AB,Ac,Eu,BH,j,Ac,acf AB,aSh AB];rfl
 unfold wF;rw[(jR I).1,Ac,h.id];show(fG r r.Events).bind _=_;rw[aSx h.set h.facts h.own AB];show(Zq r.Events).bind _=_;rw[aDs _ AB q.small q.dep,h.deep];show(vK r).bind _=_;rw[ajg h.set h.facts h.deep AB AB,h.aHs];show(fG r r.Waiting).bind _=_;rw[aSx h.aao h.qy h.J3 AB];show(rD r r).bind _=_
 grind
theorem ai4 r x(h:GR r)(hl:r.Events.length+r.Waiting.length<=48)(J:wP r x):(Oy r x).1.Id=r.Id:=by
 unfold Oy;cases M:decide (x.Room=r.Id)with
 |false=>
  rfl
 |true=>
 have j:=Ov M;rw[Eu,BH];cases O:bP r.Events x.Id with
 |true=>
  rfl
 |false=>
 rw[BH];cases q:(!bP r.Waiting x.Id&&Fr r.Events x)with
 |true=>
  rw[Di]at q;have u:bP r.Waiting x.Id=false:=by simpa using q.1
  rw[BZ];rcases Uj r x with⟨L,z⟩|⟨L,z,U⟩
  ·rw[show((IB r x).2 != 0)=true by simpa using z,BZ]
  rw[L]
  have hm:=h.more AB J.ver J.small j O (λy Y I=>by
   have :=Hz.2 (FB.2 ⟨y,Y,I⟩)
   rw[u]at this;cases this) q.2 z U
  exact(aFA r.Waiting.length hm (ER _) (show(DJ r.Events x).length+r.Waiting.length<=50 by rw[Pv];omega)).id
 |false=>
 grind
def aZI (h:aE6 r e):aDC r e=some true:=by
 have key:∀x:Bj×Int×Int,GR x.1->TU x.1->x.1.Id.size<=9223372036854775807->x.1.Events.length<=50->x.1.Waiting.length<=50->x.1.jK.length<=1000->x.1.nU.length<=1000->Wh r e=some x->iK r e=some x->bZ r e false=some true:=λx U hn I hl J h1 h2 L M=>by
  unfold bZ;rw[BH,L,M,Ac,Ac,MC,MC,aZs U hl AB h1 h2,aYp I U hn hl J,aTB];rfl
 refine aln h (bZ r e) ?_ λj q b1 b2 b6 b7 y v Y Z u=>?_
 ·unfold bZ;rw[BZ,aTB];rfl
 by_cases O:v=0
 ·subst O;have z:=u rfl;obtain⟨s1,s2⟩:=j.receive q AB z;obtain⟨_,_,s3,s4,s5⟩:=ajf (P:=λ_=>True) (r:=r) (x:=y) (λ_ _=>trivial) (λ_ _=>trivial) trivial;exact key (Oy r y) s1 s2 (by rw[ai4 r y j AB z];exact h.id) AB AB (by rw[s4];omega) (by rw[s5];omega) (akF j AB z Y) (ak5 j AB z Z)
 exact key (r,0,v) j q h.id (show r.Events.length<=50 by omega) (show r.Waiting.length<=50 by omega) (show r.jK.length<=1000 by omega) (show r.nU.length<=1000 by omega) (agK Y O) (ahe Z O)
end
variable {H:Type}
def Uo (d:DataW H):1<=Rows.uptoBulk d:=by
 cases d with
 |lit l=>cases l<;>simp[Rows.uptoBulk]
 |nil=>simp[Rows.uptoBulk]
 |ptr d=>simp[Rows.uptoBulk]
 |slice q spare=>simp[Rows.uptoBulk]
 |agg u=>simp[Rows.uptoBulk]
 |iface t d=>simp[Rows.uptoBulk]
 |map j=>simp[Rows.uptoBulk]
 |held h=>simp[Rows.uptoBulk]
variable {d:DataW H}
def aCE {l}(h:d∈l):Rows.uptoBulk d<=Rows.uptoBulkAll l:=by
 induction l with
 |nil=>cases h
 |cons x r j=>
  simp only[Rows.uptoBulkAll];cases FP.1 h with
  |inl e=>subst e;omega
  |inr e=>have :=j e;omega
theorem aXv (l:AA (DataW H)):l.length<=Rows.uptoBulkAll l:=by
 induction l with
 |nil=>
  grind
 |cons x r j=>
  have :=Uo x;simp only[Rows.uptoBulkAll,Gh];omega
def akS (j spare:AA (DataW H)):Rows.uptoBulkAll j+1<=Rows.uptoBulk (.slice j spare):=by
 simp only[Rows.uptoBulk];omega
def a3k {j}(q:Rows.uptoSmall H j=true)(h:d∈j):Rows.uptoBulk d<=1048576:=EC (aCE h) (Ov q)
def JQ (j:α->Nat)(l:AA α):Nat:=(l.map j).sum+l.length
def aIA {H}:∀l:AA (DataW H),Rows.uptoBulkAll l=(l.map Rows.uptoBulk).sum
 | []=>rfl
 |d::l=>by rw[Gz,a1l,←aIA l];rfl
theorem afe {j}(l:AA α)(D:Nat->DataW H)(h:∀i (hi:i<l.length),j l[i]+1<=Rows.uptoBulk (D i)):JQ j l<=Rows.uptoBulkAll ((List.range l.length).map D):=by
 rw[aIA,fV]
 have key:∀n,n<=l.length->((l.take n).map j).sum+n<=((List.range n).map (Rows.uptoBulk∘D)).sum:=by
  intro n
  induction n with
  |zero=>
   grind
  |succ n q=>
   intro u;have hi:n<l.length:=u;rw[MX hi,JY,nR,a2U,JY,nR];have h1:=q AB;have h2:=h n hi;have h3:([n].map (Rows.uptoBulk∘D)).sum=Rows.uptoBulk (D n):=BU
   have z:([l[n]].map j).sum=j l[n]:=BU
   rw[h3,z];omega
 have :=key l.length (ER _);rw[Gw]at this;exact this
def partAt (x:DataW H)(i:Nat):Nat:=match x with
 | .agg j=>match j[i]? with
   |some d=>Rows.uptoBulk d
   |none=>0
 |_=>0
def VQ (x:DataW H)n:((List.range n).map (partAt x)).sum+1<=Rows.uptoBulk x:=by
 have q:∀n,((List.range n).map λ_=>0).sum=0:=λn=>by
  induction n with
  |zero=>rfl
  |succ n u=>rw[a2U,JY,nR,u];rfl
 cases x with
 |agg j=>
  have I:Rows.uptoBulk (DataW.agg j)=Rows.uptoBulkAll j+1:=by simp only[Rows.uptoBulk]
  rw[I,aIA]
  have key:∀n,((List.range n).map (partAt (DataW.agg j))).sum=((j.take n).map Rows.uptoBulk).sum:=by
   intro n
   induction n with
   |zero=>rfl
   |succ n u=>
    rw[a2U,JY,nR,u];by_cases z:n<j.length
    ·rw[MX z,JY,nR];simp[partAt,ES z]
    rw[RU AB,RU AB];simp[partAt,Oe (X8 z)]
  rw[key]
  have :((j.take n).map Rows.uptoBulk).sum+((j.drop n).map Rows.uptoBulk).sum=(j.map Rows.uptoBulk).sum:=by
   rw[←nR,←JY,Vf]
  omega
 |lit l=>exact EC (QL (by rw[show partAt (DataW.lit (H:=H) l)=λ_=>0 from rfl,q])) (Uo _)
 |nil=>exact EC (QL (by rw[show partAt (DataW.nil (H:=H))=λ_=>0 from rfl,q])) (Uo _)
 |ptr d=>exact EC (QL (by rw[show partAt (DataW.ptr (H:=H) d)=λ_=>0 from rfl,q])) (Uo _)
 |slice a b=>exact EC (QL (by rw[show partAt (DataW.slice (H:=H) a b)=λ_=>0 from rfl,q])) (Uo _)
 |iface t d=>exact EC (QL (by rw[show partAt (DataW.iface (H:=H) t d)=λ_=>0 from rfl,q])) (Uo _)
 |map a=>exact EC (QL (by rw[show partAt (DataW.map (H:=H) a)=λ_=>0 from rfl,q])) (Uo _)
 |held a=>exact EC (QL (by rw[show partAt (DataW.held (H:=H) a)=λ_=>0 from rfl,q])) (Uo _)
variable {O:α->D}{V:α->Prop}
section
variable {N:Nat}{enc:Bz×BG->H}{w:BQ}{base:Nat}{spare:Nat->AY}{held:AY}{P:Ce}{t:Bz}
def PD (N:Nat)(enc:Bz×BG->H)(P:Ce)(w:BQ)(base:Nat)(spare:Nat->AY)(held:AY)(t:Bz)(e:α->D)(V:α->Prop)(j:α->Nat):Prop:=
 ∀Am cs x,DataW.trod enc P w base spare held Am t cs=some x->Rows.uptoBulk x.1<=N->∃a:α,V a/\j a+1<=Rows.uptoBulk x.1/\EH w (e a).cells cs
theorem St {wt}{e}{sz}(ht:P.underlying t=some (.slice e))(hc:P.cellsOf e=sz)(U:0<sz)(hsz:∀a,(O a).cells.length=sz)(hR:PD N enc P w base spare held e O V wt):
 PD N enc P w base spare held t (BP O) (λl=>l.length<=N/\∀x∈l,V x) (JQ wt):=by
 intro Am cs x h hb;rcases Go.Deep.open_slice ht h with⟨rfl,rfl⟩|⟨a,len,cap,m,n,D,Pl,rfl, -,hl,hm,hmm,rfl,hx⟩
 ·exact⟨[],⟨FQ _,λx h=>JD⟩,Uo _,.one rfl rfl (.sl0 none 0)⟩
 have hlm:len<=m:=by rw[hmm];split<;>omega
 have hb0:=akS ((List.range len).map D) ((List.range (m-len)).map λj=>D (len+j));have hb1:=EC hb0 hb;have hb2:=aXv ((List.range len).map D);rw[DY,List.length_range]at hb2;rw[hc]at hx
 have hex:∀i,i<len->∃y:α,(V y/\wt y+1<=Rows.uptoBulk (D i))/\∃I:AA BG,w.cells? base (a.add (i*sz)) sz=some I/\EH w (O y).cells I:=by
  intro i hi;obtain⟨I,h1,h2⟩:=hx i AB;obtain⟨y,h3,h3w,h4⟩:=hR _ _ _ h2 (EC (aCE (FB.2 ⟨i,lD.2 hi,rfl⟩)) AB)
  grind
 obtain⟨l,hlen,Y⟩:=aOG len hex;subst hlen;refine⟨l,⟨AB,λx hx=>?_⟩,EC (Nat.succ_le_succ (afe l D λi hi=>(Y i hi).1.2)) hb0,?_⟩
 ·obtain⟨i,hi,rfl⟩:=GY hx
  grind
 rcases V8 l.length with h0|hlp
 ·have :l=[]:=Hu h0;subst this;exact .one rfl rfl (.sl0 _ _)
 have q:∀i,(hi:i<l.length)->∀j,j<sz->∃u,w.cell? ((a.add (i*sz)).add j)=some u/\((O l[i]).cells.getD j EO).leaf=true/\EL (λb=>b<w.heap.size) w ((O l[i]).cells.getD j EO) u:=by
  intro i hi j Z;obtain⟨-,I,h1,h2⟩:=Y i hi;obtain⟨-,h6,h5⟩:=World.cells?_some h1;have hcl:I.length=sz:=by rw[h2.1,hsz]
  have h7:=h5 j Z;rw[ES AB]at h7;refine⟨_,h7,?_⟩;have h8:=h2.2 j (by rw[hsz];exact Z)
  grind
 have J:a.spot=none:=by
  obtain⟨u,h4, -⟩:=q 0 hlp 0 U;have e0:(a.add (0*sz)).add 0=a:=by simp[Addr.add]
  rw[e0]at h4;unfold World.cell? at h4;cases hsp:a.spot with
  |none=>
   rfl
  |some s=>
   rw[hsp]at h4;cases hh:w.heap[a.block]? with
   |none=>
    grind
   |some o=>
    grind
 have hblk:a.block<w.heap.size:=by
  obtain⟨u,h4, -⟩:=q 0 hlp 0 U;have e0:(a.add (0*sz)).add 0=a:=by simp[Addr.add]
  rw[e0]at h4;unfold World.cell? at h4
  grind
 obtain⟨b,o,s⟩:=a;simp only at J hblk;subst J;have z:(List.map O l).length=l.length:=DY _;have L:∀i,(hi:i<l.length)->(List.map O l).getD i EO=O l[i]:=λi hi=>OH
 have M:∀i j,((⟨b,o,none⟩:Addr).add (i*sz)).add j=⟨b,o+(i*sz+j),none⟩:=λi j=>by simp only[Addr.add];split<;>split<;>simp_all<;>omega
 refine .one rfl rfl ?_
 have :=EL.sl (ok:=λb=>b<w.heap.size) (w:=w) (List.map O l) b o cap sz (by rw[z];exact hl) (λ_ _=>hblk) (λi hi=>by rw[z]at hi;rw[L i hi];exact hsz _)
  (λi hi j Z=>by rw[z]at hi;obtain⟨u,_,h2,_⟩:=q i hi j Z;rw[L i hi];exact h2)
  (λi hi j Z=>by rw[z]at hi;obtain⟨u,h1,_,_⟩:=q i hi j Z;rw[M]at h1;rw[h1];rfl)
  (λi hi j Z=>by rw[z]at hi;obtain⟨u,h1,_,h3⟩:=q i hi j Z;rw[M]at h1;rw[L i hi];unfold cellAt;rw[h1];exact h3)
 rw[z]at this;exact this
def JG {k}(j:P.underlying t=some (.int k)):PD N enc P w base spare held t (λn=>D.lit (.int k n)) (λn:Int=>k.min<=n/\n<=k.max) (λ_=>0):=λAm cs x h _=>by
 obtain⟨a,h1,h2⟩:=aXp j Am cs x h;exact⟨a,h1,Uo _,h2⟩
def aD6 (j:P.underlying t=some .bool):PD N enc P w base spare held t E9 (λ_=>True) (λ_=>0):=λAm cs x h _=>by
 obtain⟨a,h1,h2⟩:=aae j Am cs x h;exact⟨a,h1,Uo _,h2⟩
def TG (q:P.underlying t=some .string):PD N enc P w base spare held t DX (λs=>s.size<=N) (λs=>s.size):=by
 intro Am cs x h j;obtain⟨n,rfl,rfl,u⟩:=DataW.trod_string q h;have h1:Rows.uptoBulk (DataW.lit (H:=H) (.string n.data.toList))=n.data.toList.length+1:=by simp[Rows.uptoBulk]
 have h2:n.data.toList.length=n.size:=by rw[VD];rfl
 have j:Rows.uptoBulk (DataW.lit (H:=H) (.string n.data.toList))<=N:=j;exact⟨n,AB,by show n.size+1<=Rows.uptoBulk (DataW.lit (H:=H) (.string n.data.toList));omega,.one rfl rfl (.lit _)⟩
theorem FN {I}{Am}{cs}{x}(U:P.underlying t=some (.struct I))(h:DataW.trod enc P w base spare held Am t cs=some x)(M:Rows.uptoBulk x.1<=N)i u o n(J:(I[i]?).map (λf=>(f.type,f.offset,P.cellsOf f.type))=some (u,o,n)){L}(Y:PD N enc P w base spare held u O V L):∃a:α,(V a/\L a+1<=partAt x.1 i)/\EH w (O a).cells ((cs.drop o).take n):=by
 obtain⟨xs,k, -,rfl, -,hlen,q⟩:=DataW.trod_struct U h;cases j:I[i]? with
 |none=>
  grind
 |some f=>
  rw[j]at J;simp only[Kr,OX,WB]at J;obtain⟨rfl,rfl,rfl⟩:=J;have h1:=q i f j;have hi:i<I.size:=(Ip.1 j).1;have z:i<xs.length:=AB
  rw[ES z]at h1;have h2:Rows.uptoBulk (DataW.agg (xs.map (·.1)))=Rows.uptoBulkAll (xs.map (·.1))+1:=by simp only[Rows.uptoBulk]
  have h3:=aCE (H:=H) (FB.2 ⟨xs[i],EU _,rfl⟩:xs[i].1∈xs.map (·.1));have M:Rows.uptoBulk (DataW.agg (xs.map (·.1)))<=N:=M;obtain⟨a,Z,q2,q3⟩:=Y _ _ _ h1 AB;refine⟨a,⟨Z,?_⟩,q3⟩;have :partAt (DataW.agg (xs.map (·.1))) i=Rows.uptoBulk xs[i].1:=by unfold partAt;simp[ES z]
  show L a+1<=partAt (DataW.agg (xs.map (·.1))) i;rw[this];exact q2
end
end Go.Proofs.YtfmoknlmaldmlaaGreat
