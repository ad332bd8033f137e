/- Part 8 of the laws' proofs (short forms by wip/shrink2.py). -/
import Derived.Test.YtkkdimcnpacjhaaGreatRe7
set_option linter.defProp false
set_option linter.unnecessarySimpa false
set_option linter.unusedSectionVars false
set_option linter.unusedVariables false
set_option linter.unusedSimpArgs false
namespace Go.Proofs.YtkkdimcnpacjhaaGreat
open Go.RowKit Go.Proofs.Tryz
section
def Qv (s:BA):Int:=bif Hy s 64 then 0 else 3
def VG (s:BA):Int:=bif Hy s 33 then 0 else 3
def YS {s:BA} (hs:s.size<=9223372036854775807):aA s=some (Qv s)/\ZH s=some (Qv s):=by
 unfold aA yC ZH Qv;rw[aKo hs (marks:=uN) (by rw[show CW uN=[64]from rfl];intro m hm;simp only[F5,FB,nI]at hm;omega),aC8 hs Bo,show((CW uN).any fun m=>Hy s m)=(Hy s 64||false)from rfl];cases Hy s 64<;>exact⟨rfl,rfl⟩
def zf {s:BA} (hs:s.size<=9223372036854775807):qw s=some (VG s)/\oI s=some (VG s):=by
 unfold qw yC oI VG;rw[aKo hs (marks:=wC) (by rw[show CW wC=[33]from rfl];intro m hm;simp only[F5,FB,nI]at hm;omega),aC8 hs Bo,show((CW wC).any fun m=>Hy s m)=(Hy s 33||false)from rfl];cases Hy s 33<;>exact⟨rfl,rfl⟩
def adv {l:A8 Int} (h:XR l=true):(58:Int)∉l:=by
 intro hm;unfold XR Qx at h;simp only[Df,EY]at h;have :=h.2 58 hm;exact absurd this Bo
def ahJ (s:BA) (hs:s.size<=2000):(splitB s (KD s)).1.size<=2000/\(58:Int)∉CW (splitB s (KD s)).1/\(splitB s (KD s)).2.1.size<=2000:=by
 have q:CU.size<=2000:=Bo
 cases h:KD s with
 |false=>exact⟨q,by show(58:Int)∉CW CU;decide,q⟩
 |true=>
  have j:UH s=true:=by
   unfold KD Hy at h;cases j:UH s with
   |true=>rfl
   |false=>rw[j]at h;simp at h
  refine⟨FC (extract_size _ _ _) hs,adv ?_,FC (extract_size _ _ _) hs⟩;unfold UH at j;simp only[Df]at j;exact j.1.2
def any_false {α:Type} (l:A8 α):(l.any fun _=>false)=false:=Bj
def aJM {α:Type} {body:(Int->AO Ad)->Int->AO Ad} (l:A8 α) (hl:l.length<=1000) (rest:AO Ad) (j:∀k (i:Nat) (h:i<l.length),body k (i:Int)=k (Ar ((i:Int)+1))) (q:∀k,body k (l.length:Int)=rest):bJ body Az 0=rest:=by
 rw[Hl l (aKQ AB) (fun _=>false) false rest (fun k i h=>by rw[j k i h];rfl) q,any_false];rfl
def acy {l:A8 BA} (h:l.length<=1000):U6 l l=some true:=by
 unfold U6 a1g;rw[show((l.length:Int) != (l.length:Int))=false from by simp,BZ];exact aJM l h _ (fun k i h=>aVF) (fun k=>aFd)
structure LH (c:DI):Prop where
 allow:c.Allow.length<=9223372036854775807
 deny:c.iK.length<=9223372036854775807
 users:c.Levels.Users.length<=9223372036854775807
 kinds:c.Levels.Kinds.length<=9223372036854775807
 text:c.Text.size<=9223372036854775807
 via:c.Via.size<=9223372036854775807
 allows:∀x∈c.Allow,x.size<=9223372036854775807
 denies:∀x∈c.iK,x.size<=9223372036854775807
 names:∀x∈c.Levels.Users,x.User.size<=9223372036854775807
structure Vl (e:AX):Prop where
 prev:e.bK.length<=9223372036854775807
 auth:e.bT.length<=9223372036854775807
 room:e.Room.size<=9223372036854775807
 sender:e.bG.size<=9223372036854775807
 key:e.Key.size<=9223372036854775807
 server:e.o7.Server.size<=9223372036854775807
 content:LH e.Content
def Qr.wide {c:DI} (h:Qr c):LH c:=by
 obtain⟨I,J,L,M,O,U,q,u,z⟩:=h;exact⟨AB,AB,AB,AB,AB,AB,fun x j=>by have :=q x j;omega,fun x j=>by have :=u x j;omega,fun x j=>by have :=z x j;omega⟩
def FV.wide {e:AX} (h:FV e):Vl e:=by
 have j:=h.prev;have q:=h.auth;have u:=h.room;have z:=h.sender;have I:=h.key;have J:=h.server;exact⟨AB,AB,AB,AB,AB,AB,h.content.wide⟩
def aAo (k:Int):tY k=some (decide (k>=1)&&(k<=14))/\kE k=some (decide (k>=1)&&(k<=14)):=by
 unfold tY kE;cases decide (k>=1)<;>cases decide (k<=14)<;>exact⟨rfl,rfl⟩
def TA (n:Int):Ad:=decide (n< -1000)||(n>1000)
def aA3 (n:Int):nX n=some (TA n)/\SG n=some (TA n):=by
 unfold nX SG TA;cases decide (n< -1000)<;>cases decide (n>1000)<;>exact⟨rfl,rfl⟩
def PV (c:Int):Ad:=decide (c<33)||(c>126)
def aBL (s:BA):(s.toList==CU.toList)=((s.size:Int)==0):=by
 rw[J7];by_cases h:s=CU
 ·subst h;rfl
 have :¬s.size=0:=fun j=>h (bytes_inj (by
  have q:CW s=[]:=Hw (by rw[Iq];exact j)
  rw[q];rfl))
 rw[IX h];symm;rw[Rl];omega
def aEB (s:BA):Int:=if s.size=0 then 9 else if s.size>64 then 7 else bif (CW s).any PV then 3 else 0
def aJG {s:BA} (hs:s.size<=9223372036854775807):rU s=some (aEB s)/\kW s=some (aEB s):=by
 have u:aKM s 0=some (bif (CW s).any PV then 3 else 0):=by
  unfold aKM;rw[Hl (CW s) Xu PV 3 (some 0) (fun k i h=>?_) (fun k=>?_),Ky]
  ·have h':i<s.size:=WG
   simp only[aI3,dec_lt h',Bq,Vb h,Af,PV];cases decide ((CW s)[i]<33)<;>cases decide ((CW s)[i]>126)<;>rfl
  simp only[aI3,Iq,Dq,BZ]
 have z:aKf s 0=some (bif (CW s).any PV then 3 else 0):=by
  unfold aKf;rw[Hl (CW s) Xu PV 3 (some 0) (fun k i h=>?_) (fun k=>?_),Ky]
  ·have h':i<s.size:=WG
   simp only[aFV,dec_lt h',Bq,Vb h,Af,PV];cases decide ((CW s)[i]<33)<;>cases decide ((CW s)[i]>126)<;>rfl
  simp only[aFV,Iq,Dq,BZ]
 unfold rU kW aEB;rw[aBL,u,z];by_cases j:s.size=0
 ·simp[j]
 have :((s.size:Int)==0)=false:=by rw[Rl];omega
 rw[this,Dk j];by_cases q:s.size>64
 ·have :decide ((s.size:Int)>64)=true:=EN
  rw[this,DX q];exact⟨rfl,rfl⟩
 have :decide ((s.size:Int)>64)=false:=EN
 rw[this,Dk q];exact⟨rfl,rfl⟩
def qM (s:BA):Ad:=decide ((s.size:Int)>=1)&&((s.size:Int)<=32)&& !(CW s).any PV
def acZ {s:BA} (hs:s.size<=9223372036854775807):a1v s=some (qM s):=by
 unfold a1v aS2;rw[Hl (CW s) Xu PV false (some (decide ((s.size:Int)>=1)&&((s.size:Int)<=32))) (fun k i h=>?_) (fun k=>?_)]
 ·unfold qM;cases(CW s).any PV<;>cases decide ((s.size:Int)>=1)<;>cases decide ((s.size:Int)<=32)<;>rfl
 ·have h':i<s.size:=WG
  simp only[aL0,dec_lt h',Bq,Vb h,Af,PV];cases decide ((CW s)[i]<33)<;>cases decide ((CW s)[i]>126)<;>rfl
 simp only[aL0,Iq,Dq,BZ];cases decide ((s.size:Int)>=1)<;>cases decide ((s.size:Int)<=32)<;>rfl
def VW (k:Int) (s:BA):Ad:=if k=2 then Qv s==0 else if k=9 then qM s else true
def aSs {k:Int} {s:BA} (hs:s.size<=9223372036854775807):a1u k s=some (VW k s):=by
 have u:aGy s 0=some (bif (CW s).any PV then false else true):=by
  unfold aGy;rw[Hl (CW s) Xu PV false (some true) (fun k i h=>?_) (fun k=>?_),Ky]
  ·have h':i<s.size:=WG
   simp only[aKB,dec_lt h',Bq,Vb h,Af,PV];cases decide ((CW s)[i]<33)<;>cases decide ((CW s)[i]>126)<;>rfl
  simp only[aKB,Iq,Dq,BZ]
 unfold a1u VW;rw[(YS hs).2,u];by_cases j:k=2
 ·subst j;rfl
 rw[show(k==2)=false from by simpa using j,Dk j,BZ];by_cases q:k=9
 ·subst q;unfold qM;have z:decide ((s.size:Int)>=1)= !decide ((s.size:Int)<1):=aG0
  have I:decide ((s.size:Int)<=32)= !decide ((s.size:Int)>32):=aGS
  rw[z,I];cases decide ((s.size:Int)<1)<;>cases decide ((s.size:Int)>32)<;>cases(CW s).any PV<;>rfl
 rw[show(k != 9)=true from by simpa using q,Dk q];rfl
def aiK {e:AX} (j:Vl e):aBR e=some (VG e.Room==0&&Qv e.bG==0&&VW e.Kind e.Key):=by
 have u:=j.room;have z:=j.sender;have I:=j.key;unfold aBR VW;rw[(zf AB).1,(YS (s:=e.bG) AB).1,(YS (s:=e.Key) AB).1,acZ AB];simp only[Af,bne];cases VG e.Room==0 with
 |false=>rfl
 |true=>
  cases Qv e.bG==0 with
  |false=>rfl
  |true=>
   by_cases k2:e.Kind=2
   ·rw[k2];rfl
   by_cases q:e.Kind=9
   ·rw[q];rfl
   rw[show(e.Kind==2)=false from by simpa using k2,show(e.Kind==9)=false from by simpa using q,Dk k2,Dk q];rfl
def EL {R:Type} (x y:AO R):Prop:=∃r,x=some r/\y=some r
section
variable {A R:Type}
def EL.ret (r:R):EL (some r) (some r):=⟨r,rfl,rfl⟩
def EL.bind {a b:AO A} {f g:A->AO R} (h:EL a b) (k:∀x,EL (f x) (g x)):EL (a.bind f) (b.bind g):=by
 obtain⟨x,rfl,rfl⟩:=h;exact k x
def EL.bif {c:Ad} {x y j q:AO R} (u:c=true->EL x j) (z:c=false->EL y q):EL (bif c then x else y) (bif c then j else q):=by
 cases c with
 |true=>exact u rfl
 |false=>exact z rfl
def IC:=@EL.bif
def EL.loop {f g:(Int->AO R)->Int->AO R} (n:Nat) (u:n<=9223372036854775807) (hs:∀k k' (i:Nat),i<n->EL (k ((i+1:Nat):Int)) (k' ((i+1:Nat):Int))->EL (f k (i:Int)) (g k' (i:Int))) (j:∀k k',EL (f k (n:Int)) (g k' (n:Int))):EL (bJ f Az 0) (bJ g Az 0):=by
 have z:Az=9223372036854775808:=rfl
 have key:∀m (i:Nat),i+m=n->∀a,m<a->EL (bJ f a (i:Int)) (bJ g a (i:Int)):=by
  intro m
  induction m with
  |zero=>
   intro i hi a ha;obtain⟨a,rfl⟩:∃a',a=a'+1:=⟨a-1,AB⟩
   have :i=n:=AB
   subst this;exact j _ _
  |succ m q=>
   intro i hi a ha;obtain⟨a,rfl⟩:∃a',a=a'+1:=⟨a-1,AB⟩
   exact hs _ _ i AB (q (i+1) AB a AB)
 exact key n 0 AB Az AB
end
def qF {i:Nat} (h:i<=9223372036854775806):Ar ((i:Int)+1)=((i+1:Nat):Int):=wrap_succ i AB
def xC {α:Type} {l:A8 α} {i:Nat} (h:i<l.length) (hl:l.length<=9223372036854775807) (j:decide ((i:Int)>0)=true):Am l (Ar ((i:Int)-1))=some (l[i-1]' AB):=by
 have j:0<i:=Vq
 rw[OA AB AB,show(i:Int)-1=((i-1:Nat):Int) by omega];exact D5 AB
def aVw {l:A8 Int} (hl:l.length<=9223372036854775807):EL (wW l) (dU l):=by
 unfold wW aU6 dU aG3;refine EL.loop l.length hl (fun k k' i h j=>?_) (fun k k'=>?_)
 ·simp only[aKP,aBl,Zy,dec_lt h,Bq,D5 h,Af,qF (show i<=9223372036854775806 by omega)];cases decide (l[i]<0)with
  |true=>exact .ret _
  |false=>
   simp only[BZ];cases q:decide ((i:Int)>0)with
   |true=>
    simp only[Bq,xC h hl q,Af,ge_iff_le];cases decide (l[i]<=l[i-1])with
    |true=>exact .ret _
    |false=>exact j
   |false=>exact j
 simp only[aKP,aBl,Dq,BZ];exact .ret _
def aXQ {l:A8 BA} (hl:l.length<=9223372036854775807) (hs:∀s∈l,s.size<=9223372036854775807):EL (X0 l) (Rt l):=by
 unfold X0 Rt;refine IC (fun _=>.ret _) fun _=>?_;unfold aWz aNW;refine EL.loop l.length hl (fun k k' i h j=>?_) (fun k k'=>?_)
 ·obtain⟨q,u⟩:=aJG (s:=l[i]) (by have :=hs _ (Ej h);omega);simp only[aJZ,rM,dec_lt h,Bq,D5 h,Af,q,u,qF (show i<=9223372036854775806 by omega)];exact IC (fun _=>.ret _) fun _=>j
 simp only[aJZ,rM,Dq,BZ];exact .ret _
def ael {c:DI} (j:LH c):EL (WA 4 c) (eU c):=by
 have hl:=j.allow;unfold WA eU;rw[show((4:Int)==6)=false from rfl,BZ];refine EL.bind (IC (fun _=>.ret _) fun _=>.ret _) fun x=>IC (fun _=>.ret _) fun _=>IC (fun _=>.ret _) fun _=>?_;unfold aSX aXM;refine EL.loop c.Allow.length AB (fun k k' i h q=>?_) (fun k k'=>?_)
 ·obtain⟨u,z⟩:=zf (s:=c.Allow[i]) (by have :=j.allows _ (Ej h);omega);simp only[aMR,aAU,a09,dec_lt h,Bq,D5 h,Af,u,z,qF (show i<=9223372036854775806 by omega)];refine IC (fun _=>.ret _) fun _=>?_;cases I:decide ((i:Int)>0)with
  |true=>
   simp only[Bq,xC h (show c.Allow.length<=9223372036854775807 by omega) I,Af];exact IC (fun _=>.ret _) fun _=>q
  |false=>exact q
 simp only[aMR,aAU,Dq,BZ];exact .ret _
def afW {l:A8 Ig} (hl:l.length<=9223372036854775807) (hs:∀u∈l,u.User.size<=9223372036854775807):EL (aEG l) (ZL l):=by
 unfold aEG ZL;refine IC (fun _=>.ret _) fun _=>?_;unfold aOR aFy;refine EL.loop l.length hl (fun k k' i h j=>?_) (fun k k'=>?_)
 ·obtain⟨q,z⟩:=YS (s:=l[i].User) (by have :=hs _ (Ej h);omega);obtain⟨I,J⟩:=aA3 l[i].N;simp only[aLH,a0G,aBk,lH,dec_lt h,Bq,D5 h,Af,q,z,I,J,qF (show i<=9223372036854775806 by omega)];refine IC (fun _=>.ret _) fun _=>?_;cases L:decide ((i:Int)>0)with
  |true=>
   simp only[Bq,xC h hl L,Af];exact IC (fun _=>.ret _) fun _=>IC (fun _=>.ret _) fun _=>j
  |false=>
   simp only[BZ];exact IC (fun _=>.ret _) fun _=>j
 simp only[aLH,a0G,Dq,BZ];exact .ret _
def aZ7 {l:A8 KJ} (hl:l.length<=9223372036854775807):EL (a0n l) (Z9 l):=by
 unfold a0n Z9;refine IC (fun _=>.ret _) fun _=>?_;unfold aUy aMq;refine EL.loop l.length hl (fun k k' i h j=>?_) (fun k k'=>?_)
 ·obtain⟨q,u⟩:=aAo l[i].Kind;obtain⟨z,I⟩:=aA3 l[i].N;simp only[aIU,a2H,a1x,a1Q,dec_lt h,Bq,D5 h,Af,q,u,z,I,qF (show i<=9223372036854775806 by omega)];refine IC (fun _=>.ret _) fun _=>?_;cases J:decide ((i:Int)>0)with
  |true=>
   simp only[Bq,xC h hl J,Af];exact IC (fun _=>.ret _) fun _=>IC (fun _=>.ret _) fun _=>j
  |false=>
   simp only[BZ];exact IC (fun _=>.ret _) fun _=>j
 simp only[aIU,a2H,Dq,BZ];exact .ret _
def anO {l:Cx} (I:l.Users.length<=9223372036854775807) (J:l.Kinds.length<=9223372036854775807) (j:∀u∈l.Users,u.User.size<=9223372036854775807):EL (aB l) (ZC l):=by
 have q:aMl l 0=some (bif (KA l).any TA then 2 else 0):=by
  unfold aMl;rw[Hl (KA l) (by have :Az=9223372036854775808:=rfl;simp[KA,this]) TA 2 (some 0) (fun k i h=>?_) (fun k=>rfl),Ky];have L:i<7:=h;have z:Am ([l.User,l.Message,l.State,l.gY,l.kD,l.nZ,l.iJ]:A8 Int) (i:Int)=some ((KA l)[i]'(h)):=D5 h;simp only[aSy,show decide ((i:Int)<7)=true from by simp;omega,Bq,z,Af,(aA3 _).1]
 unfold aB ZC;refine EL.bind (afW AB j) fun x=>IC (fun _=>.ret _) fun _=>EL.bind (aZ7 AB) fun y=>IC (fun _=>.ret _) fun _=>?_;rw[q];simp only[(aA3 _).2,Af,KA,bP,List.any_nil];cases TA l.User<;>cases TA l.Message<;>cases TA l.State<;>cases TA l.gY<;>cases TA l.kD<;>cases TA l.nZ<;>cases TA l.iJ<;>exact .ret _
def UD {α:Type} {l:A8 α} (h:((l.length:Int)==0)=true):l=[]:=Hw aMh
def Nq (l:Cx):Ad:=((l.Users.length:Int)==0)&&((l.Kinds.length:Int)==0)&&(l.User==0)&&(l.Message==0)&&(l.State==0)&&(l.gY==0)&&(l.kD==0)&&(l.nZ==0)&&(l.iJ==0)
def bare_eq (l:Cx):aAt l=some (Nq l):=by
 unfold aAt Nq;simp only[Ky,Af,Tf]
def aTb (l:Cx):W9 l Jq=some (Nq l):=by
 unfold W9 Nq;show(bif ((l.Users.length:Int) != 0)then some true else some ((l.Kinds.length:Int) != 0)).bind _=_;simp only[bne];cases u:((l.Users.length:Int)==0)with
 |false=>rfl
 |true=>
  cases z:((l.Kinds.length:Int)==0)with
  |false=>rfl
  |true=>
   have j:=UD u;have q:=UD z
   have I:ZT l Jq 0=some ((l.User==0)&&(l.Message==0)&&(l.State==0)&&(l.gY==0)&&(l.kD==0)&&(l.nZ==0)&&(l.iJ==0)):=by
    unfold ZT;refine aJM l.Kinds (by rw[q];simp) _ (fun k i h=>by rw[q]at h;simp at h) (fun k=>?_);simp only[o9,Dq,BZ,Ky,Af,Tf];rfl
   have J:zB l Jq 0=some ((l.User==0)&&(l.Message==0)&&(l.State==0)&&(l.gY==0)&&(l.kD==0)&&(l.nZ==0)&&(l.iJ==0)):=by
    unfold zB;refine aJM l.Users (by rw[j];simp) _ (fun k i h=>by rw[j]at h;simp at h) (fun k=>?_);simp only[nG,Dq,BZ];exact I
   simp only[Eo,BZ,Af,J,Gh]
def abw (l:Cx):a0r l=some (Nq l):=by
 unfold a0r;rw[aTb];rfl
def afw (l:A8 BA):U6 l []=some ((l.length:Int)==0):=by
 cases h:((l.length:Int)==0)with
 |true=>rw[UD h];exact acy (l:=[]) Bj
 |false=>
  unfold U6;show(bif ((l.length:Int) != 0)then some false else _)=_;simp only[bne,h,Iu,Bq]
def iW (a0 j q u z I J L:Ad):Ad:=a0&&j&&q&&u&&z&&I&&J&&L
def aYM (c:DI):UY c EC=some (iW (c.Text.toList==CU.toList) (c.N==0) (c.Target==0) (!c.Thread) (c.Via.toList==CU.toList) ((c.Allow.length:Int)==0) ((c.iK.length:Int)==0) (Nq c.Levels)):=by
 unfold UY iW;show(bif c.Text.toList==CU.toList then some (c.N==0)else some false).bind _=_;simp only[show EC.Allow=[]from rfl,show EC.iK=[]from rfl,show EC.Levels=Jq from rfl,show EC.Target=0 from rfl,show EC.Thread=false from rfl,show EC.Via=CU from rfl,afw,aTb,Ky,Af,Tf];congr 1;cases c.Thread<;>simp
def a1O (a0 j q u z I J L:Ad):Int:=
 let v:=bif !a0 then Eu .or .i64 0 1 else 0
 let v:=bif !j then Eu .or .i64 v 2 else v
 let v:=bif !q then Eu .or .i64 v 4 else v
 let v:=bif !u then Eu .or .i64 v 8 else v
 let v:=bif !z then Eu .or .i64 v 16 else v
 let v:=bif !I then Eu .or .i64 v 32 else v
 let v:=bif !J then Eu .or .i64 v 64 else v
 bif !L then Eu .or .i64 v 128 else v
def pos_eq {α:Type} (l:A8 α):decide ((l.length:Int)>0)= !((l.length:Int)==0):=by
 cases h:((l.length:Int)==0)with
 |true=>have :=eq_of_beq h;rw[Eo,PX];omega
 |false=>have :=ne_of_beq_false h;rw[Iu,Hd];omega
def amy (c:DI):zl c=some (a1O (c.Text.toList==CU.toList) (c.N==0) (c.Target==0) (!c.Thread) (c.Via.toList==CU.toList) ((c.Allow.length:Int)==0) ((c.iK.length:Int)==0) (Nq c.Levels)):=by
 unfold zl aEt aEj a2J aEq aAK aDf aBy a0Z a1O;rw[bare_eq,pos_eq,pos_eq];simp only[Af,bne,uH];generalize(c.Text.toList==CU.toList)=j;generalize(c.N==0)=q;generalize(c.Target==0)=u;generalize c.Thread=z;generalize(c.Via.toList==CU.toList)=I;generalize((c.Allow.length:Int)==0)=J;generalize((c.iK.length:Int)==0)=L;generalize Nq c.Levels=M;cases j<;>cases q<;>cases u<;>cases z<;>cases I<;>cases J<;>cases L<;>cases M<;>rfl
def aaR :∀a0 j q u z I J L:Ad,(a1O a0 j q u z I J L==0)=iW a0 j q u z I J L:=NY
def MR (j q u z I J L M a0 O U Y Z a5 a6 a7:Ad):Ad:=(a0||j)&&(O||q)&&(U||u)&&(Y||z)&&(Z||I)&&(a5||J)&&(a6||L)&&(a7||M)
def aTq {K:Int} {c:DI} {j q u z I J L M:Ad} (O:D6 K JA=some j) (U:D6 K JL=some q) (Y:D6 K JE=some u) (Z:D6 K Lu=some z) (h4:D6 K MB=some I) (h5:D6 K Kr=some J) (h6:D6 K MQ=some L) (h7:D6 K MK=some M):aN K c=some (MR j q u z I J L M (c.Text.toList==CU.toList) (c.N==0) (c.Target==0) (!c.Thread) (c.Via.toList==CU.toList) ((c.Allow.length:Int)==0) ((c.iK.length:Int)==0) (Nq c.Levels)):=by
 unfold aN MR;simp only[O,U,Y,Z,h4,h5,h6,h7,abw,Ky,Af,lI,Tf]
def I4 (x r:AO Int):AO Int:=x.bind fun v=>bif v != 0 then some v else r
def Ei {x r:AO Int} (h:x=some 0):I4 x r=r:=by rw[h];rfl
def NQ {x y r s:AO Int} (h:EL x y) (k:EL r s):EL (I4 x r) (I4 y s):=EL.bind h fun _=>IC (fun _=>.ret _) fun _=>k
def aF9 (x:AO Int):I4 x (some 0)=x:=by
 cases x with
 |none=>rfl
 |some v=>
  show(bif v != 0 then some v else some 0)=some v;by_cases h:v=0
  ·subst h;rfl
  rw[show(v != 0)=true from by simpa using h];rfl
def aAh {A:Type} (x:AO A):(x.bind fun v=>some v)=x:=by cases x<;>rfl
def OD (K:Int) (c:DI):AO Int:=I4 (ZO K c) (I4 (Nz K c.N) (I4 (Vw K c) (I4 (Yz c) (bif K==4 then eU c else I4 (Rt c.Allow) (I4 (Rt c.iK) (ZC c.Levels))))))
def frame {K M kp:Int} {br:Ad} {c:DI} {q u z I J L O U:Ad} (hU:mY K=some M) (hk:(decide (K>=1)&&(K<=14))=true) (Y:iH K=some kp) (hb:aCM K=some br) (h0:D6 K JA=some q) (h1:D6 K JL=some u) (h2:D6 K JE=some z) (h3:D6 K Lu=some I) (h4:D6 K MB=some J) (h5:D6 K Kr=some L) (h6:D6 K MQ=some O) (h7:D6 K MK=some U)
 (hM:∀a0 a1 a2 a3 a4 a5 a6 a7:Ad,(Eu .andNot .i64 (a1O a0 a1 a2 a3 a4 a5 a6 a7) M != 0)= !MR q u z I J L O U a0 a1 a2 a3 a4 a5 a6 a7) (Z:(br=true->kp=0)) (hA:kp=0->br=false->ND M K 0 c=some 0)
 (j:MR q u z I J L O U (c.Text.toList==CU.toList) (c.N==0) (c.Target==0) (!c.Thread) (c.Via.toList==CU.toList) ((c.Allow.length:Int)==0) ((c.iK.length:Int)==0) (Nq c.Levels)=true->EL (ND M K 0 c) (OD K c)):EL (MS K c) (Jk K c):=by
 have ht:Jk K c=(kE K).bind fun x1=>(bif (!x1)then some true else(aN K c).bind fun x4=>some (!x4)).bind fun x2=>(bif x2 then some 1 else(aCM K).bind fun x6=>(bif x6 then(UY c EC).bind fun x9=>some x9 else some false).bind fun x7=>(bif x7 then some 0 else OD K c)):=by
  unfold Jk OD I4;simp only[aAh]
 rw[ht];unfold MS;obtain⟨k1,k2⟩:=aAo K;rw[hk]at k1 k2;rw[hU,k1,k2,amy,Y,hb,aTq h0 h1 h2 h3 h4 h5 h6 h7,aYM];simp only[Af,Eo,BZ,hM,aaR];cases ho:MR q u z I J L O U (c.Text.toList==CU.toList) (c.N==0) (c.Target==0) (!c.Thread) (c.Via.toList==CU.toList) ((c.Allow.length:Int)==0) ((c.iK.length:Int)==0) (Nq c.Levels)with
 |false=>exact .ret _
 |true=>
  simp only[Eo,BZ];have j:=j ho;cases ha:iW (c.Text.toList==CU.toList) (c.N==0) (c.Target==0) (!c.Thread) (c.Via.toList==CU.toList) ((c.Allow.length:Int)==0) ((c.iK.length:Int)==0) (Nq c.Levels)with
  |false=>
   simp only[BZ,Af];cases br<;>exact j
  |true=>
   simp only[Bq,Af];cases hz:kp==0 with
   |false=>
    cases br with
    |false=>exact j
    |true=>rw[Z rfl]at hz;cases hz
   |true=>
    cases br with
    |true=>exact .ret _
    |false=>
     have e:=hA (eq_of_beq hz) rfl;rw[e]at j;exact j
def SV (M b:Int) (x r:AO Int):AO Int:=bif Eu .and .i64 M b==0 then r else I4 x r
def Zd {S B R:Type} (body:(S->B->AO R)->S->B->AO R) (n:Nat) (a:S) (b:B):aU body (n+1) a b=body (aU body n) a b:=rfl
def aa9 (M K:Int) (c:DI):ND M K 0 c=SV M 1 (Qq K c) (SV M 2 (Oo K c) (SV M 4 (Rs K c) (SV M 8 (dN K c) (SV M 16 (gV K c) (SV M 32 (WA K c)
 (bif Eu .and .i64 M 64 != 0 then X0 c.iK else bif Eu .and .i64 M 128 != 0 then aB c.Levels else some 0)))))):=by
 have j:Az=9223372036854775801+1+1+1+1+1+1+1:=rfl;have q:∀k,YZ M K k 0 c=SV M 1 (Qq K c) (k 1 c):=fun k=>rfl;have u:∀k,YZ M K k 1 c=SV M 2 (Oo K c) (k 2 c):=fun k=>rfl;have z:∀k,YZ M K k 2 c=SV M 4 (Rs K c) (k 3 c):=fun k=>rfl;have I:∀k,YZ M K k 3 c=SV M 8 (dN K c) (k 4 c):=fun k=>rfl;have J:∀k,YZ M K k 4 c=SV M 16 (gV K c) (k 5 c):=fun k=>rfl;have L:∀k,YZ M K k 5 c=SV M 32 (WA K c) (k 6 c):=fun k=>rfl;have O:∀k,YZ M K k 6 c=(bif Eu .and .i64 M 64 != 0 then(X0 c.iK).bind fun x=>some x else bif Eu .and .i64 M 128 != 0 then(aB c.Levels).bind fun x=>some x else some 0):=fun k=>rfl;unfold ND;rw[j,Zd,q,Zd,u,Zd,z,Zd,I,Zd,J,Zd,L,Zd,O,aAh,aAh]
section
variable {c:DI} {K:Int}
def text0 (h:(c.Text.toList==CU.toList)=true) (j:K≠12):ZO K c=some 0:=by
 have q:(c.Text.size:Int)=0:=by rw[aBL]at h;exact eq_of_beq h
 unfold ZO;rw[h,q,show(K==12)=false from by simpa using j];cases K==9<;>rfl
def Uz (h:D6 K JE=some false) (j:(!c.Thread)=true):Vw K c=some 0:=by
 unfold Vw;rw[h,show c.Thread=false from by simpa using j];rfl
def RZ (h:(c.Via.toList==CU.toList)=true):Yz c=some 0:=by unfold Yz;rw[h];rfl
def KE {l:A8 BA} (h:((l.length:Int)==0)=true):Rt l=some 0:=by
 rw[UD h];unfold Rt aNW;show bJ (rM []) Az 0=some 0;rw[Hl ([]:A8 BA) Bo (fun _=>false) 0 (some 0) (fun k i h=>J8) (fun k=>rfl)];rfl
def SN {l:Cx} (h:Nq l=true):ZC l=some 0:=by
 unfold Nq at h;simp only[Df]at h;obtain⟨⟨⟨⟨⟨⟨⟨⟨j,q⟩,u⟩,z⟩,I⟩,J⟩,L⟩,M⟩,O⟩:=h
 have U:ZL []=some 0:=by
  unfold ZL aFy;show bJ (a0G []) Az 0=some 0;rw[Hl ([]:A8 BA) Bo (fun _=>false) 0 (some 0) (fun k i h=>J8) (fun k=>rfl)];rfl
 have Y:Z9 []=some 0:=by
  unfold Z9 aMq;show bJ (a2H []) Az 0=some 0;rw[Hl ([]:A8 BA) Bo (fun _=>false) 0 (some 0) (fun k i h=>J8) (fun k=>rfl)];rfl
 unfold ZC;rw[UD j,UD q,U,Y,eq_of_beq u,eq_of_beq z,eq_of_beq I,eq_of_beq J,eq_of_beq L,eq_of_beq M,eq_of_beq O];rfl
def Zx (q:LH c):EL (Qq K c) (ZO K c):=by
 have J:=q.text;obtain⟨u,z⟩:=aJG (s:=c.Text) AB;unfold Qq a1Z ZO;rw[u,z];have e:=aBL c.Text;by_cases j:K=9
 ·subst j;cases h:(c.Text.toList==CU.toList)with
  |false=>exact .ret _
  |true=>
   have I:(c.Text.size:Int)=0:=by rw[e]at h;exact eq_of_beq h
   rw[I];exact .ret _
 rw[show(K==9)=false from by simpa using j];cases K==12<;>cases(c.Text.toList==CU.toList)<;>cases decide ((c.Text.size:Int)>32)<;>cases decide ((c.Text.size:Int)>400)<;>exact .ret _
def akU (j:LH c):EL (gV K c) (Yz c):=by
 have z:=j.via;obtain⟨q,u⟩:=YS (s:=c.Via) AB;unfold gV Yz;rw[q,u];exact IC (fun _=>.ret _) fun _=>IC (fun _=>.ret _) fun _=>.ret _
def aK6 (h:D6 K JE=some true) (j:(!c.Thread)=true):EL (Rs K c) (Vw K c):=by
 unfold Rs Vw;rw[h,show c.Thread=false from by simpa using j];cases decide (c.Target<0)<;>cases c.Target==0<;>cases K != 11<;>exact .ret _
def alm (h:D6 K JE=some true):EL (I4 (Rs K c) (dN K c)) (Vw K c):=by
 unfold Rs dN Vw I4;rw[h];cases decide (c.Target<0)<;>cases c.Target==0<;>cases K != 11<;>cases c.Thread<;>exact .ret _
def acA (j:LH c):EL (WA 6 c) (Rt c.Allow):=by
 have q:=j.allow;have :=aXQ (l:=c.Allow) AB j.allows;show EL ((X0 c.Allow).bind fun x=>some x) _;rw[aAh];exact this
end
def a0I (a b:Int):decide (a>=b)= !decide (a<b):=by by_cases h:a<b<;>simp[h]<;>omega
def uJ (a b:Int):decide (a<=b)= !decide (a>b):=by by_cases h:a>b<;>simp[h]<;>omega
def ag7 {c:DI} (hc:LH c):EL (MS 1 c) (Jk 1 c):=by
 have u:D6 1 JA=some false:=AA
 have z:D6 1 JL=some false:=AA
 have q:D6 1 JE=some false:=AA
 have I:D6 1 Lu=some false:=AA
 have J:D6 1 MB=some false:=AA
 have L:D6 1 Kr=some false:=AA
 have O:D6 1 MQ=some false:=AA
 have U:D6 1 MK=some false:=AA
 refine frame (M:=0) (kp:=0) (br:=false) rfl rfl rfl rfl u z q I J L O U NY (fun h=>JD) (fun h h'=>rfl) fun j=>?_;unfold MR at j;simp only[P9,MJ,OM,Gh,Df]at j;obtain⟨⟨⟨⟨⟨⟨⟨Y,e1⟩,e2⟩,Z⟩,e4⟩,e5⟩,e6⟩,e7⟩:=j;have hL:ND 0 1 0 c=(some 0):=QD
 rw[hL];unfold OD;rw[Ei (text0 Y Bo),Ei (show Nz 1 c.N=some 0 from rfl),Ei (Uz q Z),Ei (RZ e4),show((1:Int)==4)=false from rfl,BZ,Ei (KE e5),Ei (KE e6),SN e7];exact .ret _
def am9 (c:DI):EL (Oo 2 c) (Nz 2 c.N):=by
 show EL ((bif c.N<0 then some true else some (decide (c.N>4))).bind fun j=>(bif j then some 2 else some 0)) ((bif c.N>=0 then some (decide (c.N<=4))else some false).bind fun q=>(bif (!q)then some 2 else some 0));rw[a0I,uJ];cases decide (c.N<0)<;>cases decide (c.N>4)<;>exact .ret _
def agh {c:DI} (q:LH c):EL (MS 2 c) (Jk 2 c):=by
 have z:D6 2 JA=some true:=AA
 have I:D6 2 JL=some true:=AA
 have u:D6 2 JE=some false:=AA
 have J:D6 2 Lu=some false:=AA
 have L:D6 2 MB=some true:=AA
 have O:D6 2 Kr=some false:=AA
 have U:D6 2 MQ=some false:=AA
 have Y:D6 2 MK=some false:=AA
 refine frame (M:=19) (kp:=18) (br:=false) rfl rfl rfl rfl z I u J L O U Y NY (fun h=>JD) (fun h h'=>JD) fun j=>?_;unfold MR at j;simp only[P9,MJ,OM,Gh,Df]at j;obtain⟨⟨⟨⟨e2,Z⟩,e5⟩,e6⟩,e7⟩:=j;have hL:ND 19 2 0 c=(I4 (Qq 2 c) (I4 (Oo 2 c) (I4 (gV 2 c) (some 0)))):=QD
 rw[hL];unfold OD;rw[Ei (Uz u Z),show((2:Int)==4)=false from rfl,BZ,Ei (KE e5),Ei (KE e6),SN e7];exact NQ (Zx q) (NQ (am9 c) (NQ (akU q) (.ret _)))
def aaN {c:DI} (j:LH c):EL (MS 3 c) (Jk 3 c):=by
 have z:D6 3 JA=some false:=AA
 have I:D6 3 JL=some false:=AA
 have u:D6 3 JE=some false:=AA
 have J:D6 3 Lu=some false:=AA
 have L:D6 3 MB=some false:=AA
 have O:D6 3 Kr=some false:=AA
 have U:D6 3 MQ=some false:=AA
 have Y:D6 3 MK=some true:=AA
 refine frame (M:=128) (kp:=128) (br:=false) rfl rfl rfl rfl z I u J L O U Y NY (fun h=>JD) (fun h h'=>JD) fun q=>?_;unfold MR at q;simp only[P9,MJ,OM,Gh,Df]at q;obtain⟨⟨⟨⟨⟨⟨Z,e1⟩,e2⟩,e3⟩,e4⟩,e5⟩,e6⟩:=q;have hL:ND 128 3 0 c=(aB c.Levels):=QD
 rw[hL];unfold OD;rw[Ei (text0 Z Bo),Ei (show Nz 3 c.N=some 0 from rfl),Ei (Uz u e3),Ei (RZ e4),show((3:Int)==4)=false from rfl,BZ,Ei (KE e5),Ei (KE e6)];exact anO j.users j.kinds j.names
def afg (c:DI):EL (Oo 4 c) (Nz 4 c.N):=by
 show EL ((bif c.N<0 then some true else some (decide (c.N>3))).bind fun j=>(bif j then some 2 else some 0)) ((bif c.N>=0 then some (decide (c.N<=3))else some false).bind fun q=>(bif (!q)then some 2 else some 0));rw[a0I,uJ];cases decide (c.N<0)<;>cases decide (c.N>3)<;>exact .ret _
def acp {c:DI} (u:LH c):EL (MS 4 c) (Jk 4 c):=by
 have z:D6 4 JA=some false:=AA
 have I:D6 4 JL=some true:=AA
 have q:D6 4 JE=some false:=AA
 have J:D6 4 Lu=some false:=AA
 have L:D6 4 MB=some false:=AA
 have O:D6 4 Kr=some true:=AA
 have U:D6 4 MQ=some false:=AA
 have Y:D6 4 MK=some false:=AA
 refine frame (M:=34) (kp:=34) (br:=false) rfl rfl rfl rfl z I q J L O U Y NY (fun h=>JD) (fun h h'=>JD) fun j=>?_;unfold MR at j;simp only[P9,MJ,OM,Gh,Df]at j;obtain⟨⟨⟨⟨⟨Z,e2⟩,e3⟩,e4⟩,e6⟩,e7⟩:=j;have hL:ND 34 4 0 c=(I4 (Oo 4 c) (I4 (WA 4 c) (some 0))):=QD
 rw[hL];unfold OD;rw[Ei (text0 Z Bo),Ei (Uz q e3),Ei (RZ e4),show((4:Int)==4)=true from rfl,Bq];rw[aF9];exact NQ (afg c) (ael u)
def aki (c:DI):EL (Oo 5 c) (Nz 5 c.N):=by
 show EL ((bif c.N<0 then some true else some (decide (c.N>3))).bind fun j=>(bif j then some 2 else some 0)) ((bif c.N>=0 then some (decide (c.N<=3))else some false).bind fun q=>(bif (!q)then some 2 else some 0));rw[a0I,uJ];cases decide (c.N<0)<;>cases decide (c.N>3)<;>exact .ret _
def afu {c:DI} (hc:LH c):EL (MS 5 c) (Jk 5 c):=by
 have u:D6 5 JA=some false:=AA
 have z:D6 5 JL=some true:=AA
 have q:D6 5 JE=some false:=AA
 have I:D6 5 Lu=some false:=AA
 have J:D6 5 MB=some false:=AA
 have L:D6 5 Kr=some false:=AA
 have O:D6 5 MQ=some false:=AA
 have U:D6 5 MK=some false:=AA
 refine frame (M:=2) (kp:=2) (br:=false) rfl rfl rfl rfl u z q I J L O U NY (fun h=>JD) (fun h h'=>JD) fun j=>?_;unfold MR at j;simp only[P9,MJ,OM,Gh,Df]at j;obtain⟨⟨⟨⟨⟨⟨Y,e2⟩,Z⟩,e4⟩,e5⟩,e6⟩,e7⟩:=j;have hL:ND 2 5 0 c=(I4 (Oo 5 c) (some 0)):=QD
 rw[hL];unfold OD;rw[Ei (text0 Y Bo),Ei (Uz q Z),Ei (RZ e4),show((5:Int)==4)=false from rfl,BZ,Ei (KE e5),Ei (KE e6),SN e7];exact NQ (aki c) (.ret _)
def ae7 {c:DI} (j:LH c):EL (MS 6 c) (Jk 6 c):=by
 have I:D6 6 JA=some false:=AA
 have u:D6 6 JL=some false:=AA
 have z:D6 6 JE=some false:=AA
 have J:D6 6 Lu=some false:=AA
 have L:D6 6 MB=some false:=AA
 have O:D6 6 Kr=some true:=AA
 have U:D6 6 MQ=some true:=AA
 have Y:D6 6 MK=some false:=AA
 refine frame (M:=96) (kp:=96) (br:=false) rfl rfl rfl rfl I u z J L O U Y NY (fun h=>JD) (fun h h'=>JD) fun q=>?_;unfold MR at q;simp only[P9,MJ,OM,Gh,Df]at q;obtain⟨⟨⟨⟨⟨Z,e1⟩,e2⟩,e3⟩,e4⟩,e7⟩:=q;have hL:ND 96 6 0 c=(I4 (WA 6 c) (X0 c.iK)):=QD
 rw[hL];unfold OD;rw[Ei (text0 Z Bo),Ei (show Nz 6 c.N=some 0 from rfl),Ei (Uz z e3),Ei (RZ e4),show((6:Int)==4)=false from rfl,BZ,SN e7];have u:=j.deny;rw[aF9];exact NQ (acA j) (aXQ AB j.denies)
def aiJ {c:DI} (u:LH c):EL (MS 7 c) (Jk 7 c):=by
 have z:D6 7 JA=some true:=AA
 have I:D6 7 JL=some false:=AA
 have q:D6 7 JE=some false:=AA
 have J:D6 7 Lu=some false:=AA
 have L:D6 7 MB=some false:=AA
 have O:D6 7 Kr=some false:=AA
 have U:D6 7 MQ=some false:=AA
 have Y:D6 7 MK=some false:=AA
 refine frame (M:=1) (kp:=0) (br:=true) rfl rfl rfl rfl z I q J L O U Y NY (fun h=>rfl) (fun h h'=>cD) fun j=>?_;unfold MR at j;simp only[P9,MJ,OM,Gh,Df]at j;obtain⟨⟨⟨⟨⟨⟨e1,e2⟩,Z⟩,e4⟩,e5⟩,e6⟩,e7⟩:=j;have hL:ND 1 7 0 c=(I4 (Qq 7 c) (some 0)):=QD
 rw[hL];unfold OD;rw[Ei (show Nz 7 c.N=some 0 from rfl),Ei (Uz q Z),Ei (RZ e4),show((7:Int)==4)=false from rfl,BZ,Ei (KE e5),Ei (KE e6),SN e7];exact NQ (Zx u) (.ret _)
def aaX (c:DI):EL (Oo 8 c) (Nz 8 c.N):=by
 show EL ((bif c.N<0 then some true else some (decide (c.N>1000000000))).bind fun j=>(bif j then some 2 else some 0)) ((bif c.N>=0 then some (decide (c.N<=1000000000))else some false).bind fun q=>(bif (!q)then some 2 else some 0));rw[a0I,uJ];cases decide (c.N<0)<;>cases decide (c.N>1000000000)<;>exact .ret _
def akL {c:DI} (hc:LH c):EL (MS 8 c) (Jk 8 c):=by
 have u:D6 8 JA=some false:=AA
 have z:D6 8 JL=some true:=AA
 have q:D6 8 JE=some false:=AA
 have I:D6 8 Lu=some false:=AA
 have J:D6 8 MB=some false:=AA
 have L:D6 8 Kr=some false:=AA
 have O:D6 8 MQ=some false:=AA
 have U:D6 8 MK=some false:=AA
 refine frame (M:=2) (kp:=0) (br:=true) rfl rfl rfl rfl u z q I J L O U NY (fun h=>rfl) (fun h h'=>cD) fun j=>?_;unfold MR at j;simp only[P9,MJ,OM,Gh,Df]at j;obtain⟨⟨⟨⟨⟨⟨Y,e2⟩,Z⟩,e4⟩,e5⟩,e6⟩,e7⟩:=j;have hL:ND 2 8 0 c=(I4 (Oo 8 c) (some 0)):=QD
 rw[hL];unfold OD;rw[Ei (text0 Y Bo),Ei (Uz q Z),Ei (RZ e4),show((8:Int)==4)=false from rfl,BZ,Ei (KE e5),Ei (KE e6),SN e7];exact NQ (aaX c) (.ret _)
def abH (c:DI):EL (Oo 9 c) (Nz 9 c.N):=by
 show EL ((bif (c.N==1)then some true else some (c.N==2)).bind fun j=>(bif j then some true else some (c.N==6)).bind fun q=>(bif q then some 0 else some 2)) ((bif (c.N==1)then some true else some (c.N==2)).bind fun u=>(bif u then some true else some (c.N==6)).bind fun z=>(bif (!z)then some 2 else some 0));cases c.N==1<;>cases c.N==2<;>cases c.N==6<;>exact .ret _
def aZ8 {c:DI} (u:LH c):EL (MS 9 c) (Jk 9 c):=by
 have z:D6 9 JA=some true:=AA
 have I:D6 9 JL=some true:=AA
 have q:D6 9 JE=some false:=AA
 have J:D6 9 Lu=some false:=AA
 have L:D6 9 MB=some false:=AA
 have O:D6 9 Kr=some false:=AA
 have U:D6 9 MQ=some false:=AA
 have Y:D6 9 MK=some false:=AA
 refine frame (M:=3) (kp:=0) (br:=true) rfl rfl rfl rfl z I q J L O U Y NY (fun h=>rfl) (fun h h'=>cD) fun j=>?_;unfold MR at j;simp only[P9,MJ,OM,Gh,Df]at j;obtain⟨⟨⟨⟨⟨e2,Z⟩,e4⟩,e5⟩,e6⟩,e7⟩:=j;have hL:ND 3 9 0 c=(I4 (Qq 9 c) (I4 (Oo 9 c) (some 0))):=QD
 rw[hL];unfold OD;rw[Ei (Uz q Z),Ei (RZ e4),show((9:Int)==4)=false from rfl,BZ,Ei (KE e5),Ei (KE e6),SN e7];exact NQ (Zx u) (NQ (abH c) (.ret _))
def ab7 (c:DI):EL (Oo 10 c) (Nz 10 c.N):=by
 show EL ((bif c.N<1 then some true else some (decide (c.N>10000))).bind fun j=>(bif j then some 2 else some 0)) ((bif c.N>=1 then some (decide (c.N<=10000))else some false).bind fun q=>(bif (!q)then some 2 else some 0));rw[a0I,uJ];cases decide (c.N<1)<;>cases decide (c.N>10000)<;>exact .ret _
def am5 {c:DI} (hc:LH c):EL (MS 10 c) (Jk 10 c):=by
 have u:D6 10 JA=some false:=AA
 have z:D6 10 JL=some true:=AA
 have q:D6 10 JE=some false:=AA
 have I:D6 10 Lu=some false:=AA
 have J:D6 10 MB=some false:=AA
 have L:D6 10 Kr=some false:=AA
 have O:D6 10 MQ=some false:=AA
 have U:D6 10 MK=some false:=AA
 refine frame (M:=2) (kp:=0) (br:=true) rfl rfl rfl rfl u z q I J L O U NY (fun h=>rfl) (fun h h'=>cD) fun j=>?_;unfold MR at j;simp only[P9,MJ,OM,Gh,Df]at j;obtain⟨⟨⟨⟨⟨⟨Y,e2⟩,Z⟩,e4⟩,e5⟩,e6⟩,e7⟩:=j;have hL:ND 2 10 0 c=(I4 (Oo 10 c) (some 0)):=QD
 rw[hL];unfold OD;rw[Ei (text0 Y Bo),Ei (Uz q Z),Ei (RZ e4),show((10:Int)==4)=false from rfl,BZ,Ei (KE e5),Ei (KE e6),SN e7];exact NQ (ab7 c) (.ret _)
def ame {c:DI} (u:LH c):EL (MS 11 c) (Jk 11 c):=by
 have z:D6 11 JA=some true:=AA
 have I:D6 11 JL=some false:=AA
 have q:D6 11 JE=some true:=AA
 have J:D6 11 Lu=some true:=AA
 have L:D6 11 MB=some false:=AA
 have O:D6 11 Kr=some false:=AA
 have U:D6 11 MQ=some false:=AA
 have Y:D6 11 MK=some false:=AA
 refine frame (M:=13) (kp:=0) (br:=true) rfl rfl rfl rfl z I q J L O U Y NY (fun h=>rfl) (fun h h'=>cD) fun j=>?_;unfold MR at j;simp only[P9,MJ,OM,Gh,Df]at j;obtain⟨⟨⟨⟨e1,Z⟩,e5⟩,e6⟩,e7⟩:=j;have hL:ND 13 11 0 c=(I4 (Qq 11 c) (I4 (Rs 11 c) (I4 (dN 11 c) (some 0)))):=QD
 rw[hL];unfold OD;rw[Ei (show Nz 11 c.N=some 0 from rfl),Ei (RZ Z),show((11:Int)==4)=false from rfl,BZ,Ei (KE e5),Ei (KE e6),SN e7];rw[aF9,aF9];exact NQ (Zx u) (alm q)
def aky {c:DI} (u:LH c):EL (MS 12 c) (Jk 12 c):=by
 have z:D6 12 JA=some true:=AA
 have I:D6 12 JL=some false:=AA
 have q:D6 12 JE=some true:=AA
 have J:D6 12 Lu=some false:=AA
 have L:D6 12 MB=some false:=AA
 have O:D6 12 Kr=some false:=AA
 have U:D6 12 MQ=some false:=AA
 have Y:D6 12 MK=some false:=AA
 refine frame (M:=5) (kp:=0) (br:=true) rfl rfl rfl rfl z I q J L O U Y NY (fun h=>rfl) (fun h h'=>cD) fun j=>?_;unfold MR at j;simp only[P9,MJ,OM,Gh,Df]at j;obtain⟨⟨⟨⟨⟨e1,Z⟩,e4⟩,e5⟩,e6⟩,e7⟩:=j;have hL:ND 5 12 0 c=(I4 (Qq 12 c) (I4 (Rs 12 c) (some 0))):=QD
 rw[hL];unfold OD;rw[Ei (show Nz 12 c.N=some 0 from rfl),Ei (RZ e4),show((12:Int)==4)=false from rfl,BZ,Ei (KE e5),Ei (KE e6),SN e7];exact NQ (Zx u) (NQ (aK6 q Z) (.ret _))
def abN {c:DI} (u:LH c):EL (MS 13 c) (Jk 13 c):=by
 have z:D6 13 JA=some true:=AA
 have I:D6 13 JL=some false:=AA
 have q:D6 13 JE=some true:=AA
 have J:D6 13 Lu=some false:=AA
 have L:D6 13 MB=some false:=AA
 have O:D6 13 Kr=some false:=AA
 have U:D6 13 MQ=some false:=AA
 have Y:D6 13 MK=some false:=AA
 refine frame (M:=5) (kp:=0) (br:=true) rfl rfl rfl rfl z I q J L O U Y NY (fun h=>rfl) (fun h h'=>cD) fun j=>?_;unfold MR at j;simp only[P9,MJ,OM,Gh,Df]at j;obtain⟨⟨⟨⟨⟨e1,Z⟩,e4⟩,e5⟩,e6⟩,e7⟩:=j;have hL:ND 5 13 0 c=(I4 (Qq 13 c) (I4 (Rs 13 c) (some 0))):=QD
 rw[hL];unfold OD;rw[Ei (show Nz 13 c.N=some 0 from rfl),Ei (RZ e4),show((13:Int)==4)=false from rfl,BZ,Ei (KE e5),Ei (KE e6),SN e7];exact NQ (Zx u) (NQ (aK6 q Z) (.ret _))
def aZp {c:DI} (u:LH c):EL (MS 14 c) (Jk 14 c):=by
 have z:D6 14 JA=some true:=AA
 have I:D6 14 JL=some false:=AA
 have q:D6 14 JE=some true:=AA
 have J:D6 14 Lu=some false:=AA
 have L:D6 14 MB=some false:=AA
 have O:D6 14 Kr=some false:=AA
 have U:D6 14 MQ=some false:=AA
 have Y:D6 14 MK=some false:=AA
 refine frame (M:=5) (kp:=4) (br:=false) rfl rfl rfl rfl z I q J L O U Y NY (fun h=>JD) (fun h h'=>JD) fun j=>?_;unfold MR at j;simp only[P9,MJ,OM,Gh,Df]at j;obtain⟨⟨⟨⟨⟨e1,Z⟩,e4⟩,e5⟩,e6⟩,e7⟩:=j;have hL:ND 5 14 0 c=(I4 (Qq 14 c) (I4 (Rs 14 c) (some 0))):=QD
 rw[hL];unfold OD;rw[Ei (show Nz 14 c.N=some 0 from rfl),Ei (RZ e4),show((14:Int)==4)=false from rfl,BZ,Ei (KE e5),Ei (KE e6),SN e7];exact NQ (Zx u) (NQ (aK6 q Z) (.ret _))
def ajY (k:Int) {c:DI} (j:LH c):EL (MS k c) (Jk k c):=by
 cases q:decide (k>=1)&&decide (k<=14)with
 |false=>
  obtain⟨u,k2⟩:=aAo k;rw[q]at u k2
  have f:∀n:Int,1<=n->n<=14->(k==n)=false:=fun n z I=>by
   rw[Rl];rintro rfl;rw[Ih (show k>=1 from z),Ih I]at q;cases q
  have hm:mY k=some 0:=by
   unfold mY wE qW;rw[f 2 Bo Bo,f 3 Bo Bo,f 4 Bo Bo,f 5 Bo Bo,f 8 Bo Bo,f 10 Bo Bo,f 6 Bo Bo,f 7 Bo Bo,f 9 Bo Bo,f 11 Bo Bo,f 12 Bo Bo,f 13 Bo Bo,f 14 Bo Bo];rfl
  unfold MS Jk;rw[hm,u,k2];exact .ret _
 |true=>
  simp only[Df,Hd]at q;have :k=1\/k=2\/k=3\/k=4\/k=5\/k=6\/k=7\/k=8\/k=9\/k=10\/k=11\/k=12\/k=13\/k=14:=AB
  rcases this with rfl|rfl|rfl|rfl|rfl|rfl|rfl|rfl|rfl|rfl|rfl|rfl|rfl|rfl
  ·exact ag7 j
  ·exact agh j
  ·exact aaN j
  ·exact acp j
  ·exact afu j
  ·exact ae7 j
  ·exact aiJ j
  ·exact akL j
  ·exact aZ8 j
  ·exact am5 j
  ·exact ame j
  ·exact aky j
  ·exact abN j
  exact aZp j
def Oj {α:Type} (p:α->α->Ad) (a b:A8 α):Ad:=((a.length:Int)==(b.length:Int))&& !((a.zip b).any fun x=> !p x.1 x.2)
def jV {α R:Type} {body:(Int->AO R)->Int->AO R} (p:α->α->Ad) (a b:A8 α) (ha:a.length<=1000) (j:a.length=b.length) (bad:R) (rest:AO R)
 (q:∀k (i:Nat) (h:i<a.length) (h':i<b.length),body k (i:Int)=bif !p a[i] b[i]then some bad else k (Ar ((i:Int)+1))) (u:∀k,body k (a.length:Int)=rest):bJ body Az 0=bif (a.zip b).any fun x=> !p x.1 x.2 then some bad else rest:=by
 have hl:(a.zip b).length=a.length:=EN
 refine Hl (a.zip b) (by rw[hl];exact aKQ AB) (fun x=> !p x.1 x.2) bad rest (fun k i h=>?_) (fun k=>by rw[hl];exact u k);have z:i<a.length:=AB
 have I:i<b.length:=AB
 rw[q k i z I,aGz]
def len_eq {α:Type} {a b:A8 α} (h:((a.length:Int)==(b.length:Int))=true):a.length=b.length:=aMh
def Wx (x y:BA):Ad:=x.toList==y.toList
def Xg (x y:Ig):Ad:=x.User.toList==y.User.toList&&x.N==y.N
def Uw (x y:KJ):Ad:=x.Kind==y.Kind&&x.N==y.N
def aDx {a b:A8 BA} (ha:a.length<=1000):rX a b=some (Oj Wx a b)/\U6 a b=some (Oj Wx a b):=by
 unfold rX U6 Oj;simp only[bne];cases h:((a.length:Int)==(b.length:Int))with
 |false=>exact⟨rfl,rfl⟩
 |true=>
  have j:=len_eq h;simp only[Eo,BZ,Gh];unfold aOJ a1g
  rw[jV Wx a b ha j false (some true) (fun k i h h'=>by simp only[aH2,dec_lt h,Bq,D5 h,D5 h',Af];rfl) (fun k=>by simp only[aH2,Dq,BZ]),
   jV Wx a b ha j false (some true) (fun k i h h'=>by simp only[aDO,dec_lt h,Bq,D5 h,D5 h',Af];rfl) (fun k=>aFd)]
  cases(a.zip b).any fun x=> !Wx x.1 x.2<;>exact⟨rfl,rfl⟩
def anE {a b:A8 Ig} (ha:a.length<=1000):aEY a b=some (Oj Xg a b):=by
 unfold aEY Oj;simp only[bne];cases h:((a.length:Int)==(b.length:Int))with
 |false=>rfl
 |true=>
  have j:=len_eq h;simp only[Eo,BZ,Gh];unfold aYY;rw[jV Xg a b ha j false (some true) (fun k i h h'=>by simp only[aJ3,dec_lt h,Bq,D5 h,D5 h',Af,a0M,Xg,OM]) (fun k=>by simp only[aJ3,Dq,BZ])];cases(a.zip b).any fun x=> !Xg x.1 x.2<;>rfl
def ahL {a b:A8 KJ} (ha:a.length<=1000):aAB a b=some (Oj Uw a b):=by
 unfold aAB Oj;simp only[bne];cases h:((a.length:Int)==(b.length:Int))with
 |false=>rfl
 |true=>
  have j:=len_eq h;simp only[Eo,BZ,Gh];unfold aTp;rw[jV Uw a b ha j false (some true) (fun k i h h'=>by simp only[aH3,dec_lt h,Bq,D5 h,D5 h',Af,aDT,Uw,OM]) (fun k=>by simp only[aH3,Dq,BZ])];cases(a.zip b).any fun x=> !Uw x.1 x.2<;>rfl
def a0f (a b:Cx):Ad:=(a.User==b.User)&&(a.Message==b.Message)&&(a.State==b.State)&&(a.gY==b.gY)&&(a.kD==b.kD)&&(a.nZ==b.nZ)&&(a.iJ==b.iJ)
def aDv (a b:Cx):Ad:=Oj Xg a.Users b.Users&&(Oj Uw a.Kinds b.Kinds&&a0f a b)
def acu {a b:Cx} (j:a.Users.length<=1000) (q:a.Kinds.length<=1000):W9 a b=some (aDv a b):=by
 unfold W9 aDv Oj;simp only[bne];cases u:((a.Users.length:Int)==(b.Users.length:Int))with
 |false=>rfl
 |true=>
  cases z:((a.Kinds.length:Int)==(b.Kinds.length:Int))with
  |false=>simp
  |true=>
   have I:=len_eq u;have ek:=len_eq z
   have J:ZT a b 0=bif (a.Kinds.zip b.Kinds).any fun x=> !Uw x.1 x.2 then some false else some (a0f a b):=by
    unfold ZT;refine jV Uw a.Kinds b.Kinds q ek false (some (a0f a b)) (fun k i h h'=>?_) (fun k=>?_)
    ·simp only[o9,dec_lt h,Bq,D5 h,D5 h',Af,uj,Uw,bne];cases a.Kinds[i].Kind==b.Kinds[i].Kind<;>cases a.Kinds[i].N==b.Kinds[i].N<;>rfl
    simp only[o9,Dq,BZ,Ky,Af,Tf];rfl
   simp only[Eo,BZ,Af,Gh];unfold zB
   rw[jV Xg a.Users b.Users j I false (ZT a b 0) (fun k i h h'=>by
    simp only[nG,dec_lt h,Bq,D5 h,D5 h',Af,qC,Xg,bne]
    cases a.Users[i].User.toList==b.Users[i].User.toList<;>cases a.Users[i].N==b.Users[i].N<;>rfl) (fun k=>by simp only[nG,Dq,BZ]),J]
   cases(a.Users.zip b.Users).any fun x=> !Xg x.1 x.2<;>cases(a.Kinds.zip b.Kinds).any fun x=> !Uw x.1 x.2<;>rfl
def aER (a b:DI):Ad:=(a.Text.toList==b.Text.toList)&&(a.N==b.N)&&(a.Target==b.Target)&&(a.Thread==b.Thread)&&(a.Via.toList==b.Via.toList)&&Oj Wx a.Allow b.Allow&&Oj Wx a.iK b.iK&&aDv a.Levels b.Levels
def aep {a:DI} (b:DI) (ha:Qr a):UY a b=some (aER a b):=by
 have j:=ha.allow;have q:=ha.deny;have u:=ha.users;have z:=ha.kinds;unfold UY aER;rw[(aDx (a:=a.Allow) AB).2,(aDx (a:=a.iK) AB).2,acu (a:=a.Levels) AB AB];simp only[Ky,Af,Tf]
def anJ {a:DI} (b:DI) (ha:Qr a):aB7 a b=some (aER a b):=by
 have M:=ha.allow;have O:=ha.deny;have U:=ha.users;have Y:=ha.kinds;unfold aB7 aER aDv a0f;rw[(aDx (a:=a.Allow) AB).1,(aDx (a:=a.iK) AB).1,anE (a:=a.Levels.Users) AB,ahL (a:=a.Levels.Kinds) AB];simp only[Ky,Af,Tf,lI,bne];generalize(a.Text.toList==b.Text.toList)=j;generalize(a.N==b.N)=q;generalize(a.Target==b.Target)=u;generalize(a.Thread==b.Thread)=z;generalize(a.Via.toList==b.Via.toList)=I;generalize Oj Wx a.Allow b.Allow=J;generalize Oj Wx a.iK b.iK=L;generalize Oj Xg a.Levels.Users b.Levels.Users=Z;generalize Oj Uw a.Levels.Kinds b.Levels.Kinds=x9;cases j<;>cases q<;>cases u<;>cases z<;>cases I<;>cases J<;>cases L<;>first|rfl|(simp only[Eo,a1T,BZ,Gh,Bool.and_self,Bool.and_assoc])
def aac {e:AX} (j:Vl e) (v:Ad):EL (Yh e v) ((St e v).bind fun u=>(bif (u != 0)then some u else(Jk e.Kind e.Content).bind fun J=>some J)):=by
 have h1:=j.room;have h2:=j.sender;have h3:=j.key;have h4:=j.prev;have h5:=j.auth;unfold Yh St;rw[aiK j,(zf (s:=e.Room) AB).2,(YS (s:=e.bG) AB).2,aSs AB];cases v with
 |true=>exact .ret _
 |false=>
  simp only[BZ,Af,bne,Ky,lI];generalize(VG e.Room==0)=a;generalize(Qv e.bG==0)=b;generalize VW e.Kind e.Key=L;cases a with
  |false=>exact .ret _
  |true=>
   cases b with
   |false=>exact .ret _
   |true=>
    cases L with
    |false=>exact .ret _
    |true=>
     simp only[Eo,a1T,Bool.and_self,BZ,aCN];refine IC (fun _=>.ret _) fun _=>IC (fun _=>.ret _) fun hlen=>?_;simp only[ZI,PX]at hlen;obtain⟨M,O,U⟩:=aVw (l:=e.bK) AB;obtain⟨Y,Z,q2⟩:=aVw (l:=e.bT) AB;rw[O,Z,U,q2];simp only[Af,Ky,lI,aCN];cases M with
     |false=>exact .ret _
     |true=>
     cases Y with
     |false=>exact .ret _
     |true=>
     simp only[Eo,BZ]
     have hs:decide ((Ar ((e.bK.length:Int)+(e.bT.length:Int)))>0)=(decide ((e.bK.length:Int)>0)||((e.bT.length:Int)>0)):=by
      rw[OA AB AB];by_cases z:(e.bK.length:Int)>0
      ·rw[Ih z,Ih AB];rfl
      by_cases I:(e.bT.length:Int)>0
      ·rw[Ih I,Ih AB,P9]
      rw[IX z,IX I,IX AB];rfl
     rw[hs];generalize(bif ((e.bK.length:Int)==0)then !e.Kind==1 else false)=p;generalize(bif (e.Kind==1)then(decide ((e.bK.length:Int)>0)||((e.bT.length:Int)>0))else false)=q;cases p with
     |true=>exact .ret _
     |false=>
      cases q with
      |true=>exact .ret _
      |false=>exact EL.bind (ajY e.Kind j.content) fun x=>.ret _
def aL7 {e:AX} (q:Vl e):EL (UG e) (Pj e):=by
 have j:=aac q;unfold UG Pj a1P;rw[show Za e.Kind=TJ e.Kind from rfl];simp only[aCN,bne,Ky,Af];refine IC (fun _=>j _) fun _=>IC (fun _=>j _) fun _=>?_;have hs:∃b,TJ e.Kind=some b:=by unfold TJ;cases decide (e.Kind>=1)<;>cases decide (e.Kind<=10)<;>exact⟨_,rfl⟩
 obtain⟨b,u⟩:=hs;rw[u];simp only[Af,aCN];refine IC (fun _=>j _) fun _=>IC (fun _=>?_) fun _=>j _;cases e.Kind==2 with
 |true=>exact j _
 |false=>exact j _
def aPZ {e:AX} (j:UF e):V3 e=some (UN e==e.Hash)/\nR e=some (UN e==e.Hash):=by
 unfold V3 nR;rw[(aJm j).1,(aJm j).2];exact⟨rfl,rfl⟩
def aiE {e:AX} (j:UF e) (v:Ad):EL (dI e v) (lq e v):=by
 have J:e.bG.size<=2000:=j.sender;unfold dI lq;obtain⟨q,u⟩:=aKR j;obtain⟨z,I⟩:=XQ (s:=e.bG) AB;rw[q,u,z,I];refine IC (fun _=>.ret _) fun _=>?_;simp only[Af];refine IC (fun _=>.ret _) fun _=>?_;unfold aBb aE1;show EL (bif !((e.o7.Server.toList==(splitB e.bG (KD e.bG)).2.1.toList)&&((e.o7.Sum==e.Id)&&true))then some 12 else some 0) _;simp only[bne];cases(e.o7.Server.toList==(splitB e.bG (KD e.bG)).2.1.toList)<;>cases(e.o7.Sum==e.Id)<;>exact .ret _
def Jf {a:Int} {c:Ad} {X:AO Int} (h:(bif c then some a else X)=some 0) (ha:a≠0):c=false/\X=some 0:=by
 cases c with
 |true=>exact absurd (Dh h) ha
 |false=>exact⟨rfl,h⟩
def Sv {a:Int} {x:AO Int} (h:(bif a != 0 then some a else x)=some 0):a=0/\x=some 0:=by
 by_cases ha:a=0
 ·subst ha;exact⟨rfl,h⟩
 rw[show(a != 0)=true from by simpa using ha]at h;exact absurd (Dh h) ha
def firsts {α R:Type} {body:(Int->AO R)->Int->AO R} {ok:R} (l:A8 α) (hl:l.length<=9223372036854775807) (P:Nat->Prop)
 (I:∀k (i:Nat),i<l.length->body k (i:Int)=some ok->P i/\k ((i+1:Nat):Int)=some ok) (u:Nat) (h:bJ body Az (u:Int)=some ok):∀i,u<=i->i<l.length->P i:=by
 have key:∀n (i:Nat) m,i+n=l.length->n<m->bJ body m (i:Int)=some ok->∀j,i<=j->j<l.length->P j:=by
  intro n
  induction n with
  |zero=>intro i m hi _ _ j q z;omega
  |succ n J=>
   intro i m hi hm L j q z;obtain⟨m,rfl⟩:∃M,m=M+1:=⟨m-1,AB⟩
   obtain⟨a,b⟩:=I (bJ body m) i AB L;rcases aK5 q with rfl|q
   ·exact a
   exact J (i+1) m AB AB b j q z
 intro i q z;have O:Az=9223372036854775808:=rfl;exact key (l.length-u) u Az AB AB h i q z
def lF {α:Type} {l:A8 α} {Q:α->Prop} (h:∀i,0<=i->i<l.length->∀x,l[i]? =some x->Q x):∀x∈l,Q x:=fun x j=>by
 obtain⟨i,hi,rfl⟩:=IK j;exact h i (Du _) hi _ (EK hi)
def amF (s:BA) (a b:Nat) (j:b<=s.size):(s.extract a b).size=b-a:=by rw[aCJ];omega
def aOg {l:A8 Int} {p:Int->Ad} (h:Qx l p=true):l.length<=32:=(aUk h).2
def yj {s:BA} {m:Int} (h:Hy s m=true):s.size<=100:=by
 unfold Hy UH at h;simp only[Df,Hd]at h;have u:=h.2.1.1;have j:=aOg h.2.1.2
 have q:(CW (Q8 s)).length<=32:=by
  have :=h.2.2;unfold Y3 at this;simp only[Df]at this;exact aOg this.1.1
 rw[Iq]at j q;unfold Vd at j;unfold Q8 at q;rw[amF _ _ _ AB]at j q;omega
def aWX {s:BA} (hs:s.size<=9223372036854775807) (h:ZH s=some 0):s.size<=100/\Hy s 64=true:=by
 rw[(YS hs).2]at h;have h:=Dh h;unfold Qv at h;cases hm:Hy s 64 with
 |true=>exact⟨yj hm,rfl⟩
 |false=>rw[hm]at h;cases h
def abZ {s:BA} (hs:s.size<=9223372036854775807) (h:oI s=some 0):s.size<=100/\Hy s 33=true:=by
 rw[(zf hs).2]at h;have h:=Dh h;unfold VG at h;cases hm:Hy s 33 with
 |true=>exact⟨yj hm,rfl⟩
 |false=>rw[hm]at h;cases h
def aS7 {s:BA} (hs:s.size<=9223372036854775807) (h:kW s=some 0):s.size<=100:=by
 rw[(aJG hs).2]at h;have h:=Dh h;unfold aEB at h;split at h
 ·omega
 split at h
 ·cases h
 omega
def aQk {l:A8 BA} (hl:l.length<=9223372036854775807) (hs:∀s∈l,s.size<=9223372036854775807) (h:Rt l=some 0):l.length<=100/\∀s∈l,s.size<=100:=by
 unfold Rt at h;obtain⟨u,h⟩:=Jf h Bo;refine⟨by have :=LQ u;omega,lF (firsts l hl (fun i=>∀x,l[i]? =some x->x.size<=100) (fun k i hi j=>?_) 0 h)⟩;unfold rM at j;rw[DU hi]at j;obtain⟨x,z,j⟩:=EM j;obtain⟨e,j⟩:=Sv j;subst e;rw[wrap_succ i AB]at j;exact⟨fun y q=>by rw[EK hi]at q;obtain rfl:=Dh q;exact aS7 (hs _ (Ej hi)) z,j⟩
def akD {c:DI} (hl:c.Allow.length<=9223372036854775807) (hs:∀s∈c.Allow,s.size<=9223372036854775807) (h:eU c=some 0):c.Allow.length<=100/\∀s∈c.Allow,s.size<=100:=by
 unfold eU at h;obtain⟨x,_,h⟩:=EM h;obtain⟨_,h⟩:=Jf h Bo;obtain⟨I,h⟩:=Jf h Bo;refine⟨by have :=LQ I;omega,lF (firsts c.Allow hl (fun i=>∀x,c.Allow[i]? =some x->x.size<=100) (fun k i hi j=>?_) 0 h)⟩;unfold aAU a09 at j;rw[DU hi]at j;obtain⟨x,J,j⟩:=EM j;obtain⟨e,j⟩:=Jf j Bo;have q:x=0:=SE
 subst q;refine⟨fun y u=>by rw[EK hi]at u;obtain rfl:=Dh u;exact(abZ (hs _ (Ej hi)) J).1,?_⟩;cases hp:decide ((i:Int)>0)with
 |true=>
  rw[hp,Bq]at j;obtain⟨y,_,j⟩:=EM j;obtain⟨z,_,j⟩:=EM j;obtain⟨_,j⟩:=Jf j Bo
  rwa [wrap_succ i AB]at j
 |false=>
  rw[hp,BZ,BZ]at j
  rwa [wrap_succ i AB]at j
def agL {l:A8 Ig} (hl:l.length<=9223372036854775807) (hs:∀u∈l,u.User.size<=9223372036854775807) (h:ZL l=some 0):l.length<=100/\∀u∈l,u.User.size<=100:=by
 unfold ZL at h;obtain⟨O,h⟩:=Jf h Bo;refine⟨by have :=LQ O;omega,lF (firsts l hl (fun i=>∀x,l[i]? =some x->x.User.size<=100) (fun k i hi q=>?_) 0 h)⟩
 have J:∀v,lH l (i:Int) k v=some 0->k ((i+1:Nat):Int)=some 0:=fun v j=>by
  unfold lH at j;obtain⟨_,j⟩:=Jf j Bo;obtain⟨y,_,j⟩:=EM j;obtain⟨z,_,j⟩:=EM j;obtain⟨_,j⟩:=Jf j Bo
  rwa [wrap_succ i AB]at j
 unfold a0G at q;rw[DU hi]at q;obtain⟨x,L,U⟩:=EM q;obtain⟨e,hd⟩:=Jf U Bo;have I:x=0:=SE
 rw[I]at L;refine⟨fun y M=>by rw[EK hi]at M;obtain rfl:=Dh M;exact(aWX (hs _ (Ej hi)) L).1,?_⟩;cases hp:decide ((i:Int)>0)with
 |true=>
  rw[hp,Bq]at hd;obtain⟨y,_,Y⟩:=EM hd;obtain⟨z,_,Z⟩:=EM Y;exact J _ Z
 |false=>
  rw[hp,BZ]at hd;exact J _ hd
def aeG {l:A8 KJ} (h:Z9 l=some 0):l.length<=100:=by
 unfold Z9 at h;obtain⟨j,_⟩:=Jf h Bo;have :=LQ j;omega
def empty_of {s:BA} (h:(s.toList==CU.toList)=true):s.size<=100:=by rw[aBL]at h;have :=eq_of_beq h;omega
def aWw {l:Cx} (h:Nq l=true):l.Users=[]/\l.Kinds=[]:=by
 unfold Nq at h;simp only[Df]at h;exact⟨UD h.1.1.1.1.1.1.1.1,UD h.1.1.1.1.1.1.1.2⟩
def ahq {k:Int} {c:DI} (L:LH c) (h:Jk k c=some 0):Qr c:=by
 unfold Jk at h;rw[(aAo k).2,Af]at h;obtain⟨x2,O,h⟩:=EM h;obtain⟨e2,h⟩:=Jf h Bo;subst e2
 have J:aN k c=some true:=by
  cases hk:(decide (k>=1)&&(k<=14))with
  |false=>rw[hk]at O;cases O
  |true=>
   rw[hk]at O;obtain⟨y,U,M⟩:=EM (show(aN k c).bind (fun x4=>some (!x4))=some false from O);have M:=Dh M;cases y with
   |true=>exact U
   |false=>cases M
 obtain⟨x6,_,h⟩:=EM h;obtain⟨x7,Y,h⟩:=EM h;cases x7 with
 |true=>
  have M:iW (c.Text.toList==CU.toList) (c.N==0) (c.Target==0) (!c.Thread) (c.Via.toList==CU.toList) ((c.Allow.length:Int)==0) ((c.iK.length:Int)==0) (Nq c.Levels)=true:=by
   cases x6 with
   |false=>cases Y
   |true=>rw[aYM]at Y;exact Dh Y
  unfold iW at M;simp only[Df]at M;obtain⟨⟨⟨⟨⟨⟨⟨t1,_⟩,_⟩,_⟩,t5⟩,t6⟩,t7⟩,t8⟩:=M;have p:=aWw t8;have q1:=empty_of t1;have q2:=empty_of t5;have a1:=UD t6;have a2:=UD t7;refine⟨?_,?_,?_,?_,AB,AB,?_,?_,?_⟩<;>first|rw[a1]|rw[a2]|rw[p.1]|rw[p.2]
  all_goals first|exact Du _|exact fun x hx=>absurd hx FB
 |false=>
  rw[BZ]at h;obtain⟨x11,j,h⟩:=EM h;obtain⟨e,h⟩:=Sv h;subst e;obtain⟨qo,_,h⟩:=EM h;obtain⟨_,h⟩:=Sv h;obtain⟨x15,_,h⟩:=EM h;obtain⟨_,h⟩:=Sv h;obtain⟨x17,I,h⟩:=EM h;obtain⟨e,h⟩:=Sv h;subst e
  have ht:c.Text.size<=2000:=by
   unfold ZO at j;cases h9:k==9 with
   |true=>
    rw[h9,Bq]at j;cases Z:(c.Text.toList==CU.toList)with
    |true=>have :=empty_of Z;omega
    |false=>
     rw[Z,BZ]at j;obtain⟨y,U,j⟩:=EM j;obtain rfl:=Dh j;have :=aS7 L.text U;omega
   |false=>
    rw[h9,BZ]at j;obtain⟨y,_,j⟩:=EM j;obtain⟨_,j⟩:=Jf j Bo;obtain⟨z,M,j⟩:=EM j;obtain⟨e,_⟩:=Jf j Bo;subst e;cases hd:decide ((c.Text.size:Int)>400)with
    |true=>rw[hd]at M;cases M
    |false=>have :=LQ hd;omega
  have hv:c.Via.size<=2000:=by
   unfold Yz at I;cases Z:(c.Via.toList==CU.toList)with
   |true=>have :=empty_of Z;omega
   |false=>
    rw[Z,BZ]at I;obtain⟨_,I⟩:=Jf I Bo;obtain⟨y,U,I⟩:=EM I;obtain rfl:=Dh I;have :=(aWX L.via U).1;omega
  have Ib:∀{l:A8 BA},(∀s∈l,s.size<=100)->∀s∈l,s.size<=2000:=fun h s hs=>FC (h s hs) AB;cases h4:k==4 with
  |true=>
   have e4:=eq_of_beq h4;subst e4;rw[Ut,Bq]at h;obtain⟨y,U,h⟩:=EM h;obtain rfl:=Dh h;obtain⟨r1,r2⟩:=akD L.allow L.allows U;rw[aTq (K:=4) (c:=c) (show _=some false by kernel_rfl) (show _=some true by kernel_rfl) (show _=some false by kernel_rfl) (show _=some false by kernel_rfl) (show _=some false by kernel_rfl) (show _=some true by kernel_rfl) (show _=some false by kernel_rfl) (show _=some false by kernel_rfl)]at J;have ho:=Dh J;unfold MR at ho;simp only[Df,MJ]at ho;have d:=UD ho.1.2;have p:=aWw ho.2;refine⟨r1,?_,?_,?_,ht,hv,Ib r2,?_,?_⟩<;>first|rw[d]|rw[p.1]|rw[p.2]
   all_goals first|exact Du _|exact fun x hx=>absurd hx FB
  |false=>
   rw[h4,BZ]at h;obtain⟨y1,hy1,h⟩:=EM h;obtain⟨e,h⟩:=Sv h;subst e;obtain⟨y2,hy2,h⟩:=EM h;obtain⟨e,h⟩:=Sv h;subst e;obtain⟨y3,q,h⟩:=EM h;obtain rfl:=Dh h;unfold ZC at q;obtain⟨z1,hz1,q⟩:=EM q;obtain⟨e,q⟩:=Sv q;subst e;obtain⟨z2,hz2,q⟩:=EM q;obtain⟨e,q⟩:=Sv q;subst e;obtain⟨a1,a2⟩:=aQk L.allow L.allows hy1;obtain⟨d1,d2⟩:=aQk L.deny L.denies hy2;obtain⟨u1,u2⟩:=agL L.users L.names hz1;exact⟨a1,d1,u1,aeG hz2,ht,hv,Ib a2,Ib d2,fun u hu=>FC (u2 u hu) AB⟩
structure kQ (e:AX):Prop where
 kind:1<=e.Kind/\e.Kind<=14
 state:e.State=I7 e.Kind
 keyed:e.Key=CU\/e.Kind=2\/e.Kind=9
 room:Hy e.Room 33=true
 sender:Hy e.bG 64=true
 key:VW e.Kind e.Key=true
 time:0<=e.Time/\e.Time<=1000000000
 depth:1<=e.Depth/\e.Depth<=100000
 prev:e.bK.length<=10/\Inc e.bK/\∀x∈e.bK,0<=x
 auth:e.bT.length<=8/\Inc e.bT/\∀x∈e.bT,0<=x
 short:e.bK=[]->e.Kind=1
 form:e.Kind=1->e.bK=[]/\e.bT=[]
 content:Jk e.Kind e.Content=some 0
 small:UF e
def aR4 {l:A8 Int} (hl:l.length<=9223372036854775807) (h:dU l=some true):Inc l/\∀x∈l,0<=x:=by
 unfold dU aG3 at h
 have u:=firsts l hl (fun i=>∀x,l[i]? =some x->0<=x/\∀y,0<i->l[i-1]? =some y->y<x) (fun k i hi q=>by
  have J:∀v,Zy k (i:Int) v=some true->v=false/\k ((i+1:Nat):Int)=some true:=fun v L=>by
   unfold Zy at L;cases v with
   |true=>cases L
   |false=>rw[BZ,wrap_succ i AB]at L;exact⟨rfl,L⟩
  unfold aBl at q;rw[DU hi]at q;cases M:decide (l[i]<0)with
  |true=>rw[M,Bq]at q;cases(J _ q).1
  |false=>
   have h0:=LQ M;rw[M,BZ]at q;cases hp:decide ((i:Int)>0)with
   |false=>
    have hp0:=LQ hp;rw[hp,BZ]at q;refine⟨fun x z=>?_,(J _ q).2⟩;rw[EK hi]at z;obtain rfl:=Dh z;exact⟨AB,fun y h0 O=>AB⟩
   |true=>
    rw[hp,Bq,D5 hi,Af,xC hi hl hp,Af]at q;obtain⟨U,Y⟩:=J _ q;refine⟨fun x z=>?_,Y⟩;rw[EK hi]at z;obtain rfl:=Dh z;refine⟨AB,fun y h0 O=>?_⟩;rw[EK AB]at O;obtain rfl:=Dh O
    have :=LQ U;omega) 0 h
 have I:∀i,(hi:i+1<l.length)->l[i]<l[i+1]:=fun i hi=>(u (i+1) AB hi _ (EK hi)).2 _ AB (EK AB);refine⟨?_,fun x z=>?_⟩
 ·rw[Inc,KN];intro i j hi J Z
  induction j with
  |zero=>omega
  |succ j ih=>
   have U:=I j J;rcases aK5 (Nat.le_of_lt_succ Z)with rfl|Y
   ·exact U
   have :=ih AB Y;omega
 obtain⟨i,hi,rfl⟩:=IK z;exact(u i (Du _) hi _ (EK hi)).1
def xX {c:Ad} {X:AO Ad} {f:Ad->AO Int} {v:Int} (j:f true≠some v) (h:((bif c then some true else X).bind f)=some v):c=false/\X.bind f=some v:=by
 cases c with
 |true=>exact absurd h j
 |false=>exact⟨rfl,h⟩
def afU {e:AX} (M:Vl e) (h:Pj e=some 0):kQ e:=by
 unfold Pj at h;obtain⟨x1,j,h⟩:=EM h;obtain⟨e1,h⟩:=Sv h;subst e1;obtain⟨x3,h3,h⟩:=EM h;obtain rfl:=Dh h;have L:=ahq M.content h3
 have O:∀v,St e v=some 0->v=false:=fun v hv=>by
  cases v with
  |true=>cases hv
  |false=>rfl
 have Z:St e false=some 0/\(1<=e.Kind/\e.Kind<=14)/\e.State=I7 e.Kind/\(e.Key=CU\/e.Kind=2\/e.Kind=9):=by
  unfold a1P at j;cases c1:decide (e.Kind<1)with
  |true=>rw[c1,Bq]at j;cases O _ j
  |false=>
   cases c2:decide (e.Kind>14)with
   |true=>rw[c1,c2,BZ,Bq]at j;cases O _ j
   |false=>
    rw[c1,c2,BZ,BZ,zQ,Af]at j;have k1:=LQ c1;have k2:=LQ c2;cases c3:(e.State==I7 e.Kind)with
    |false=>rw[c3,Iu,Bq]at j;cases O _ j
    |true=>
     rw[c3,Eo,BZ]at j;refine⟨?_,⟨AB,AB⟩,eq_of_beq c3,?_⟩
     all_goals cases c4:(e.Key.toList==CU.toList)with
     |true=>rw[c4,Eo,BZ]at j;first|exact j|exact .inl (toList_inj (eq_of_beq c4))
     |false=>
      rw[c4,Iu,Bq]at j;cases c5:(e.Kind != 2)with
      |false=>rw[c5,BZ]at j;first|exact j|exact .inr (.inl (by simpa using c5))
      |true=>
       rw[c5,Bq]at j;have :=O _ j;rw[this]at j
       first|exact j|exact .inr (.inr aLw)
 clear j O;obtain⟨j,hk,hst,U⟩:=Z;unfold St at j;rw[BZ,(zf (s:=e.Room) M.room).2,(YS (s:=e.bG) M.sender).2,aSs M.key]at j;simp only[Af]at j
 have z:Hy e.Room 33=true:=by
  cases hm:Hy e.Room 33 with
  |true=>rfl
  |false=>unfold VG at j;rw[hm]at j;cases j
 have r0:VG e.Room=0:=by unfold VG;rw[z];rfl
 rw[r0,PU,BZ,Af]at j
 have I:Hy e.bG 64=true:=by
  cases hm:Hy e.bG 64 with
  |true=>rfl
  |false=>unfold Qv at j;rw[hm]at j;cases j
 have u0:Qv e.bG=0:=by unfold Qv;rw[I];rfl
 rw[u0,PU,BZ,Af]at j
 have u:VW e.Kind e.Key=true:=by
  cases hm:VW e.Kind e.Key with
  |true=>rfl
  |false=>rw[hm]at j;cases j
 rw[u,Eo,BZ]at j;obtain⟨t1,j⟩:=xX uo j;rw[Af]at j;obtain⟨t2,j⟩:=xX uo j;rw[Af]at j;obtain⟨t3,j⟩:=xX uo j;rw[Af]at j;obtain⟨t4,j⟩:=Jf j Bo;obtain⟨t5,j⟩:=xX uo j;rw[Af]at j;obtain⟨t6,j⟩:=Jf j Bo;obtain⟨x21,h21,j⟩:=EM j;obtain⟨t7,j⟩:=xX uo j;rw[Option.bind_assoc]at j;obtain⟨x24,h24,j⟩:=EM j;rw[Af]at j;obtain⟨t8,j⟩:=Jf j Bo;obtain⟨wY,Y,j⟩:=EM j;obtain⟨t9,j⟩:=Jf j Bo;obtain⟨x29,J,j⟩:=EM j;obtain⟨t10,_⟩:=Jf j Bo;have e21:x21=true:=by simpa using t7
 have e24:x24=true:=by simpa using t8
 subst e21 e24 t9 t10;have p1:=LQ t5;have p2:=LQ t6;have r1:=aR4 M.prev h21;have r2:=aR4 M.auth h24;have d1:=LQ t1;have d2:=LQ t2;have d3:=LQ t3;have d4:=LQ t4
 have hkz:e.Key.size<=2000:=by
  rcases U with h|h|h
  ·rw[h];exact Du _
  ·unfold VW at u;rw[DX h]at u;have :Qv e.Key=0:=Vh
   unfold Qv at this;cases hm:Hy e.Key 64 with
   |true=>have :=yj hm;omega
   |false=>rw[hm]at this;cases this
  unfold VW at u;rw[Dk AB,DX h]at u;unfold qM at u;simp only[Df,Hd]at u;have :=u.1.2;omega
 have z1:=yj z;have z2:=yj I;refine⟨hk,hst,U,z,I,u,⟨AB,AB⟩,⟨AB,AB⟩,⟨AB,r1⟩,⟨AB,r2⟩,fun hp=>?_,fun hk1=>?_,h3,⟨?_,?_,L.allow,L.deny,L.users,L.kinds,?_,?_,hkz,L.text,L.via,Du _,L.allows,L.denies,L.names⟩⟩
 ·rw[hp]at Y;have :=Dh Y;simpa using this
 ·rw[hk1]at J;have J:((bif (e.bK.length:Int)>0 then some true else some (decide ((e.bT.length:Int)>0))).bind fun x31=>some x31)=some false:=J;cases q:decide ((e.bK.length:Int)>0)with
  |true=>rw[q]at J;cases J
  |false=>
   rw[q]at J;have q2:=Dh J;have :=LQ q;have :=LQ q2;exact⟨Hw AB,Hw AB⟩
 ·show e.bK.length<=40;omega
 ·show e.bT.length<=40;omega
 ·show e.Room.size<=2000;omega
 show e.bG.size<=2000;omega
def aLX {e:AX} (J:Vl e):∃c,a0E e=some c/\X6 e=some c/\(c=0->kQ e/\FV e):=by
 obtain⟨x,z,j⟩:=aL7 J;unfold a0E X6;rw[z,j,Af,Af];cases u:x != 0 with
 |true=>exact⟨x,rfl,rfl,fun h=>by subst h;cases u⟩
 |false=>
  obtain rfl:x=0:=Vh
  have L:=afU J j;have hs:=L.small;have I:e.bG.size<=2000:=hs.sender;rw[BZ,BZ,(aPZ hs).1,(aPZ hs).2,aUL _ hs.content,aOV];simp only[Af];rw[anJ _ hs.content,aep _ hs.content];simp only[Af]
  have key:∀v,∃c,dI e v=some c/\lq e v=some c/\(c=0->kQ e/\FV e):=fun v=>by
   obtain⟨c,c1,c2⟩:=aiE hs v;refine⟨c,c1,c2,fun M=>⟨L,?_⟩⟩;subst M;unfold dI at c1;obtain⟨_,c1⟩:=Jf c1 Bo;rw[(aKR hs).1,Af]at c1;obtain⟨_,c1⟩:=Jf c1 Bo;rw[(XQ (s:=e.bG) AB).1,Af]at c1;obtain⟨c3,_⟩:=Jf (show(bif !((e.o7.Server.toList==(splitB e.bG (KD e.bG)).2.1.toList)&&((e.o7.Sum==e.Id)&&true))then some 12 else some 0)=some (0:Int)from c1) Bo
   have O:e.o7.Server=(splitB e.bG (KD e.bG)).2.1:=by
    cases q:(e.o7.Server.toList==(splitB e.bG (KD e.bG)).2.1.toList)with
    |true=>exact toList_inj (eq_of_beq q)
    |false=>rw[q]at c3;cases c3
   have U:=(ahJ e.bG I).2.2;exact⟨hs.prev,hs.auth,hs.allow,hs.deny,hs.users,hs.kinds,hs.room,hs.sender,hs.key,hs.text,hs.via,by rw[O];exact U,hs.allows,hs.denies,hs.names⟩
  cases(!(UN e==e.Hash))with
  |true=>rw[Bq,Bq];exact key _
  |false=>rw[BZ,BZ];exact key _
def aNU {f g:(Int->AO Int)->Int->AO Int} (N lo:Nat) (hs:∀k k' (i:Nat),lo<=i->i<N->EL (k ((i+1:Nat):Int)) (k' ((i+1:Nat):Int))->EL (f k (i:Int)) (g k' (i:Int))) (z:∀k k',EL (f k (N:Int)) (g k' (N:Int))):
 ∀n (i:Nat),lo<=i->i+n=N->∀m j,n<m->n<j->EL (bJ f m (i:Int)) (bJ g j (i:Int)):=by
 intro n
 induction n with
 |zero=>
  intro i u hi m j I J;obtain⟨m,rfl⟩:∃q,m=q+1:=⟨m-1,AB⟩
  obtain⟨j,rfl⟩:∃q,j=q+1:=⟨j-1,AB⟩
  have :i=N:=AB
  subst this;exact z _ _
 |succ n L=>
  intro i u hi m j I J;obtain⟨m,rfl⟩:∃q,m=q+1:=⟨m-1,AB⟩
  obtain⟨j,rfl⟩:∃q,j=q+1:=⟨j-1,AB⟩
  exact hs _ _ i u AB (L (i+1) AB AB m j AB AB)
def lasts {R:Type} {body:(Int->AO R)->Int->AO R} {ok:R} (N:Nat) (O:N<=9223372036854775807) (P:Nat->Prop)
 (L:∀k (i:Nat),i<N->body k (i:Int)=some ok->P i/\k ((i+1:Nat):Int)=some ok) (q:Nat) (U:q<=N) (h:bJ body Az (q:Int)=some ok):(∀i,q<=i->i<N->P i)/\∃k,body k (N:Int)=some ok:=by
 have key:∀n (i:Nat) m,i+n=N->n<m->bJ body m (i:Int)=some ok->(∀j,i<=j->j<N->P j)/\∃k,body k (N:Int)=some ok:=by
  intro n
  induction n with
  |zero=>
   intro i m hi hm z;obtain⟨m,rfl⟩:∃I,m=I+1:=⟨m-1,AB⟩
   have :i=N:=AB
   subst this;exact⟨fun j u J=>AB,_,z⟩
  |succ n M=>
   intro i m hi hm z;obtain⟨m,rfl⟩:∃I,m=I+1:=⟨m-1,AB⟩
   obtain⟨a,b⟩:=L (bJ body m) i AB z;obtain⟨c,d⟩:=M (i+1) m AB AB b;refine⟨fun j u J=>?_,d⟩;rcases aK5 u with rfl|u
   ·exact a
   exact c j u J
 have Y:Az=9223372036854775808:=rfl;exact key (N-q) q Az AB AB h
def aRd {α:Type} {l:A8 α} {i:Nat} (h:i+1<l.length) (hl:l.length<=1000000):Am l (Ar (((i+1:Nat):Int)-1))=some l[i]:=by
 rw[show Ar (((i+1:Nat):Int)-1)=(i:Int) by rw[Y9];omega,D5 AB]
def ak7 {l:A8 AX} (L:∀e∈l,Vl e) (hl:l.length<=1000):EL (PK l) (Qz l):=by
 by_cases I:l=[]
 ·subst I;exact⟨0,AA,AA⟩
 have q:0<l.length:=Ze.2 I;have M:Az=9223372036854775807+1:=rfl
 have O:EL (aEI l 1) (aMB l 1):=by
  unfold aEI aMB;refine aNU l.length 1 (fun k k' i z hi u=>?_) (fun k k'=>?_) (l.length-1) 1 (EX _) AB Az Az AB AB
  ·obtain⟨i,rfl⟩:∃j,i=j+1:=⟨i-1,AB⟩
   unfold a1W aIt;rw[DU hi,dec_lt hi,Bq,aRd hi AB,Af,Af,D5 hi,Af,wrap_succ (i+1) AB];show EL (bif l[i+1].Id<=l[i].Id then some 8 else k _) (bif l[i].Id>=l[i+1].Id then some 8 else k' _);exact IC (fun _=>.ret _) fun _=>u
  unfold a1W aIt;rw[Dq];exact .ret _
 have J:Am l 0=some l[0]:=D5 (i:=0) q
 have U:EL (xw l 0) (aKK l 1):=by
  have Y:∀k,YR l k 0=k 1:=fun k=>by
   unfold YR;rw[show decide ((0:Int)<(l.length:Int))=true by simpa using q,Bq,J,Af,Af,Ut];rfl
  have Z:xw l 0=bJ (YR l) 9223372036854775807 1:=by
   unfold xw;rw[M];exact Y _
  rw[Z];unfold aKK;refine aNU l.length 1 (fun k k' i z hi u=>?_) (fun k k'=>?_) (l.length-1) 1 (EX _) AB _ Az AB AB
  ·unfold YR aGg;rw[DU hi,DU hi,J,Af,Af,wrap_succ i AB];exact IC (fun _=>.ret _) fun _=>u
  unfold YR aGg;rw[Dq];exact O
 unfold PK Qz;rw[IX (show ¬(l.length:Int)>2000 by omega),BZ,BZ];unfold aII aHf;refine aNU l.length 0 (fun k k' i _ hi u=>?_) (fun k k'=>?_) l.length 0 (EX _) AB Az Az AB AB
 ·unfold zk aE4;obtain⟨c,c1,c2,_⟩:=aLX (L _ (Ej hi));rw[DU hi,DU hi,c1,c2,Af,Af,wrap_succ i AB];exact IC (fun _=>.ret _) fun _=>u
 unfold zk aE4;rw[Dq];exact U
structure UZ (l:List AX):Prop where
 ev:∀e∈l,kQ e/\FV e
 room:∀x∈l,∀y∈l,x.Room=y.Room
 inc:Inc (l.map (·.Id))
def aif {f:Nat->Int}:∀(n i j:Nat),(∀k,i<=k->k<j->f k<f (k+1))->i+n=j->0<n->f i<f j:=by
 intro n
 induction n with
 |zero=>intro i j _ _ h;omega
 |succ n z=>
  intro i j h q _;rcases Z5 n with u|u
  ·subst u;rw[←q];exact h i (EX _) AB
  have a:=h i (EX _) AB;have b:=z (i+1) j (fun k J I=>h k AB I) AB u;omega
def ahH {l:A8 AX} (hw:∀e∈l,Vl e) (hl:l.length<=1000) (h:PK l=some 0):UZ l:=by
 unfold PK at h;rw[IX (show ¬(l.length:Int)>2000 by omega),BZ]at h;unfold aII at h
 obtain⟨p1,k1,h⟩:=lasts l.length AB (fun i=>∀x,l[i]? =some x->kQ x/\FV x) (fun k i hi u=>by
  unfold zk at u;obtain⟨c,c1,_,c3⟩:=aLX (hw _ (Ej hi));rw[DU hi,c1,Af,wrap_succ i AB]at u;obtain⟨e,u⟩:=Sv u
  exact⟨fun x I=>by rw[EK hi]at I;obtain rfl:=Dh I;exact c3 e,u⟩) 0 (Du _) h
 unfold zk at h;rw[Dq,BZ]at h;unfold xw at h
 obtain⟨p2,k2,h⟩:=lasts l.length AB (fun i=>∀x y,l[i]? =some x->l[0]? =some y->x.Room=y.Room) (fun k i hi u=>by
  unfold YR at u;have g0:Am l 0=some l[0]:=D5 (i:=0) AB;rw[DU hi,g0,Af,wrap_succ i AB]at u;obtain⟨e,u⟩:=Jf u Bo;refine⟨fun x y I J=>?_,u⟩;rw[EK hi]at I;rw[EK AB]at J;obtain rfl:=Dh I;obtain rfl:=Dh J
  exact toList_inj SE) 0 (Du _) h
 unfold YR at h;rw[Dq,BZ]at h;refine⟨lF p1,fun x I y J=>?_,?_⟩
 ·have key:∀x∈l,∀y,l[0]? =some y->x.Room=y.Room:=lF fun i hi M x I y J=>p2 i hi M x y I J;have h0:0<l.length:=List.length_pos_of_mem I;have Y:l[0]? =some l[0]:=EK h0;rw[key x I _ Y,key y J _ Y]
 by_cases Z:l=[]
 ·subst Z;exact .nil
 have L:0<l.length:=Ze.2 Z;unfold aEI at h
 obtain⟨p3,_⟩:=lasts l.length AB (fun i=>∀j x y,i=j+1->l[i]? =some x->l[j]? =some y->y.Id<x.Id) (fun k i hi u=>by
  unfold a1W at u;rw[DU hi]at u;obtain⟨z,hz,u⟩:=EM u;obtain⟨e,u⟩:=Jf u Bo;rw[wrap_succ i AB]at u;refine⟨fun j x y O I J=>?_,u⟩;subst O;rw[aRd hi AB]at hz;rw[EK hi]at I;rw[EK AB]at J;obtain rfl:=Dh I;obtain rfl:=Dh J;obtain rfl:=Dh hz
  have :=LQ e;omega) 1 L h
 rw[Inc,eA,KN];intro i j hi O hij
 have :=aif (f:=fun q=>(l.getD q Ch).Id) (j-i) i j (fun k h1 h2=>by
  have U:k+1<l.length:=AB
  have :=p3 (k+1) AB U k l[k+1] l[k] rfl (EK U) (EK AB)
  simpa[List.getD,EK U,EK (show k<l.length by omega)]using this) AB AB
 simpa[List.getD,EK hi,EK O]using this
def UZ.ok {l:A8 AX} (h:UZ l) (hl:l.length<=100):MP l:=⟨hl,fun e j=>(h.ev e j).2,Uo h.inc,fun e j=>(h.ev e j).1.depth⟩
def anF {l:A8 AX} (j:∀e∈l,Vl e) (hl:l.length<=100):∃c,PK l=some c/\Qz l=some c/\(c=0->UZ l):=by
 obtain⟨c,c1,c2⟩:=ak7 j AB;exact⟨c,c1,c2,fun h=>ahH j AB (by rw[c1,h])⟩
def ab8 {l:A8 AX} (q:Qz l=some 0) (hl:l.length<=100):∀x∈l,X6 x=some 0:=by
 unfold Qz at q;obtain⟨_,h⟩:=Jf q Bo;unfold aHf at h
 obtain⟨z,_⟩:=lasts l.length AB (fun i=>∀x,l[i]? =some x->X6 x=some 0) (fun k i hi j=>by
  unfold aE4 at j;rw[DU hi]at j;obtain⟨y,I,j⟩:=EM j;obtain⟨e,j⟩:=Sv j;subst e;rw[wrap_succ i AB]at j
  exact⟨fun x u=>by rw[EK hi]at u;obtain rfl:=Dh u;exact I,j⟩) 0 (Du _) h
 exact lF z
def Kq (x:FI):Ie:=⟨x.id,x.before,x.after,x.err⟩
def UJ (t:A8 FI) (x:Int):Ie×Ad:=match J4 t x with
 |some y=>(Kq y,true)
 |none=>(VI,false)
def aOY (t:A8 FI) (x:Int):(UJ t x).1.After=Q9 t x:=by unfold UJ Q9;cases J4 t x<;>rfl
def aZT (t:A8 FI) (x:Int):(UJ t x).1.Err=errOf t x:=by unfold UJ errOf;cases J4 t x<;>rfl
def aBg (t:A8 FI) (x:Int) (ht:t.length<=1000000):oh (t.map Kq) x=some (UJ t x):=by
 unfold oh aQz;have hm:(t.map Kq).length=t.length:=DY ..;refine fF.eq (YA (body:=aOD (t.map Kq) x) (Q:=(· =UJ t x)) (fun n a _=>∃i:Nat,a=i/\i+n=t.length/\∀j,(q:j<i)->(hl:j<t.length)->¬(t[j].id==x)=true) ?_ Az t.length 0 _ (fuel_lt AB) ⟨0,rfl,AB,fun j q=>AB⟩);rintro n a b k ⟨i,rfl,O,z⟩ L;unfold aOD;by_cases hi:i<t.length
 ·have u:i<(t.map Kq).length:=AB
  rw[DU u,D5 u,Af,Tt];show fF (bif t[i].id==x then some (Kq t[i],true)else k _ b) _;cases J:t[i].id==x with
  |true=>
   have I:J4 t x=some t[i]:=by
    unfold J4;rw[List.find?_eq_some_iff_getElem];exact⟨J,i,hi,rfl,fun j q=>by have :=z j q AB;simpa using this⟩
   exact .ret (by unfold UJ;rw[I])
  |false=>
   refine L (n-1) _ _ AB ⟨i+1,wrap_succ i AB,AB,fun j q hl=>?_⟩;by_cases e:j=i
   ·subst e;rw[J];simp
   exact z j AB hl
 have :i=t.length:=AB
 subst this;rw[←hm,Dq]
 have I:J4 t x=none:=by
  unfold J4;rw[a1p];intro y M;obtain⟨j,q,rfl⟩:=IK M;exact z j q q
 exact .ret (by unfold UJ;rw[I])
def aQg (t:A8 Ie) (x:Int):a0z t x=oh t x:=rfl
def afH (l:A8 AX) (t:A8 FI) (e:AX) (s:A8 BM) (hl:l.length<=100) (hs:E9 l) (z:FV e) (M:s.length<=100) (ht:t.length<=1000):qy l (t.map Kq) e s=some (Tz l t e s):=by
 have Z:=z.auth;have h2:=pO l s
 have I:∀v,rC e (t.map Kq) l s v=some (bif v != 0 then v else bif e.bT.any (fun x=>errOf t x != 0)then 16 else LW e (KY l s)):=fun v=>by
  unfold rC aOf
  refine fF.eq (Jb e.bT.length (fuel_lt AB) (fun i a=>a=bif v != 0 then v else bif (e.bT.take i).any (fun x=>errOf t x != 0)then 16 else 0) (by cases q:v != 0 with
   |true=>rfl
   |false=>exact Np) (fun i a k hi ha J=>?_) fun a k ha=>?_)
  ·unfold aGp aEy;rw[DU hi,aQg,aBg _ _ AB,Af,aZT,wrap_succ i AB];have O:(bif a==0 then some (errOf t e.bT[i] != 0)else some false)=some (a==0&&errOf t e.bT[i] != 0):=by cases a==0<;>rfl
   rw[O,Af]
   have j:∀b:Int,b=(bif a==0&&errOf t e.bT[i] != 0 then 16 else a)->b=bif v != 0 then v else bif (e.bT.take (i+1)).any (fun x=>errOf t x != 0)then 16 else 0:=fun b U=>by
    rw[wL hi,U,ha];cases q:v != 0 with
    |true=>
     have :(v==0)=false:=Np
     simp only[Bq,this,aNF,BZ]
    |false=>
     simp only[BZ];cases(e.bT.take i).any (fun x=>errOf t x != 0)<;>cases errOf t e.bT[i] != 0<;>rfl
   cases L:(a==0&&errOf t e.bT[i] != 0)with
   |true=>exact J _ (j 16 (by rw[L];rfl))
   |false=>exact J _ (j a (by rw[L];rfl))
  unfold aGp;rw[Dq,BZ,ha,GX,aTT l s hl AB,Af,qh e (KY l s) AB (aLD hs _) z];cases q:v != 0 with
  |true=>simp only[Bq,q];exact .ret rfl
  |false=>
   cases e.bT.any (fun x=>errOf t x != 0)with
   |true=>exact .ret rfl
   |false=>exact .ret rfl
 unfold qy Tz a2U;rw[akM l e hl z,Af,aQT l e AB AB,Af,qh e _ (FC (aFJ l e) AB) (hs.from e) z,Af,I,I];have u:(Tc l e != 0)= !(Tc l e==0):=rfl;rw[u];cases Y:Tc l e==0 with
 |true=>rfl
 |false=>rw[Iu,Bq,Bq,u,Y];rfl
def aNO (l:A8 AX):∀(ids:A8 Int) (t:A8 FI),(ids.foldl (fun t id=>t++[Vf l t (ev l id)]) t).length=t.length+ids.length
 | [],t=>rfl
 |x::ids,t=>by rw[Gm,aNO l ids,EZ,GZ];simp;omega
def aik {l:A8 AX} (h:MP l):aFI l=some ((Fb l).map Kq):=by
 have hl:=h.len;have hs:=h.small;have M:=aI6 l;unfold aFI;rw[adY l AB,Af];unfold Fb;generalize Qe l=ids at M;unfold aUS;refine fF.eq (Jb ids.length (fuel_lt AB) (fun i a=>a=(NM l (ids.take i)).map Kq) rfl (fun i a k hi ha hk=>?_) fun a k ha=>?_)
 ·have ht:Md l (NM l (ids.take i)):=aBn hl hs _ _ fun y O=>absurd O FB
  have U:(NM l (ids.take i)).length<=100:=by
   have :=aNO l (ids.take i) [];unfold NM;rw[this,G6,N8];omega
  have q:=aW7 l hi;have he:=aLI hs ids[i];have Y:=he.prev;generalize NM l (ids.take i)=t at ha ht U q;subst ha;unfold aFX;rw[DU hi,Kv l _ AB,Af];have I:(Hr l ids[i]).1=ev l ids[i]:=rfl;unfold aWB;refine RS (body:=aMz (Hr l ids[i]) l k (i:Int)) (Q:=_) (fun n a b c=>∃j:Nat,b=j/\j+n=(ev l ids[i]).bK.length/\c=t.map Kq/\a=((ev l ids[i]).bK.take j).map (Q9 t)) ?_ Az (ev l ids[i]).bK.length [] 0 (t.map Kq) (fuel_lt AB) ⟨0,rfl,AB,rfl,rfl⟩;rintro n a b c k2 ⟨j,rfl,hn,rfl,ha⟩ Z;unfold aMz;rw[I];by_cases hj:j<(ev l ids[i]).bK.length
  ·have hal:a.length<=j:=mP
   rw[DU hj,aQg,aBg _ _ AB,Af,aOY,ED Fz,Af,wrap_succ j AB];exact Z (n-1) _ _ _ AB ⟨j+1,rfl,AB,rfl,by rw[map_take hj,ha]⟩
  have :j=(ev l ids[i]).bK.length:=AB
  subst this;rw[GX]at ha;subst ha;rw[Dq,BZ];have hp:=ht.stB hl hs Y;have J:=hp.length
  have hJ:fF (a0H l (Hr l ids[i]) k (i:Int) (t.map Kq) ⟨(ev l ids[i]).Id,stB l t (ev l ids[i]),[],0⟩) (fun x=>x=(NM l ids).map Kq):=by
   unfold a0H;rw[I];show fF ((qy l (t.map Kq) (ev l ids[i]) (stB l t (ev l ids[i]))).bind _) _;rw[afH l t (ev l ids[i]) _ hl hs he AB AB,Af];have u:Vf l t (ev l ids[i])=fD (ev l ids[i]) (stB l t (ev l ids[i])) (Tz l t (ev l ids[i]) (stB l t (ev l ids[i]))):=rfl;rw[u]at q;generalize Tz l t (ev l ids[i]) (stB l t (ev l ids[i]))=r at q;generalize stB l t (ev l ids[i])=s at q J
   have L:∀y:FI,y=fD (ev l ids[i]) s r->fF (uO k (i:Int) (t.map Kq) (Kq y)) (fun x=>x=(NM l ids).map Kq):=fun y O=>by
    unfold uO;rw[ED (by simp only[Ns,DY];omega),Af,wrap_succ i AB];exact hk _ (by rw[q,O,Kw];rfl)
   show fF ((bif r==0 then(TJ (ev l ids[i]).Kind).bind fun z=>some z else some false).bind _) _;rw[zQ,show(bif r==0 then(some (I7 (ev l ids[i]).Kind)).bind fun z=>some z else some false)=some (r==0&&I7 (ev l ids[i]).Kind) by cases r==0<;>rfl,Af];cases hc:(r==0&&I7 (ev l ids[i]).Kind)with
   |true=>
    rw[Bq];show fF ((gJ s (ev l ids[i]).Kind (ev l ids[i]).Key (ev l ids[i]).Id).bind _) _;rw[aNg _ _ _ _ AB,Af];exact L ⟨(ev l ids[i]).Id,s,Gi s (ev l ids[i]).Kind (ev l ids[i]).Key (ev l ids[i]).Id,r⟩ (by unfold fD;rw[hc];rfl)
   |false=>
    rw[BZ];exact L ⟨(ev l ids[i]).Id,s,s,r⟩ (by unfold fD;rw[hc];rfl)
  by_cases hz:(ev l ids[i]).bK=[]
  ·have hst:stB l t (ev l ids[i])=[]:=by unfold stB;rw[hz];rfl
   rw[hst]at hJ;rw[hz];exact hJ
  have hpos:0<(ev l ids[i]).bK.length:=Ze.2 hz;rw[Ih Xh,Bq,aXL (ht.okay hl hs _ AB),Af];exact hJ
 unfold aFX;rw[Dq];exact .ret gW
def aOv (l:A8 AX) (t:A8 FI) (hl:l.length<=1000) (ht:t.length<=1000):aDU l (t.map Kq)=some (F7 l t):=by
 unfold aDU aPz;refine fF.eq (Jb l.length (fuel_lt AB) (fun i a=>a=F7 (l.take i) t) rfl (fun i a k hi ha q=>?_) fun a k ha=>?_)
 ·have z:a.length<=i:=aP1
  unfold aH7 aEx;have j:(bif (UJ t l[i].Id).2 then some ((UJ t l[i].Id).1.Err==0)else some false)=some (TW t l[i].Id):=by unfold UJ TW;cases J4 t l[i].Id<;>rfl
  rw[DU hi,aBg _ _ AB,Af,j,Af,wrap_succ i AB];cases u:TW t l[i].Id with
  |true=>
   rw[Bq,D5 hi,Af,ED Fz,Af];exact q _ (by rw[a2L hi,u,ha];rfl)
  |false=>exact q _ (by rw[a2L hi,u,ha];simp)
 unfold aH7;rw[Dq];exact .ret gW
def an7 (l:A8 AX) (t:A8 FI) (hl:l.length<=100) (hs:E9 l) (ht:Md l t) (j:t.length<=1000):aBv l (t.map Kq)=some (Ic l t):=by
 have ha:=YF l t;have q:=jQ l (F7 l t);unfold aBv SPr Ic;rw[aOv l t AB j,Af,aQR l _ AB hs AB,Af,Af];generalize IL l (F7 l t)=H at q;unfold aPB;refine fF.eq (Jb H.length (fuel_lt AB) (fun i a=>a=(H.take i).map (Q9 t)) rfl (fun i a k hi ha u=>?_) fun a k ha=>?_)
 ·have z:a.length<=i:=mP
  unfold aL1;rw[DU hi,aBg _ _ AB,Af,aOY,ED Fz,Af,wrap_succ i AB];exact u _ zo
 rw[GX]at ha;unfold aL1;rw[Dq,BZ,ha,aXL (ht.okay hl hs _ AB),Af];cases H with
 |nil=>exact .ret rfl
 |cons x H=>exact .ret rfl
def aWl {l:A8 AX} {c:Int} (u:Qz l=some c) (h:c=0->MP l):nM l=some ((Jg l c).map Kq)/\Md l (Jg l c)/\(Jg l c).length<=l.length:=by
 unfold nM iZ Jg;rw[u,Af];cases z:c==0 with
 |false=>exact⟨rfl,fun y q=>absurd q FB,Du _⟩
 |true=>
  have j:=h (eq_of_beq z);have hlen:(Fb l).length=l.length:=by rw[←aI6 l];have :=aNO l (Qe l) [];simpa[Fb,NM]using this
  rw[Bq,aOz l j.len j.small j.dep,Af,Af,Af,Gh];cases hd:Js l==0 with
  |false=>exact⟨rfl,fun y q=>absurd q FB,Du _⟩
  |true=>
   rw[Eo,BZ,aik j,Af,Bq];exact⟨rfl,aLh j,ZF hlen⟩
def aWI {l:A8 AX} {c:Int} (j:Qz l=some c) (h:c=0->MP l) (hl:l.length<=100) (hs:E9 l):WM l=some (Ic l (Jg l c)):=by
 obtain⟨q,u,z⟩:=aWl j h;unfold WM;rw[q,Af,an7 l _ hl hs u AB];rfl
def aLk (t:A8 FI) (x:Int):A8 BM×Int:=match J4 t x with
 |some y=>(y.before,bif y.err != 0 then 2 else 4)
 |none=>([],0)
section
variable {l:A8 AX} {c:Int}
def alS (u:PK l=some c) (h:c=0->MP l) (id:Int):aNo l id=some (aLk (Jg l c) id):=by
 unfold aNo;refine fF.eq ((run_eq l u h).bind fun o z=>?_);rcases z with⟨j,rfl⟩|⟨j,_,T,rfl,q⟩
 ·rw[j];exact .ret rfl
 rw[j];simp only[jJ];unfold aPj aVu aLk;rw[q.r,q.b];cases J4 (Fb l) id with
 |none=>exact .ret rfl
 |some y=>
  show fF ((bif y.err != 0 then some 2 else some 4).bind fun I=>some (y.before,I)) (fun r=>r=(y.before,bif y.err != 0 then 2 else 4));cases y.err != 0<;>exact .ret rfl
def al1 (u:PK l=some c) (h:c=0->MP l):qP l=some (F7 l (Jg l c)):=by
 unfold qP;refine fF.eq ((run_eq l u h).bind fun o j=>?_);rcases j with⟨q,rfl⟩|⟨q,j,T,rfl,z⟩
 ·rw[q,a2A];exact .ret rfl
 rw[q];show fF ((dV T.1 T.2.1 T.2.2 l).bind _) _;rw[aY5 z j.len];exact .ret rfl
end
def aYn {l:A8 AX} {c:Int} (q:Qz l=some c) (h:c=0->MP l):iZ l=some (c==0&&Js l==0):=by
 unfold iZ;rw[q,Af];cases u:c==0 with
 |false=>rfl
 |true=>
  have j:=h (eq_of_beq u);rw[Bq,aOz l j.len j.small j.dep];rfl
def an2 {l:A8 AX} (hd:Js l=0):Jg l 0=Fb l:=by unfold Jg;rw[hd];rfl
def OW (l:A8 AX) (e:AX):Nat:=l.findIdx fun x=> !decide (x.Id<e.Id)
def KZ (l:A8 AX) (e:AX):A8 AX:=l.take (OW l e)++e::l.drop (OW l e)
def jy (e x:AX):Ad:= !(x.Room.toList==e.Room.toList)
def aTM (l:A8 AX) (e:AX):OW l e<=l.length:=ng
def aOC (l:A8 AX) (e:AX):(KZ l e).length=l.length+1:=by
 have :=aTM l e;unfold KZ;rw[EZ,GZ,G6,JX];omega
def aBt {l:A8 AX} {e x:AX}:x∈KZ l e↔x=e\/x∈l:=by
 unfold KZ;rw[Il,F5];constructor
 ·rintro(h|h|h)
  ·exact .inr (mG h)
  ·exact .inl h
  exact .inr (bI h)
 rintro(h|h)
 ·exact .inr (.inl h)
 rw[←SI (OW l e) l]at h;rcases Il.1 h with h|h
 ·exact .inl h
 exact .inr (.inr h)
section
variable {l:A8 AX} {e:AX} (hl:l.length <= 1000)
include hl
theorem adH :oP l e=bif l.any (jy e)then some ([],13)else(bif dJ l e.Id then(V3 e).bind fun q=>(bif q then(Am l ((l.findIdx fun x=>x.Id==e.Id:Nat):Int)).bind fun I=>(V3 I).bind fun J=>some (!J)else some false).bind fun j=>some ((bif j then l.set (l.findIdx fun x=>x.Id==e.Id) e else l),0)else some (KZ l e,0)):=by
 have u:uX l=some l:=by
  unfold uX;rw[ED TB];rfl
 have z:oK l e.Id=some (if l.findIdx (fun x=>x.Id==e.Id)<l.length then((l.findIdx (fun x=>x.Id==e.Id):Nat):Int)else -1):=by
  unfold oK uG;rw[a1i l AB _ (fun x=>x.Id==e.Id) fun _=>rfl];rfl
 have L:aJu l l e 0=some (KZ l e,0):=by
  have U:∀i:Nat,i<=l.length->(aCn l (i:Int) [e]).bind (fun O=>some (O,(0:Int)))=some (l.take i++e::l.drop i,0):=fun i hi=>by
   have Y:aCR l (i:Int) [e]=some (l.take i++e::l.drop i):=by
    show(if(0<=(i:Int)/\(i:Int)<=(l.length:Int))/\l.length<=34359738368 then some (l.take (i:Int).toNat++e::l.drop (i:Int).toNat)else none)=_;rw[DX ⟨⟨AB,AB⟩,AB⟩,Si]
   unfold aCn;rw[Y];rfl
  unfold aJu;rw[KG l (fuel_lt AB) (fun x=> !decide (x.Id<e.Id)) (fun i=>some (l.take i++e::l.drop i,(0:Int))) (some (l.take l.length++e::l.drop l.length,0))]
  ·unfold KZ OW;split
   ·rfl
   rename_i Z;have :=ng (xs:=l) (p:=fun x=> !decide (x.Id<e.Id));rw[show l.findIdx (fun x=> !decide (x.Id<e.Id))=l.length by omega]
  ·intro k i h;unfold aFu uZ;rw[DU h,U i AB];cases decide (l[i].Id<e.Id)<;>rfl
  intro k;unfold aFu uZ;rw[Dq,BZ,BZ,U l.length (EX _)]
 unfold oP aPt;rw[Hl l (fuel_lt AB) (jy e) ([],13) (bif dJ l e.Id then(V3 e).bind fun q=>(bif q then(Am l ((l.findIdx fun x=>x.Id==e.Id:Nat):Int)).bind fun I=>(V3 I).bind fun J=>some (!J)else some false).bind fun j=>some ((bif j then l.set (l.findIdx fun x=>x.Id==e.Id) e else l),0)else some (KZ l e,0))]
 ·intro k i h;unfold aMs;rw[DU h];rfl
 intro k;unfold aMs;rw[Dq,BZ,z,Af,u,Af,L]
 have M:dJ l e.Id=decide (l.findIdx (fun x=>x.Id==e.Id)<l.length):=by
  unfold dJ Ed;rw[OY,List.find?_isSome,Hd,Zw]
 rw[M];by_cases h:l.findIdx (fun x=>x.Id==e.Id)<l.length
 ·rw[DX h,Ih h,IX (show ¬(((l.findIdx (fun x=>x.Id==e.Id):Nat):Int)<0) by omega),Ih (show((l.findIdx (fun x=>x.Id==e.Id):Nat):Int)>=0 by omega)];simp only[BZ,Bq,Af];unfold a1F;congr 1;funext q;congr 1;funext j;cases j with
  |true=>rw[Bq,D5 h,Si];rfl
  |false=>rfl
 rw[Dk h,IX h,Ih (show(-1:Int)<0 by omega),IX (show ¬((-1:Int)>=0) by omega),IX (show ¬((l.length:Int)>=2000) by omega)];rfl
end
end
section
set_option maxHeartbeats 1000000
def aVm {α:Type} (f:α->Int):∀L:A8 α,L≠[]->∃x∈L,∀y∈L,f y<=f x
 | [],h=>absurd rfl h
 | [a],_=>⟨a,GU ..,fun y j=>by rw[KP.1 j];exact ZQ _⟩
 |a::b::L,_=>by
  obtain⟨x,q,h⟩:=aVm f (b::L) (List.cons_ne_nil _ _);by_cases u:f x<=f a
  ·refine⟨a,GU ..,fun y j=>?_⟩;rcases F5.1 j with rfl|j
   ·exact ZQ _
   exact Int.le_trans (h y j) u
  refine⟨x,Gv _ q,fun y j=>?_⟩;rcases F5.1 j with rfl|j
  ·omega
  exact h y j
def aV9 {l:A8 AX} {ids:A8 Int} {x:Int}:x∈IL l ids↔x∈ids/\∀y∈ids,JK l x y=false:=by
 unfold IL;rw[HY,KR,Ls,aGu];exact⟨fun⟨a,b⟩=>⟨a,fun y j=>by simpa using b y j⟩,fun⟨a,b⟩=>⟨a,fun y j=>by simp[b y j]⟩⟩
def aiS (l:A8 AX) (ids:A8 Int):Inc (IL l ids):=(Kt ids).sublist RI
def aj2 {l:A8 AX} (hd:Js l=0) {ids:A8 Int} {x:Int} (j:x∈ids) (h:∀y∈ids,(ev l y).Depth<=(ev l x).Depth):x∈IL l ids:=by
 refine aV9.2 ⟨j,fun y q=>?_⟩;unfold JK;cases u:dJ l y with
 |false=>rfl
 |true=>
  cases z:ER (ev l y).bK x with
  |false=>rw[Gh,Bool.and_false]
  |true=>
   have :=((ain hd (NV (Nv u).1)).2 x (LJ.1 z)).2;have :=h y q;omega
def aRi {l:A8 AX} (hd:Js l=0) {ids:A8 Int} (h:ids≠[]):IL l ids≠[]:=by
 obtain⟨x,j,hm⟩:=aVm (fun y=>(ev l y).Depth) ids h;exact fun e=>by have :=aj2 hd j hm;rw[e]at this;cases this
def afh {α:Type} {lt:α->α->Ad} (hi:∀a,lt a a=false) (ha:∀a b,lt a b=true->lt b a=false) {S:A8 α} (h:S.Pairwise fun a b=>lt a b=true) {i:Nat} (hl:i<S.length):(S.filter (lt S[i])).length=S.length-1-i:=by
 have e:S=S.take (i+1)++S.drop (i+1):=(SI ..).symm;have hp:=h;rw[e,kT]at hp
 have I:(S.take (i+1)).filter (lt S[i])=[]:=by
  rw[zI];intro a u;obtain⟨j,z,rfl⟩:=IK u;rw[G6]at z;rw[oG];rcases gU j i with q|q
  ·rw[ha _ _ (KN.1 h j i AB hl q)];exact Bool.false_ne_true
  have :j=i:=AB
  subst this;rw[hi];exact Bool.false_ne_true
 have J:(S.drop (i+1)).filter (lt S[i])=S.drop (i+1):=by
  rw[kS];intro a u;obtain⟨j,z,rfl⟩:=IK u;rw[JX]at z;rw[mF];exact KN.1 h i (i+1+j) hl AB AB
 have L:S.filter (lt S[i])=S.drop (i+1):=by
  generalize S[i]=x at I J
  calc S.filter (lt x)=(S.take (i+1)++S.drop (i+1)).filter (lt x):=by rw[SI]
   _=S.drop (i+1):=by rw[PS,I,J,Ik]
 rw[L,JX];omega
def Xi (l:A8 AX) (hs:A8 Int) (x:Int):Nat:=(hs.filter fun y=>Ip (ev l x) (ev l y)).length
def NI (l:A8 AX) (hs:A8 Int):A8 Int:=hs.filter fun x=>Xi l hs x<10
def abp {l:A8 AX} {hs:A8 Int} (h:Inc hs):Inc (NI l hs):=h.sublist RI
def yH {l:A8 AX}:∀{hs:A8 Int},(∀x∈hs,dJ l x=true)->ofIds l hs=hs.map (ev l)
 | [],_=>rfl
 |x::hs,h=>by
  have j:=yH (hs:=hs) fun y q=>h y (Gv _ q);unfold ofIds at j ⊢;rw[QC,(Nv (h x (GU ..))).1,j];rfl
def adZ (a:AX):Ip a a=false:=by unfold Ip;simp
def aed (a b:AX) (h:Ip a b=true):Ip b a=false:=by
 unfold Ip at *;simp only[TQ,Hd,Df,Oa]at h;rw[ZI,ru,PX,PX,Rl];omega
def aAD {l:A8 AX} {hs:A8 Int} (q:∀x∈hs,dJ l x=true) {S:A8 AX} (hp:S.Perm (ofIds l hs)) (I:S.Pairwise fun a b=>Ip a b=true) {i:Nat} (hi:i<S.length):ev l S[i].Id=S[i]/\S[i].Id∈hs/\Xi l hs S[i].Id=S.length-1-i:=by
 have hm:S[i]∈ofIds l hs:=hp.mem_iff.1 (Ej hi);rw[yH q]at hm hp;obtain⟨x,u,e⟩:=FY.1 hm;have j:S[i].Id=x:=by rw[←e];exact(Nv (q x u)).2
 have z:ev l S[i].Id=S[i]:=by rw[j];exact e
 refine⟨z,by rw[j];exact u,?_⟩;unfold Xi;rw[z];have J:(hs.filter fun y=>Ip S[i] (ev l y)).length=((hs.map (ev l)).filter (Ip S[i])).length:=by rw[List.filter_map,DY];rfl
 rw[J,←(hp.filter _).length_eq,afh adZ aed I hi]
def adA {l:A8 AX} {hs:A8 Int} (M:Inc hs) (z:∀x∈hs,dJ l x=true) {S:A8 AX} (hp:S.Perm (ofIds l hs)) (J:S.Pairwise fun a b=>Ip a b=true):Eh ((S.drop (S.length-10)).map (·.Id))=NI l hs:=by
 refine CZ (Kt _) (abp M) fun x=>?_;unfold NI;rw[KR,HY,Hd,FY];constructor
 ·rintro⟨e,O,rfl⟩;obtain⟨j,U,rfl⟩:=IK O;rw[JX]at U;rw[mF];obtain⟨_,Y,I⟩:=aAD z hp J (i:=S.length-10+j) AB;exact⟨Y,by rw[I];omega⟩
 rintro⟨L,hm⟩;have q:ev l x∈S:=by rw[hp.mem_iff,yH z];exact FY.2 ⟨x,L,rfl⟩
 have u:=(Nv (z x L)).2;obtain⟨i,hi,e⟩:=IK q;obtain⟨_,_,I⟩:=aAD z hp J hi;rw[e,u]at I;refine⟨ev l x,?_,u⟩;have :i-(S.length-10)<(S.drop (S.length-10)).length:=aBO
 refine List.mem_iff_getElem.2 ⟨i-(S.length-10),this,?_⟩;rw[mF,←e];congr 1;omega
def WS (l:A8 AX) (ids:A8 Int):Int:=ids.foldl (fun d x=>max d ((ev l x).Depth+1)) 0
def foldl_max {α:Type} (f:α->Int):∀(L:A8 α) (a:Int),a<=L.foldl (fun d x=>max d (f x)) a/\(∀x∈L,f x<=L.foldl (fun d x=>max d (f x)) a)/\(L.foldl (fun d x=>max d (f x)) a=a\/∃x∈L,L.foldl (fun d x=>max d (f x)) a=f x)
 | [],a=>⟨ZQ _,fun x h=>absurd h FB,.inl rfl⟩
 |y::L,a=>by
  obtain⟨z,I,j⟩:=foldl_max f L (max a (f y));rw[Gm];have J:a<=max a (f y):=Int.le_max_left ..;have M:f y<=max a (f y):=Int.le_max_right ..;refine⟨Int.le_trans J z,fun x u=>?_,?_⟩
  ·rcases F5.1 u with rfl|u
   ·exact Int.le_trans M z
   exact I x u
  rcases j with j|⟨x,u,j⟩
  ·rcases Int.le_total a (f y)with q|q
   ·exact .inr ⟨y,GU ..,by rw[j,Int.max_eq_right q]⟩
   exact .inl (by rw[j,Int.max_eq_left q])
  exact .inr ⟨x,Gv _ u,j⟩
def alB {α β:Type} {f:α->Int} {g:β->Int} {L:A8 α} {M:A8 β} {a b:Int} (j:L≠[]) (O:∀x∈L,∃y∈M,f x=g y) (h2:∀y∈M,∃x∈L,f x=g y) (ha:∀x∈L,a<=f x) (hb:∀y∈M,b<=g y):L.foldl (fun d x=>max d (f x)) a=M.foldl (fun d x=>max d (g x)) b:=by
 obtain⟨p1,U,p3⟩:=foldl_max f L a;obtain⟨q1,Y,q3⟩:=foldl_max g M b;obtain⟨z,q⟩:=List.exists_mem_of_ne_nil _ j;obtain⟨w,Z,ew⟩:=O z q;have r1:=U z q;have r2:=ha z q;have r3:=Y w Z;have r4:=hb w Z
 have le1:L.foldl (fun d x=>max d (f x)) a<=M.foldl (fun d x=>max d (g x)) b:=by
  rcases p3 with e|⟨x,u,e⟩
  ·rw[e];omega
  obtain⟨y,I,J⟩:=O x u;rw[e,J];exact Y y I
 have Ib:M.foldl (fun d x=>max d (g x)) b<=L.foldl (fun d x=>max d (f x)) a:=by
  rcases q3 with e|⟨y,I,e⟩
  ·rw[e];omega
  obtain⟨x,u,J⟩:=h2 y I;rw[e,←J];exact U x u
 omega
def NK (s:A8 BM) (k:BM):Option Int:=(s.find? fun x=>H7 x k).map (·.Id)
def SX (e:AX) (s:A8 BM):A8 Int:=Eh ((keysOf e).filterMap (NK s))
def amA (e:AX) (s:A8 BM):(SX e s).length<=5:=by
 have j:=MG ((keysOf e).filterMap (NK s));have q:=aMv (NK s) (keysOf e);have u:=RX e;unfold SX;omega
end
section
set_option maxHeartbeats 1000000
section
variable {l m:A8 AX} {s:A8 BM} {e:AX} (hp:JV l s) (hA:e.bT = SX e s) (hm:∀ a ∈ e.bT, Ed m a = Ed l a)
include hp hA hm
end
def ajc {l:A8 AX} {e:AX} (hi:Inc (l.map (·.Id))) (U:e.Id∉l.map (·.Id)):Inc ((KZ l e).map (·.Id)):=by
 have hp:l.Pairwise fun a b=>a.Id<b.Id:=eA.1 hi;have I:∀x∈l,x.Id≠e.Id:=fun x q h=>U (FY.2 ⟨x,q,h⟩)
 have L:∀x∈l.take (OW l e),x.Id<e.Id:=fun x q=>by
  obtain⟨j,z,rfl⟩:=IK q;rw[G6]at z;rw[oG];have :=aMQ (p:=fun x:AX=> !decide (x.Id<e.Id)) (xs:=l) (i:=j) (by unfold OW at z;omega);simpa using this
 have M:∀x∈l.drop (OW l e),e.Id<x.Id:=fun x q=>by
  obtain⟨j,z,rfl⟩:=IK q;rw[JX]at z;rw[mF];have u:OW l e<l.length:=AB
  have Z:¬(l[OW l e].Id<e.Id):=by
   show ¬(l[l.findIdx fun x=> !decide (x.Id<e.Id)].Id<e.Id);have :=aCm (p:=fun x:AX=> !decide (x.Id<e.Id)) (xs:=l) (w:=u);simpa using this
  have Y:l[OW l e].Id<=l[OW l e+j].Id:=by
   rcases Z5 j with rfl|O
   ·exact ZQ _
   exact Int.le_of_lt (KN.1 hp _ _ u AB AB)
  have :=I _ (Ej (show OW l e+j<l.length by omega));omega
 unfold Inc;rw[eA];unfold KZ;rw[kT,Po];refine⟨hp.sublist (aGU ..),⟨M,hp.sublist (aD5 ..)⟩,fun a ha b J=>?_⟩;rcases F5.1 J with rfl|J
 ·exact L a ha
 exact Int.lt_trans (L a ha) (M b J)
structure aS (l:List AX) (e:AX):Prop where
 facts:UZ l
 len:l.length<=50
 deep:Js l=0
 ver:∀x∈l,X6 x=some 0
 fresh:dJ l e.Id=false
 good:X6 e=some 0
 small:FV e
 room:∀x∈l,x.Room=e.Room
 prev:e.bK=IL l (F7 l (Fb l))
 some_:F7 l (Fb l)≠[]
 low:∀x∈e.bK,(ev l x).Depth<e.Depth
 next:∃x∈e.bK,(ev l x).Depth=e.Depth-1
 auth:e.bT=SX e (Ic l (Fb l))
section
variable {l:A8 AX} {e:AX} (h:aS l e)
include h
theorem aS.ok:MP l:=h.facts.ok aMf
theorem aS.aIv:kQ e:=by
 obtain⟨c,c1,c2,c3⟩:=aLX h.small.wide;rw[h.good]at c2;exact(c3 (Dh c2).symm).1
theorem aS.aHD:e.Id∉l.map (·.Id):=fun hm=>by have :=pV.2 hm;rw[h.fresh]at this;cases this
theorem aS.aGG:UZ (KZ l e):=by
 refine⟨fun x j=>?_,fun x j y J=>?_,ajc h.facts.inc h.aHD⟩
 ·rcases aBt.1 j with rfl|j
  ·exact⟨h.aIv,h.small⟩
  exact h.facts.ev x j
 rcases aBt.1 j with z|q<;>rcases aBt.1 J with I|u
 ·rw[z,I]
 ·rw[z];exact(h.room y u).symm
 ·rw[I];exact h.room x q
 exact h.facts.room x q y u
theorem aS.len':(KZ l e).length<=51:=by have :=h.len;rw[aOC];omega
theorem aS.ok':MP (KZ l e):=h.aGG.ok (by have :=h.len';omega)
end
end
section
def zH {α:Type} {body:(Int->AO Ad)->Int->AO Ad} (l:A8 α) (hl:l.length<=1000) (rest:AO Ad) (j:∀k (i:Nat) (h:i<l.length),body k (i:Int)=k (Ar ((i:Int)+1))) (q:∀k,body k (l.length:Int)=rest):bJ body Az 0=rest:=by
 have key:∀n (i:Nat),i+n=l.length->∀m,n<m->bJ body m (i:Int)=rest:=by
  intro n
  induction n with
  |zero=>
   intro i hi m hm;obtain⟨m,rfl⟩:∃k,m=k+1:=⟨m-1,AB⟩
   rw[show i=l.length by omega];exact q _
  |succ n u=>
   intro i hi m hm;obtain⟨m,rfl⟩:∃k,m=k+1:=⟨m-1,AB⟩
   have :=j (bJ body m) i AB;rw[wrap_succ i AB]at this;exact this.trans (u (i+1) AB m AB)
 exact key l.length 0 AB Az (fuel_lt AB)
def vV (n:Int):(n != n)=false:=Bj
def aTV {l:A8 Int} (h:l.length<=1000):zO l l=some true:=by
 unfold zO aYK;rw[vV,BZ];exact zH l h _ (fun k i h=>by simp only[aKc,dec_lt h,Bq,D5 h,Af,PU,BZ]) (fun k=>by simp only[aKc,Dq,BZ])
def aSh {l:A8 BA} (h:l.length<=1000):U6 l l=some true:=by
 unfold U6 a1g;rw[vV,BZ];exact zH l h _ (fun k i h=>aVF) (fun k=>aFd)
def aaD {l:Cx} (j:l.Users.length<=1000) (q:l.Kinds.length<=1000):W9 l l=some true:=by
 have u:ZT l l 0=some true:=by
  unfold ZT;exact zH l.Kinds q _ (fun k i h=>by simp only[o9,dec_lt h,Bq,D5 h,Af,PU,BZ,uj]) (fun k=>by simp only[o9,Dq,BZ,Ut,Bq,Af])
 unfold W9;rw[vV,vV,BZ,Af,BZ];unfold zB;exact zH l.Users j _ (fun k i h=>by simp only[nG,dec_lt h,Bq,D5 h,Af,Ut,Eo,PU,BZ,qC]) (fun k=>by simp only[nG,Dq,BZ];exact u)
def abd {c:DI} (j:c.Allow.length<=1000) (q:c.iK.length<=1000) (u:c.Levels.Users.length<=1000) (z:c.Levels.Kinds.length<=1000):UY c c=some true:=by
 unfold UY;simp only[Ut,Bq,Af,aSh j,aSh q,aaD u z]
def aXH {e:AX} (h:FV e):wB e e=some true:=by
 have :=h.prev;have :=h.auth;have j:=h.allow;have q:=h.deny;have u:=h.users;have z:=h.kinds;unfold wB;simp only[Ut,Bq,Af,aTV (l:=e.bK) AB,aTV (l:=e.bT) AB,abd (c:=e.Content) AB AB AB AB]
def ak6 {l:A8 AX} (h:l.length<=1000) (hs:∀e∈l,FV e):aBd l l=some true:=by
 unfold aBd aP8;rw[vV,BZ];exact zH l h _ (fun k i h=>by simp only[aJk,dec_lt h,Bq,D5 h,Af,aXH (hs _ (Ej h)),Eo,BZ]) (fun k=>by simp only[aJk,Dq,BZ])
end
section
set_option maxRecDepth 20000
set_option maxHeartbeats 1000000
section
variable {l:A8 AX} {s:A8 BM} (hl:l.length <= 100) (hsm:E9 l) (hs:s.length <= 100)
include hl hsm hs
end
structure yc (l:List AX) (t:List FI):Prop where
 len:l.length<=100
 small:E9 l
 at_:∀id,aNo l id=some (aLk t id)
 acc:qP l=some (F7 l t)
 tbl:nM l=some (t.map Kq)
 tok:Md l t
 aIw:t.length<=l.length
 nd:t≠[]->(l.map (·.Id)).Nodup
def ahf {l:A8 AX} {c:Int} (hs:E9 l) (hl:l.length<=100) (c1:PK l=some c) (c2:Qz l=some c) (c3:c=0->UZ l):yc l (Jg l c):=by
 have j:c=0->MP l:=fun q=>(c3 q).ok hl;obtain⟨z,I,J⟩:=aWl c2 j;refine⟨hl,hs,alS c1 j,al1 c1 j,z,I,J,fun u=>?_⟩;unfold Jg at u;by_cases q:c=0
 ·exact(j q).nodup
 rw[Rl.2 q]at u;exact absurd rfl u
def ahg {l:A8 AX} (hs:E9 l) (hl:l.length<=100):∃c,yc l (Jg l c)/\PK l=some c/\Qz l=some c/\(c=0->UZ l):=by
 obtain⟨c,c1,c2,c3⟩:=anF (fun e j=>(hs e j).wide) hl;exact⟨c,ahf hs hl c1 c2 c3,c1,c2,c3⟩
section
variable {l:A8 AX} {t:A8 FI} (h:yc l t)
include h
end
end
section
set_option maxRecDepth 20000
set_option maxHeartbeats 1000000
def aeb (l:A8 AX) (hl:l.length<=1000):jM l=some (l.map (·.Id)):=by
 unfold jM;have j:Iy 8 (0:Int) 0 (l.length:Int)=some []:=aR7
 rw[j,Af];unfold aWA;refine fF.eq (Jb l.length (fuel_lt AB) (fun i a=>a=(l.take i).map (·.Id)) rfl (fun i a k hi ha q=>?_) fun a k ha=>?_)
 ·have u:a.length<=1000:=mP
  unfold aFM;rw[DU hi,ED Fz,Af,wrap_succ i AB];exact q _ zo
 rw[GX]at ha;unfold aFM;rw[Dq,BZ,ha];exact .ret rfl
section
variable {l:A8 AX} {t:A8 FI} (h:yc l t)
include h
end
end
section
set_option maxRecDepth 20000
set_option maxHeartbeats 1000000
def aUr :aBq=some true:=AA
def aVe (x y:Int):PZ x y=max x y:=by
 unfold PZ;by_cases h:y>x
 ·rw[Ih h,Bq,Int.max_eq_right AB]
 rw[IX h,BZ,Int.max_eq_left AB]
def amY (a b:AX):Ib (FN a) (FN b)= !Ip b a:=by
 rw[OY,jT,Ls];unfold Ip FN;rw[ZI,ru,PX,PX,Rl];simp only;omega
def aUf :∀{L:A8 AX},(L.map (·.Id)).Nodup->bW (L.map FN)=true
 | [],_=>rfl
 |e::L,h=>by
  rw[JJ,Nh]at h;rw[JJ];unfold bW;rw[aUf h.2,OM,Ls];cases j:(L.map FN).contains (FN e)with
  |false=>rfl
  |true=>
   exfalso;have hm:FN e∈L.map FN:=Vq
   obtain⟨y,u,q⟩:=FY.1 hm;exact h.1 (FY.2 ⟨y,u,BP Prod.snd q⟩)
def aX4 {l:A8 AX} {hs:A8 Int} (j:∀x∈hs,dJ l x=true):(ofIds l hs).map (·.Id)=hs:=by
 rw[yH j,YI]
 conv=>rhs;rw[←List.map_id hs]
 exact aO4 fun x q=>(Nv (j x q)).2
def aeK {l:A8 AX} {hs:A8 Int} (I:Inc hs) (J:∀x∈hs,dJ l x=true) (hl:hs.length<=1000):∃S,gI (ofIds l hs)=some S/\S.Perm (ofIds l hs)/\S.Pairwise fun a b=>Ip a b=true:=by
 have q:((ofIds l hs).map (·.Id)).Nodup:=by rw[aX4 J];exact Uo I
 have hlen:=ZK l hs;have hp:=Ux (fun x y=>Ib (FN x) (FN y)) (ofIds l hs);refine⟨Me (fun x y=>Ib (FN x) (FN y)) (ofIds l hs),?_,hp,?_⟩
 ·unfold gI;rw[DX ⟨AB,aUf q⟩]
 have L:=aA5 (le:=fun x y=>Ib (FN x) (FN y)) (fun x y z=>aJS (FN x) (FN y) (FN z)) (fun x y=>aPL (FN x) (FN y)) (ofIds l hs);have u:((Me (fun x y=>Ib (FN x) (FN y)) (ofIds l hs)).map (·.Id)).Nodup:=(hp.map _).nodup_iff.2 q;rw[a2g,eA]at u;refine(L.and u).imp fun{a b} ⟨j,M⟩=>?_;rw[amY,Ls]at j;unfold Ip at j ⊢;rw[ZI,ru,PX,PX,Rl]at j;simp only[TQ,Hd,Df,Oa];omega
def ahr {l:A8 AX} {hs:A8 Int} (hl:l.length<=1000) (hi:hs.length<=1000) {S:A8 AX} (h:gI (ofIds l hs)=some S) (J:S.length<=1000):aCi l hs=some (S.drop (S.length-10)):=by
 unfold aCi aJB;rw[aTR l hs hl AB,Af,h,Af]
 have hm:Ve (S.length:Int) 10=((min S.length 10:Nat):Int):=by
  unfold Ve;by_cases q:(10:Int)<(S.length:Int)
  ·rw[Ih q,Bq];omega
  rw[IX q,BZ];omega
 rw[hm]
 have j:Iy 376 Ch ((min S.length 10:Nat):Int) ((min S.length 10:Nat):Int)=some (List.replicate (min S.length 10) Ch):=by
  unfold Iy;rw[DX ⟨AB,ZQ _,AB⟩,Si]
 have z:Ar ((S.length:Int)-((min S.length 10:Nat):Int))=((S.length-10:Nat):Int):=by
  rw[OA AB AB];omega
 rw[j,Af,z,VZ AB,Af];unfold gCopy;have u:(S.drop (S.length-10)).length=min S.length 10:=aBO
 have I:(List.replicate (min S.length 10) Ch).drop (min S.length 10)=[]:=qK (by rw[List.length_replicate];exact EX _);rw[List.length_replicate,QL (ZF u),u,I,P8]
def agY {l:A8 AX} {hs:A8 Int} (hl:l.length<=1000) (hi:hs.length<=1000):aDn l hs=some (NI l hs):=by
 unfold aDn aYU;refine fF.eq (Jb hs.length (fuel_lt AB) (fun i a=>a=(hs.take i).filter fun x=>Xi l hs x<10) rfl (fun i a k u ha U=>?_) fun a k ha=>?_)
 ·have hal:a.length<=1000:=by
   rw[ha];have :=KL (fun x=>Xi l hs x<10) (hs.take i);rw[G6]at this;omega
  unfold aJz;rw[DU u,Kv l _ AB,Af];unfold aSU;refine RS (body:=aKN hs l (Hr l hs[i]) (i:Int) k) (Q:=_) (fun m Y I J=>∃j:Nat,I=j/\j+m=hs.length/\Y=(((hs.take j).filter fun y=>Ip (ev l hs[i]) (ev l y)).length:Int)/\J=a) ?_ Az hs.length 0 0 a (fuel_lt AB) ⟨0,rfl,AB,rfl,rfl⟩;rintro m Y I J f ⟨j,rfl,hm,rfl,rfl⟩ Z
  have M:((hs.take j).filter fun y=>Ip (ev l hs[i]) (ev l y)).length<=1000:=by
   have :=KL (fun y=>Ip (ev l hs[i]) (ev l y)) (hs.take j);rw[G6]at this;omega
  unfold aKN;by_cases hj:j<hs.length
  ·rw[DU hj,Kv l _ AB,Af]
   have hc:(bif (Hr l hs[j]).1.Depth>(Hr l hs[i]).1.Depth then some true else(bif ((Hr l hs[j]).1.Depth==(Hr l hs[i]).1.Depth)then some (decide ((Hr l hs[j]).1.Id>(Hr l hs[i]).1.Id))else some false).bind fun z=>some z)=some (Ip (ev l hs[i]) (ev l hs[j])):=by
    show(bif (ev l hs[j]).Depth>(ev l hs[i]).Depth then some true else(bif ((ev l hs[j]).Depth==(ev l hs[i]).Depth)then some (decide ((ev l hs[j]).Id>(ev l hs[i]).Id))else some false).bind fun z=>some z)=_;unfold Ip;have e1:((ev l hs[j]).Depth==(ev l hs[i]).Depth)=((ev l hs[i]).Depth==(ev l hs[j]).Depth):=by rw[OY,Oa,Oa];exact⟨fun h=>h.symm,fun h=>h.symm⟩
    rw[e1];show(bif (ev l hs[i]).Depth<(ev l hs[j]).Depth then _ else _)=_;cases decide ((ev l hs[i]).Depth<(ev l hs[j]).Depth)<;>cases(ev l hs[i]).Depth==(ev l hs[j]).Depth<;>rfl
   rw[hc,Af];have q:=pY (p:=fun y=>Ip (ev l hs[i]) (ev l y)) hj;cases L:Ip (ev l hs[i]) (ev l hs[j])with
   |true=>
    rw[Bq];unfold Fin;refine Z (m-1) _ _ _ AB ⟨j+1,wrap_succ j AB,AB,?_,rfl⟩;rw[wrap_succ _ AB,q,L,EZ];rfl
   |false=>
    rw[BZ];unfold Fin;refine Z (m-1) _ _ _ AB ⟨j+1,wrap_succ j AB,AB,?_,rfl⟩;rw[q,L];simp
  have :j=hs.length:=AB
  subst this;rw[GX]at M;rw[Dq,BZ,GX];have O:(((hs.filter fun y=>Ip (ev l hs[i]) (ev l y)).length:Int)<10)↔Xi l hs hs[i]<10:=by unfold Xi;omega
  have q:=pY (p:=fun x=>Xi l hs x<10) u;rw[bY.2 O];unfold aES;cases L:decide (Xi l hs hs[i]<10)with
  |true=>
   rw[Bq,D5 u,Af,ED Fz,Af,wrap_succ i AB];exact U _ (by rw[q,L,ha];rfl)
  |false=>
   rw[BZ,wrap_succ i AB];exact U _ (by rw[q,L,ha];simp)
 rw[GX]at ha;unfold aJz;rw[Dq,BZ,ha];exact .ret rfl
def aYj {L:A8 Int} (h:L.Nodup):Qb L=Eh L:=by
 have q:=pR L;have j:(Qb L).Nodup:=(TS L).nodup_iff.2 h;rw[a2g]at j;refine CZ ((q.and j).imp fun{a b} h=>AB) (Kt L) fun x=>?_;rw[(TS L).mem_iff,KR]
def aPp {e:AX} {s:A8 BM} {i:Nat} (h:i<(keysOf e).length):((keysOf e).take (i+1)).filterMap (NK s)=((keysOf e).take i).filterMap (NK s)++(NK s (keysOf e)[i]).toList:=by
 rw[OE h,dL,QC,aJX];cases NK s (keysOf e)[i]<;>rfl
def aN8 (e:AX) (s:A8 BM) (i:Nat):(((keysOf e).take i).filterMap (NK s)).length<=5:=by
 have j:=aMv (NK s) ((keysOf e).take i);have q:=RX e;rw[G6]at j;omega
def aUG {α:Type} {p:α->Ad} {L:A8 α} {j:Nat} (q:j<L.length) (h:(L.take j).find? p=none) (u:p L[j]=true):L.find? p=some L[j]:=
 calc L.find? p=(L.take j++L.drop j).find? p:=by rw[SI]
  _=some L[j]:=by rw[aV,h,Ku q,VA,u];rfl
def ajI (k x:BM):yS (J6 k) x=some (H7 x k):=by
 unfold yS J6 H7;simp only;rw[J7];cases x.Kind==k.Kind<;>rfl
def afC (e:AX) (s:A8 BM) (hs:s.length<=1000):jR e s=some (SX e s):=by
 unfold jR;rw[aKH,Af];have U:=RX e;have z:((keysOf e).map J6).length=(keysOf e).length:=DY ..;unfold aS5;refine fF.eq (Jb ((keysOf e).map J6).length (fuel_lt AB) (fun i a=>a=((keysOf e).take i).filterMap (NK s)) rfl (fun i a k hi ha Y=>?_) fun a k ha=>?_)
 ·have I:i<(keysOf e).length:=AB
  have J:a.length<=5:=by rw[ha];exact aN8 e s i
  unfold aL4;rw[DU hi,Tt];unfold aVE;have hst:=aPp (s:=s) I
  have u:∀r,r=((keysOf e).take (i+1)).filterMap (NK s)->fF (zX k (i:Int) r) (· =SX e s):=fun r Z=>by
   unfold zX;rw[wrap_succ i AB];exact Y _ Z
  refine Jb s.length (fuel_lt AB) (fun j b=>b=a/\(s.take j).find? (fun x=>H7 x (keysOf e)[i])=none) ⟨rfl,rfl⟩ (fun j b f L q hf=>?_) fun b f q=>?_
  ·obtain⟨rfl,q⟩:=q;unfold aKU;rw[DU L];simp only;rw[ajI,Af];cases O:H7 s[j] (keysOf e)[i]with
   |true=>
    rw[Bq,ED Fz,Af];refine u _ ?_
    have M:s.find? (fun x=>H7 x (keysOf e)[i])=some s[j]:=by
     exact aUG L q O
    rw[hst,ha];unfold NK;rw[M];rfl
   |false=>
    rw[BZ,wrap_succ j AB];refine hf _ ⟨rfl,?_⟩;rw[OE L,aV,q,VA,O];rfl
  obtain⟨rfl,q⟩:=q;unfold aKU;rw[Dq,BZ];refine u _ ?_;rw[GX]at q;rw[hst,ha];unfold NK;rw[q,a0s,aHq,P8]
 rw[z,GX]at ha;unfold aL4;have J:a.length<=5:=by rw[ha];have :=aN8 e s (keysOf e).length;rwa [GX]at this
 rw[Dq,BZ,Xz _ AB,Af,ha];exact .ret rfl
def afb (e:AX) (s:A8 BM) (hs:s.length<=1000):zs e s=some (SX e s):=by
 unfold zs;rw[aB1,Af];have Y:=RX e;unfold aSc;refine fF.eq (Jb (keysOf e).length (fuel_lt AB) (fun i a=>a=Eh (((keysOf e).take i).filterMap (NK s))) rfl (fun i a k hi ha Z=>?_) fun a k ha=>?_)
 ·have hal:a.length<=5:=by
   rw[ha];exact FC (MG _) (aN8 e s i)
  have hst:=aPp (s:=s) hi
  have q:∀r,r=Eh (((keysOf e).take (i+1)).filterMap (NK s))->fF (k r (Ar ((i:Int)+1))) (· =SX e s):=fun r hr=>by
   rw[wrap_succ i AB];exact Z _ hr
  unfold aMZ;rw[dec_lt hi,Bq];unfold aVY;refine RS (body:=aLd s (keysOf e) (i:Int) k) (Q:=_) (fun m b c d=>∃j:Nat,d=j/\j+m=s.length/\((c=false/\b=a/\(s.take j).find? (fun x=>H7 x (keysOf e)[i])=none)\/(c=true/\b=Eh (((keysOf e).take (i+1)).filterMap (NK s))))) ?_ Az s.length a false 0 (fuel_lt AB) ⟨0,rfl,AB,.inl ⟨rfl,rfl,rfl⟩⟩;rintro m b c d f ⟨j,rfl,hm,hI⟩ O;unfold aLd;rcases hI with⟨rfl,rfl,J⟩|⟨rfl,rfl⟩
  ·by_cases u:j<s.length
   ·rw[dec_lt u,Bq,Af,Iu,Bq,D5 u,Af,D5 hi,Af,Af,Af,J7];have L:(s[j].Kind==(keysOf e)[i].Kind&&(s[j].Key=(keysOf e)[i].Key))=H7 s[j] (keysOf e)[i]:=rfl
    have z:(bif (s[j].Kind==(keysOf e)[i].Kind)then dS s (j:Int) b f false (decide (s[j].Key=(keysOf e)[i].Key))else dS s (j:Int) b f false false)=dS s (j:Int) b f false (H7 s[j] (keysOf e)[i]):=by
     rw[←L];cases s[j].Kind==(keysOf e)[i].Kind<;>rfl
    rw[z];unfold dS aDm;cases U:H7 s[j] (keysOf e)[i]with
    |true=>
     rw[Bq,D5 u,Af,eM _ _ AB,Af]
     have M:s.find? (fun x=>H7 x (keysOf e)[i])=some s[j]:=by
      exact aUG u J U
     refine O (m-1) _ _ _ AB ⟨j+1,wrap_succ j AB,AB,.inr ⟨rfl,?_⟩⟩;rw[hst,ha];unfold NK;rw[M];unfold Eh;rw[V5];rfl
    |false=>
     rw[BZ];refine O (m-1) _ _ _ AB ⟨j+1,wrap_succ j AB,AB,.inl ⟨rfl,rfl,?_⟩⟩;rw[OE u,aV,J,VA,U];rfl
   have :j=s.length:=AB
   subst this;rw[Dq,BZ,Af,BZ];refine q _ ?_;rw[GX]at J;rw[hst,ha];unfold NK;rw[J,a0s,aHq,P8]
  have I:(bif (j:Int)<(s.length:Int) then some (!true)else some false)=some false:=by cases decide ((j:Int)<(s.length:Int))<;>rfl
  rw[I,Af,BZ];exact q _ rfl
 rw[GX]at ha;unfold aMZ;rw[Dq,BZ,ha];exact .ret rfl
def roomOf (l:A8 AX):BA:=(l.getD 0 Ch).Room
def VJ (l:A8 AX) (t:A8 FI) (e:AX):AX:=
 { e with Room:=roomOf l,State:=I7 e.Kind,Depth:=WS l (NI l (IL l (F7 l t))),bK:=NI l (IL l (F7 l t)),bT:=SX e (Ic l t) }
def aPM {l:A8 AX} (h:l≠[]):Am l 0=some (l.getD 0 Ch):=by
 cases l with
 |nil=>exact absurd rfl h
 |cons x l=>rfl
def aJl {α:Type} (g:α->Int) (f:AX->α->AX) (j:∀a x,f a x={ a with Depth:=max a.Depth (g x) }):∀(L:A8 α) (a:AX),L.foldl f a={ a with Depth:=L.foldl (fun d x=>max d (g x)) a.Depth }
 | [],a=>rfl
 |x::L,a=>by rw[Gm,Gm,aJl g f j L,j]
def aj8 {l:A8 AX} {t:A8 FI} {x:Int} (j:x∈F7 l t):dJ l x=true:=by
 obtain⟨y,q,rfl⟩:=FY.1 j;exact pV.2 (FY.2 ⟨y,(HY.1 q).1,rfl⟩)
def aOL {l:A8 AX} {t:A8 FI}:∀x∈IL l (F7 l t),dJ l x=true:=fun _ j=>aj8 (aV9.1 j).1
section
variable {l:A8 AX} {t:A8 FI} {c:Int} (h:yc l t) (c1:PK l = some c) (c2:Qz l = some c) (c3:c = 0->UZ l) (ht:t = Jg l c)
include h c1 c2 c3 ht
theorem aH6 (ha:F7 l t≠[]):c=0/\Js l=0/\t=Fb l:=by
 unfold Jg at ht;cases j:c==0 with
 |false=>rw[j,aNF,BZ]at ht;rw[ht,a2A]at ha;exact absurd rfl ha
 |true=>
  cases q:Js l==0 with
  |false=>rw[j,q,Bool.and_false,BZ]at ht;rw[ht,a2A]at ha;exact absurd rfl ha
  |true=>rw[j,q]at ht;exact⟨eq_of_beq j,eq_of_beq q,ht⟩
theorem aQJ :(Ic l t).length<=100:=by
 have j:c=0->MP l:=fun q=>(c3 q).ok h.len;have :=(aXT (l:=l) (c:=c) j).length;rw[ht];have :=h.len;omega
theorem acj (e:AX):WT l e=some (bif F7 l t==[]then(Ch,[],26)else bif WS l (NI l (IL l (F7 l t)))>100000 then(Ch,[],29)else(VJ l t e,Ic l t,0)):=by
 have hlen:=h.len;have hal:=YF l t;have ho:c=0->MP l:=fun h0=>(c3 h0).ok hlen;have hcur:=aQJ h c1 c2 c3 ht;unfold WT;rw[h.acc,Af];by_cases ha:F7 l t=[]
 ·rw[ha];rfl
 have hne:((F7 l t).length:Int)≠0:=fun q=>ha (Hw AB)
 have hb:(F7 l t==[])=false:=by
  cases hq:F7 l t with
  |nil=>exact absurd hq ha
  |cons x L=>rfl
 rw[Rl.2 hne,BZ,hb,BZ,aOp l _ hlen h.small AB,Af];obtain⟨k0,kd,kt⟩:=aH6 h c1 c2 c3 ht ha;have aIx:l≠[]:=fun q=>ha aAj;have hhl:=jQ l (F7 l t);have hH:=aiS l (F7 l t);have J:∀x∈IL l (F7 l t),dJ l x=true:=aOL;have M:=aRi kd ha;unfold VJ;generalize IL l (F7 l t)=hs at hhl hH J M;obtain⟨S,s1,Z,s3⟩:=aeK hH J AB;have hSl:S.length=hs.length:=by rw[Z.length_eq,yH J,DY]
 rw[ahr AB AB s1 AB,Af,aPM aIx,Af,aL5,Af];have hP:=adA hH J Z s3
 have j:∀x∈S.drop (S.length-10),1<=x.Depth/\x.Depth<=100000:=fun x I=>by
  have hm:=Z.mem_iff.1 (bI I);exact(ho k0).dep _ (a1C hm)
 have hnd:((S.drop (S.length-10)).map (·.Id)).Nodup:=by
  have h1:(S.map (·.Id)).Nodup:=by
   have :=(Z.map (·.Id)).nodup_iff.2 (by rw[aX4 J];exact Uo hH);exact this
  exact h1.sublist ((aD5 _ _).map _)
 have O:(S.drop (S.length-10)).foldl (fun d x=>max d (x.Depth+1)) 1=WS l (NI l hs):=by
  unfold WS;refine alB (fun q=>?_) (fun x I=>?_) (fun y hy=>?_) (fun x I=>?_) (fun y hy=>?_)
  ·have :=BP List.length q;rw[JX,N8]at this;have :0<hs.length:=Ze.2 M;omega
  ·refine⟨x.Id,by rw[←hP];exact KR.2 (FY.2 ⟨x,I,rfl⟩),?_⟩;obtain⟨i,hi,e1⟩:=IK (bI I);have :=(aAD J Z s3 hi).1;rw[e1]at this;rw[this]
  ·rw[←hP,KR]at hy;obtain⟨x,I,rfl⟩:=FY.1 hy;refine⟨x,I,?_⟩;obtain⟨i,hi,e1⟩:=IK (bI I);have :=(aAD J Z s3 hi).1;rw[e1]at this;rw[this]
  ·have :=(j x I).1;omega
  have hk:dJ l y=true:=J y (HY.1 hy).1;have :=((ho k0).dep _ (NV (Nv hk).1)).1;omega
 have hPl:(S.drop (S.length-10)).length<=100:=aBO
 generalize S.drop (S.length-10)=T at hP j hnd O hPl;unfold aRT;rw[nK (body:=a1k T l) T AB (fun(a:AX) x=>{ a with Depth:=max a.Depth (x.Depth+1) }) (fun _ _=>True) (fun v8=>(bif v8.Depth>100000 then some (Ch,[],29)else(jM T).bind fun U=>(N7 U).bind fun u=>(aX l).bind fun z=>(jR ({ v8 with bK:=u }) z).bind fun Y=>some ({ { v8 with bK:=u }with bT:=Y },z,0))) trivial]
 ·rw[aJl (fun x:AX=>x.Depth+1) _ (fun a x=>rfl)];show(bif decide (T.foldl (fun d x=>max d (x.Depth+1)) 1>100000)then some (Ch,[],(29:Int))else(jM T).bind fun U=>(N7 U).bind fun u=>(aX l).bind fun z=>(jR { e with Room:=roomOf l,State:=I7 e.Kind,Depth:=T.foldl (fun d x=>max d (x.Depth+1)) 1,bK:=u } z).bind fun Y=>some ({ e with Room:=roomOf l,State:=I7 e.Kind,Depth:=T.foldl (fun d x=>max d (x.Depth+1)) 1,bK:=u,bT:=Y },z,0))=_;rw[O,aeb T AB,Af]
  have hso:N7 (T.map (·.Id))=some (NI l hs):=by
   unfold N7;rw[DX Xh,aYj hnd,hP]
  have hcu:aX l=some (Ic l t):=by rw[ht];exact abQ c1 ho
  rw[hso,Af,hcu,Af,afC _ _ AB,Af];cases decide (WS l (NI l hs)>100000)<;>rfl
 ·intro k a i hi _;refine⟨trivial,?_⟩;have I:=j _ (Ej hi);unfold a1k;rw[DU hi,aVe,OA (x:=T[i].Depth+1) AB AB]
 intro k a _;unfold a1k;rw[Dq,BZ]
theorem ajP :a2E l=some (IL l (F7 l t)):=by
 have hlen:=h.len;have j:=h.aIw;have q:=YF l t;unfold a2E SPr;rw[h.tbl,Af,aOv l t AB AB,Af,aQR l _ AB h.small AB];rfl
theorem ajb (e:AX) (he0:e.Depth=0) (x:Int) (J:Pj (VJ l t e)=some x):Vg l e=some (bif F7 l t==[]then(Ch,26)else bif WS l (NI l (IL l (F7 l t)))>100000 then(Ch,29)else bif x != 0 then(Ch,x)else(VJ l t e,0)):=by
 have hlen:=h.len;have hal:=YF l t;have ho:c=0->MP l:=fun h0=>(c3 h0).ok hlen;have hcur:=aQJ h c1 c2 c3 ht;have u:=aYn c2 ho;unfold Vg;rw[ajP h c1 c2 c3 ht,Af,u,Af];by_cases ha:F7 l t=[]
 ·rw[ha];show((bif !(c==0&&Js l==0)then some true else some (((IL l []).length:Int)==0)).bind _)=_
  have :(bif !(c==0&&Js l==0)then some true else some (((IL l []).length:Int)==0))=some true:=by
   cases(c==0&&Js l==0)<;>rfl
  rw[this];rfl
 have hb:(F7 l t==[])=false:=by
  cases hq:F7 l t with
  |nil=>exact absurd hq ha
  |cons x L=>rfl
 obtain⟨k0,kd,kt⟩:=aH6 h c1 c2 c3 ht ha;have O:=aRi kd ha;have U:l≠[]:=fun q=>ha aAj;have hhl:=jQ l (F7 l t);have hK:∀x∈IL l (F7 l t),dJ l x=true:=aOL;have hne:((IL l (F7 l t)).length:Int)≠0:=fun q=>O (Hw AB);have hr:(c==0&&Js l==0)=true:=by rw[k0,kd];rfl
 rw[hr,Eo,BZ,Rl.2 hne,Af,BZ,hb,BZ,aPM U,Af,zQ,Af,agY AB AB,Af];unfold VJ at J ⊢;generalize IL l (F7 l t)=hs at hhl hK J;have hPl:(NI l hs).length<=100:=FC (KL _ _) AB;have Y:∀x∈NI l hs,1<=(ev l x).Depth/\(ev l x).Depth<=100000:=fun x J=>(ho k0).dep _ (NV (Nv (hK x (HY.1 J).1)).1);have I:WS l (NI l hs)=(NI l hs).foldl (fun d x=>max d ((ev l x).Depth+1)) 0:=rfl;generalize NI l hs=P at hPl Y J I;unfold aYC;rw[nK (body:=aBF l) P AB (fun(a:AX) x=>{ a with Depth:=max a.Depth ((ev l x).Depth+1) }) (fun _ a=>a.bK=P) (fun z=>(WM l).bind fun x15=>(zs z x15).bind fun M=>(bif (({ z with bT:=M }).Depth)>100000 then some (Ch,29)else(Pj ({ z with bT:=M })).bind fun j=>(bif (j != 0)then some (Ch,j)else some ({ z with bT:=M },0)))) rfl]
 ·rw[aJl (fun x:Int=>(ev l x).Depth+1) _ (fun a x=>rfl)];have hcu:WM l=some (Ic l t):=by rw[ht];exact aWI c2 ho hlen h.small
  rw[hcu,Af,afb _ _ AB,Af];show(bif decide (P.foldl (fun d x=>max d ((ev l x).Depth+1)) e.Depth>100000)then some (Ch,(29:Int))else(Pj { e with Room:=roomOf l,State:=I7 e.Kind,Depth:=P.foldl (fun d x=>max d ((ev l x).Depth+1)) e.Depth,bK:=P,bT:=SX e (Ic l t) }).bind fun j=>(bif (j != 0)then some (Ch,j)else some ({ e with Room:=roomOf l,State:=I7 e.Kind,Depth:=P.foldl (fun d x=>max d ((ev l x).Depth+1)) e.Depth,bK:=P,bT:=SX e (Ic l t) },0)))=_;rw[he0,←I,J,Af];cases decide (WS l P>100000)<;>cases x != 0<;>rfl
 ·intro k a i hi Z;refine⟨Z,?_⟩;have J:=Y _ (Ej hi);have hi':i<a.bK.length:=by rw[Z];exact hi
  unfold aBF;rw[DU hi',Kv l _ AB,Af,aVe];show k _ ({ a with Depth:=max a.Depth (Ar ((ev l a.bK[i]).Depth+1)) })=_;have e1:a.bK[i]=P[i]:=by simp only[Z]
  rw[e1,OA (x:=(ev l P[i]).Depth+1) AB AB]
 intro k a Z;unfold aBF;rw[Z,Dq,BZ]
end
end
section
set_option maxRecDepth 20000
set_option maxHeartbeats 1000000
def abO (s:BA):(QO s).size<=s.size:=by
 unfold QO splitB;cases KD s with
 |false=>exact Du _
 |true=>
  show(Q8 s).size<=_;unfold Q8;rw[aCJ];omega
def aOd {e:AX} (h:FV e):FV (U1 e (QO e.bG)):=
 ⟨h.prev,h.auth,h.allow,h.deny,h.users,h.kinds,h.room,h.sender,h.key,h.text,h.via,FC (abO _) h.sender,h.allows,h.denies,h.names⟩
def aXV {e:AX} (h:FV e):gX e=some (U1 e (QO e.bG)):=by
 have j:e.bG.size<=2000:=h.sender;unfold gX;rw[(XQ (s:=e.bG) AB).1,Af,(aNq h _).1];rfl
structure a0U (l:List AX) (e0 E:AX):Prop where
 facts:UZ l
 deep:Js l=0
 ver:∀x∈l,X6 x=some 0
 prog:PK l=some 0
 some_:F7 l (Fb l)≠[]
 check:Pj E=some 0
 small:FV E
 eq:E=VJ l (Fb l) e0
def ae8 {l:A8 AX} (hs:E9 l):(roomOf l).size<=2000:=by
 unfold roomOf;cases l with
 |nil=>exact Du _
 |cons x l=>exact(hs x (GU ..)).room
def afv {l:A8 AX} {j:AX} (hl:l.length<=40) (hs:E9 l) (h:FV j) (t:A8 FI):FV (VJ l t j):=by
 have q:=YF l t;have u:=jQ l (F7 l t);have z:(NI l (IL l (F7 l t))).length<=(IL l (F7 l t)).length:=KL ..;have I:=amA j (Ic l t);exact⟨by show(NI l (IL l (F7 l t))).length<=40;omega,by show(SX j (Ic l t)).length<=40;omega,h.allow,h.deny,h.users,h.kinds,ae8 hs,h.sender,h.key,h.text,h.via,h.server,h.allows,h.denies,h.names⟩
def aZL {l:A8 AX} (hl:l.length<=40) (hs:E9 l) {j:AX} (I:FV j) (J:j.Depth=0):
 (∃x:Int,x≠0/\WT l j=some (Ch,[],x)/\Vg l j=some (Ch,x))\/
 ∃(E:AX) (cur:A8 BM),WT l j=some (E,cur,0)/\((∃x:Int,x≠0/\UG E=some x/\Vg l j=some (Ch,x))\/
  (UG E=some 0/\Vg l j=some (E,0)/\a0U l j E/\cur=Ic l (Fb l)/\WM l=some cur)):=by
 obtain⟨c,h,c1,c2,c3⟩:=ahg hs AB;have hsm:=afv hl hs I (Jg l c);obtain⟨x,U,Y⟩:=aL7 hsm.wide;have u:=acj h c1 c2 c3 rfl j;have q:=ajb h c1 c2 c3 rfl j J x Y;by_cases ha:F7 l (Jg l c)=[]
 ·rw[ha]at u q;exact .inl ⟨26,Bo,u,q⟩
 have Z:(F7 l (Jg l c)==[])=false:=by
  cases z:F7 l (Jg l c)with
  |nil=>exact absurd z ha
  |cons x L=>rfl
 rw[Z,BZ]at u q;obtain⟨k0,kd,M⟩:=aH6 h c1 c2 c3 rfl ha;cases z:decide (WS l (NI l (IL l (F7 l (Jg l c))))>100000)with
 |true=>
  rw[z,Bq]at u q;exact .inl ⟨29,Bo,u,q⟩
 |false=>
  rw[z,BZ]at u q;refine .inr ⟨_,_,u,?_⟩;by_cases O:x=0
  ·subst O;rw[PU,BZ]at q;subst k0;refine .inr ⟨U,q,⟨c3 rfl,kd,ab8 c2 AB,c1,by rw[←M];exact ha,Y,hsm,by rw[M]⟩,by rw[M],?_⟩;exact aWI c2 (fun I=>(c3 I).ok AB) AB hs
  rw[Uc.2 O,Bq]at q;exact .inl ⟨x,O,U,q⟩
def RP (user:BA) (k:Int) (key:BA) (c:DI) (time:Int):AX:={ Ch with bG:=user,Kind:=k,Key:=key,Time:=time,Content:=c }
structure Xm (l:List AX) (e0 e:AX):Prop where
 frame:a0U l e0 (VJ l (Fb l) e0)
 allow:LW (VJ l (Fb l) e0) (KY l (Ic l (Fb l)))=0
 eq:e=U1 (VJ l (Fb l) e0) (QO e0.bG)
def a0U.aFj {l:A8 AX} {j E:AX} (h:a0U l j E) (hl:l.length<=40):(Ic l (Fb l)).length<=40:=by
 have :=aXT (l:=l) (c:=0) fun _=>h.facts.ok AB;rw[an2 h.deep]at this;have :=this.length;omega
def adC {l:A8 AX} (hl:l.length<=40) (hs:E9 l) {user:BA} {k:Int} {key:BA} {c:DI} {time:Int} (Y:FV (RP user k key c time)):
 ∃r:AX×Int,Xb l user k key c time=some r/\iU l user k key c time=some r/\((r.2≠0/\r.1=Ch)\/(r.2=0/\Xm l (RP user k key c time) r.1)):=by
 rcases aZL hl hs Y rfl with⟨x,j,J,u⟩|⟨E,cur,J,⟨x,j,L,u⟩|⟨L,u,q,rfl,M⟩⟩
 ·refine⟨(Ch,x),?_,?_,.inl ⟨j,rfl⟩⟩
  ·show(WT l (RP user k key c time)).bind _=_;rw[J,Af];show(bif x != 0 then _ else _)=_;rw[Uc.2 j,Bq]
  show(Vg l (RP user k key c time)).bind _=_;rw[u,Af];show(bif x != 0 then _ else _)=_;rw[Uc.2 j,Bq]
 ·refine⟨(Ch,x),?_,?_,.inl ⟨j,rfl⟩⟩
  ·show(WT l (RP user k key c time)).bind _=_;rw[J,Af];show(bif (0:Int) != 0 then _ else(UG E).bind _)=_;rw[PU,BZ,L,Af,Uc.2 j,Bq]
  show(Vg l (RP user k key c time)).bind _=_;rw[u,Af];show(bif x != 0 then _ else _)=_;rw[Uc.2 j,Bq]
 have Z:=q.aFj hl;have hel:=pO l (Ic l (Fb l));have z:E9 (KY l (Ic l (Fb l))):=aLD hs _;have hE:E.bG=user:=by rw[q.eq];rfl
 have O:Xb l user k key c time=bif LW E (KY l (Ic l (Fb l))) != 0 then some (Ch,LW E (KY l (Ic l (Fb l))))else some (U1 E (QO E.bG),0):=by
  show(WT l (RP user k key c time)).bind _=_;rw[J,Af];show(bif (0:Int) != 0 then _ else(UG E).bind _)=_;rw[PU,BZ,L,Af,PU,BZ];show(kV l (Ic l (Fb l))).bind _=_;rw[aVS l _ AB AB,Af];show(VL E (KY l (Ic l (Fb l)))).bind _=_;rw[wu E _ AB z q.small,Af];show(bif _ then _ else(gX E).bind _)=_;rw[aXV q.small];rfl
 have U:iU l user k key c time=bif LW E (KY l (Ic l (Fb l))) != 0 then some (Ch,LW E (KY l (Ic l (Fb l))))else some (U1 E (QO E.bG),0):=by
  show(Vg l (RP user k key c time)).bind _=_;rw[u,Af];show(bif (0:Int) != 0 then _ else(WM l).bind _)=_;rw[PU,BZ,M,Af,aTT l _ AB AB,Af];show(Ui E (KY l (Ic l (Fb l)))).bind _=_;have hsz:user.size<=2000:=Y.sender;rw[qh E _ AB z q.small,Af,(XQ (s:=user) AB).2];show(bif _ then _ else(eY E _).bind _)=_;rw[(aNq q.small _).2,hE];rfl
 rw[O,U];by_cases j:LW E (KY l (Ic l (Fb l)))=0
 ·rw[j];refine⟨_,rfl,rfl,.inr ⟨rfl,?_⟩⟩;have I:=q;rw[q.eq]at j I;exact⟨I,j,by rw[hE,q.eq];rfl⟩
 rw[Uc.2 j];exact⟨_,rfl,rfl,.inl ⟨j,rfl⟩⟩
end
section
set_option maxRecDepth 20000
set_option maxHeartbeats 1000000
def aku (l:A8 AX) (e:AX) (hl:l.length<=1000):∀i,i<=l.length->∀d,d<=l.length-i->∀m,d<m->aU (Um (i:Int) e) m ((i+d:Nat):Int) (l.take (i+d)++(l++[e]).getD (i+d) Ch::l.drop (i+d))=some (l.take i++e::l.drop i,0):=by
 intro i z d
 induction d with
 |zero=>
  intro _ m hm;obtain⟨m,rfl⟩:∃I,m=I+1:=⟨m-1,AB⟩
  show Um (i:Int) e (aU (Um (i:Int) e) m) _ _=_;generalize aU (Um (i:Int) e) m=k;unfold Um;rw[show decide (((i+0:Nat):Int)>(i:Int))=false by simp];simp only[BZ,OT];have hlen:i<(l.take i++(l++[e]).getD i Ch::l.drop i).length:=EN
  rw[D5 hlen,Af,Si,a3a _ _ _ hlen];simp[aF6,aJ9,jK z]
 |succ d L=>
  intro hd m hm;obtain⟨m,rfl⟩:∃I,m=I+1:=⟨m-1,AB⟩
  have u:=L AB m AB;show Um (i:Int) e (aU (Um (i:Int) e) m) _ _=_;generalize aU (Um (i:Int) e) m=k at u ⊢;unfold Um;rw[show decide (((i+(d+1):Nat):Int)>(i:Int))=true by simp;omega];simp only[Bq];have w:Ar (((i+(d+1):Nat):Int)-1)=((i+d:Nat):Int):=Qh
  have j:i+d<l.length:=AB
  have M:i+d<(l.take (i+(d+1))++(l++[e]).getD (i+(d+1)) Ch::l.drop (i+(d+1))).length:=EN
  have J:i+(d+1)<(l.take (i+(d+1))++(l++[e]).getD (i+(d+1)) Ch::l.drop (i+(d+1))).length:=EN
  rw[w,D5 M,Af,D5 J,Af]
  have O:(l.take (i+(d+1))++(l++[e]).getD (i+(d+1)) Ch::l.drop (i+(d+1)))[i+d]=l[i+d]:=by
   rw[aMX EN];simp
  rw[O,Si,a3a _ _ _ J]
  have q:(l.take (i+(d+1))++(l++[e]).getD (i+(d+1)) Ch::l.drop (i+(d+1))).take (i+(d+1))++l[i+d]::(l.take (i+(d+1))++(l++[e]).getD (i+(d+1)) Ch::l.drop (i+(d+1))).drop (i+(d+1)+1)=l.take (i+d)++(l++[e]).getD (i+d) Ch::l.drop (i+d):=by
   have ht:(l.take (i+(d+1))).length=i+(d+1):=EN
   rw[(a0L _ _ _ ht).1,(a0L _ _ _ ht).2];have U:(l++[e]).getD (i+d) Ch=l[i+d]:=by simp[List.getD,Hf j,j]
   rw[U,show i+(d+1)=i+d+1 by omega,OE j,Ku j,IU];rfl
  rw[q];exact u
def ao3 {l:A8 AX} {e:AX} (hl:l.length<=1000) (O:l.any (jy e)=false) (U:dJ l e.Id=false):xZ l e=some (KZ l e,0):=by
 have j:∀i,i<=l.length->(DL 376 l [e]).bind (fun u=>aKg (i:Int) e (Ar ((u.length:Int)-1)) u)=some (l.take i++e::l.drop i,0):=fun i hi=>by
  rw[ED Fz,Af]
  have Y:Ar (((l++[e]).length:Int)-1)=((i+(l.length-i):Nat):Int):=by
   rw[EZ,Ns,Y9];omega
  have :=aku l e hl i hi (l.length-i) (EX _) Az (fuel_lt AB);unfold aKg;rw[Y];rw[show i+(l.length-i)=l.length by omega]at this ⊢;have Z:l.take l.length++(l++[e]).getD l.length Ch::l.drop l.length=l++[e]:=by simp[List.getD]
  rw[Z]at this;exact this
 have z:∀x∈l,x.Id≠e.Id:=fun x I q=>by
  have :=pV.2 (FY.2 ⟨x,I,q⟩);rw[U]at this;cases this
 have J:l.findIdx (fun x=> !decide (x.Id<=e.Id))=OW l e:=by
  unfold OW
  have :∀L:A8 AX,(∀x∈L,x.Id≠e.Id)->L.findIdx (fun x=> !decide (x.Id<=e.Id))=L.findIdx (fun x=> !decide (x.Id<e.Id)):=by
   intro L
   induction L with
   |nil=>exact fun _=>rfl
   |cons x L ih=>
    intro h;have h1:=h x (GU ..);rw[RQ,RQ,ih fun y hy=>h y (Gv _ hy),show decide (x.Id<=e.Id)=decide (x.Id<e.Id)from bY.2 AB]
  exact this l z
 have M:aLF l l e 0=some (KZ l e,0):=by
  unfold aLF;rw[KG l (fuel_lt AB) (fun x=> !decide (x.Id<=e.Id)) (fun i=>some (l.take i++e::l.drop i,0)) (some (l.take l.length++e::l.drop l.length,0))]
  ·rw[J];unfold KZ;split
   ·rfl
   have :=aTM l e;rw[show OW l e=l.length by omega]
  ·intro k i h;unfold aFO Sub;rw[DU h,j i AB];cases decide (l[i].Id<=e.Id)<;>rfl
  intro k;unfold aFO Sub;rw[Dq,BZ,BZ,j l.length (EX _)]
 unfold xZ aRr;rw[Hl l (fuel_lt AB) (jy e) ([],13) (some (KZ l e,0)),O]
 ·rfl
 ·intro k i h;unfold aHy;rw[DU h];rfl
 intro k;unfold aHy
 have hp:gu l e.Id=some (-1):=by
  rw[aMx l e.Id AB,Dk];intro q;rw[Zw]at q;obtain⟨x,I,hq⟩:=q;exact z x I (eq_of_beq hq)
 rw[Dq,BZ,ED TB,Af,Ik,hp,Af,IX (show ¬((-1:Int)>=0) by omega),BZ,IX (show ¬((l.length:Int)>=2000) by omega),BZ,M]
def QK (room user:BA) (time:Int):AX:={ Ch with Room:=room,bG:=user,Kind:=1,State:=true,Time:=time,Depth:=1 }
structure aVs (room user:ByteArray) (time:Int) (e:AX):Prop where
 check:Pj (QK room user time)=some 0
 allow:LW (QK room user time) []=0
 eq:e=U1 (QK room user time) (QO user)
def aSY {room user:BA} (j:room.size<=100) (q:user.size<=100) (time:Int):FV (QK room user time):=
 ⟨Du _,Du _,Du _,Du _,Du _,Du _,by show room.size<=2000;omega,aFW,Du _,Du _,Du _,Du _,fun _ h=>absurd h FB,fun _ h=>absurd h FB,fun _ h=>absurd h FB⟩
def aZa {room user:BA} (hr:room.size<=100) (hu:user.size<=100) (time:Int):∃r:AX×Int,Z8 room user time=some r/\je room user time=some r/\((r.2≠0/\r.1=Ch)\/(r.2=0/\aVs room user time r.1)):=by
 have hsm:=aSY hr hu time;have hn:E9 []:=fun _ h=>absurd h FB;obtain⟨x,j,x2⟩:=aL7 hsm.wide;have M:=wu (QK room user time) [] (Du _) hn hsm;have O:=qh (QK room user time) [] (Du _) hn hsm;have u:=aXV hsm;have z:=(aNq hsm (QO user)).2;have U:=(XQ (s:=user) AB).2;have hS:(QK room user time).bG=user:=rfl;have u1:∀(E:AX),E=QK room user time->Z8 room user time=(UG E).bind fun j=>(bif (j != 0)then some (Ch,j)else(VL E []).bind fun I=>(bif (I != 0)then some (Ch,I)else(gX E).bind fun Y=>some (Y,0))):=fun E q=>by subst q;rfl
 have u2:∀(E:AX),E=QK room user time->je room user time=(Pj E).bind fun j=>(bif (j != 0)then some (Ch,j)else(Ui E []).bind fun I=>(bif (I != 0)then some (Ch,I)else(Uh user).bind fun Y=>(eY E Y).bind fun x6=>some (x6,0))):=fun E q=>by subst q;rfl
 have u3:=u1 _ rfl;have u4:=u2 _ rfl;clear u1 u2;rw[hS]at u;have J:Uh user=some (QO user):=U;have hF:∀e,e=U1 (QK room user time) (QO user)->Pj (QK room user time)=some 0->LW (QK room user time) []=0->aVs room user time e:=fun e q1 q2 q3=>⟨q2,q3,q1⟩
 generalize U1 (QK room user time) (QO user)=G at u z hF;generalize QK room user time=E at *;rw[j,Af,M,Af,u,Af]at u3;rw[x2,Af,O,Af,J,Af,z,Af]at u4;rw[u3,u4];by_cases Z:x=0
 ·subst Z;rw[PU,BZ];by_cases L:LW E []=0
  ·rw[L,PU,BZ];exact⟨_,rfl,rfl,.inr ⟨rfl,hF _ rfl x2 L⟩⟩
  rw[Uc.2 L,Bq];exact⟨_,rfl,rfl,.inl ⟨L,rfl⟩⟩
 rw[Uc.2 Z,Bq];exact⟨_,rfl,rfl,.inl ⟨Z,rfl⟩⟩
abbrev aP :Type:=Int×BA×DI
def nextR (l:A8 AX) (user:BA) (f:aP) (time:Int):AX×Int:=(Xb l user f.1 f.2.1 f.2.2 time).getD (Ch,0)
def XG (user:BA) (time:Int):A8 aP->A8 AX->A8 AX->A8 AX×Int
 | [],_,j=>(j,0)
 |f::q,l,j=>bif (nextR l user f time).2 != 0 then([],(nextR l user f time).2)else bif dJ l (nextR l user f time).1.Id then([],11)else XG user time q (KZ l (nextR l user f time).1) (j++[(nextR l user f time).1])
def aMD (user:BA) (f:aP):Prop:=∀t,FV (RP user f.1 f.2.1 f.2.2 t)
def aOW {l:A8 AX} (hl:l.length<=40) (hs:E9 l) {user:BA} {f:aP} (q:aMD user f) (time:Int):
 Xb l user f.1 f.2.1 f.2.2 time=some (nextR l user f time)/\iU l user f.1 f.2.1 f.2.2 time=some (nextR l user f time)/\(((nextR l user f time).2≠0/\(nextR l user f time).1=Ch)\/((nextR l user f time).2=0/\Xm l (RP user f.1 f.2.1 f.2.2 time) (nextR l user f time).1)):=by
 obtain⟨r,j,u,z⟩:=adC hl hs (q time);have :nextR l user f time=r:=by unfold nextR;rw[j];rfl
 rw[this];exact⟨j,u,z⟩
def Xm.small {l:A8 AX} {j e:AX} (h:Xm l j e):FV e:=by rw[h.eq];exact aOd h.frame.small
def Xm.room {l:A8 AX} {q e:AX} (h:Xm l q e):l.any (jy e)=false:=by
 rw[aGu];intro x j
 have :x.Room=e.Room:=by
  rw[h.eq];show x.Room=(l.getD 0 Ch).Room;cases l with
  |nil=>cases j
  |cons y l=>exact h.frame.facts.room x j y (GU ..)
 unfold jy;rw[this];simp
def aYd {l:A8 AX} (hs:E9 l) {e:AX} (q:FV e):E9 (KZ l e):=fun x j=>by
 rcases aBt.1 j with rfl|j
 ·exact q
 exact hs x j
section
variable (user:BA) (time rule vis:Int)
def WE :A8 aP:=[(2,user,{ EC with N:=3 }),(3,CU,{ EC with Levels:=Jc user }),(4,CU,{ EC with N:=rule }),(5,CU,{ EC with N:=vis })]
def aRN (u:user.size<=100):∀f∈WE user rule vis,aMD user f:=fun f j t=>by
 have q:∀(k:Int) (key:BA) (n:Int),key.size<=100->FV (RP user k key { EC with N:=n } t):=fun k key n z=>
  ⟨Du _,Du _,Du _,Du _,Du _,Du _,Du _,aFW,by show key.size<=2000;omega,Du _,Du _,Du _,fun _ h=>absurd h FB,fun _ h=>absurd h FB,fun _ h=>absurd h FB⟩
 have hd:(Jc user).Users.length<=1/\(Jc user).Kinds=[]/\∀x∈(Jc user).Users,x.User.size<=2000:=by
  unfold Jc;cases !(user.toList==CU.toList)with
  |false=>exact⟨Du _,rfl,fun _ h=>absurd h FB⟩
  |true=>exact⟨EX _,rfl,fun x h=>by rw[KP.1 h];show user.size<=2000;omega⟩
 unfold WE at j;rcases F5.1 j with rfl|j
 ·exact q 2 user 3 u
 rcases F5.1 j with rfl|j
 ·exact⟨Du _,Du _,Du _,Du _,by show(Jc user).Users.length<=100;omega,by show(Jc user).Kinds.length<=100;rw[hd.2.1];exact Du _,Du _,aFW,Du _,Du _,Du _,Du _,fun _ h=>absurd h FB,fun _ h=>absurd h FB,hd.2.2⟩
 rcases F5.1 j with rfl|j
 ·exact q 4 CU rule (Du _)
 rcases F5.1 j with rfl|j
 ·exact q 5 CU vis (Du _)
 cases j
def akh (hu:user.size<=100):∀(I:A8 aP) (j:Nat) (l u:A8 AX),(WE user rule vis).drop j=I->j+I.length=4->E9 l->l.length+I.length<=20->u.length+I.length<=20->∀m,I.length<m->
 gZ (jg user (Jc user) rule vis time) m l u (j:Int)=some (XG user time I l u)/\gZ (jC user (Jc user) rule vis time) m l u (j:Int)=some (XG user time I l u):=by
 intro I
 induction I with
 |nil=>
  intro j l u hd hj _ _ _ m hm;obtain⟨m,rfl⟩:∃m',m=m'+1:=⟨m-1,AB⟩
  have hj4:j=4:=aE7
  subst hj4;exact⟨rfl,rfl⟩
 |cons f I ih=>
  intro j l u hd hj hs hl hm' m hm;obtain⟨m,rfl⟩:∃m',m=m'+1:=⟨m-1,AB⟩
  rw[GZ]at hj hl hm' hm;have Y:j<(WE user rule vis).length:=by show j<4;omega
  have M:(WE user rule vis)[j]=f/\(WE user rule vis).drop (j+1)=I:=by
   rw[Ku Y]at hd;exact⟨(List.cons.inj hd).1,(List.cons.inj hd).2⟩
  have hsf:=aRN user rule vis hu f (by rw[←M.1];exact Ej Y);obtain⟨n1,n2,n3⟩:=aOW AB hs hsf time
  have hN:(nextR l user f time).2=0->Xm l (RP user f.1 f.2.1 f.2.2 time) (nextR l user f time).1:=fun q=>by
   rcases n3 with⟨q2,_⟩|⟨_,q2⟩
   ·exact absurd q q2
   exact q2
  have O:=fun(h0:(nextR l user f time).2=0)=>ih (j+1) (KZ l (nextR l user f time).1) (u++[(nextR l user f time).1]) M.2 AB (aYd hs (hN h0).small) (by rw[aOC];omega) (by rw[EZ,Ns];omega) m AB;have hgo:XG user time (f::I) l u=bif (nextR l user f time).2 != 0 then([],(nextR l user f time).2)else bif dJ l (nextR l user f time).1.Id then([],11)else XG user time I (KZ l (nextR l user f time).1) (u++[(nextR l user f time).1]):=rfl
  rw[hgo];show jg user (Jc user) rule vis time (gZ (jg user (Jc user) rule vis time) m) l u (j:Int)=_/\jC user (Jc user) rule vis time (gZ (jC user (Jc user) rule vis time) m) l u (j:Int)=_;generalize gZ (jg user (Jc user) rule vis time) m=k1 at O ⊢;generalize gZ (jC user (Jc user) rule vis time) m=k2 at O ⊢
  have hp:jg user (Jc user) rule vis time k1 l u (j:Int)=(Xb l user f.1 f.2.1 f.2.2 time).bind fun J=>(bif (J.2 != 0)then some ([],J.2)else(NS l J.1.Id).bind fun z=>(bif z.2 then some ([],11)else(oP l J.1).bind fun L=>(bif (L.2 != 0)then some ([],L.2)else(DL 376 u [J.1]).bind fun U=>k1 L.1 U (Ar ((j:Int)+1))))):=by
   rw[←M.1];have :j=0\/j=1\/j=2\/j=3:=AB
   rcases this with rfl|rfl|rfl|rfl<;>rfl
  have hq:jC user (Jc user) rule vis time k2 l u (j:Int)=(iU l user f.1 f.2.1 f.2.2 time).bind fun z=>(bif (z.2 != 0)then some ([],z.2)else(JO l z.1.Id).bind fun L=>(bif L.2 then some ([],11)else(xZ l z.1).bind fun U=>(DL 376 u [z.1]).bind fun x17=>k2 U.1 x17 (Ar ((j:Int)+1)))):=by
   rw[←M.1];have :j=0\/j=1\/j=2\/j=3:=AB
   rcases this with rfl|rfl|rfl|rfl<;>rfl
  rw[hp,hq,n1,n2,Af,Af];cases hx:(nextR l user f time).2 != 0 with
  |true=>exact⟨rfl,rfl⟩
  |false=>
   have h0:(nextR l user f time).2=0:=bne_eq_false_iff_eq.1 hx;have Z:=hN h0;obtain⟨i1,i2⟩:=O h0;rw[BZ,BZ,BZ,Ot l _ AB,Kv l _ AB,Af,Af,Oq];show(bif dJ l (nextR l user f time).1.Id then _ else _)=_/\(bif dJ l (nextR l user f time).1.Id then _ else _)=_;cases hk:dJ l (nextR l user f time).1.Id with
   |true=>exact⟨rfl,rfl⟩
   |false=>
    have hput:oP l (nextR l user f time).1=some (KZ l (nextR l user f time).1,0):=by rw[adH AB,Z.room,hk];rfl
    rw[BZ,BZ,BZ,hput,ao3 AB Z.room hk,Af,Af,ED Fz,Af,Af,wrap_succ j AB];exact⟨i1,i2⟩
def mW (room:BA) (e:AX×Int):A8 AX×Int:=bif e.2 != 0 then([],e.2)else XG user time (WE user rule vis) [e.1] [e.1]
def acJ {room:BA} (I:room.size<=100) (j:user.size<=100) {e:AX×Int} (q:Z8 room user time=some e) (u:je room user time=some e) (hs:FV e.1):
 a2n room user time rule vis=some (mW user time rule vis room e)/\aAk room user time rule vis=some (mW user time rule vis room e):=by
 unfold a2n aAk;rw[q,u,Af,Af,aTQ,aTX];unfold mW;cases e.2 != 0 with
 |true=>exact⟨rfl,rfl⟩
 |false=>
  exact akh user time rule vis j (WE user rule vis) 0 [e.1] [e.1] rfl rfl (fun x z=>by rw[KP.1 z];exact hs) aHC aHC Az (fuel_lt (by show 4<=1099511627776;omega))
def aOu (L:user.size<=100):∀(q:A8 aP) (l j:A8 AX),(∀f∈q,aMD user f)->E9 l->E9 j->l.length+q.length<=20->E9 (XG user time q l j).1/\(XG user time q l j).1.length<=j.length+q.length
 | [],l,j,_,_,h,_=>⟨h,EX _⟩
 |f::q,l,j,I,hs,hm,hl=>by
  rw[GZ]at hl;obtain⟨_,_,M⟩:=aOW AB hs (I f (GU ..)) time;unfold XG;cases u:(nextR l user f time).2 != 0 with
  |true=>exact⟨fun _ h=>absurd h FB,Du _⟩
  |false=>
   have O:(nextR l user f time).2=0:=bne_eq_false_iff_eq.1 u
   have J:Xm l (RP user f.1 f.2.1 f.2.2 time) (nextR l user f time).1:=by
    rcases M with⟨z,_⟩|⟨_,z⟩
    ·exact absurd O z
    exact z
   cases dJ l (nextR l user f time).1.Id with
   |true=>exact⟨fun _ h=>absurd h FB,Du _⟩
   |false=>
    obtain⟨a,b⟩:=aOu L q (KZ l (nextR l user f time).1) (j++[(nextR l user f time).1]) (fun g U=>I g (Gv _ U)) (aYd hs J.small) (fun x u=>by
     rcases Il.1 u with u|u
     ·exact hm x u
     rw[KP.1 u];exact J.small) (by rw[aOC];omega)
    rw[EZ,Ns]at b;exact⟨a,FC b (by rw[GZ];omega)⟩
end
def amO (f:nY):aLE f=some true:=by
 unfold aLE;have M:(bif (f.Room.size:Int)>100 then some true else some (decide ((f.User.size:Int)>100)))=some (decide ((f.Room.size:Int)>100)||((f.User.size:Int)>100)):=by cases decide ((f.Room.size:Int)>100)<;>rfl
 rw[M,Af];cases O:decide ((f.Room.size:Int)>100)||decide ((f.User.size:Int)>100)with
 |true=>rw[Bq,aUr];rfl
 |false=>
  rw[ZI,PX,PX]at O;have u:f.Room.size<=100:=AB
  have j:f.User.size<=100:=AB
  obtain⟨e,J,L,U⟩:=aZa u j f.Time
  have hsm:FV e.1:=by
   rcases U with⟨_,q⟩|⟨_,q⟩
   ·rw[q];exact aVk
   rw[q.eq];exact aOd (aSY u j f.Time)
  obtain⟨Y,Z⟩:=acJ f.User f.Time f.Rule f.Visibility u j J L hsm
  have z:E9 (mW f.User f.Time f.Rule f.Visibility f.Room e).1/\(mW f.User f.Time f.Rule f.Visibility f.Room e).1.length<=5:=by
   unfold mW;cases e.2 != 0 with
   |true=>exact⟨fun _ h=>absurd h FB,Du _⟩
   |false=>
    exact aOu f.User f.Time j (WE f.User f.Rule f.Visibility) [e.1] [e.1] (aRN f.User f.Rule f.Visibility j) (fun x I=>by rw[KP.1 I];exact hsm) (fun x I=>by rw[KP.1 I];exact hsm) aHC
  rw[BZ,J,Af,L,Af,aXH hsm,Af,Eo,BZ,PU,Af,BZ,Y,Af,Z,Af,ak6 AB z.1,aUr];simp only[Af,Bq,Ut]
end
end Go.Proofs.YtkkdimcnpacjhaaGreat
