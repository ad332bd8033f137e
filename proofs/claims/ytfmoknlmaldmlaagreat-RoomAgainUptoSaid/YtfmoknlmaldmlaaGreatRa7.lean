/- Part 7 of the laws' proofs (short forms by wip/shrink2.py). -/
import Derived.Test.YtfmoknlmaldmlaaGreatRa6
set_option linter.defProp false
set_option linter.unnecessarySimpa false
set_option linter.unusedSectionVars false
set_option linter.unusedVariables false
set_option linter.unusedSimpArgs false
namespace Go.Proofs.YtfmoknlmaldmlaaGreat
open Go.RowKit Go.Proofs.Tryz
variable {A α:Type}
def aGy {R:Type}{body:(Int->A->AB R)->Int->A->AB R}(l:A8 α)(hl:l.length<Az)(p:α->Ad)(g:Nat->AB R)(rest:AB R)(a0:A)(u:∀k (i:Nat) (h:i<l.length),body k (i:Int) a0=bif p l[i]then g i else k (BA ((i:Int)+1)) a0)(z:∀k,body k (l.length:Int) a0=rest):
 aP body Az 0 a0=if l.findIdx p<l.length then g (l.findIdx p)else rest:=by
 have J:Az=9223372036854775808:=rfl
 have key:∀n (i:Nat),i+n=l.length->∀m,n<m->aP body m (i:Int) a0=if(l.drop i).findIdx p+i<l.length then g ((l.drop i).findIdx p+i)else rest:=by
  intro n
  induction n with
  |zero=>
   intro i hi m hm;obtain⟨m,rfl⟩:∃q,m=q+1:=⟨m-1,AQ⟩
   have :i=l.length:=AQ
   subst this;show body (aP body m) _ _=_;rw[z,PS,Ef Bf]
  |succ n I=>
   intro i hi m hm;obtain⟨m,rfl⟩:∃q,m=q+1:=⟨m-1,AQ⟩
   have j:i<l.length:=AQ
   show body (aP body m) _ _=_;rw[u _ i j,wrap_succ i AQ,I (i+1) AQ m AQ,Nj j,YF];cases p l[i]with
   |true=>
    grind
   |false=>
    simp only[BQ];rw[show(l.drop (i+1)).findIdx p+(i+1)=(l.drop (i+1)).findIdx p+1+i by omega]
 grind
def JX (l:A8 Aa):Aa×Ad:=match l.find? λx=>x.Kind==1 with |some x=>(x,true)|none=>(Fe,false)
def aHR (l:A8 Aa)(p:Aa->Ad):(if l.findIdx p<l.length then(some (match l[l.findIdx p]? with |some x=>(x,true)|none=>(Fe,false)))else some (Fe,false))=some (match l.find? p with |some x=>(x,true)|none=>(Fe,false)):=by
 rw[Kw]
 grind
def aLN (l:A8 Aa)(hl:l.length<=1000):xA l=some (JX l):=by
 unfold xA aQc;rw[aGy l (fuel_lt AQ) (λx=>x.Kind==1) (λi=>some (match l[i]? with |some x=>(x,true)|none=>(Fe,false))) (some (Fe,false))]
 ·exact aHR l _
 ·intro k i h;unfold aIk;rw[DF h,EO h]
 intro k;unfold aIk;rw[EL]
def aNl (l:A8 Aa)(hl:l.length<=1000):rZ l=some (JX l):=by
 unfold rZ aUh;rw[aGy l (fuel_lt AQ) (λx=>x.Kind==1) (λi=>some (match l[i]? with |some x=>(x,true)|none=>(Fe,false))) (some (Fe,false))]
 ·exact aHR l _
 ·intro k i h;unfold aHV;rw[DF h,CU h,EO h];rfl
 intro k;unfold aHV;rw[EL]
def QU (u:BP)(x:Aa):Ad:=x.Kind==2&&(x.Key=u)
def LP (l:A8 Aa)(u:BP):Int:=match l.find? (QU u)with |some x=>x.Content.N|none=>0
def a5Q (u:BP)(x:Aa):(bif (x.Kind==2)then some (x.Key.toList==u.toList)else some false)=some (QU u x):=by
 unfold QU;rw[Ja];cases x.Kind==2<;>rfl
def aGq (l:A8 Aa)(u:BP)(hl:l.length<=1000):oC l u=some (LP l u):=by
 unfold oC aQO LP;rw[KU l (fuel_lt AQ) (QU u) (λi=>some (match l[i]? with |some x=>x.Content.N|none=>0)) (some 0)]
 ·rw[Kw]
  grind
 ·intro k i h;unfold aG6;rw[DF h,CU h,EO h];simp only[Aj];rw[a5Q];rfl
 intro k;unfold aG6;rw[EL]
def aDf (l:A8 Aa)(u:BP)(hl:l.length<=1000):lR l u=some (LP l u):=by
 unfold lR aTh LP;rw[KU l (fuel_lt AQ) (QU u) (λi=>some (match l[i]? with |some x=>x.Content.N|none=>0)) (some 0)]
 ·rw[Kw]
  grind
 ·intro k i h;unfold aGC;rw[DF h,CU h,EO h];simp only[Aj];rw[a5Q];rfl
 intro k;unfold aGC;rw[EL]
def Xr (e:Aa)(l:A8 Aa):Ad:=
 (JX l).2&&(e.bG.length==1&&(e.bG.getD 0 0==(JX l).1.Id&&(decide (e.bM=(JX l).1.bM)&&(decide (e.Key=(JX l).1.bM)&&(e.Content.N==3&& !l.any (QU e.Key))))))
def aac (e:Aa)(l:A8 Aa)(hl:l.length<=1000):a3V e l=some (Xr e l):=by
 have u:aFb l e 0=some (!l.any (QU e.Key)):=by
  unfold aFb;rw[Hl l (fuel_lt AQ) (QU e.Key) false (some true)]
  ·grind
  ·intro k i h;unfold aE8;rw[DF h,a5Q];rfl
  intro k;unfold aE8;rw[EL]
 unfold a3V Xr bY;rw[aLN l hl];simp only[Aj];rw[u,Ja,Ja];cases(JX l).2 with
 |false=>
  rfl
 |true=>
  by_cases hp:e.bG.length=1
  ·have z:0<e.bG.length:=AQ
   have j:((e.bG.length:Int) != 1)=false:=by rw[hp];rfl
   have q:(e.bG.length==1)=true:=aAv
   have I:Au e.bG 0=some (e.bG.getD 0 0):=by
    have :Au e.bG ((0:Nat):Int)=some e.bG[0]:=CU z
    grind
   rw[j,q,I];simp only[Aj,bne];cases e.bG.getD 0 0==(JX l).1.Id<;>cases decide (e.bM=(JX l).1.bM)<;>cases decide (e.Key=(JX l).1.bM)<;>cases e.Content.N==3<;>rfl
  have j:((e.bG.length:Int) != 1)=true:=Ej
  have q:(e.bG.length==1)=false:=aAv
  rw[j,q];rfl
def aia (e:Aa)(l:A8 Aa)(hl:l.length<=1000):a6V e l=some (Xr e l):=by
 have u:a2r l e.Key=some (l.any (QU e.Key)):=by
  unfold a2r aQy;rw[Hl l (fuel_lt AQ) (QU e.Key) true (some false)]
  ·grind
  ·intro k i h;unfold aEv;rw[DF h,CU h];simp only[Aj];rw[a5Q];rfl
  intro k;unfold aEv;rw[EL]
 unfold a6V Xr XJ;rw[aNl l hl];simp only[Aj];rw[u,Ja,Ja];cases(JX l).2 with
 |false=>
  rfl
 |true=>
  by_cases hp:e.bG.length=1
  ·have z:0<e.bG.length:=AQ
   have j:((e.bG.length:Int)==1)=true:=by rw[hp];rfl
   have q:(e.bG.length==1)=true:=aAv
   have I:Au e.bG 0=some (e.bG.getD 0 0):=by
    have :Au e.bG ((0:Nat):Int)=some e.bG[0]:=CU z
    grind
   rw[j,q,I];simp only[Aj];cases e.bG.getD 0 0==(JX l).1.Id<;>cases decide (e.bM=(JX l).1.bM)<;>cases decide (e.Key=(JX l).1.bM)<;>cases e.Content.N==3<;>rfl
  have j:((e.bG.length:Int)==1)=false:=Ej
  have q:(e.bG.length==1)=false:=aAv
  rw[j,q];rfl
def moveB (f t:Int)(s:Ad):Ad:=
 bif decide (f<0)||decide (f>4)then false else bif t==3 then s&&f != 4 else bif t==0 then f==1||f==2||f==3||(f==4&& !s)else bif t==2 then s&&(f==0||f==2)else bif t==1 then !s&&(f==0||f==2||f==1)else bif t==4 then !s else false
def aX8 (f t:Int)(s:Ad):YB f t s=some (moveB f t s):=by
 unfold YB moveB;simp only[Lu,Aj,ql,SB]
def ai9 (f t:Int)(s:Ad):dS f t s=some (moveB f t s):=by
 rw[←aX8];by_cases j:f<0
 ·unfold dS YB
  grind
 by_cases q:f>4
 ·unfold dS YB
  grind
 by_cases u:t<0
 ·unfold dS YB;rw[KC u,Ic j,Ic q,show(t==3)=false by simp;omega,show(t==0)=false by simp;omega,show(t==2)=false by simp;omega,show(t==1)=false by simp;omega,show(t==4)=false by simp;omega];rfl
 by_cases z:t>4
 ·unfold dS YB;rw[KC z,Ic u,Ic j,Ic q,show(t==3)=false by simp;omega,show(t==0)=false by simp;omega,show(t==2)=false by simp;omega,show(t==1)=false by simp;omega,show(t==4)=false by simp;omega];rfl
 have I:f=0\/f=1\/f=2\/f=3\/f=4:=AQ
 have J:t=0\/t=1\/t=2\/t=3\/t=4:=AQ
 rcases I with rfl|rfl|rfl|rfl|rfl<;>rcases J with rfl|rfl|rfl|rfl|rfl<;>cases s<;>decide
def Xj (l:A8 Aa):Int×A8 BP:=match l.find? λx=>x.Kind==4 with |some x=>(x.Content.N,x.Content.Allow)|none=>(0,[])
def aYU (l:A8 Aa)(hl:l.length<=1000)(hs:Ea l):a7Y l=some (Xj l):=by
 unfold a7Y aMN Xj;rw[KU l (fuel_lt AQ) (λx=>x.Kind==4) (λi=>some (match l[i]? with |some x=>(x.Content.N,x.Content.Allow)|none=>(0,[]))) (some (0,[]))]
 ·rw[Kw]
  grind
 ·intro k i h;have ha:=(hs _ (EZ h)).allow;unfold aGR;rw[DF h,EO h,Dz SC];rfl
 intro k;unfold aGR;rw[EL]
def aYr (l:A8 Aa)(hl:l.length<=1000)(hs:Ea l):a6t l=some (Xj l):=by
 unfold a6t aUu Xj;rw[KU l (fuel_lt AQ) (λx=>x.Kind==4) (λi=>some (match l[i]? with |some x=>(x.Content.N,x.Content.Allow)|none=>(0,[]))) (some (0,[]))]
 ·rw[Kw]
  grind
 ·intro k i h;have ha:=(hs _ (EZ h)).allow;unfold aJe;rw[DF h,CU h,EO h];simp only[Aj];rw[Dz SC];rfl
 intro k;unfold aJe;rw[EL]
def vM (j now:Int):Int:=bif now==3||j==1 then 0 else bif now==1&&(j==0||j==2||j==3)then 0 else 21
def vN (j now:Int):Int:=bif j==2&&(now==0||now==2)then 0 else 21
def akT (r n:Int):a4M r n=some (vM r n):=by
 unfold a4M xX a8w vM;cases n==3<;>cases r==1<;>cases r==2<;>cases r==3<;>cases r==0<;>cases n==1<;>rfl
def af6 (r n:Int):a7L r n=some (vM r n):=by
 unfold a7L vM;cases n==3<;>cases r==1<;>cases r==2<;>cases r==3<;>cases r==0<;>cases n==1<;>rfl
def ah3 (r n:Int):a4t r n=some (vN r n):=by
 unfold a4t a5J vN bne
 grind
def ajg (r n:Int):aAp r n=some (vN r n):=by
 unfold aAp vN
 grind
def ZA (m now:Int)(l:A8 Aa):Int:=bif m==3 then vM (Xj l).1 now else bif m==2 then vN (Xj l).1 now else 0
def agN (m now:Int)(l:A8 Aa)(hl:l.length<=1000)(hs:Ea l):a4N m now l=some (ZA m now l):=by
 unfold a4N ZA;rw[aYU l hl hs];simp only[Aj];rw[akT,ah3]
 grind
def aeO (e:Aa)(now:Int)(l:A8 Aa)(hl:l.length<=1000)(hs:Ea l):a5m e l now=some (ZA e.Content.N now l):=by
 unfold a5m ZA;rw[aYr l hl hs];simp only[Aj];rw[af6,ajg]
 grind
def J7 (k:Int):Ad:=decide (k>=1)&&(k<=10)
def aW3 (k:Int):fV k=some (J7 k):=by
 unfold fV J7;cases decide (k>=1)<;>rfl
def a2w (k:Int):UY k=some (J7 k):=by
 unfold UY J7;cases decide (k>=1)<;>rfl
def YM (v:Ch)(k:Int):Int:=match v.Kinds.find? λx=>x.Kind==k with |some x=>x.N|none=>bif J7 k then v.State else v.Message
def aFS (v:Ch)(k:Int)(h:v.Kinds.length<=1000):nX v k=some (YM v k):=by
 unfold nX aOP YM;rw[KU v.Kinds (fuel_lt AQ) (λx=>x.Kind==k) (λi=>some (match v.Kinds[i]? with |some x=>x.N|none=>0)) (some (bif J7 k then v.State else v.Message))]
 ·rw[Kw]
  grind
 ·intro k2 i h;unfold aKn;rw[DF h,EO h]
 intro k2;unfold aKn;rw[EL,aW3];cases J7 k<;>rfl
def sV (v:Ch)(k:Int)(h:v.Kinds.length<=1000):mQ v k=some (YM v k):=by
 unfold mQ aPz YM;rw[KU v.Kinds (fuel_lt AQ) (λx=>x.Kind==k) (λi=>some (match v.Kinds[i]? with |some x=>x.N|none=>0)) (some (bif J7 k then v.State else v.Message))]
 ·rw[Kw]
  grind
 ·intro k2 i h;unfold aH9;rw[DF h,CU h,EO h];rfl
 intro k2;unfold aH9;rw[EL,a2w];cases J7 k<;>rfl
def YE (own j q:Int):Ad:=j==q||(decide (j<=own)&&(q<=own))
def numsOf (v:Ch):A8 Int:=[v.User,v.Message,v.State,v.gX,v.kR,v.oN,v.ig]
def a0F (own:Int)(p:Int×Int):Ad:= !YE own p.1 p.2
def W9 (own:Int)(j q:Ch)(x:Jv):Ad:= !YE own (YM j x.Kind) (YM q x.Kind)
def Jl (own:Int)(j q:Ch)(u:BP)(x:IV):Ad:= !(YE own (FN j x.User) (FN q x.User)&&(FN j x.User==FN q x.User||(x.User=u)||(FN j x.User<own)))
def a02 (j u:Ch)(q:BP):Int:=
 bif ((numsOf j).zip (numsOf u)).any (a0F (FN j q))then 20 else bif (j.Kinds++u.Kinds).any (W9 (FN j q) j u)then 20 else bif (j.Users++u.Users).any (Jl (FN j q) j u q)then 20 else 0
def aGs (own j q:Int):Y6 j q own=some (!YE own j q):=by
 unfold Y6 YE;have h1:(j != q)= !(j==q):=rfl;have h2:decide (j>own)= !decide (j<=own):=by by_cases h:j<=own<;>simp[h]<;>omega
 have h3:decide (q>own)= !decide (q<=own):=by by_cases h:q<=own<;>simp[h]<;>omega
 rw[h1,h2,h3]
 grind
def a1n (own j q:Int):kL j q own=some (YE own j q):=by
 unfold kL YE
 grind
structure Zd (v:Ch):Prop where
 users:v.Users.length<=100
 kinds:v.Kinds.length<=100
def sW (a b:Ch):((numsOf a).zip (numsOf b)).length=7:=rfl
def abx (q u:Ch)(z:BP)(Y:Zd q)(Z:Zd u):zD q u z=some (a02 q u z):=by
 have o1:=Y.users;have o2:=Y.kinds;have n1:=Z.users;have n2:=Z.kinds;unfold zD;rw[bf q z AQ];unfold a6o;simp only[Aj];unfold a02;generalize hown:FN q z=own
 have hU:a4k q u own z false 0=some (bif (q.Users++u.Users).any (Jl own q u z)then 20 else 0):=by
  unfold a4k;rw[aL5 ([q.Users,u.Users]:A8 (A8 IV)) (fuel_lt Bf) (λus=>us.any (Jl own q u z)) (λ_=>some 20) (some 0) false]
  ·have e:(q.Users++u.Users).any (Jl own q u z)=([q.Users,u.Users]:A8 (A8 IV)).any (λus=>us.any (Jl own q u z)):=Bf
   rw[e]
   have hf:∀L:A8 (A8 IV),(if L.findIdx (λus=>us.any (Jl own q u z))<L.length then some (20:Int)else some 0)=some (bif L.any (λus=>us.any (Jl own q u z))then 20 else 0):=λL=>by
    by_cases h:L.findIdx (λus=>us.any (Jl own q u z))<L.length
    ·rw[ET h];have :L.any (λus=>us.any (Jl own q u z))=true:=Ip.2 ((gG).1 h);rw[this];rfl
    rw[Ef h]
    have :L.any (λus=>us.any (Jl own q u z))=false:=by
     rw[Bool.eq_false_iff];exact λk=>h (gG.2 (Ip.1 k))
    rw[this];rfl
   exact hf _
  ·intro k i h
   have M:([q.Users,u.Users]:A8 (A8 IV))[i].length<=100:=by
    have :([q.Users,u.Users]:A8 (A8 IV))[i]∈[q.Users,u.Users]:=EZ h;simp only[FM,Gn,or_false]at this;rcases this with e|e<;>rw[e]<;>assumption
   unfold aBM;rw[show decide ((i:Int)<2)=true by simp only[GH,QM]at h;simp;omega,CU h];simp only[Bj,Aj];generalize([q.Users,u.Users]:A8 (A8 IV))[i]=us at M;unfold aMp;rw[aL5 us (fuel_lt AQ) (Jl own q u z) (λ_=>some 20) (k false (BA ((i:Int)+1))) false]
   ·by_cases h2:us.findIdx (Jl own q u z)<us.length
    ·rw[ET h2];have :us.any (Jl own q u z)=true:=Ip.2 ((gG).1 h2);rw[this];rfl
    rw[Ef h2]
    have :us.any (Jl own q u z)=false:=by
     rw[Bool.eq_false_iff];exact λk=>h2 (gG.2 (Ip.1 k))
    rw[this];rfl
   ·intro k2 j O;unfold a8Z nI;rw[DF O,bf q _ AQ,bf u _ AQ];simp only[Aj];rw[aGs,Ja];unfold Jl;have h2:decide (FN q us[j].User>=own)= !decide (FN q us[j].User<own):=by by_cases h:FN q us[j].User<own<;>simp[h]<;>omega
    have h3:(FN q us[j].User != FN u us[j].User)= !(FN q us[j].User==FN u us[j].User):=rfl;simp only[Aj];rw[h2,h3];cases YE own (FN q us[j].User) (FN u us[j].User)<;>cases FN q us[j].User==FN u us[j].User<;>cases decide (us[j].User=z)<;>cases decide (FN q us[j].User<own)<;>rfl
   intro k2;unfold a8Z;rw[EL]
  intro k;unfold aBM nI;rw[show decide (((([q.Users,u.Users]:A8 (A8 IV)).length:Nat):Int)<2)=false from rfl];rfl
 have hK:a6B q u own z 0=some (bif (q.Kinds++u.Kinds).any (W9 own q u)then 20 else bif (q.Users++u.Users).any (Jl own q u z)then 20 else 0):=by
  unfold a6B;rw[Hl ([q.Kinds,u.Kinds]:A8 (A8 Jv)) (fuel_lt Bf) (λI=>I.any (W9 own q u)) 20 (a4k q u own z false 0)]
  ·rw[hU];have e:(q.Kinds++u.Kinds).any (W9 own q u)=([q.Kinds,u.Kinds]:A8 (A8 Jv)).any (λI=>I.any (W9 own q u)):=Bf
   rw[e];cases([q.Kinds,u.Kinds]:A8 (A8 Jv)).any (λI=>I.any (W9 own q u))<;>rfl
  ·intro k i h
   have U:([q.Kinds,u.Kinds]:A8 (A8 Jv))[i].length<=100:=by
    have :([q.Kinds,u.Kinds]:A8 (A8 Jv))[i]∈[q.Kinds,u.Kinds]:=EZ h;simp only[FM,Gn,or_false]at this;rcases this with e|e<;>rw[e]<;>assumption
   unfold a4I;rw[show decide ((i:Int)<2)=true by simp only[GH,QM]at h;simp;omega,CU h];simp only[Bj,Aj];generalize([q.Kinds,u.Kinds]:A8 (A8 Jv))[i]=I at U;unfold aWz;rw[Hl I (fuel_lt AQ) (W9 own q u) 20 (k (BA ((i:Int)+1)))]
   ·intro k2 j O;unfold a7B;rw[DF O,aFS q _ AQ,aFS u _ AQ];simp only[Aj];rw[aGs];rfl
   intro k2;unfold a7B;rw[EL]
  intro k;unfold a4I;rw[show decide (((([q.Kinds,u.Kinds]:A8 (A8 Jv)).length:Nat):Int)<2)=false from rfl];rfl
 unfold aSl;rw[Hl ((numsOf q).zip (numsOf u)) aQF (a0F own) 20 (a6B q u own z 0)]
 ·rw[hK];cases((numsOf q).zip (numsOf u)).any (a0F own)<;>rfl
 ·intro k i h;have J:i<7:=by rw[sW]at h;exact h
  have e1:Au [q.User,q.Message,q.State,q.gX,q.kR,q.oN,q.ig] (i:Int)=some ((numsOf q)[i]'(J)):=CU (l:=numsOf q) J;have e2:Au [u.User,u.Message,u.State,u.gX,u.kR,u.oN,u.ig] (i:Int)=some ((numsOf u)[i]'(J)):=CU (l:=numsOf u) J;unfold a4C;rw[show decide ((i:Int)<7)=true by simp;omega,e1,e2];simp only[Bj,Aj];rw[aGs,aKM];rfl
 intro k;unfold a4C;rw[sW,show decide (((7:Nat):Int)<7)=false from rfl];rfl
def agB (j z:Ch)(u q:BP)(I:Zd j)(J:Zd z):ng j z u q=some (YE (FN j q) (FN j u) (FN z u)&&(FN j u==FN z u||(u=q)||(FN j u<FN j q))):=by
 have o1:=I.users;have L:=J.users;unfold ng;rw[Yn j q AQ,Yn j u AQ,Yn z u AQ];simp only[Aj];rw[a1n,Ja]
 grind
def acp (j q:Ch)(u:BP)(J:Zd j)(L:Zd q):a3X j q u=some (a02 j q u):=by
 have o1:=J.users;have o2:=J.kinds;have n1:=L.users;have n2:=L.kinds;unfold a3X;rw[Yn j u AQ];unfold a3F;simp only[Aj];unfold a02
 have z:∀x:IV,(ng j q x.User u)=some (!Jl (FN j u) j q u x):=λx=>by
  rw[agB j q _ _ J L];unfold Jl;rw[a0j]
 generalize O:FN j u=own at z
 have M:aHu q j u 0=some (bif q.Users.any (Jl own j q u)then 20 else 0):=by
  unfold aHu;rw[Hl q.Users (fuel_lt AQ) (Jl own j q u) 20 (some 0)]
  ·cases q.Users.any (Jl own j q u)<;>rfl
  ·intro k i h;unfold aDq;rw[DF h,z];simp only[Aj,a0j]
  intro k;unfold aDq;rw[EL]
 have Y:aBg j q u 0=some (bif (j.Users++q.Users).any (Jl own j q u)then 20 else 0):=by
  unfold aBg;rw[Hl j.Users (fuel_lt AQ) (Jl own j q u) 20 (some (bif q.Users.any (Jl own j q u)then 20 else 0))]
  ·rw[aHA];cases j.Users.any (Jl own j q u)<;>rfl
  ·intro k i h;unfold aGu;rw[DF h,z];simp only[Aj,a0j]
  intro k;unfold aGu;rw[EL,M]
 have Z:a5e j q own u 0=some (bif (j.Kinds++q.Kinds).any (W9 own j q)then 20 else bif (j.Users++q.Users).any (Jl own j q u)then 20 else 0):=by
  unfold a5e;have U:BA ((j.Kinds.length:Int)+(q.Kinds.length:Int))=(((j.Kinds++q.Kinds).length:Nat):Int):=by rw[Ee,gU];omega
  rw[Hl (j.Kinds++q.Kinds) (fuel_lt Lj) (W9 own j q) 20 (some (bif (j.Users++q.Users).any (Jl own j q u)then 20 else 0))]
  ·cases(j.Kinds++q.Kinds).any (W9 own j q)<;>rfl
  ·intro k i h;unfold aEB a7P;rw[U,dec_lt h];simp only[Bj];by_cases hi:i<j.Kinds.length
   ·rw[dec_lt hi,CU hi];simp only[Bj,Aj];rw[sV j _ AQ,sV q _ AQ];simp only[Aj];rw[a1n,a2q hi];rfl
   have hj:i-j.Kinds.length<q.Kinds.length:=by rw[Ee]at h;omega
   have w:BA ((i:Int)-(j.Kinds.length:Int))=((i-j.Kinds.length:Nat):Int):=by rw[Ee]at h;rw[gU];omega
   rw[show decide ((i:Int)<(j.Kinds.length:Int))=false by simp;omega,w,CU hj];simp only[BQ,Aj];rw[sV j _ AQ,sV q _ AQ];simp only[Aj];rw[a1n,List.getElem_append_right AQ];rfl
  intro k;unfold aEB;rw[U,DZ,Y];rfl
 unfold aLb;rw[Hl ((numsOf j).zip (numsOf q)) aQF (a0F own) 20 (a5e j q own u 0)]
 ·rw[Z];cases((numsOf j).zip (numsOf q)).any (a0F own)<;>rfl
 ·intro k i h;have I:i<7:=by rw[sW]at h;exact h
  have e1:Au [j.User,j.Message,j.State,j.gX,j.kR,j.oN,j.ig] (i:Int)=some ((numsOf j)[i]'(I)):=CU (l:=numsOf j) I;have e2:Au [q.User,q.Message,q.State,q.gX,q.kR,q.oN,q.ig] (i:Int)=some ((numsOf q)[i]'(I)):=CU (l:=numsOf q) I;unfold aH4;rw[show decide ((i:Int)<(([j.User,j.Message,j.State,j.gX,j.kR,j.oN,j.ig]:A8 Int).length:Int))=true from dec_lt (n:=7) I,e1,e2];simp only[Bj,Aj];rw[a1n,aKM];rfl
 intro k;unfold aH4;rw[sW];rfl
def Zj (e:Aa)(l:A8 Aa)(now:Int):Int:=
 bif !(LP l e.bM==3)then 18 else
 bif e.Content.N==1&&decide (FN (GY l) e.bM<(GY l).gX)then 20 else
 bif e.Content.N==0&&((now==4&&(FN (GY l) e.bM<(GY l).oN))||(FN (GY l) e.bM<(GY l).kR)||(FN (GY l) e.Key>=FN (GY l) e.bM))then 20 else
 bif e.Content.N==4&&(decide (FN (GY l) e.bM<(GY l).oN)||(FN (GY l) e.Key>=FN (GY l) e.bM))then 20 else 0
def qp (e:Aa)(l:A8 Aa):Int:=
 bif Xr e l then 0 else
 bif decide (e.Key=e.bM)&&LP l e.Key==4 then 19 else
 bif !moveB (LP l e.Key) e.Content.N (decide (e.Key=e.bM))then 18 else
 bif e.Key=e.bM then ZA e.Content.N (LP l e.Key) l else Zj e l (LP l e.Key)
def ZN (e:Aa)(l:A8 Aa):Int:=
 bif FN (GY l) e.bM<YM (GY l) e.Kind then 20 else bif e.Kind==3 then a02 (GY l) e.Content.Levels e.bM else 0
def aMg (s:BP):BP:=(splitB s (L9 s)).2.1
def Lp (e:Aa)(l:A8 Aa):Int:=
 bif e.Kind==1 then(bif !(JX l).2&&(aMg e.bM).toList==(aMg e.Room).toList then 0 else 17)else
 bif !(JX l).2 then 17 else bif e.Kind==2 then qp e l else bif !(LP l e.bM==3)then 18 else ZN e l
variable {l:A8 Aa}
def aSQ (h:Ea l):Zd (GY l):=⟨(mD h).1,(mD h).2⟩
variable {e:Aa}
def Ey.levels (h:Ey e):Zd e.Content.Levels:=⟨h.users,h.kinds⟩
def aiO (e:Aa)(l:A8 Aa)(hl:l.length<=1000)(hs:Ea l)(q:Ey e):a4n e l=some (ZN e l):=by
 have j:=aSQ hs;have h1:=j.users;have h2:=j.kinds;unfold a4n ZN;rw[aDj l hl hs];simp only[Aj];rw[bf _ _ AQ,aFS _ _ AQ];simp only[Aj];rw[abx _ _ _ j q.levels];cases decide (FN (GY l) e.bM<YM (GY l) e.Kind)<;>cases e.Kind==3<;>rfl
def aiz (e:Aa)(l:A8 Aa)(hl:l.length<=1000)(hs:Ea l)(q:Ey e):aB7 e l=some (ZN e l):=by
 have j:=aSQ hs;have h1:=j.users;have h2:=j.kinds;unfold aB7 ZN;rw[aL8 l hl];simp only[Aj];rw[Yn _ _ AQ,sV _ _ AQ];simp only[Aj];rw[acp _ _ _ j q.levels];cases decide (FN (GY l) e.bM<YM (GY l) e.Kind)<;>cases e.Kind==3<;>rfl
def nD (x:Int):Except BI Unit:=.error (.iface 263 (.agg #[.int .i64 x]))
def aSO (x:Int):iW x=some (nD x):=rfl
def aJZ (b:Ad)(x:Int):Rf b x=some (bif b then .ok ()else nD x):=by cases b<;>rfl
def aCh (b:Ad)(x:Int)(f:Unit->AB (Except BI Unit)):NK (bif b then .ok ()else nD x) f=bif b then f ()else some (nD x):=by cases b<;>rfl
def aT5 (x:Int)(f:Unit->AB (Except BI Unit)):NK (nD x) f=some (nD x):=rfl
def akK (a b:Int):decide (a>=b)= !decide (a<b):=by by_cases h:a<b<;>simp[h]<;>omega
def abV (e:Aa)(l:A8 Aa)(now:Int)(hl:l.length<=1000)(hs:Ea l):(kE l e now).bind UO=some (Zj e l now):=by
 have h1:=(mD hs).1;unfold kE Zj;rw[aGq l _ hl,aDj l hl hs];simp only[Aj];rw[bf _ _ AQ,bf _ _ AQ];simp only[aJZ,Aj,aCh,akK]
 have h2:decide (FN (GY l) e.Key<FN (GY l) e.bM)= !decide (FN (GY l) e.bM<=FN (GY l) e.Key):=by
  by_cases h:FN (GY l) e.Key<FN (GY l) e.bM<;>simp[h]<;>omega
 have h3:(now != 4)= !(now==4):=rfl;rw[h3];generalize decide (FN (GY l) e.Key<FN (GY l) e.bM)=t;generalize decide (FN (GY l) e.bM<(GY l).gX)=i;generalize decide (FN (GY l) e.bM<(GY l).oN)=b;generalize decide (FN (GY l) e.bM<(GY l).kR)=k;generalize(now==4)=n;cases LP l e.bM==3 with
 |false=>rfl
 |true=>
  by_cases j:e.Content.N=1
  ·rw[j];cases i<;>rfl
  rw[show(e.Content.N==1)=false by simpa using j];by_cases q:e.Content.N=0
  ·rw[q];cases n<;>cases b<;>cases k<;>cases t<;>rfl
  rw[show(e.Content.N==0)=false by simpa using q];cases e.Content.N==4<;>cases b<;>cases t<;>rfl
def aYc (e:Aa)(l:A8 Aa)(now:Int)(hl:l.length<=1000)(hs:Ea l):a1M e l now=some (Zj e l now):=by
 have h1:=(mD hs).1;unfold a1M Zj;rw[aDf l _ hl,aL8 l hl];simp only[Aj];rw[Yn _ _ AQ,Yn _ _ AQ];simp only[Aj,Lu,ql,SB,bne]
def agv (e:Aa)(l:A8 Aa)(hl:l.length<=1000)(hs:Ea l):a7V e l=some (qp e l):=by
 unfold a7V qp;rw[aac e l hl];simp only[Aj];cases Xr e l with
 |true=>rfl
 |false=>
  simp only[BQ]
  have q:∀o:AB (Except BI Unit),(o.bind λu=>(UO u).bind λz=>some z)=o.bind UO:=λo=>by
   cases o with
   |none=>rfl
   |some x=>cases h:UO x<;>simp[h]
  rw[q];have j:=abV e l (LP l e.Key) hl hs;unfold aEW;rw[aGq l _ hl,Ja];simp only[Aj];rw[ai9,agN _ _ _ hl hs];simp only[Aj,aJZ,aSO,aCh,aT5,Lu];have h3:(LP l e.Key != 4)= !(LP l e.Key==4):=rfl;rw[h3];generalize kE l e (LP l e.Key)=J at j;generalize decide (e.Key=e.bM)=s;cases s with
  |true=>
   cases LP l e.Key==4 with
   |true=>rfl
   |false=>cases moveB (LP l e.Key) e.Content.N true<;>rfl
  |false=>
   cases moveB (LP l e.Key) e.Content.N false with
   |false=>rfl
   |true=>exact j
def aej (e:Aa)(l:A8 Aa)(hl:l.length<=1000)(hs:Ea l):a2K e l=some (qp e l):=by
 unfold a2K qp;rw[aia e l hl,aDf l _ hl];simp only[Aj];rw[aX8,aeO e _ l hl hs,aYc e l _ hl hs,Ja];simp only[Aj,Lu,SB]
def a5V (e:Aa)(l:A8 Aa)(hl:l.length<=1000)(hs:Ea l)(j:Ey e):iM e l=some (Lp e l):=by
 have h1:=j.sender;have h2:=j.room;unfold iM Lp
 have q:∀o:AB (Except BI Unit),(o.bind λu=>(UO u).bind λz=>some z)=o.bind UO:=λo=>by
  cases o with
  |none=>rfl
  |some x=>cases h:UO x<;>simp[h]
 rw[q];unfold aHI a5E a5Y a4P;rw[aLN l hl,(qy (s:=e.bM) AQ).1,(qy (s:=e.Room) AQ).1,aGq l _ hl,aiO e l hl hs j,agv e l hl hs];simp only[Aj,aJZ,aSO,aCh,aT5];show _=some (bif e.Kind==1 then(bif !(JX l).2&&(splitB e.bM (L9 e.bM)).2.1.toList==(splitB e.Room (L9 e.Room)).2.1.toList then 0 else 17)else _);cases e.Kind==1 with
 |true=>
  cases(JX l).2 with
  |true=>rfl
  |false=>cases(splitB e.bM (L9 e.bM)).2.1.toList==(splitB e.Room (L9 e.Room)).2.1.toList<;>rfl
 |false=>
  cases(JX l).2 with
  |false=>rfl
  |true=>
   cases e.Kind==2 with
   |true=>rfl
   |false=>cases LP l e.bM==3<;>rfl
def aJ2 (e:Aa)(l:A8 Aa)(hl:l.length<=1000)(hs:Ea l)(j:Ey e):lW e l=some (Lp e l):=by
 have h1:=j.sender;have h2:=j.room;unfold lW a1q Lp;rw[aNl l hl,(qy (s:=e.bM) AQ).2,(qy (s:=e.Room) AQ).2,aDf l _ hl,aiz e l hl hs j,aej e l hl hs];simp only[Aj];show _=some (bif e.Kind==1 then(bif !(JX l).2&&(splitB e.bM (L9 e.bM)).2.1.toList==(splitB e.Room (L9 e.Room)).2.1.toList then 0 else 17)else _);cases e.Kind==1 with
 |true=>
  cases(JX l).2 with
  |true=>rfl
  |false=>cases(splitB e.bM (L9 e.bM)).2.1.toList==(splitB e.Room (L9 e.Room)).2.1.toList<;>rfl
 |false=>
  cases(JX l).2 with
  |false=>rfl
  |true=>
   cases e.Kind==2 with
   |true=>rfl
   |false=>unfold bne;cases LP l e.bM==3<;>rfl
def fM (named:A8 Aa)(k:BO):Aa×Ad:=match named.find? (F9 k)with |some x=>(x,true)|none=>(Fe,false)
def gZ (l:A8 Aa)(s:A8 BO)(e:Aa)(k:BO):Aa×Ad:=bif (Ht s k.Kind k.Key).2 then I9 l (Ht s k.Kind k.Key).1 else fM (ofIds l e.bI) k
def U3 (l:A8 Aa)(s:A8 BO)(e:Aa)(k:BO):A8 Aa:=bif (gZ l s e k).2 then[(gZ l s e k).1]else[]
def U7 (l:A8 Aa)(s:A8 BO)(e:Aa):A8 Aa:=(keysOf e).flatMap (U3 l s e)
def aDo (l:A8 Aa)(s:A8 BO)(e:Aa)(k:BO):(U3 l s e k).length<=1:=by
 unfold U3;cases(gZ l s e k).2<;>simp
def aRi (l:A8 Aa)(s:A8 BO)(e:Aa):(U7 l s e).length<=5:=by
 have h1:=flat_length (f:=U3 l s e) (n:=1) (aDo l s e) (keysOf e);have h2:=YI e;unfold U7;omega
variable {s:A8 BO}
def amM {x:Aa}(h:x∈U7 l s e):x∈l:=by
 obtain⟨k,_,h⟩:=Vt.1 h;unfold U3 gZ fM at h;cases q:(Ht s k.Kind k.Key).2 with
 |true=>
  rw[q]at h;simp only[Bj]at h;cases hp:Eb l (Ht s k.Kind k.Key).1 with
  |none=>rw[Rl hp]at h;exact absurd h Gn
  |some y=>rw[P7 hp]at h;rw[Jd.1 h];exact JZ hp
 |false=>
  rw[q]at h;simp only[BQ]at h;cases j:(ofIds l e.bI).find? (F9 k)with
  |none=>rw[j]at h;exact absurd h Gn
  |some y=>rw[j]at h;rw[Jd.1 h];exact aJh (XV j)
def Ea.base (h:Ea l)(s:A8 BO)(e:Aa):Ea (U7 l s e):=λx j=>h x (amM j)
def aiW (named:A8 Aa)(k:BO)(j:named.length<=1000):a3q named k=some (fM named k):=by
 unfold a3q;rw[a8C named AQ (λa0=>a0o a0 k) (F9 k) λe=>by unfold a0o F9;rw[Ja];cases e.Kind==k.Kind<;>rfl];exact found_eq named (F9 k) rfl
def ah1 (named:A8 Aa)(k:BO)(j:named.length<=1000):a6z named k.Kind k.Key=some (fM named k):=by
 unfold a6z aSo;rw[aGy named (fuel_lt AQ) (F9 k) (λi=>some (match named[i]? with |some x=>(x,true)|none=>(Fe,false))) (some (Fe,false))]
 ·exact aHR named _
 ·intro k2 i h;unfold aFc;rw[DF h,CU h,EO h];simp only[Aj];rw[Ja];unfold F9;cases named[i].Kind==k.Kind<;>cases decide (named[i].Key=k.Key)<;>rfl
 intro k2;unfold aFc;rw[EL]
def acL (l:A8 Aa)(s:A8 BO)(e:Aa)(hl:l.length<=1000)(j:e.bI.length<=40)(hs:KY s)(hsl:s.length<=1000000):a2X l s e=some (U7 l s e):=by
 unfold a2X;have q:=jk l e.bI;have u:=YI e;have hm:Jg 376 Fe 0 5=some []:=by unfold Jg;rw[ET a4a];rfl
 rw[aZf l _ hl AQ,hm,aM1];simp only[Aj];unfold aOi;rw[Iq (keysOf e) AQ (λr k=>r++U3 l s e k) (λi r=>r.length<=i) (λr=>some r) (EW _)]
 ·rw[foldl_append (U3 l s e),JJ];rfl
 ·intro k r i h z;have hp:=aDo l s e (keysOf e)[i];refine⟨Lj,?_⟩;unfold aHH aAN a8h;rw[DF h,aiW _ _ AQ,aCS s _ _ hsl hs];simp only[Aj];rw[Ox l _ AQ,Dz G9];simp only[Aj];rw[Dz G9];unfold U3 gZ;cases(Ht s (keysOf e)[i].Kind (keysOf e)[i].Key).2 with
  |true=>
   simp only[Bj];cases(I9 l (Ht s (keysOf e)[i].Kind (keysOf e)[i].Key).1).2 with
   |true=>rfl
   |false=>simp
  |false=>
   simp only[BQ];cases(fM (ofIds l e.bI) (keysOf e)[i]).2 with
   |true=>rfl
   |false=>simp
 intro k r _;unfold aHH;rw[EL]
def aar (l:A8 Aa)(s:A8 BO)(e:Aa)(hl:l.length<=1000)(j:e.bI.length<=40)(hsl:s.length<=1000000):a5G l s e=some (U7 l s e):=by
 unfold a5G;have q:=jk l e.bI;have u:=YI e;rw[aEu,aCG l _ hl AQ];simp only[Aj];unfold aQK;rw[Iq (a0:=[]) (keysOf e) AQ (λr k=>r++U3 l s e k) (λi r=>r.length<=i) (λr=>some r) (EW _)]
 ·rw[foldl_append (U3 l s e),JJ];rfl
 ·intro k r i h z;have hp:=aDo l s e (keysOf e)[i];refine⟨Lj,?_⟩;unfold aIl a4V a8B;rw[dec_lt h,CU h];simp only[Bj,Aj];rw[ah1 _ _ AQ,aKI s _ _ hsl];simp only[Aj];rw[NG l _ AQ,Dz G9];simp only[Aj];rw[Dz G9];unfold U3 gZ;cases(Ht s (keysOf e)[i].Kind (keysOf e)[i].Key).2 with
  |true=>
   simp only[Bj];cases(I9 l (Ht s (keysOf e)[i].Kind (keysOf e)[i].Key).1).2 with
   |true=>rfl
   |false=>simp
  |false=>
   simp only[BQ];cases(fM (ofIds l e.bI) (keysOf e)[i]).2 with
   |true=>rfl
   |false=>simp
 intro k r _;unfold aIl;rw[DZ];rfl
def UF (l:A8 Aa)(s:A8 BO)(id:Int):Ad:=bQ l id&&(J7 (ev l id).Kind&&Lp (ev l id) (U7 l s (ev l id))==0)
def Po (l:A8 Aa)(s:A8 BO)(id:Int):A8 BO:=bif UF l s id then Gi s (ev l id).Kind (ev l id).Key (ev l id).Id else s
def Q9 (l:A8 Aa)(s:A8 BO)(ids:A8 Int):A8 BO:=ids.foldl (Po l) s
def aLL (h:KY s)(id:Int):KY (Po l s id):=by
 unfold Po;cases UF l s id with
 |true=>exact XC h _ _ _
 |false=>exact h
def aHW {l:A8 Aa}:∀{ids:A8 Int} {s:A8 BO},KY s->KY (Q9 l s ids)
 | [],_,h=>h
 |id::ids,s,h=>aHW (ids:=ids) (aLL h id)
def aBW (l:A8 Aa)(s:A8 BO)(id:Int):(Po l s id).length<=s.length+1:=by
 unfold Po;cases UF l s id with
 |true=>exact Qv _ _ _ _
 |false=>exact Nat.le_succ _
def a8V (l:A8 Aa):∀(ids:A8 Int) (s:A8 BO),(Q9 l s ids).length<=s.length+ids.length
 | [],s=>EW _
 |id::ids,s=>by
  have h1:=a8V l ids (Po l s id);have h2:=aBW l s id;show(Q9 l (Po l s id) ids).length<=_;rw[GH];omega
def aQL (hs:Ea l){id:Int}(h:bQ l id=true):Ey (ev l id):=hs _ (JZ (J8 h).1)
def ajU (l:A8 Aa)(s:A8 BO)(id:Int)(hl:l.length<=1000)(hs:Ea l)(u:KY s)(hsl:s.length<=1000000):aAa l s id=some (Po l s id):=by
 unfold aAa aEi a1E Po UF;have j:aA2 s (.error (.iface 378 (.agg #[])):Except BI (A8 BO))=some s:=rfl;rw[Ox l _ AQ];simp only[Aj];rw[Nw];cases I:(Eb l id).isSome with
 |false=>rw[show bQ l id=false from I];exact j
 |true=>
  have q:bQ l id=true:=I;have J:=aQL hs q;have z:(I9 l id).1=ev l id:=rfl;rw[q,z,aW3];simp only[Aj,El,BQ,Fv];cases J7 (ev l id).Kind with
  |false=>exact j
  |true=>
   have L:=aRi l s (ev l id);rw[acL l s _ hl J.auth u hsl];simp only[Aj,El,BQ,Fv];rw[a5V _ _ AQ (hs.base s _) J];simp only[Aj];rw[aJ s _ _ _ hsl];unfold bne;cases Lp (ev l id) (U7 l s (ev l id))==0 with
   |true=>rfl
   |false=>exact j
def aVq (l:A8 Aa)(s:A8 BO)(ids:A8 Int)(hl:l.length<=1000)(hs:Ea l)(j:KY s)(hsl:s.length+ids.length<=1000000):iP l s ids=some (Q9 l s ids):=by
 unfold iP a8G;rw[Dz SC];simp only[Aj,JJ];unfold aLJ;rw[Iq ids AQ (Po l) (λi r=>KY r/\r.length<=s.length+i) (λr=>some r) ⟨j,EW _⟩]
 ·rfl
 ·intro k r i h q;have h1:=aBW l r ids[i];refine⟨⟨aLL q.1 _,AQ⟩,?_⟩;unfold aKp;rw[DF h,ajU l r _ hl hs q.1 AQ];rfl
 intro k r _;unfold aKp;rw[EL]
def aWh (l:A8 Aa)(s:A8 BO)(ids:A8 Int)(hl:l.length<=1000)(hs:Ea l)(hsl:s.length+ids.length<=1000000):iV l s ids=some (Q9 l s ids):=by
 unfold iV;rw[Dz SC];simp only[Aj,JJ];unfold aQl;rw[Iq ids AQ (Po l) (λi r=>r.length<=s.length+i) (λr=>some r) (EW _)]
 ·rfl
 ·intro k r i h I;have h1:=aBW l r ids[i];refine⟨AQ,?_⟩;unfold aHC a0P aAr Po UF;rw[DF h,NG l _ AQ];simp only[Aj];rw[Nw];cases u:(Eb l ids[i]).isSome with
  |false=>rw[show bQ l ids[i]=false from u];rfl
  |true=>
   have j:bQ l ids[i]=true:=u;have z:=aQL hs j;have q:(I9 l ids[i]).1=ev l ids[i]:=rfl;rw[j,q,a2w];simp only[Aj,Bj,Fv];cases J7 (ev l ids[i]).Kind with
   |false=>rfl
   |true=>
    have J:=aRi l r (ev l ids[i]);rw[aar l r _ hl z.auth AQ];simp only[Aj,Bj,Fv];rw[aJ2 _ _ AQ (hs.base r _) z];simp only[Aj];rw[aGv r _ _ _ AQ];cases Lp (ev l ids[i]) (U7 l r (ev l ids[i]))==0<;>rfl
 intro k r _;unfold aHC;rw[EL]
def La (l:A8 Aa)(aY:A8 (A8 BO)):A8 Int:=WB l (KH l aY)
def MW (l:A8 Aa)(aY:A8 (A8 BO)):A8 Int:=tJ l (gQ l (La l aY)).length (gQ l (La l aY))
def Iz (l:A8 Aa)(aY:A8 (A8 BO)):A8 BO:=Q9 l (J3 aY) (MW l aY)
def V9 (l:A8 Aa)(aY:A8 (A8 BO)):A8 Int:=bif (Ht (Iz l aY) 3 CX).2 then ZC l (Ht (Iz l aY) 3 CX).1 else[]
def LG (l:A8 Aa)(aY:A8 (A8 BO)):A8 Int:=AU l (V9 l aY) (Px (KH l aY) (La l aY))
def yX (s a:A8 BO):A8 BO:=a.foldl (λs x=>Gi s x.Kind x.Key x.Id) s
def lastOf (l:A8 Aa)(aY:A8 (A8 BO)):A8 BO:=yX (Q9 l (Iz l aY) (LG l aY)) (J3 aY)
structure Oe (l:List Aa) (aY:List (List BO)):Prop where
 len:l.length<=100
 small:Ea l
 states:Pe aY
variable {aY:A8 (A8 BO)}
def kW (h:Oe l aY):(KH l aY).length<=40000:=by
 have j:=h.len;have q:=a3M h.states;have u:=OG (TB aY);have h1:=a2g l aY [] λs hs=>(h.states.2 s hs).1;have h2:=h.states.1;have h3:=Lc (λx=>Je l aY x<aY.length) (allOf l aY);have z:aY.length*(100+l.length)<=100*200:=a1m h2 AQ;have I:=aJm (FW (TB aY)) (PL l aY)
 have J:(PL l aY).length<=20000:=by
  unfold PL;unfold allOf at h3 ⊢;simp only[QM]at h1;omega
 unfold KH;omega
def aY9 (h:Oe l aY):(Ik l (KH l aY)).length<=40000:=EI (Lc _ _) (kW h)
def aDA (h:Oe l aY):(MW l aY).length<=100:=by
 have h1:=aQ0 l (gQ l (La l aY)).length (gQ l (La l aY));have h2:(gQ l (La l aY)).length<=l.length:=lH (jY _ _) λx j=>(Ns.1 j).2;have h3:=h.len;unfold MW;omega
def a7I (h:Oe l aY):(Iz l aY).length<=200:=by
 have h1:=a8V l (MW l aY) (J3 aY);have h2:=aDA h;have h3:=eA h.states;unfold Iz;omega
def aGi (h:Oe l aY):KY (Iz l aY):=aHW (aTA h.states)
def aOS (h:Oe l aY):(V9 l aY).length<=100:=by
 have h1:=aRk l (Ht (Iz l aY) 3 CX).1;have h2:=h.len;unfold V9;cases(Ht (Iz l aY) 3 CX).2 with
 |true=>simp only[Bj];omega
 |false=>exact FB _
def aPk (h:Oe l aY):(LG l aY).length<=40000:=by
 have h1:=aht l (V9 l aY) (Px (KH l aY) (La l aY));have h2:=aKK (KH l aY) (La l aY);have h3:=kW h;unfold LG;omega
def alc (h:Oe l aY):a0I (KH l aY) (La l aY) l (Iz l aY,MW l aY) (J3 aY,FW (TB aY)) (V9 l aY)=some ⟨lastOf l aY,MW l aY,LG l aY⟩:=by
 have u:=h.len;have h1:=kW h;have h2:=a6s l (KH l aY);have h3:=aOS h;have z:=aKK (KH l aY) (La l aY);have I:=a7I h;have J:=aPk h;have L:=eA h.states;unfold a0I aKW aKu;rw[aay _ _ AQ (by unfold La;omega)];simp only[Aj];rw[ah8 l _ _ AQ h.small AQ AQ (QH (aKo _ _))];simp only[Aj];show((iP l (Iz l aY) (LG l aY)).bind _).bind _=_;rw[aVq l _ _ AQ h.small (aGi h) AQ];simp only[Aj];unfold aMM;have M:=a8V l (LG l aY) (Iz l aY);show aP _ Az 0 (⟨Q9 l (Iz l aY) (LG l aY),MW l aY,LG l aY⟩:PV)=_;rw[qW (J3 aY) AQ (λv x=>({ v with IG:=Gi v.IG x.Kind x.Key x.Id }:PV)) (λi v=>v.IG.length<=(Q9 l (Iz l aY) (LG l aY)).length+i) (λv=>some v) (EW _)]
 ·congr 1;unfold lastOf yX
  have key:∀(a:A8 BO) (v:PV),a.foldl (λv x=>({ v with IG:=Gi v.IG x.Kind x.Key x.Id }:PV)) v=⟨a.foldl (λs x=>Gi s x.Kind x.Key x.Id) v.IG,v.amF,v.awM⟩:=by
   intro a
   induction a with
   |nil=>intro v;rfl
   |cons x a j=>intro v;rw[Fl,j];rfl
  rw[key]
 ·intro k v i hi O;have q:=Qv v.IG (J3 aY)[i].Kind (J3 aY)[i].Key (J3 aY)[i].Id;refine⟨by show(Gi _ _ _ _).length<=_;omega,?_⟩;unfold aD7;rw[DF hi,aJ _ _ _ _ AQ];rfl
 intro k v _;unfold aD7;rw[EL]
def afL (h:Oe l aY):a5H l aY=some ⟨lastOf l aY,MW l aY,LG l aY⟩:=by
 have u:=h.len;have h1:=kW h;have h2:=a6s l (KH l aY);have h3:=aY9 h;have z:=a7I h;have I:=aDA h;have J:=eA h.states;have j:=alc h;unfold a5H;rw[aNo aY h.states,aaf l aY AQ h.small.amS h.states];simp only[Aj];rw[ahy l _ AQ h.small AQ AQ];simp only[Aj];unfold aBi aCW;rw[ag8 l _ AQ h.small AQ];simp only[Aj];have ha:iP l (J3 aY) (MW l aY)=some (Iz l aY):=aVq l _ _ AQ h.small (aTA h.states) AQ;unfold MW La at ha;rw[ha];simp only[Aj];rw[aCS _ _ _ AQ (aGi h)];simp only[Aj];rw[adL l _ AQ h.small];unfold V9 at j;cases q:(Ht (Iz l aY) 3 CX).2 with
 |true=>rw[q]at j;exact j
 |false=>rw[q]at j;exact j
def aZP (h:Oe l aY):yF (KH l aY) (La l aY) l (J3 aY,FW (TB aY)) (MW l aY) (Iz l aY) (V9 l aY)=some ⟨J3 aY,MW l aY,Iz l aY,LG l aY,lastOf l aY⟩:=by
 have z:=h.len;have h1:=kW h;have h2:=a6s l (KH l aY);have h3:=aOS h;have I:=aKK (KH l aY) (La l aY);have J:=a7I h;have L:=aPk h;have M:=eA h.states;unfold yF;rw[a5x _ _ AQ (by unfold La;omega)];simp only[Aj];rw[agI l _ _ AQ h.small AQ AQ (QH (aKo _ _))];simp only[Aj];show(iV l (Iz l aY) (LG l aY)).bind _=_;rw[aWh l _ _ AQ h.small AQ];simp only[Aj];unfold aPD;have O:=a8V l (LG l aY) (Iz l aY);show aP _ Az 0 (⟨J3 aY,MW l aY,Iz l aY,LG l aY,Q9 l (Iz l aY) (LG l aY)⟩:PZ)=_;rw[qW (J3 aY) AQ (λv x=>({ v with Last:=Gi v.Last x.Kind x.Key x.Id }:PZ)) (λi v=>v.Same=J3 aY/\v.Last.length<=(Q9 l (Iz l aY) (LG l aY)).length+i) (λv=>some v) ⟨rfl,EW _⟩]
 ·congr 1;unfold lastOf yX
  have key:∀(a:A8 BO) (v:PZ),a.foldl (λv x=>({ v with Last:=Gi v.Last x.Kind x.Key x.Id }:PZ)) v=⟨v.Same,v.Power,v.First,v.Others,a.foldl (λs x=>Gi s x.Kind x.Key x.Id) v.Last⟩:=by
   intro a
   induction a with
   |nil=>intro v;rfl
   |cons x a q=>intro v;rw[Fl,q];rfl
  rw[key]
 ·intro k v i hi j;have u:=Qv v.Last (J3 aY)[i].Kind (J3 aY)[i].Key (J3 aY)[i].Id;refine⟨⟨j.1,by show(Gi _ _ _ _).length<=_;omega⟩,?_⟩;unfold aD0;rw[j.1,dec_lt hi,CU hi];simp only[Bj,Aj];rw[aGv _ _ _ _ AQ];rfl
 intro k v j;unfold aD0;rw[j.1,DZ];rfl
def alh (h:Oe l aY):a3n l aY=some ⟨J3 aY,MW l aY,Iz l aY,LG l aY,lastOf l aY⟩:=by
 have u:=h.len;have h1:=kW h;have h2:=a6s l (KH l aY);have z:=a7I h;have I:=aDA h;have J:=eA h.states;have j:=aZP h;unfold a3n;rw[aSy aY h.states,ad1 l aY AQ h.small.amS h.states];simp only[Aj];rw[ajL l _ AQ h.small AQ];simp only[Aj];rw[al6 l _ AQ h.small AQ];simp only[Aj];have ha:iV l (J3 aY) (MW l aY)=some (Iz l aY):=aWh l _ _ AQ h.small AQ;unfold MW La at ha;rw[ha];simp only[Aj];rw[aKI _ _ _ AQ];simp only[Aj];rw[aU9 l _ AQ h.small];unfold V9 at j;cases q:(Ht (Iz l aY) 3 CX).2 with
 |true=>rw[q]at j;exact j
 |false=>rw[q]at j;exact j
def Zk (l:A8 Aa)(aY:A8 (A8 BO)):A8 BO:=match aY with
 | []=>[]
 | [s]=>s
 |_=>lastOf l aY
def aVx (h:Oe l aY):qZ l aY=some (Zk l aY):=by
 match aY,h with
 | [],_=>rfl
 | [s],h=>
   have hs:=(h.states.2 s (Gz ..)).1;have j:Au [s] 0=some s:=rfl;show((Au [s] 0).bind λq=>(DC 32 [] q).bind λu=>some u)=some s;rw[j];simp only[Aj];rw[Dz SC];rfl
 |s::t::aY,h=>
  unfold qZ;have j:(((s::t::aY).length:Int)==0)=false:=a7k
  have z:(((s::t::aY).length:Int)==1)=false:=a7k
  rw[j,z,afL h];rfl
def aV6 (h:Oe l aY):a1G l aY=some (Zk l aY):=by
 match aY,h with
 | [],_=>rfl
 | [s],_=>rfl
 |s::t::aY,h=>
  unfold a1G;have j:(((s::t::aY).length:Int)==0)=false:=a7k
  have q:(((s::t::aY).length:Int)==1)=false:=a7k
  rw[j,q,alh h];rfl
def aIr {x:BO}:∀(a s:A8 BO),x∈yX s a->x∈a\/x∈s
 | [],_,h=>.inr h
 |y::a,s,h=>by
  rcases aIr a _ h with h|h
  ·grind
  rcases UJ h with h|h
  ·left;rw[h];cases y;exact Gz ..
  exact .inr h
def aQS (l:A8 Aa)(ids:A8 Int)(x:BO):Prop:=∃id∈ids,bQ l id=true/\J7 (ev l id).Kind=true/\x=⟨(ev l id).Kind,(ev l id).Key,(ev l id).Id⟩
def aL9 {l:A8 Aa}{x:BO}:∀(ids:A8 Int) (s:A8 BO),x∈Q9 l s ids->x∈s\/aQS l ids x
 | [],_,h=>.inl h
 |id::ids,s,h=>by
  rcases aL9 ids _ h with h|⟨j,q,h⟩
  ·have h2:x∈bif UF l s id then Gi s (ev l id).Kind (ev l id).Key (ev l id).Id else s:=h
   cases hm:UF l s id with
   |false=>
    grind
   |true=>
    rw[hm]at h2;rcases UJ h2 with h2|h2
    ·unfold UF at hm;simp only[DR]at hm;exact .inr ⟨id,Gz ..,hm.1,hm.2.1,h2⟩
    exact .inl h2
  exact .inr ⟨j,IE _ q,h⟩
def afF {x:Int}(h:x∈La l aY):x∈KH l aY:=(a7R.1 h).1
def ah6 {x:BO}(h:x∈lastOf l aY):x∈J3 aY\/aQS l (KH l aY) x:=by
 unfold lastOf at h;rcases aIr _ _ h with h|h
 ·exact .inl h
 rcases aL9 _ _ h with h|⟨j,q,h⟩
 ·unfold Iz at h;rcases aL9 _ _ h with h|⟨j,q,h⟩
  ·exact .inl h
  exact .inr ⟨j,afF (Ns.1 (aGO _ _ _ q)).1,h⟩
 exact .inr ⟨j,(aEd.1 (ako.1 q).1).1,h⟩
def aTB :∀(a s:A8 BO),KY s->KY (yX s a)
 | [],_,h=>h
 |x::a,s,h=>aTB a _ (XC h x.Kind x.Key x.Id)
def aXR (h:Oe l aY):KY (lastOf l aY):=aTB _ _ (aHW (aGi h))
structure Jt (l:List Aa) (s:List BO):Prop where
 sorted:KY s
 named:∀x∈s,bQ l x.Id=true/\J7 x.Kind=true/\(ev l x.Id).Kind=x.Kind/\(ev l x.Id).Key=x.Key
def Jt.nil (l:A8 Aa):Jt l []:=⟨List.Pairwise.nil,λ_ h=>absurd h Gn⟩
def Jt.nodup (h:Jt l s):(s.map (·.Id)).Nodup:=by
 rw[jF,cu];refine List.Pairwise.imp_of_mem ?_ h.sorted;intro a b ha j hp e;obtain⟨_,_,q,k2⟩:=h.named a ha;obtain⟨_,_,k3,u⟩:=h.named b j;have z:a.Kind=b.Kind:=by rw[←q,←k3,e]
 have I:a.Key=b.Key:=by rw[←k2,←u,e]
 rw[uO (Xa.2 ⟨z,I⟩)]at hp;cases hp
def Jt.length {l:A8 Aa}{s:A8 BO}(h:Jt l s):s.length<=l.length:=by
 have :WG l (s.map (·.Id)):=⟨h.nodup,λx j=>by
  obtain⟨y,q,rfl⟩:=FT.1 j
  exact(h.named y q).1⟩
 have :=this.length
 grind
def Jt.okay (hl:l.length<=100)(hs:Ea l)(j:aY.length<=100)(h:∀s∈aY,Jt l s):Oe l aY:=
 ⟨hl,hs,j,λs hm=>⟨EI (h s hm).length hl,(h s hm).sorted⟩⟩
def Jt.resolve (j:Oe l aY)(h:∀s∈aY,Jt l s):Jt l (Zk l aY):=by
 match aY,j,h with
 | [],_,_=>exact .nil l
 | [s],_,h=>exact h s (Gz ..)
 |s::t::aY,j,h=>
  refine⟨aXR j,λx I=>?_⟩;rcases ah6 I with hm|⟨id,_,z,hst,q⟩
  ·exact(h s (Gz ..)).named x ((aaW j.states (List.cons_ne_nil _ _)).1 hm s (Gz ..))
  have u:=J8 z;have J:x.Id=id:=by rw[q];exact u.2
  rw[J];exact⟨z,by rw[q];exact hst,by rw[q],by rw[q]⟩
def Jt.set (h:Jt l s)(u:bQ l e.Id=true)(q:ev l e.Id=e)(hst:J7 e.Kind=true):Jt l (Gi s e.Kind e.Key e.Id):=
 ⟨XC h.sorted _ _ _,λx j=>by
  rcases UJ j with rfl|j
  ·exact⟨u,hst,by rw[q],by rw[q]⟩
  exact h.named x j⟩
def Gm (l:A8 Aa)(e:Aa):Ad:=e.bG.all (bQ l)&&e.bI.all (bQ l)
def Tz (l:A8 Aa):Ad:=l.all (Gm l)
variable {p:α->Ad}
def qP {l:A8 α}{x:α}(h:x∈l)(j:p x=false):l.all p=false:=by
 grind
def all_good {l:A8 α}(h:∀j,(hj:j<l.length)->p l[j]=true):l.all p=true:=En.2 (ak0 h)
def aNr (refs:A8 Int)(l:A8 Aa)(m:A8 (Int×Int))(h:Yp l m)(j:refs.length<=1000):yE refs m=some (refs.all (bQ l)):=by
 unfold yE aOu;rw[Hl refs (fuel_lt AQ) (λx=> !bQ l x) false (some true)]
 ·grind
 ·intro k i hi;unfold aGz;rw[DF hi,h.isSome]
 intro k;unfold aGz;rw[EL]
def aiw (l:A8 Aa)(hl:l.length<=100)(hs:Ea l):a8I l=some (Tz l):=by
 refine dL.eq ?_;unfold a8I;refine(zU l AQ).bind λm hm=>?_;unfold aRs;refine bU (body:=aIP l) (Q:=λb=>b=Tz l) (λn a b=>∃i:Nat,a=i/\i+n=l.length/\b=m/\∀j,(q:j<i)->(hl:j<l.length)->Gm l l[j]=true) ?_ Az l.length 0 m (fuel_lt AQ) ⟨0,rfl,AQ,rfl,λj q=>AQ⟩;rintro n a b k ⟨i,rfl,L,rfl,z⟩ J;unfold aIP;by_cases hi:i<l.length
 ·have I:=hs l[i] (EZ hi);have h1:=I.prev;have h2:=I.auth;rw[DF hi,aNr _ l b hm AQ,Aj,CU hi,Aj,aNr _ l b hm AQ];cases hp:l[i].bG.all (bQ l)with
  |false=>exact .ret (qP (EZ hi) (by unfold Gm;rw[hp];rfl)).symm
  |true=>
   cases ha:l[i].bI.all (bQ l)with
   |false=>exact .ret (qP (EZ hi) (by unfold Gm;rw[hp,ha];rfl)).symm
   |true=>
    refine J (n-1) _ _ AQ ⟨i+1,wrap_succ i AQ,AQ,rfl,λj q u=>?_⟩;by_cases e:j=i
    ·subst e;unfold Gm;rw[hp,ha];rfl
    exact z j AQ u
 have :i=l.length:=AQ
 subst this;rw[EL];exact .ret (all_good λj q=>z j q q).symm
def iR (l:A8 Aa):A8 Int:=l.foldl (λr e=>e.bI.foldl put (e.bG.foldl put r)) []
variable {i:Nat}
def abw (hi:i<l.length)(k3:A8 Int->Int->AB (A8 Int))(v:A8 Int)(z:Inc v)(hl:v.length<=900000)(ha:l[i].bI.length<=40):
 a1y l (i:Int) k3 v 0=k3 (l[i].bI.foldl put v) (BA ((i:Int)+1)):=by
 unfold a1y;rw[Iq l[i].bI AQ put (λj a=>Inc a/\a.length<=v.length+j) (λa=>k3 a (BA ((i:Int)+1))) ⟨z,AQ⟩]
 ·intro k a j q u;have hp:=pR a l[i].bI[j];refine⟨⟨U5 u.1,AQ⟩,?_⟩;unfold aJr;rw[CU hi,Aj,dec_lt q,Bj,Aj,CU q,Aj,aBx a _ u.1 AQ,Aj]
 intro k a _;unfold aJr;rw[CU hi,Aj,DZ];rfl
def amH (hi:i<l.length)(k3:A8 Int->Int->AB (A8 Int))(v:A8 Int)(q:Inc v)(hl:v.length<=800000)(hp:l[i].bG.length<=40)(ha:l[i].bI.length<=40):
 aJk l (i:Int) k3 v 0=k3 (l[i].bI.foldl put (l[i].bG.foldl put v)) (BA ((i:Int)+1)):=by
 unfold aJk;rw[Iq l[i].bG AQ put (λj a=>Inc a/\a.length<=v.length+j) (λa=>a1y l (i:Int) k3 a 0) ⟨q,AQ⟩]
 ·have h:=pU l[i].bG v;exact abw hi k3 _ (a7K q) AQ ha
 ·intro k a j u z;have hp:=pR a l[i].bG[j];refine⟨⟨U5 z.1,AQ⟩,?_⟩;unfold aFQ;rw[CU hi,Aj,dec_lt u,Bj,Aj,CU u,Aj,aBx a _ z.1 AQ,Aj]
 intro k a _;unfold aFQ;rw[CU hi,Aj,DZ];rfl
def a4B :∀(l:A8 Aa) (r:A8 Int),Inc r->(∀e∈l,e.bG.length<=40/\e.bI.length<=40)->
 Inc (l.foldl (λr e=>e.bI.foldl put (e.bG.foldl put r)) r)/\(l.foldl (λr e=>e.bI.foldl put (e.bG.foldl put r)) r).length<=r.length+l.length*80/\
 ∀x,x∈l.foldl (λr e=>e.bI.foldl put (e.bG.foldl put r)) r↔x∈r\/∃e∈l,x∈e.bG\/x∈e.bI
 | [],r,h,_=>⟨h,Bf,λx=>Bf⟩
 |e::l,r,h,hs=>by
  have q:=hs e (Gz ..);obtain⟨h1,h2,h3⟩:=a4B l (e.bI.foldl put (e.bG.foldl put r)) (a7K (a7K h)) λx j=>hs x (IE _ j);have u:=pU e.bG r;have z:=pU e.bI (e.bG.foldl put r);rw[Fl];refine⟨h1,by rw[GH];omega,λx=>(h3 x).trans ?_⟩;rw[aDL,aDL]
  grind
def Ea.lists (hs:Ea l):∀e∈l,e.bG.length<=40/\e.bI.length<=40:=λe j=>⟨(hs e j).prev,(hs e j).auth⟩
def alX (h:i<l.length):(l.take (i+1)).foldl (λr e=>e.bI.foldl put (e.bG.foldl put r)) ([]:A8 Int)=l[i].bI.foldl put (l[i].bG.foldl put ((l.take i).foldl (λr e=>e.bI.foldl put (e.bG.foldl put r)) [])):=by
 rw[V4,EO h,SI,VD];rfl
def aeE (l:A8 Aa)(hl:l.length<=1000)(hs:Ea l):a3f l=some (iR l):=by
 unfold a3f aO4;refine dL.eq (Jj l.length (fuel_lt AQ) (λi a=>a=(l.take i).foldl (λr e=>e.bI.foldl put (e.bG.foldl put r)) []) rfl (λi a k hi ha j=>?_) λa k ha=>?_)
 ·subst ha;obtain⟨h1,h2,_⟩:=a4B (l.take i) [] .nil λe q=>hs.lists e (gJ q);have hp:=hs.lists l[i] (EZ hi);unfold aKF;rw[dec_lt hi,Bj,amH hi k _ h1 (by rw[H7]at h2;simp only[QM]at h2;omega) hp.1 hp.2,wrap_succ i AQ];exact j _ (alX hi).symm
 unfold aKF;rw[DZ];refine .ret ?_;rw[ha,H9];rfl
def aZy (hs:Ea l):(iR l).length<=l.length*80:=by
 have :=(a4B l [] .nil hs.lists).2.1;unfold iR;simpa using this
def aUg (hs:Ea l){x:Int}:x∈iR l↔∃e∈l,x∈e.bG\/x∈e.bI:=by
 have :=(a4B l [] .nil hs.lists).2.2 x;unfold iR;rw[this];simp
def aZm:Tz l=true↔∀e∈l,(∀x∈e.bG,bQ l x=true)/\∀x∈e.bI,bQ l x=true:=by
 unfold Tz Gm
 grind
def agf (l:A8 Aa)(hl:l.length<=1000)(hs:Ea l):a1N l=some (Tz l):=by
 have h1:=aZy hs;unfold a1N;rw[aeE l hl hs,Aj,vJ l _ hl AQ,Aj];refine BJ some ?_;rw[Oz,aZm];constructor
 ·intro h e u;have j:Qu l (iR l)=[]:=He aH2
  have key:∀x,x∈e.bG\/x∈e.bI->bQ l x=true:=λx q=>by
   cases z:bQ l x with
   |true=>
    rfl
   |false=>
    have :=oK.2 ⟨(aUg hs).2 ⟨e,u,q⟩,z⟩;rw[j]at this;cases this
  grind
 intro h
 have j:Qu l (iR l)=[]:=aCv.2 λx q=>by
  obtain⟨h3,I⟩:=oK.1 q;obtain⟨e,u,J⟩:=(aUg hs).1 h3
  grind
 rw[j];rfl
def rC (l:A8 Aa):Prop:=∀e∈l,1<=e.Depth/\e.Depth<=100000
def H8 (l:A8 Aa)(x:Int):Int:=(I9 l x).1.Depth
def QV (l:A8 Aa)(e:Aa):Ad:=e.bI.all (λx=>H8 l x<e.Depth)&&bif (e.bG.length:Int)==0 then e.Depth==1 else e.bG.all (λx=>H8 l x<e.Depth)&&e.bG.any λx=>H8 l x==e.Depth-1
def Hz (l:A8 Aa):Int:=bif Tz l then bif l.all (QV l)then 0 else 15 else 14
def aNv (h:rC l)(x:Int):0<=H8 l x/\H8 l x<=100000:=by
 unfold H8 I9;cases j:Eb l x with
 |none=>exact⟨aAW 0,Bl⟩
 |some e=>have :=h e (JZ j);exact⟨by show 0<=e.Depth;omega,this.2⟩
def a5R (a b:Int):decide (a>=b)= !decide (a<b):=by by_cases h:a<b<;>simp[h];omega
def nM (l:A8 α)(p:α->Ad):l.any (λx=> !p x)= !l.all p:=by rw[List.all_eq_not_any_not,a0j]
def akb (l:A8 Aa)(e:Aa)(hl:l.length<=1000)(M:Ey e)(hd:rC l)(O:1<=e.Depth/\e.Depth<=100000):zX l e=some (QV l e):=by
 have h1:=M.prev;have h2:=M.auth;have w:BA (e.Depth-1)=e.Depth-1:=Oh AQ AQ
 have z:a2m e l ((e.bG.length:Int)==0) 0=some (bif (e.bG.length:Int)==0 then true else e.bG.all (λx=>H8 l x<e.Depth)&&e.bG.any λx=>H8 l x==e.Depth-1):=by
  unfold a2m;refine dL.eq (Jj e.bG.length (fuel_lt AQ) (λi a=>(∀j,(u:j<i)->(hl:j<e.bG.length)->decide (H8 l e.bG[j]<e.Depth)=true)/\a=(((e.bG.length:Int)==0)||(e.bG.take i).any λx=>H8 l x==e.Depth-1)) ⟨λj u=>AQ,Bf⟩ (λi a k hi ha U=>?_) λa k ha=>?_)
  ·have Y:((e.bG.length:Int)==0)=false:=by simp;intro Z;rw[Z]at hi;simp at hi
   unfold a2s;rw[DF hi,NG l _ AQ,Aj,a5R];refine dL.bif (λq=>.ret ?_) λq=>?_
   ·have q:decide (H8 l e.bG[i]<e.Depth)=false:=by unfold H8;simpa using q
    rw[Y,qP (EZ hi) q];rfl
   have q:decide (H8 l e.bG[i]<e.Depth)=true:=by unfold H8;simpa using q
   rw[show(bif a then some true else some ((I9 l e.bG[i]).1.Depth==BA (e.Depth-1)))=some (a||(H8 l e.bG[i]==e.Depth-1)) by rw[w];cases a<;>rfl,Aj,wrap_succ i AQ];refine U _ ⟨λj u I=>?_,?_⟩
   ·by_cases ej:j=i
    ·subst ej;exact q
    exact ha.1 j AQ I
   rw[ha.2,V4,EO hi,SI,aHA,Bool.or_assoc];simp
  unfold a2s;rw[EL];refine .ret ?_;rw[ha.2,H9,all_good λj u=>ha.1 j u u];cases((e.bG.length:Int)==0)<;>simp
 unfold zX
 have J:aEq e l 0=some (e.bI.all (λx=>H8 l x<e.Depth)&&(bif (e.bG.length:Int)==0 then true else e.bG.all (λx=>H8 l x<e.Depth)&&e.bG.any λx=>H8 l x==e.Depth-1)):=by
  unfold aEq;rw[Hl e.bI (fuel_lt AQ) (λx=> !decide (H8 l x<e.Depth)) false (a2m e l ((e.bG.length:Int)==0) 0)]
  ·rw[z,nM];cases e.bI.all (λx=>H8 l x<e.Depth)<;>rfl
  ·intro k i hi;unfold a7l;rw[DF hi,NG l _ AQ,Aj,a5R];rfl
  intro k;unfold a7l;rw[EL]
 rw[J];unfold QV;have L:(e.Depth != 1)= !(e.Depth==1):=rfl;rw[L];cases((e.bG.length:Int)==0)<;>cases(e.Depth==1)<;>cases e.bI.all (λx=>H8 l x<e.Depth)<;>rfl
def aDz {m:A8 (Int×Int)}(h:Yp l m){x:Int}(j:bQ l x=true):∃e,Au l ((DJ m x).getD 0)=some e/\e.Depth=H8 l x:=⟨_,h.get (J8 j).1,rfl⟩
def anV (p:A8 Int)(f:Int->Int)(d a:Int)(j:∃y∈p,f y=a)(ha:∀y∈p,f y<=a):(p.all (λx=>f x<d)&&p.any λx=>f x==d-1)=bif d>a then d-a==1 else false:=by
 grind
def aj1 (l:A8 Aa)(m:A8 (Int×Int))(e:Aa)(hm:Yp l m)(U:Ey e)(I:Gm l e=true)(hd:rC l)(Y:1<=e.Depth/\e.Depth<=100000):aAd l m e=some (QV l e,m):=by
 have h1:=U.prev;have h2:=U.auth;unfold Gm at I;simp only[DR,En]at I;unfold aAd aNa;rw[Hl e.bI (fuel_lt AQ) (λx=> !decide (H8 l x<e.Depth)) (false,m) (some ((bif (e.bG.length:Int)==0 then e.Depth==1 else e.bG.all (λx=>H8 l x<e.Depth)&&e.bG.any λx=>H8 l x==e.Depth-1),m))]
 ·rw[nM];unfold QV;cases e.bI.all (λx=>H8 l x<e.Depth)<;>rfl
 ·intro k i hi;unfold aF9;obtain⟨x,O,q⟩:=aDz hm (I.2 _ (EZ hi));rw[DF hi,O,Aj,a5R,q]
 intro k;unfold aF9;rw[EL];cases J:((e.bG.length:Int)==0)with
 |true=>
  rfl
 |false=>
  have hp:0<e.bG.length:=by
   grind
  obtain⟨x,O,q⟩:=aDz hm (I.1 _ (EZ hp));have Z:Au e.bG 0=some e.bG[0]:=CU (i:=0) hp;rw[BQ,BQ,Z,Aj,O,Aj,q];unfold aWf;refine dL.eq (Jj e.bG.length (fuel_lt AQ) (λi a=>(0<=a/\a<=100000)/\(∃y∈e.bG,H8 l y=a)/\∀y∈e.bG.take i,H8 l y<=a) ⟨aNv hd _,⟨_,EZ hp,rfl⟩,λy L=>vT⟩ (λi a k2 hi ha hk=>?_) λa k2 ha=>?_)
  ·unfold aDi;obtain⟨y,L,u⟩:=aDz hm (I.1 _ (EZ hi));have hb:=aNv hd e.bG[i];rw[DF hi,L,Aj,wrap_succ i AQ,u]
   have M:Y7 a (H8 l e.bG[i])=a/\H8 l e.bG[i]<=a\/Y7 a (H8 l e.bG[i])=H8 l e.bG[i]/\a<=H8 l e.bG[i]:=by
    unfold Y7;by_cases h:H8 l e.bG[i]>a
    ·grind
    rw[Ic h];exact .inl ⟨rfl,AQ⟩
   refine hk _ ⟨AQ,?_,λz J=>?_⟩
   ·rcases M with h|h
    ·rw[h.1];exact ha.2.1
    rw[h.1];exact⟨_,EZ hi,rfl⟩
   rw[V4,EO hi,SI,Ie,Jd]at J;rcases J with J|rfl
   ·have :=ha.2.2 z J;omega
   omega
  obtain⟨hb,⟨y,L,u⟩,j⟩:=ha;rw[H9]at j;unfold aDi;rw[EL,Oh AQ AQ,anV e.bG (H8 l) e.Depth a ⟨y,L,u⟩ j];cases decide (e.Depth>a)<;>exact .ret rfl
def aRK (l:A8 Aa)(hl:l.length<=100)(hs:Ea l)(hd:rC l):jU l=some (Hz l):=by
 unfold jU Hz;rw[aiw l hl hs,Aj];cases L:Tz l with
 |false=>rfl
 |true=>
  have M:∀e∈l,Gm l e=true:=En.1 L;refine dL.eq ((zU l AQ).bind λm hm=>?_);unfold aQD;refine bU (body:=aEG l) (Q:=λb=>b=bif l.all (QV l)then 0 else 15) (λn a b=>∃i:Nat,a=i/\i+n=l.length/\b=m/\∀j,(u:j<i)->(hl:j<l.length)->QV l l[j]=true) ?_ Az l.length 0 m (fuel_lt AQ) ⟨0,rfl,AQ,rfl,λj u=>AQ⟩;rintro n a b k ⟨i,rfl,U,rfl,I⟩ O;unfold aEG;by_cases hi:i<l.length
  ·have q:=EZ hi;rw[DF hi,aj1 l b l[i] hm (hs _ q) (M _ q) hd (hd _ q),Aj];cases J:QV l l[i]with
   |false=>exact .ret (by rw[qP q J];rfl)
   |true=>
    refine O (n-1) _ _ AQ ⟨i+1,wrap_succ i AQ,AQ,rfl,λj u z=>?_⟩;by_cases e:j=i
    ·subst e;exact J
    exact I j AQ z
  have :i=l.length:=AQ
  subst this;rw[EL];exact .ret (by rw[all_good λj u=>I j u u];rfl)
def aWU (l:A8 Aa)(hl:l.length<=100)(hs:Ea l)(hd:rC l):vZ l=some (Hz l):=by
 unfold vZ Hz;rw[agf l AQ hs,Aj];cases M:Tz l with
 |false=>rfl
 |true=>
  show aGo l 0=_;unfold aGo;refine dL.eq (aA l.length (fuel_lt AQ) (λi=>∀j,(u:j<i)->(hl:j<l.length)->QV l l[j]=true) (λj u=>AQ) (λi k hi z L=>?_) λk z=>?_)
  ·have q:=EZ hi;unfold aHl;rw[DF hi,akb l l[i] AQ (hs _ q) hd (hd _ q),Aj,wrap_succ i AQ];cases J:QV l l[i]with
   |false=>exact .ret (by rw[qP q J];rfl)
   |true=>
    refine L λj u I=>?_;by_cases e:j=i
    ·subst e;exact J
    exact z j AQ I
  unfold aHl;rw[DZ];exact .ret (by rw[all_good λj u=>z j u u];rfl)
section
variable {α β R:Type} {lt:α->α->Ad}
def LM (lt:α->α->Ad)(A:A8 α)(x:α):A8 α:=(A.reverse.dropWhile (lt x)).reverse++x::(A.reverse.takeWhile (lt x)).reverse
def aWy {A:A8 α}{a x:α}(h:lt x a=true):LM lt (A++[a]) x=LM lt A x++[a]:=by
 unfold LM;rw[aJy,List.reverse_singleton,List.singleton_append,aVL h,List.takeWhile_cons_of_pos h,List.reverse_cons,JO];rfl
def aOp {A:A8 α}{a x:α}(h:lt x a=false):LM lt (A++[a]) x=A++a::[x]:=by
 have h':¬lt x a=true:=by rw[h];simp
 unfold LM;rw[aJy,List.reverse_singleton,List.singleton_append,aSs h',List.takeWhile_cons_of_neg h'];simp
def amA (A:A8 α)(x:α):(LM lt A x).length=A.length+1:=by
 unfold LM;have :=BJ List.length (vP (p:=lt x) (l:=A.reverse));simp only[Ee,List.length_reverse,GH]at this ⊢;omega
def aOG (A:A8 α)(x:α):(LM lt A x).Perm (x::A):=by
 unfold LM;refine a4H.trans (List.Perm.cons x ?_);rw[←aJy,vP,List.reverse_reverse]
def acg {lt':β->β->Ad}{f:α->β}(h:∀x a,lt x a=lt' (f x) (f a))(A:A8 α)(x:α):(LM lt A x).map f=LM lt' (A.map f) (f x):=by
 have e:lt x=lt' (f x)∘f:=funext λa=>h x a;unfold LM;have h1:(A.map f).reverse=A.reverse.map f:=aIu.symm;rw[h1,List.dropWhile_map,List.takeWhile_map,Jb,Gh,aIu,aIu,e]
def aTF {lt':β->β->Ad}{f:α->β}(h:∀x a,lt x a=lt' (f x) (f a)):∀(l A:A8 α),(l.foldl (LM lt) A).map f=(l.map f).foldl (LM lt') (A.map f)
 | [],A=>rfl
 |x::l,A=>by rw[Fl,aTF h l,Gh,Fl,acg h]
def a3j :∀(l A:A8 α),(l.foldl (LM lt) A).length=A.length+l.length
 | [],A=>rfl
 |x::l,A=>by rw[Fl,a3j l,amA,GH];omega
def aOa :∀(l A:A8 α),(l.foldl (LM lt) A).Perm (A++l)
 | [],A=>by rw[UC];exact .refl _
 |x::l,A=>by
  rw[Fl];exact(aOa l (LM lt A x)).trans (((aOG A x).append_right l).trans (a4H (l₁:=A) (l₂:=l) (a:=x)).symm)
def a2B (A:A8 α)(x:α)(B:A8 α):Au (A++x::B) (A.length:Int)=some x:=by rw[a2H];simp
def aE9 (A:A8 α)(a x:α)(B:A8 α):Au (A++a::x::B) ((A.length+1:Nat):Int)=some x:=by rw[a2H];simp
def set_mid (A:A8 α)(x y:α)(B:A8 α):(A++x::B).set A.length y=A++y::B:=Bf
def aP4 (A:A8 α)(a x y:α)(B:A8 α):(A++a::x::B).set (A.length+1) y=A++a::y::B:=by
 have :=set_mid (A++[a]) x y B;simpa using this
def bubble {body:(Int->A8 α->AB R)->Int->A8 α->AB R}(j:A8 α->AB R)(N:Nat)(U:∀k x B,(x::B).length=N->body k 0 (x::B)=j (x::B))(hs:∀k A a x B,(A++a::x::B).length=N->body k ((A.length+1:Nat):Int) (A++a::x::B)=bif lt x a then k (A.length:Int) (A++x::a::B)else j (A++a::x::B)):
 ∀n (A:A8 α) (x:α) (B:A8 α),A.length=n->(A++x::B).length=N->∀m,n<m->aP body m (A.length:Int) (A++x::B)=j (LM lt A x++B):=by
 intro n
 induction n with
 |zero=>
  intro A x B I J m hm;obtain⟨m,rfl⟩:∃L,m=L+1:=⟨m-1,AQ⟩
  obtain rfl:=He I;exact U _ x B J
 |succ n Y=>
  intro A x B I J m hm;obtain⟨m,rfl⟩:∃L,m=L+1:=⟨m-1,AQ⟩
  have q:A≠[]:=λe=>by subst e;cases I
  obtain⟨A',a,rfl⟩:∃A' a,A=A'++[a]:=⟨A.dropLast,A.getLast q,(List.dropLast_concat_getLast q).symm⟩
  have M:A'.length=n:=oL
  have O:A'++[a]++x::B=A'++a::x::B:=Bf
  have u:(A'++a::x::B).length=N:=by rw[←O];exact J
  have Z:(A'++[a]).length=A'.length+1:=Bf
  rw[O,Z];show body (aP body m) _ _=_;rw[hs _ A' a x B u];cases z:lt x a with
  |true=>
   rw[Bj,Y A' x (a::B) M (by simp at u ⊢;omega) m AQ,aWy z];simp
  |false=>rw[BQ,aOp z];simp
end
def OD (a b:Aa):Ad:=decide (a.Depth<b.Depth)||((a.Depth==b.Depth)&&(a.Id<b.Id))
def Um (l:A8 Aa):A8 Aa:=l.foldl (LM OD) []
def JB (l:A8 Aa):A8 Int:=(Um l).map (·.Id)
def aKv (l:A8 Aa):(Um l).length=l.length:=by unfold Um;rw[a3j];simp
def aJU (l:A8 Aa):(Um l).Perm l:=by have :=aOa (lt:=OD) l [];rwa [JJ]at this
def aa3 (a b:Aa):a3d a b=some (OD a b):=by
 unfold a3d OD
 grind
variable {β:Type}{l:A8 α}
def aUC {f:β->α->β}{b:β}(h:i<l.length):(l.take (i+1)).foldl f b=f ((l.take i).foldl f b) l[i]:=by
 rw[V4,EO h,SI,VD];rfl
def map_take {f:α->β}(h:i<l.length):(l.take (i+1)).map f=(l.take i).map f++[f l[i]]:=by
 rw[V4,EO h,SI,Jb];rfl
def abp (l:A8 Aa)(hl:l.length<=1000000):a1c l=some (l.map (·.Id)):=by
 unfold a1c aO0;refine dL.eq (Jj l.length (fuel_lt AQ) (λi a=>a=(l.take i).map (·.Id)) rfl (λi a k hi ha j=>?_) λa k ha=>?_)
 ·unfold aHk;have hlen:a.length<=i:=zl
  rw[DF hi,Dz G9,Aj,wrap_succ i AQ];exact j _ a6g
 unfold aHk;rw[EL];exact .ret ZX
def ajf (l:A8 Aa)(hl:l.length<=1000):a4U l=some (JB l):=by
 unfold a4U aW0;refine dL.eq (Jj l.length (fuel_lt AQ) (λi a=>a=(l.take i).foldl (LM OD) []) rfl (λi a k hi ha u=>?_) λa k ha=>?_)
 ·have hlen:a.length=i:=by rw[ha,a3j,H7];simp;omega
  unfold aFw;rw[DF hi,Dz G9,Aj];unfold aNq;have j:=bubble (lt:=OD) (body:=a4l k (i:Int)) (λv=>k v ((i+1:Nat):Int)) (i+1) (λk2 x B q=>?_) (λk2 A b x B q=>?_) i a l[i] [] hlen Ej Az (fuel_lt AQ)
  ·rw[hlen]at j;rw[j,UC];exact u _ (by rw[aUC hi,ha])
  ·unfold a4l xO;rw[wrap_succ i AQ];rfl
  have hA:A.length+2<=i+1:=by rw[←q];simp
  have z:BA (((A.length+1:Nat):Int)-1)=(A.length:Int):=P8
  unfold a4l xO;rw[KC (show((A.length+1:Nat):Int)>0 by omega),Bj,aE9,Aj,z,a2B,Aj,aa3,Aj,wrap_succ i AQ];cases OD x b with
  |false=>rfl
  |true=>
   simp only[Bj,Aj,Xe];rw[aP4,a2B,Aj,set_mid]
 unfold aFw;rw[DZ,BQ];have e:a=Um l:=by rw[ha,H9];rfl
 rw[e,abp _ (by rw[aKv];omega)];exact .ret rfl
def a0a (e:Aa):Ty:=⟨e.Depth,e.Id⟩
def nU (a b:Ty):Ad:=decide (a.qj<b.qj)||((a.qj==b.qj)&&(a.nR<b.nR))
def adz (a x:Ty):(bif a.qj<x.qj then some true else(bif (a.qj==x.qj)then some (decide (a.nR<=x.nR))else some false).bind λj=>some j)=some (!nU x a):=by
 unfold nU;by_cases h1:a.qj<x.qj
 ·rw[KC h1,Bj,Ic AQ,show(x.qj==a.qj)=false by simp;omega];rfl
 rw[Ic h1,BQ];by_cases h2:a.qj=x.qj
 ·rw[h2,Ic (show ¬x.qj<x.qj by omega)];simp only[NR,Bj,Aj,OW,Fv];by_cases h3:a.nR<=x.nR
  ·grind
  grind
 rw[show(a.qj==x.qj)=false by simpa using h2,KC (show x.qj<a.qj by omega)];rfl
def adA (l:A8 Aa)(hl:l.length<=1000):a4d l=some (JB l):=by
 have J:Jg 16 a3g 0 (l.length:Int)=some []:=by unfold Jg;rw[ET ⟨aAW _,AQ,AQ⟩];rfl
 unfold a4d;rw[J,Aj];unfold aQA;refine dL.eq (Jj l.length (fuel_lt AQ) (λi a=>a=((l.take i).map a0a).foldl (LM nU) []) rfl (λi a k hi ha L=>?_) λa k ha=>?_)
 ·have hlen:a.length=i:=by rw[ha,a3j,Df,H7];simp;omega
  unfold aF4;rw[DF hi,CU hi,Aj,Dz G9,Aj];unfold aT7;have M:BA (((a++[(⟨l[i].Depth,l[i].Id⟩:Ty)]).length:Int)-1)=(a.length:Int):=aKU
  rw[M];have O:=bubble (lt:=nU) (body:=zs k (i:Int)) (λv=>k v ((i+1:Nat):Int)) (i+1) (λk2 x B u=>?_) (λk2 A b x B u=>?_) i a (a0a l[i]) [] hlen Ej Az (fuel_lt AQ)
  ·show dL (aP (zs k (i:Int)) Az (a.length:Int) (a++[a0a l[i]])) _;rw[O,UC];exact L _ (by rw[map_take hi,VD,ha];rfl)
  ·unfold zs vk;rw[wrap_succ i AQ];rfl
  have hA:A.length+2<=i+1:=by rw[←u];simp
  have U:BA (((A.length+1:Nat):Int)-1)=(A.length:Int):=P8
  unfold zs vk;rw[KC (show((A.length+1:Nat):Int)>0 by omega),Bj,U,a2B,Aj,aE9,Aj,adz,Aj,wrap_succ i AQ];cases nU x b with
  |false=>rfl
  |true=>
   simp only[El,BQ,Bj,Aj,Xe];rw[set_mid,aE9,Aj,aP4]
 unfold aF4;rw[EL];have e:a=(Um l).map a0a:=by rw[ha,H9];exact(aTF (lt:=OD) (lt':=nU) (f:=a0a) (λ_ _=>rfl) l []).symm
 have Y:a.length=l.length:=by rw[e,Df,aKv]
 have Z:Jg 8 0 (a.length:Int) (a.length:Int)=some (List.replicate a.length (0:Int)):=by unfold Jg;rw[ET ⟨AQ,aAW _,AQ⟩];simp
 have e2:JB l=a.map (·.nR):=by rw[e,cO];rfl
 rw[Z,Aj,e2];unfold aNY;refine Ur (body:=aI3 a) (Q:=λr=>r=a.map (·.nR)) (λn (x:Int) (o:A8 Int) (p:A8 Ty)=>∃i:Nat,x=i/\i+n=a.length/\o=(a.take i).map (·.nR)++List.replicate (a.length-i) 0/\p=a) ?_ Az a.length 0 (List.replicate a.length 0) a (fuel_lt AQ) ⟨0,rfl,AQ,Bf,rfl⟩;rintro n x o p k2 ⟨i,rfl,hn,I,rfl⟩ q;unfold aI3;by_cases hi:i<p.length
 ·have hm:((p.take i).map (·.nR)).length=i:=by rw[Df,H7];omega
  obtain⟨z,hz⟩:∃z,p.length-i=z+1:=⟨p.length-i-1,AQ⟩
  have j:o=(p.take i).map (·.nR)++0::List.replicate z 0:=by rw[I,hz,List.replicate_succ]
  have g2:Au o (i:Int)=some 0:=by have :=a2B ((p.take i).map (·.nR)) 0 (List.replicate z 0);rw[hm]at this;rw[j];exact this
  have s2:o.set i p[i].nR=(p.take i).map (·.nR)++p[i].nR::List.replicate z 0:=by have :=set_mid ((p.take i).map (·.nR)) 0 p[i].nR (List.replicate z 0);rw[hm]at this;rw[j];exact this
  rw[DF hi,g2,Aj];refine q (n-1) _ _ _ AQ ⟨i+1,wrap_succ i AQ,AQ,?_,rfl⟩;rw[Xe,s2,map_take hi,show p.length-(i+1)=z by omega];simp
 have :i=p.length:=AQ
 subst this;rw[EL];exact .ret (by rw[I];simp)
def JL (l:A8 Aa)(x y:Int):Ad:=bQ l y&&(y != x&&EN (ev l y).bG x)
def Js (l:A8 Aa)(ids:A8 Int):A8 Int:=(FW ids).filter λx=> !ids.any (JL l x)
def ajt {a b:A8 α}(p:α->Ad)(h:∀x,x∈a↔x∈b):a.any p=b.any p:=by
 grind
def alM (ids:A8 Int)(p:Int->Ad):FW (ids.filter p)=(FW ids).filter p:=
 DK (Nb _) ((Nb ids).sublist Ue) λx=>by rw[Ld,Gs,Gs,Ld]
def a4y (l:A8 Aa)(ids:A8 Int):(Js l ids).length<=ids.length:=EI (Lc _ _) (OG ids)
def wB (h:i<l.length):(l.take (i+1)).filter p=(l.take i).filter p++bif p l[i]then[l[i]]else[]:=by
 rw[V4,EO h,SI,Qz]
 grind
def zy (h:i<l.length):(l.take (i+1)).any p=((l.take i).any p||p l[i]):=by
 rw[V4,EO h,SI,aHA];simp
def aX1 (l:A8 Aa)(ids:A8 Int)(hl:l.length<=100)(hs:Ea l)(hi0:ids.length<=1000):uo l ids=some (Js l ids):=by
 unfold uo;refine dL.eq ((zU l AQ).bind λm hm=>?_);unfold aWe;refine Ur (body:=aKy ids l) (Q:=λr=>r=Js l ids) (λn a b c=>∃i:Nat,a=i/\i+n=ids.length/\b=m/\∀x,(DJ c x).getD false=(ids.take i).any (JL l x)) ?_ Az ids.length 0 m [] (fuel_lt AQ) ⟨0,rfl,AQ,rfl,λx=>rfl⟩;rintro n a b c k ⟨i,rfl,hn,rfl,M⟩ U;unfold aKy;by_cases hi:i<ids.length
 ·have hj:∀Y,(∀x,(DJ Y x).getD false=((ids.take i).any (JL l x)||JL l x ids[i]))->dL (a6y k (i:Int) b Y) (λr=>r=Js l ids):=λY h8=>U (n-1) _ _ _ AQ ⟨i+1,wrap_succ i AQ,AQ,rfl,λx=>by rw[h8,zy hi]⟩;rw[DF hi,hm.isSome];cases q:bQ l ids[i]with
  |false=>
   exact hj c λx=>by rw[M];unfold JL;rw[q];simp
  |true=>
   obtain⟨hg,_⟩:=J8 q;rw[hm.get hg,Aj];have hp:=(hs _ (JZ hg)).prev;simp only[El,BQ];unfold aTL;refine Ur (body:=aDZ (ev l ids[i]) ids[i] k (i:Int)) (Q:=λr=>r=Js l ids) (λO a2 b2 c2=>∃j:Nat,a2=j/\j+O=(ev l ids[i]).bG.length/\b2=b/\∀x,(DJ c2 x).getD false=((ids.take i).any (JL l x)||(ids[i] != x&&EN ((ev l ids[i]).bG.take j) x))) ?_ Az (ev l ids[i]).bG.length 0 b c (fuel_lt AQ) ⟨0,rfl,AQ,rfl,λx=>by rw[M,a5o];unfold EN;simp⟩;rintro O a2 b2 c2 k2 ⟨j,rfl,hn2,rfl,u⟩ z;unfold aDZ;by_cases I:j<(ev l ids[i]).bG.length
   ·have J:∀x,EN ((ev l ids[i]).bG.take (j+1)) x=(EN ((ev l ids[i]).bG.take j) x||(x==(ev l ids[i]).bG[j])):=λx=>by
     rw[Oz,VK,LV,LV,V4,EO I,SI,Ie,Jd,MP]
    rw[DF I];cases L:(ev l ids[i]).bG[j] != ids[i]with
    |true=>
     refine z (O-1) _ _ _ AQ ⟨j+1,wrap_succ j AQ,AQ,rfl,λx=>?_⟩;rw[Rz,J];cases hx:x==(ev l ids[i]).bG[j]with
     |true=>
      have e:=eq_of_beq hx;subst e;rw[show(ids[i] != (ev l ids[i]).bG[j])=true by rw[bne_comm];exact L];simp
     |false=>
      grind
    |false=>
     refine z (O-1) _ _ _ AQ ⟨j+1,wrap_succ j AQ,AQ,rfl,λx=>?_⟩;rw[J,u];have e:(ev l ids[i]).bG[j]=ids[i]:=by simpa using L
     rw[e];cases hx:x==ids[i]with
     |false=>
      simp
     |true=>
      grind
   have :j=(ev l ids[i]).bG.length:=AQ
   subst this;rw[EL];exact hj _ λx=>by rw[u,H9];unfold JL;rw[q];rfl
 have :i=ids.length:=AQ
 subst this;rw[EL];unfold aLf;rw[H9]at M;refine Jj ids.length (fuel_lt AQ) (λi a=>a=(ids.take i).filter λx=> !ids.any (JL l x)) rfl (λi a k2 hi ha U=>?_) λa k2 ha=>?_
 ·have Z:a.length<=i:=aKX
  unfold aD2 a4c;rw[DF hi,wrap_succ i AQ,M];have hf:=wB (p:=λx=> !ids.any (JL l x)) hi;cases hb:ids.any (JL l ids[i])with
  |true=>
   grind
  |false=>
   simp only[JV,Bj];rw[Dz G9,Aj];exact U _ (by rw[hf,ha,hb];rfl)
 have Z:a.length<=ids.length:=aKX
 unfold aD2;rw[EL,er _ AQ];exact .ret (by rw[ha,H9,alM];rfl)
def af5 {l:A8 Int}(h:Inc l){j:Nat}(hi:i<l.length)(q:j<l.length)(e:l[i]=l[j]):i=j:=by
 rcases vH i j with h1|h1|h1
 ·have :=JQ.1 h i j hi q h1;omega
 ·exact h1
 have :=JQ.1 h j i q hi h1;omega
def aLz (l:A8 Aa)(ids:A8 Int)(hl:l.length<=1000)(hs:Ea l)(hi0:ids.length<=1000):a5O l ids=some (Js l ids):=by
 have I:=Nb ids;have hlen:=OG ids;have J:∀x,(FW ids).any (JL l x)=ids.any (JL l x):=λx=>ajt _ λ_=>Ld;unfold a5O Js;rw[aDI _ AQ,Aj];have q:(λx=> !ids.any (JL l x))=λx=> !(FW ids).any (JL l x):=funext λx=>by rw[J]
 rw[q];generalize FW ids=S at I hlen;clear J q;unfold aNc;refine dL.eq (Jj S.length (fuel_lt AQ) (λi a=>a=(S.take i).filter λx=> !S.any (JL l x)) rfl (λi a k hi ha hk=>?_) λa k ha=>?_)
 ·have hal:a.length<=i:=aKX
  have hf:=wB (p:=λx=> !S.any (JL l x)) hi;unfold aJg;rw[dec_lt hi,Bj];unfold aLd;refine Ur (body:=aEo S l (i:Int) k) (Q:=_) (λn b x c=>∃j:Nat,x=j/\j+n=S.length/\c=a/\b= !(S.take j).any (JL l S[i])) ?_ Az S.length true 0 a (fuel_lt AQ) ⟨0,rfl,AQ,rfl,Bf⟩;rintro n b x c k2 ⟨j,rfl,hn,rfl,M⟩ O;unfold aEo;by_cases U:j<S.length
  ·have u:∀Y,Y=(!((S.take j).any (JL l S[i])||JL l S[i] S[j]))->dL (a6O k2 (j:Int) Y c) (λx=>x=(S.filter λx=> !S.any (JL l x))):=λY h'=>O (n-1) _ _ _ AQ ⟨j+1,wrap_succ j AQ,AQ,rfl,by rw[zy U];exact h'⟩;rw[DF U,NG l _ AQ,Aj,Nw]
   have Z:(((j:Int) != (i:Int)))=(S[j] != S[i]):=by
    rw[Oz];simp only[bne_iff_ne,ne_eq];constructor
    ·intro h e;exact h (by rw[af5 I U hi e])
    intro h e;have :j=i:=AQ
    subst this;exact h rfl
   rw[Z];cases z:(Eb l S[j]).isSome with
   |false=>
    unfold eu;exact u b (by rw[M];unfold JL bQ;rw[z];simp)
   |true=>
    cases hq:S[j] != S[i]with
    |false=>
     unfold eu;exact u b (by rw[M];unfold JL;rw[hq];simp)
    |true=>
     simp only[Bj]
     have hpl:(I9 l S[j]).1.bG.length<=40:=by
      obtain⟨e,he⟩:=SA.1 z;rw[P7 he];exact(hs e (JZ he)).prev
     rw[CU hi,Aj,XO _ _ AQ,Aj];unfold eu;cases hh:EN (I9 l S[j]).1.bG S[i]with
     |true=>exact u false (by unfold JL bQ ev;rw[z,hq,hh];simp)
     |false=>exact u b (by rw[M];unfold JL bQ ev;rw[z,hq,hh];simp)
  have :j=S.length:=AQ
  subst this;rw[EL,M,H9];unfold a7A;rw[wrap_succ i AQ];cases L:S.any (JL l S[i])with
  |true=>exact hk _ (by rw[hf,ha,L];simp)
  |false=>
   simp only[JV,Bj];rw[CU hi,Aj,Dz G9,Aj];exact hk _ (by rw[hf,ha,L];rfl)
 unfold aJg;rw[DZ];exact .ret ZX
def UK (x y:Aa):Ad:=y.Kind==x.Kind&&(y.Key=x.Key)
def LU (q:A8 BO):A8 Aa->A8 Aa->Ad
 |_,[]=>true
 |j,x::xs=>(q.any λk=>F9 k x)&& !j.any (UK x)&&LU q (j++[x]) xs
def RD (x:Aa):Ad:=x.Kind==1&&(x.Key=CX)
def Rj (l:A8 Aa)(e:Aa):Int:=
 bif !e.bI.all (bQ l)then 14 else bif !(ofIds l e.bI).all (λx=>x.Room=e.Room)then 13
 else bif LU (keysOf e) [] (ofIds l e.bI)&&(e.Kind==1||(ofIds l e.bI).any RD)then 0 else 16
variable {k:BO}
def jL {x:Aa}:F9 k x=true↔x.Kind=k.Kind/\x.Key=k.Key:=by unfold F9;simp
def aQT {x y:Aa}:UK x y=true↔y.Kind=x.Kind/\y.Key=x.Key:=by unfold UK;simp
variable {j:A8 BO}
def aWK {X:A8 Aa}(h:i<X.length):LU j (X.take i) (X.drop i)=((j.any λk=>F9 k X[i])&& !(X.take i).any (UK X[i])&&LU j (X.take (i+1)) (X.drop (i+1))):=by
 rw[Nj h,V4,EO h];rfl
def aS4 (X:A8 Aa):LU j (X.take X.length) (X.drop X.length)=true:=by rw[PS];rfl
def aOw (X:A8 Aa)(k:Int)(key:BP)(h:X.length<=1000):aO (X.map λx=>(⟨x.Kind,x.Key,0⟩:BO)) k key=some (X.any λy=>y.Kind==k&&(y.Key=key)):=by
 unfold aO aBm;rw[Hl (X.map λx=>(⟨x.Kind,x.Key,0⟩:BO)) (fuel_lt aZ) (λy=>y.Kind==k&&(y.Key=key)) true (some false)]
 ·rw[List.any_map];show(bif X.any (λy=>y.Kind==k&&(y.Key=key))then some true else some false)=_;cases X.any (λy=>y.Kind==k&&(y.Key=key))<;>rfl
 ·intro q i hi;unfold Mid;rw[DF hi,CU hi,Aj,Ja];cases((X.map λx=>(⟨x.Kind,x.Key,0⟩:BO))[i].Kind==k)<;>rfl
 intro q;unfold Mid;rw[DZ];rfl
def adR (j:A8 BO)(x:Aa)(h:j.length<=1000):aO j x.Kind x.Key=some (j.any λk=>F9 k x):=by
 unfold aO aBm;rw[Hl j (fuel_lt AQ) (λk=>F9 k x) true (some false)]
 ·grind
 ·intro q i hi;unfold Mid;rw[DF hi,CU hi,Aj,Ja];have u:(j[i].Kind==x.Kind)=(x.Kind==j[i].Kind):=by rw[Oz,MP,MP];exact eq_comm
  have z:decide (j[i].Key=x.Key)=decide (x.Key=j[i].Key):=decide_eq_decide.2 eq_comm;unfold F9
  grind
 intro q;unfold Mid;rw[DZ];rfl
def amI (X:A8 Aa)(e:Aa)(O:X.length<=40):aCK X (keysOf e) e [] 0=some (bif LU (keysOf e) [] X&&(e.Kind==1||X.any RD)then 0 else 16):=by
 have I:=YI e;unfold aCK;refine dL.eq (Jj X.length (fuel_lt AQ) (λi a=>a=(X.take i).map (λx=>(⟨x.Kind,x.Key,0⟩:BO))/\LU (keysOf e) [] X=LU (keysOf e) (X.take i) (X.drop i)) ⟨rfl,rfl⟩ (λi a k hi ha J=>?_) λa k ha=>?_)
 ·obtain⟨rfl,j⟩:=ha;unfold aHd;rw[DF hi,CU hi,Aj,adR _ _ AQ,Aj];rw[aWK hi]at j
  have u:∀b,LU (keysOf e) [] X=(!b&&LU (keysOf e) (X.take (i+1)) (X.drop (i+1)))->dL (yT X (i:Int) ((X.take i).map λx=>(⟨x.Kind,x.Key,0⟩:BO)) k b) (· =bif LU (keysOf e) [] X&&(e.Kind==1||X.any RD)then 0 else 16):=λb z=>by
   unfold yT;cases b with
   |true=>exact .ret yt
   |false=>
    simp only[BQ];rw[CU hi,Aj,Aj,Dz (by simp only[Om,Df,H7];omega),Aj,wrap_succ i AQ];exact J _ ⟨by rw[map_take hi],yt⟩
  cases hm:(keysOf e).any λk=>F9 k X[i]with
  |false=>
   rw[JV,Bj];exact u true (by rw[j,hm];rfl)
  |true=>
   rw[El,BQ];have L:(λy:Aa=>y.Kind==X[i].Kind&&(y.Key=X[i].Key))=UK X[i]:=rfl;rw[Aj,Aj,aOw _ _ _ kn,Aj,L];exact u _ (by rw[j,hm,Fv])
 obtain⟨rfl,j⟩:=ha;rw[aS4]at j;unfold aHd;rw[DZ,BQ,H9,j,aOw _ _ _ AQ];have M:(X.any λy=>y.Kind==1&&(y.Key=CX))=X.any RD:=rfl;rw[M];have q:(e.Kind != 1)= !(e.Kind==1):=rfl;rw[q];cases e.Kind==1<;>cases X.any RD<;>exact .ret rfl
def aja (X:A8 Aa)(e:Aa)(j:X.length<=40):aCw X e 0=some (bif !X.all (λx=>x.Room=e.Room)then 13 else bif LU (keysOf e) [] X&&(e.Kind==1||X.any RD)then 0 else 16):=by
 unfold aCw;rw[Hl X (fuel_lt AQ) (λx=> !decide (x.Room=e.Room)) 13 (some (bif LU (keysOf e) [] X&&(e.Kind==1||X.any RD)then 0 else 16))]
 ·rw[nM];cases X.all (λx=>x.Room=e.Room)<;>rfl
 ·intro k i hi;unfold aHZ;rw[DF hi,Ja]
 intro k;unfold aHZ;rw[EL,aEu,Aj,amI X e j]
def adi (l:A8 Aa)(e:Aa)(hl:l.length<=100)(j:Ey e):aAu l e=some (Rj l e):=by
 have h1:=j.auth;have q:=jk l e.bI;unfold aAu aP0 Rj;rw[Hl e.bI (fuel_lt AQ) (λx=> !bQ l x) 14 (some (bif !(ofIds l e.bI).all (λx=>x.Room=e.Room)then 13 else bif LU (keysOf e) [] (ofIds l e.bI)&&(e.Kind==1||(ofIds l e.bI).any RD)then 0 else 16))]
 ·rw[nM]
  grind
 ·intro k i hi;unfold aFg;rw[DF hi,NG l _ AQ,Aj,Nw];rfl
 intro k;unfold aFg;rw[DZ,BQ,aCG l _ AQ AQ,Aj,aja _ e AQ]
def anA (k:BO)(e:Aa):YJ (KJ k) e=some (F9 k e):=by
 unfold YJ F9 KJ;cases h:(e.Kind==k.Kind)with
 |false=>rfl
 |true=>show some (e.Key.toList==k.Key.toList)=_;rw[Ja,Fv]
def amR (j:A8 BO)(x:Aa)(h:j.length<=100):a2b (j.map KJ) x=some (if j.findIdx (λk=>F9 k x)<j.length then((j.findIdx (λk=>F9 k x):Nat):Int)else -1):=by
 unfold a2b aTP
 have u:∀k (i:Nat),i<j.length->a4T (j.map KJ) x k (i:Int)=bif F9 (j.getD i ⟨0,CX,0⟩) x then some (i:Int)else k (BA ((i:Int)+1)):=λk i hi=>by
  unfold a4T;have q:i<(j.map KJ).length:=aB8
  rw[DF q,Ph];show((YJ (KJ j[i]) x).bind _)=_;rw[anA,Aj];simp[List.getD,hi]
 rw[KU j (fuel_lt AQ) (λk=>F9 k x) (λi=>some (i:Int)) (some (-1))]
 ·split<;>rfl
 ·grind
 intro k;unfold a4T;rw[show((j.map KJ).length:Int)=(j.length:Int) by rw[Df],DZ];rfl
def aNC {α:Type}{p:α->Ad}:∀l:A8 α,l.Pairwise (λa b=>¬(p a=true/\p b=true))->l.findIdx p<l.length->l.filter (λx=> !p x)=l.take (l.findIdx p)++l.drop (l.findIdx p+1)
 | [],_,h=>absurd h (dY _)
 |a::l,hp,h=>by
  obtain⟨h1,h2⟩:=QY.1 hp;rw[YF]at h ⊢;cases ha:p a with
  |true=>
   rw[List.filter_cons_of_neg (by simp[ha]),jv.2 λb j=>by
    cases q:p b with
    |false=>rfl
    |true=>exact absurd ⟨ha,q⟩ (h1 b j)]
   rfl
  |false=>
   rw[ha]at h;rw[List.filter_cons_of_pos (by simp[ha]),aNC l h2 OO];rfl
def aXq:∀l:A8 α,decide (l.findIdx p<l.length)=l.any p
 | []=>
  rfl
 |a::l=>by
  grind
def ahY (e:Aa):KY (keysOf e):=by
 have z:KY (NI e):=XC (XC (XC List.Pairwise.nil _ _ _) _ _ _) _ _ _;unfold keysOf;cases e.Kind==1<;>cases e.Kind==2<;>cases(e.Content.N==3||e.Content.N==1||e.Content.N==2)<;>simp only[Bj,BQ]
 ·exact z
 ·exact z
 ·exact XC z _ _ _
 ·exact XC (XC z _ _ _) _ _ _
 all_goals exact List.Pairwise.nil
def al7 (h:k∈keysOf e)(h1:k.Kind=1):k.Key=CX:=by
 have z:∀x∈NI e,x.Kind=1->x.Key=CX:=λx j q=>by
  unfold NI at j;rcases UJ j with rfl|j
  ·cases q
  rcases UJ j with rfl|j
  ·cases q
  rcases UJ j with rfl|j
  ·rfl
  cases j
 unfold keysOf at h;cases h2:e.Kind==1 with
 |true=>
  grind
 |false=>
  cases h3:e.Kind==2 with
  |false=>
   grind
  |true=>
   rw[h2,h3]at h;cases u:(e.Content.N==3||e.Content.N==1||e.Content.N==2)with
   |true=>
    rw[u]at h;rcases UJ h with rfl|h
    ·cases h1
    rcases UJ h with rfl|h
    ·cases h1
    exact z k h h1
   |false=>
    rw[u]at h;rcases UJ h with rfl|h
    ·cases h1
    exact z k h h1
def aOZ {u:A8 BO}:∀(X j:A8 Aa),LU u j X=true->∀x∈X,∃k∈u,F9 k x=true
 | [],_,_,_,h=>absurd h Gn
 |y::X,j,h,x,q=>by
  unfold LU at h;simp only[DR]at h;rcases FM.1 q with rfl|q
  ·grind
  exact aOZ X _ h.2 x q
def any_congr {q:α->Ad}(h:∀x∈l,p x=q x):l.any p=l.any q:=by
 grind
def aks (l:A8 Aa)(e:Aa)(hl:l.length<=100)(he:Ey e):vI l e=some (Rj l e):=by
 have h1:=he.auth;have hk5:=YI e;have hsk:=ahY e;unfold vI aM5;refine dL.eq (Jj e.bI.length (fuel_lt AQ) (λi a=>a=ofIds l (e.bI.take i)/\∀x∈e.bI.take i,bQ l x=true) ⟨rfl,λx U=>by simp at U⟩ (λi a k hi ha J=>?_) λa k ha=>?_)
 ·obtain⟨rfl,u⟩:=ha;have hal:=jk l (e.bI.take i);rw[H7]at hal;unfold aB6;rw[DF hi,Ox l _ AQ,Aj,wrap_succ i AQ];cases Y:Eb l e.bI[i]with
  |none=>
   rw[Rl Y];refine .ret ?_;unfold Rj;rw[qP (EZ hi) (show bQ l e.bI[i]=false by unfold bQ;rw[Y];rfl)];rfl
  |some x=>
   rw[P7 Y];simp only[El,BQ];rw[Dz G9,Aj];refine J _ ⟨?_,λy I=>?_⟩
   ·unfold ofIds;rw[V4,EO hi,SI,jo,Uj,Y];rfl
   rw[V4,EO hi,SI,Ie,Jd]at I;rcases I with I|rfl
   ·exact u y I
   unfold bQ;rw[Y];rfl
 obtain⟨rfl,u⟩:=ha;rw[H9]at u ⊢;have U:=jk l e.bI;have Z:e.bI.all (bQ l)=true:=En.2 u;unfold aB6;rw[EL];unfold Rj;rw[Z];simp only[El,BQ];generalize ofIds l e.bI=X at U;unfold aVQ;rw[Hl X (fuel_lt AQ) (λx=> !decide (x.Room=e.Room)) 13 (some (bif LU (keysOf e) [] X&&(e.Kind==1||X.any RD)then 0 else 16))]
 ·rw[nM];cases X.all (λx=>x.Room=e.Room)<;>exact .ret rfl
 ·intro k2 i hi;unfold aBH;rw[DF hi,Ja]
 intro k2;unfold aBH;rw[EL,aPP,Aj];unfold aWx;refine dL.eq (Ur (body:=a8j X) (Q:=(· =bif LU (keysOf e) [] X&&(e.Kind==1||X.any RD)then 0 else 16)) (λn b ks x=>∃i:Nat,x=i/\i+n=X.length/\ks=((keysOf e).filter λk=> !(X.take i).any (F9 k)).map KJ/\b=(e.Kind==1||(X.take i).any λx=>x.Kind==1)/\LU (keysOf e) [] X=LU (keysOf e) (X.take i) (X.drop i)) ?_ Az X.length (e.Kind==1) ((keysOf e).map KJ) 0 (fuel_lt AQ) ⟨0,rfl,AQ,by rw[a5o];exact BJ (List.map KJ) (jv.2 λ_ _=>rfl).symm,Bf,rfl⟩);rintro n b ks x k3 ⟨i,rfl,hn,hks,hb,z⟩ hk3;unfold a8j;by_cases hi:i<X.length
 ·rw[aWK hi]at z;have hlk:((keysOf e).filter λk=> !(X.take i).any (F9 k)).length<=5:=EI (Lc _ _) hk5;rw[DF hi,hks,amR _ _ AQ,Aj];have L:=aXq (p:=λk=>F9 k X[i]) ((keysOf e).filter λk=> !(X.take i).any (F9 k))
  have M:(((keysOf e).filter λk=> !(X.take i).any (F9 k)).any λk=>F9 k X[i])=((keysOf e).any (λk=>F9 k X[i])&& !(X.take i).any (UK X[i])):=by
   rw[Oz,Ip,DR,Ip,Ui,←Z4,Ip];constructor
   ·rintro⟨k,J,hm⟩;obtain⟨hk1,hk2⟩:=Gs.1 J;refine⟨⟨k,hk1,hm⟩,?_⟩;rintro⟨y,I,hs⟩;obtain⟨m1,m2⟩:=jL.1 hm;obtain⟨s1,s2⟩:=aQT.1 hs;rw[Ip.2 ⟨y,I,jL.2 ⟨s1.trans m1,s2.trans m2⟩⟩]at hk2;cases hk2
   rintro⟨⟨k,J,hm⟩,hno⟩;refine⟨k,Gs.2 ⟨J,?_⟩,hm⟩;rw[Ui,←Z4,Ip];rintro⟨y,I,hs⟩;obtain⟨m1,m2⟩:=jL.1 hm;obtain⟨s1,s2⟩:=jL.1 hs;exact hno ⟨y,I,aQT.2 ⟨s1.trans m1.symm,s2.trans m2.symm⟩⟩
  rw[←M,←L]at z;by_cases q:((keysOf e).filter λk=> !(X.take i).any (F9 k)).findIdx (λk=>F9 k X[i])<((keysOf e).filter λk=> !(X.take i).any (F9 k)).length
  ·rw[ET q,Ic AQ,BQ];rw[KC q,Fv]at z;have hlm:(((keysOf e).filter λk=> !(X.take i).any (F9 k)).map KJ).length=((keysOf e).filter λk=> !(X.take i).any (F9 k)).length:=Df ..
   have hpw:((keysOf e).filter λk=> !(X.take i).any (F9 k)).Pairwise (λa b=>¬(F9 a X[i]=true/\F9 b X[i]=true)):=by
    refine(List.Pairwise.sublist Ue hsk).imp λ{a b} hab h=>?_;obtain⟨a1,a2⟩:=jL.1 h.1;obtain⟨b1,b2⟩:=jL.1 h.2;rw[uO (Xa.2 ⟨a1.symm.trans b1,a2.symm.trans b2⟩)]at hab;cases hab
   have hd:=aNC _ hpw q
   have O:((keysOf e).filter λk=> !(X.take i).any (F9 k)).filter (λk=> !F9 k X[i])=(keysOf e).filter λk=> !(X.take (i+1)).any (F9 k):=by
    rw[List.filter_filter];refine ZE λk _=>?_;rw[zy hi];cases(X.take i).any (F9 k)<;>cases F9 k X[i]<;>rfl
   rw[O]at hd;generalize((keysOf e).filter λk=> !(X.take i).any (F9 k))=K at q hd hlm hlk;generalize K.findIdx (λk=>F9 k X[i])=j at q hd;have s1:Hy (K.map KJ) 0 (j:Int)=some (((K.map KJ).drop 0).take (j-0)):=YW (lo:=0) (FB _) AQ;have s2:Hy (K.map KJ) (BA ((j:Int)+1)) ((K.map KJ).length:Int)=some (((K.map KJ).drop (j+1)).take ((K.map KJ).length-(j+1))):=by rw[wrap_succ j AQ];exact YW AQ (EW _)
   rw[s1,Aj,s2,Aj,Dz (by simp only[H7,LY];omega),Aj];have hb3:(bif b then some true else(Au X (i:Int)).bind λx28=>some (x28.Kind==1))=some (b||X[i].Kind==1):=by rw[CU hi];cases b<;>rfl
   rw[hb3,Aj];refine hk3 (n-1) _ _ _ AQ ⟨i+1,wrap_succ i AQ,AQ,?_,?_,z⟩
   ·rw[hd,Jb,bJ,dI,Nat.sub_zero,a81,Qx (l:=(K.map KJ).drop (j+1)) (by rw[LY];omega)]
   rw[zy hi,hb,Bool.or_assoc]
  rw[Ef q];rw[Ic q,dG]at z;exact .ret yt
 have :i=X.length:=AQ
 subst this;rw[aS4]at z;rw[EL,z,hb,H9,Fv]
 have hc:(X.any λx=>x.Kind==1)=X.any RD:=any_congr λx U=>by
  obtain⟨k,J,hm⟩:=aOZ X [] z x U;obtain⟨m1,m2⟩:=jL.1 hm;unfold RD;cases hq:x.Kind==1 with
  |false=>rfl
  |true=>rw[m2,al7 J (by rw[←m1];exact eq_of_beq hq)];simp
 rw[hc];cases(e.Kind==1||X.any RD)<;>exact .ret rfl
def LW (l:A8 Aa)(s:A8 BO):A8 Aa:=ofIds l (s.map (·.Id))
def a1B (l:A8 Aa)(s:A8 BO):(LW l s).length<=s.length:=by have :=jk l (s.map (·.Id));rwa [Df]at this
variable {l:A8 Aa}
def aIw (hs:Ea l)(ids:A8 Int):Ea (ofIds l ids):=λx j=>hs x (aJh j)
def a8p (h:i<s.length):LW l (s.take (i+1))=LW l (s.take i)++(Eb l s[i].Id).toList:=by
 unfold LW ofIds;rw[map_take h,jo,Uj,List.filterMap_nil]
 grind
def aRo (l:A8 Aa)(s:A8 BO)(hl:l.length<=100)(h:s.length<=1000):rF l s=some (LW l s):=by
 unfold rF sB;rw[Aj];unfold aTc;refine dL.eq (a5c (body:=aBh s) (Q:=(· =LW l s)) (λn a b c _ _=>∃i:Nat,b=i/\i+n=s.length/\c=l/\a=LW l (s.take i)) ?_ Az s.length [] 0 l [] [] (fuel_lt AQ) ⟨0,rfl,AQ,rfl,rfl⟩);rintro n a b c d f k ⟨i,rfl,z,rfl,ha⟩ u;unfold aBh;by_cases hi:i<s.length
 ·have q:=a1B c (s.take i);rw[H7]at q;rw[DF hi,Ox c _ AQ,Aj,wrap_succ i AQ];cases j:Eb c s[i].Id with
  |none=>rw[Rl j];exact u (n-1) _ _ _ _ _ AQ ⟨i+1,rfl,AQ,rfl,by rw[a8p hi,j,ha];simp⟩
  |some x=>
   rw[P7 j];simp only[Bj];rw[Dz (by rw[ha];simp only[Om];omega),Aj];exact u (n-1) _ _ _ _ _ AQ ⟨i+1,rfl,AQ,rfl,by rw[a8p hi,j,ha];rfl⟩
 have :i=s.length:=AQ
 subst this;rw[EL];exact .ret ZX
def ad5 (l:A8 Aa)(s:A8 BO)(hl:l.length<=100)(h:s.length<=1000):a6W l s=some (LW l s):=by
 unfold a6W aPe;refine dL.eq (Jj s.length (fuel_lt AQ) (λi a=>a=LW l (s.take i)) rfl (λi a k hi ha u=>?_) λa k ha=>?_)
 ·have q:=a1B l (s.take i);rw[H7]at q;unfold aED a3P;rw[DF hi,NG l _ AQ,Aj,wrap_succ i AQ];cases j:Eb l s[i].Id with
  |none=>rw[Rl j];exact u _ (by rw[a8p hi,j,ha];simp)
  |some x=>
   rw[P7 j];simp only[Bj];rw[Dz (by rw[ha];simp only[Om];omega),Aj];exact u _ (by rw[a8p hi,j,ha];rfl)
 unfold aED;rw[DZ];exact .ret ZX
structure FH where
 id:Int
 before:List BO
 after:List BO
 err:Int
def FU (t:A8 FH)(x:Int):Option FH:=t.find? λy=>y.id==x
def JA (t:A8 FH)(x:Int):A8 BO:=((FU t x).map (·.after)).getD []
def errOf (t:A8 FH)(x:Int):Int:=((FU t x).map (·.err)).getD 0
def iZ (l:A8 Aa)(e:Aa):Int:=bif Rj l e != 0 then Rj l e else Lp e (U8 l e)
def Oo (l:A8 Aa)(t:A8 FH)(e:Aa)(s:A8 BO):Int:=
 bif iZ l e != 0 then iZ l e else bif e.bI.any (λx=>errOf t x != 0)then 16 else Lp e (LW l s)
def stB (l:A8 Aa)(t:A8 FH)(e:Aa):A8 BO:=Zk l (e.bG.map (JA t))
def Yg (e:Aa)(s:A8 BO)(r:Int):FH:=⟨e.Id,s,bif r==0&&J7 e.Kind then Gi s e.Kind e.Key e.Id else s,r⟩
def Ju (l:A8 Aa)(t:A8 FH)(e:Aa):FH:=Yg e (stB l t e) (Oo l t e (stB l t e))
def Ih (l:A8 Aa)(ids:A8 Int):A8 FH:=ids.foldl (λt id=>t++[Ju l t (ev l id)]) []
def DT (l:A8 Aa):A8 FH:=Ih l (JB l)
def aJL (l:A8 Aa){ids:A8 Int}(h:i<ids.length):Ih l (ids.take (i+1))=Ih l (ids.take i)++[Ju l (Ih l (ids.take i)) (ev l ids[i])]:=aUC h
variable {t:A8 FH}
def a0z {x:Int}:FU t x=none↔x∉t.map (·.id):=by
 unfold FU
 grind
variable {y:FH}
def aAl (h:FU t y.id=none)(x:Int):FU (t++[y]) x=bif x==y.id then some y else FU t x:=by
 unfold FU at h ⊢
 grind
def a4W (l:A8 Aa):∀(ids:A8 Int) (t:A8 FH),(∀x∈ids,bQ l x=true)->(ids.foldl (λt id=>t++[Ju l t (ev l id)]) t).map (·.id)=t.map (·.id)++ids
 | [],t,_=>Bf
 |x::ids,t,h=>by
  have j:(Ju l t (ev l x)).id=x:=(J8 (h x (Gz ..))).2;rw[Fl,a4W l ids _ λy q=>h y (IE _ q),Jb,Gh,List.map_nil,j,JO];rfl
def O6 (l:A8 Aa)(t:A8 FH):Prop:=∀y∈t,Jt l y.before/\Jt l y.after
def O6.after (h:O6 l t)(x:Int):Jt l (JA t x):=by
 unfold JA;cases hl:FU t x with
 |none=>exact .nil l
 |some y=>exact(h y (XV hl)).2
def O6.states (h:O6 l t)(ids:A8 Int):∀s∈ids.map (JA t),Jt l s:=λs hs=>by
 obtain⟨x,_,rfl⟩:=FT.1 hs;exact h.after x
def O6.okay {l:A8 Aa}{t:A8 FH}(h:O6 l t)(hl:l.length<=100)(hs:Ea l)(ids:A8 Int)(hi:ids.length<=100):Oe l (ids.map (JA t)):=Jt.okay hl hs aB8 (h.states ids)
def O6.stB (h:O6 l t)(hl:l.length<=100)(hs:Ea l)(j:e.bG.length<=40):Jt l (stB l t e):=Jt.resolve (h.okay hl hs _ AQ) (h.states _)
def O6.line (h:O6 l t)(hl:l.length<=100)(hs:Ea l)(u:e.bG.length<=40)(z:J7 e.Kind=true->bQ l e.Id=true/\ev l e.Id=e):O6 l (t++[Ju l t e]):=λy j=>by
 rcases Ie.1 j with j|j
 ·exact h y j
 rw[Jd.1 j];have hp:=h.stB hl hs u;refine⟨hp,?_⟩;show Jt l (bif Oo l t e (Go.Proofs.YtfmoknlmaldmlaaGreat.stB l t e)==0&&J7 e.Kind then Gi _ e.Kind e.Key e.Id else _);cases q:(Oo l t e (Go.Proofs.YtfmoknlmaldmlaaGreat.stB l t e)==0&&J7 e.Kind)with
 |false=>exact hp
 |true=>
  have hst:J7 e.Kind=true:=by rw[DR]at q;exact q.2
  obtain⟨I,k2⟩:=z hst;exact hp.set I k2 hst
def aaZ {id:Int}(h:J7 (ev l id).Kind=true):bQ l (ev l id).Id=true/\ev l (ev l id).Id=ev l id:=by
 cases j:Eb l id with
 |none=>unfold ev at h;rw[Rl j]at h;exact absurd h Bl
 |some e=>
  have q:bQ l id=true:=by unfold bQ;rw[j];rfl
  have :=(J8 q).2;rw[this];exact⟨q,rfl⟩
def al3 :Ey Fe:=⟨FB _,FB _,FB _,FB _,FB _,FB _,FB _,FB _,FB _,FB _,FB _,FB _,λ_ h=>absurd h Gn,λ_ h=>absurd h Gn,λ_ h=>absurd h Gn⟩
def aAZ (hs:Ea l)(id:Int):Ey (ev l id):=by
 unfold ev I9;cases h:Eb l id with
 |none=>exact al3
 |some e=>exact hs e (JZ h)
def a8O {l:A8 Aa}(hl:l.length<=100)(hs:Ea l):∀(ids:A8 Int) (t:A8 FH),O6 l t->O6 l (ids.foldl (λt id=>t++[Ju l t (ev l id)]) t)
 | [],t,h=>h
 |x::ids,t,h=>by rw[Fl];exact a8O hl hs ids _ (h.line hl hs (aAZ hs x).prev aaZ)
structure Qc (t:List FH) (m1 m2:List (Int×List BO)) (m3:List (Int×Int)):Prop where
 b:∀x,DJ m1 x=(FU t x).map (·.before)
 a:∀x,DJ m2 x=(FU t x).map (·.after)
 r:∀x,DJ m3 x=(FU t x).map (·.err)
variable {j q:A8 (Int×A8 BO)}{u:A8 (Int×Int)}
def Qc.after (h:Qc t q j u)(x:Int):(DJ j x).getD []=JA t x:=by rw[h.a];rfl
def Qc.err {u:A8 (Int×A8 BO)}{j:A8 (Int×Int)}(h:Qc t q u j)(x:Int):(DJ j x).getD 0=errOf t x:=by rw[h.r];rfl
def agu {u:A8 (Int×A8 BO)}{z:A8 (Int×Int)}(h:Qc t q u z)(l:A8 Aa)(e:Aa)(s:A8 BO)(hl:l.length<=100)(hs:Ea l)(j:Ey e)(hsl:s.length<=100):
 aBF q u z l e s=some (Oo l t e s):=by
 have h1:=j.auth;have h2:=a1B l s;unfold aBF Oo iZ;rw[aks l e hl j,Aj];cases I:Rj l e != 0 with
 |true=>
  grind
 |false=>
  simp only[BQ];rw[aU1 l e AQ AQ,Aj,a5V e _ (EI (a7p l e) AQ) (hs.from e) j,Aj];cases ha:Lp e (U8 l e) != 0 with
  |true=>
   rfl
  |false=>
   simp only[BQ];unfold aPQ;rw[Hl e.bI (fuel_lt AQ) (λx=>errOf t x != 0) 16 (some (Lp e (LW l s)))]
   ·cases e.bI.any (λx=>errOf t x != 0)<;>rfl
   ·intro k i hi;unfold aEZ;rw[DF hi,h.err]
   intro k;unfold aEZ;rw[EL,aRo l s hl AQ,Aj,a5V e (LW l s) AQ (aIw hs _) j];rfl
variable {I:A8 (Int×A8 BO)}
def Qc.snoc {J:A8 (Int×A8 BO)}{L:A8 (Int×Int)}(h:Qc t I J L)(z:FU t y.id=none)(h1:∀x,DJ j x=bif x==y.id then some y.before else DJ I x)(h2:∀x,DJ q x=bif x==y.id then some y.after else DJ J x)(h3:∀x,DJ u x=bif x==y.id then some y.err else DJ L x):Qc (t++[y]) j q u:=by
 refine⟨λx=>?_,λx=>?_,λx=>?_⟩
 ·rw[h1,aAl z,h.b];cases x==y.id<;>rfl
 ·rw[h2,aAl z,h.a];cases x==y.id<;>rfl
 rw[h3,aAl z,h.r];cases x==y.id<;>rfl
def add_eq {z:A8 (Int×A8 BO)}{J:A8 (Int×Int)}(h:Qc t z I J)(l:A8 Aa)(e:Aa)(hl:l.length<=100)(hs:Ea l)(L:Ey e)(M:O6 l t)(O:FU t e.Id=none):
 dL (a7D z I J l e) (λr=>Qc (t++[Ju l t e]) r.1 r.2.1 r.2.2):=by
 have h1:=L.prev;unfold a7D aMh;refine Jj e.bG.length (fuel_lt AQ) (λi a=>a=(e.bG.take i).map (JA t)) rfl (λi a k hi ha U=>?_) λa k ha=>?_
 ·have Y:a.length<=i:=zl
  unfold aLD;rw[DF hi,Dz G9,Aj,wrap_succ i AQ,h.after];exact U _ a6g
 rw[H9]at ha;subst ha;unfold aLD;have hp:Jt l (stB l t e):=M.stB hl hs h1;have Z:=hp.length;have u:qZ l (e.bG.map (JA t))=some (stB l t e):=aVx (M.okay hl hs _ AQ);rw[EL,u,Aj,agu h l e _ hl hs L AQ,Aj];have j:Ju l t e=Yg e (stB l t e) (Oo l t e (stB l t e)):=rfl;rw[j];generalize Oo l t e (stB l t e)=r;have q:∀(c d f:Ad) {R:Type} (g:Ad->AB R),((bif c then some d else some false).bind λx9=>(bif x9 then some f else some false).bind g)=g (c&&(d&&f)):=λc d f R g=>by cases c<;>cases d<;>rfl
 rw[q];show dL (bif (r==0&&J7 e.Kind)then _ else _) _;unfold Yg;cases hc:(r==0&&J7 e.Kind)with
 |true=>
  simp only[Bj];rw[aJ _ _ _ _ AQ,Aj];refine .ret (h.snoc O (λx=>Rz ..) (λx=>?_) λx=>Rz ..);rw[Rz,Rz];cases x==e.Id<;>rfl
 |false=>exact .ret (h.snoc O (λx=>Rz ..) (λx=>Rz ..) λx=>Rz ..)
def run_go (l:A8 Aa)(ids:A8 Int)(hl:l.length<=100)(hs:Ea l)(u:∀x∈ids,bQ l x=true)(z:ids.Nodup)(J:ids.length<=1000):dL (aH0 ids l 0 [] [] []) (λo=>∃T,o=some T/\Qc (Ih l ids) T.1 T.2.1 T.2.2):=by
 unfold aH0;refine aKN (body:=aIn ids l) (Q:=λo=>∃T,o=some T/\Qc (Ih l ids) T.1 T.2.1 T.2.2) (λn a b c d=>∃i:Nat,a=i/\i+n=ids.length/\Qc (Ih l (ids.take i)) b c d) ?_ Az ids.length 0 [] [] [] (fuel_lt AQ) ⟨0,rfl,AQ,⟨λx=>rfl,λx=>rfl,λx=>rfl⟩⟩;rintro n a b c d k ⟨i,rfl,Z,hm⟩ L;unfold aIn;by_cases hi:i<ids.length
 ·have I:=u _ (EZ hi)
  have q:FU (Ih l (ids.take i)) (ev l ids[i]).Id=none:=by
   rw[a0z,(J8 I).2];unfold Ih;rw[a4W l _ _ λx M=>u x (gJ M),List.map_nil,JJ];intro hm;obtain⟨j,O,e⟩:=G8 hm;rw[H7]at O;rw[nT]at e;have :=JQ.1 (jF.1 z) j i AQ hi AQ;exact this e
  rw[DF hi,Ox l _ AQ,Aj];refine(add_eq hm l _ hl hs (aAZ hs ids[i]) (a8O hl hs _ _ λy U=>absurd U Gn) q).bind λr Y=>?_;exact L (n-1) _ _ _ _ AQ ⟨i+1,wrap_succ i AQ,AQ,by rw[aJL l hi];exact Y⟩
 have :i=ids.length:=AQ
 subst this;rw[EL];exact .ret ⟨_,rfl,by rw[H9]at hm;exact hm⟩
structure KR (l:List Aa):Prop where
 len:l.length<=100
 small:Ea l
 nodup:(l.map (·.Id)).Nodup
 dep:rC l
def Hw {x:Int}:bQ l x=true↔x∈l.map (·.Id):=by
 unfold bQ Eb
 grind
def aOM (l:A8 Aa):(JB l).Perm (l.map (·.Id)):=(aJU l).map _
def qY {x:Int}:x∈JB l↔bQ l x=true:=by rw[(aOM l).mem_iff,Hw]
def a2x (l:A8 Aa):(JB l).length=l.length:=by unfold JB;rw[Df,aKv]
def KR.order (h:KR l):(JB l).Nodup:=(aOM l).nodup_iff.2 h.nodup
def Pq (l:A8 Aa)(c:Int):A8 FH:=bif c==0&&Hz l==0 then DT l else[]
variable {c:Int}
def run_eq (l:A8 Aa)(z:NZ l=some c)(h:c=0->KR l):
 dL (iq l) (λo=>(Pq l c=[]/\o=none)\/(Pq l c=DT l/\KR l/\∃T,o=some T/\Qc (DT l) T.1 T.2.1 T.2.2)):=by
 unfold iq Pq;rw[z,Aj];by_cases u:c=0
 ·subst u;have j:=h rfl;rw[aRK l j.len j.small j.dep];cases hd:Hz l==0 with
  |false=>
   have q:(Hz l != 0)=true:=by unfold bne;rw[hd];rfl
   simp only[Ry,BQ,Aj,q,Bj];exact .ret (.inl ⟨rfl,rfl⟩)
  |true=>
   have q:(Hz l != 0)=false:=by unfold bne;rw[hd];rfl
   simp only[Ry,BQ,Aj,q];rw[adA l (by have :=j.len;omega),Aj];exact(run_go l (JB l) j.len j.small (λx I=>qY.1 I) j.order (by rw[a2x];have :=j.len;omega)).mono λo J=>.inr ⟨rfl,j,J⟩
 have L:(c != 0)=true:=Ql
 have M:(c==0)=false:=Ql
 rw[L,M];exact .ret (.inl ⟨rfl,rfl⟩)
def aFW (h:KR l):O6 l (DT l):=a8O h.len h.small _ _ λy j=>absurd j Gn
def aJI (l:A8 Aa):(DT l).map (·.id)=JB l:=by
 have :=a4W l (JB l) [] λx j=>qY.1 j;simpa[DT,Ih]using this
def vF {x:Int}(h:bQ l x=true):∃y,FU (DT l) x=some y:=by
 cases hl:FU (DT l) x with
 |some y=>exact⟨y,rfl⟩
 |none=>rw[a0z,aJI]at hl;exact absurd (qY.2 h) hl
def Hd (t:A8 FH)(x:Int):Ad:=match FU t x with
 |some y=>y.err==0
 |none=>false
def Gv (l:A8 Aa)(t:A8 FH):A8 Int:=(l.filter λe=>Hd t e.Id).map (·.Id)
def O8 (l:A8 Aa)(t:A8 FH):A8 BO:=Zk l ((Js l (Gv l t)).map (JA t))
def gW (l:A8 Aa)(t:A8 FH):(Gv l t).length<=l.length:=by unfold Gv;rw[Df];exact Lc _ _
def aT6 (l:A8 Aa):Gv l []=[]:=by
 unfold Gv;rw[aGV.2 λe _=>by unfold Hd FU;simp];rfl
def aMe (l:A8 Aa):O8 l []=[]:=by unfold O8;rw[aT6];rfl
def aA1 (h:i<l.length):Gv (l.take (i+1)) t=Gv (l.take i) t++bif Hd t l[i].Id then[l[i].Id]else[]:=by
 unfold Gv;rw[wB h,Jb]
 grind
def aP8 {x:Int}(h:bQ l x=true):Hd (DT l) x=(errOf (DT l) x==0):=by
 obtain⟨y,j⟩:=vF h;unfold Hd errOf;rw[j];rfl
def aSS (h:Qc (DT l) j q u)(hl:l.length<=100):jE j q u l=some (Gv l (DT l)):=by
 unfold jE
 have hp:a4z l j q u=some (Gv l (DT l)):=by
  unfold a4z aRq;refine dL.eq (Jj l.length (fuel_lt AQ) (λi a=>a=Gv (l.take i) (DT l)) rfl (λi a k hi ha z=>?_) λa k ha=>?_)
  ·have J:a.length<=i:=aMU
   unfold aCb aCu a6R;rw[DF hi,Aj,h.err,←aP8 (Hw.2 (FT.2 ⟨_,EZ hi,rfl⟩)),wrap_succ i AQ];cases I:Hd (DT l) l[i].Id with
   |true=>
    rw[Bj,CU hi,Aj,Dz G9,Aj];exact z _ (by rw[aA1 hi,I,ha];rfl)
   |false=>exact z _ (by rw[aA1 hi,I,ha];simp)
  unfold aCb;rw[EL];exact .ret ZX
 rw[hp];rfl
def aj2 (u:NZ l=some c)(h:c=0->KR l):rM l=some (O8 l (Pq l c)):=by
 unfold rM;refine dL.eq ((run_eq l u h).bind λo j=>?_);rcases j with⟨h1,rfl⟩|⟨h1,j,T,rfl,q⟩
 ·rw[h1,aMe];exact .ret rfl
 rw[h1];have hl:=j.len;have ha:=gW l (DT l);have z:=a4y l (Gv l (DT l));show dL ((jE T.1 T.2.1 T.2.2 l).bind _) _;rw[aSS q hl,Aj,aX1 l _ hl j.small AQ,Aj];unfold O8;generalize Js l (Gv l (DT l))=H at z;unfold aN4;refine Jj H.length (fuel_lt AQ) (λi a=>a=(H.take i).map (JA (DT l))) rfl (λi a k hi ha I=>?_) λa k ha=>?_
 ·have J:a.length<=i:=zl
  unfold aFs;rw[DF hi,Dz G9,Aj,q.after,wrap_succ i AQ];exact I _ a6g
 rw[H9]at ha;unfold aFs;rw[EL,ha,aVx ((aFW j).okay hl j.small _ AQ),Aj];exact .ret rfl
def aUP (h:c=0->KR l):Jt l (O8 l (Pq l c)):=by
 unfold Pq;cases q:(c==0&&Hz l==0)with
 |false=>rw[BQ,aMe];exact .nil l
 |true=>
  rw[DR]at q;have j:=h (eq_of_beq q.1);have u:=aFW j;have ha:=gW l (DT l);have z:=a4y l (Gv l (DT l));have hl:=j.len;rw[Bj];exact Jt.resolve (u.okay hl j.small _ AQ) (u.states _)
def aZZ {lt:α->α->Ad}(J:∀a b c,lt b a=false->lt c b=false->lt c a=false)(ha:∀a b,lt a b=true->lt b a=false)(x:α):
 ∀n (A:A8 α),A.length=n->A.Pairwise (λa b=>lt b a=false)->(LM lt A x).Pairwise λa b=>lt b a=false:=by
 intro n
 induction n with
 |zero=>
  intro A q _;obtain rfl:=He q;exact aJn ..
 |succ n L=>
  intro A q hA;rcases List.eq_nil_or_concat A with rfl|⟨B,a,rfl⟩
  ·cases q
  rw[List.concat_eq_append]at q hA ⊢;have q:B.length=n:=XP
  obtain⟨h1,_,h3⟩:=Yf.1 hA;cases u:lt x a with
  |true=>
   rw[aWy u];refine Yf.2 ⟨L B q h1,aJn ..,λy j z I=>?_⟩;rw[Jd.1 I];rcases FM.1 ((aOG B x).mem_iff.1 j)with rfl|j
   ·exact ha _ _ u
   exact h3 y j a (Jd.2 rfl)
  |false=>
   rw[aOp u,show B++a::[x]=(B++[a])++[x] by simp];refine Yf.2 ⟨hA,aJn ..,λy j z I=>?_⟩;rw[Jd.1 I];rcases Ie.1 j with j|j
   ·exact J y a x (h3 y j a (Jd.2 rfl)) u
   rw[Jd.1 j];exact u
def aKk {a b:Aa}:OD b a=false↔a.Depth<b.Depth\/(a.Depth=b.Depth/\a.Id<=b.Id):=by
 unfold OD
 grind
def aax (l:A8 Aa):(Um l).Pairwise λa b=>OD b a=false:=by
 have key:∀(l A:A8 Aa),A.Pairwise (λa b=>OD b a=false)->(l.foldl (LM OD) A).Pairwise λa b=>OD b a=false:=by
  intro l
  induction l with
  |nil=>exact λA h=>h
  |cons x l j=>
   intro A h;rw[Fl];refine j _ (aZZ (λa b c h1 h2=>?_) (λa b h=>?_) x _ A rfl h)
   ·rw[aKk]at *;omega
   rw[aKk];unfold OD at h;rw[VK,DR,IQ,IQ,MP]at h;omega
 exact key l [] .nil
def YP (q:(l.map (·.Id)).Nodup)(h:e∈l):ev l e.Id=e:=by
 have u:bQ l e.Id=true:=Hw.2 (FT.2 ⟨e,h,rfl⟩);obtain⟨h1,h2⟩:=J8 u;have h3:=JZ h1;obtain⟨i,hi,z⟩:=G8 h3;obtain⟨j,I,J⟩:=G8 h;have hp:=JQ.1 (jF.1 q)
 grind
def ag6 (u:(l.map (·.Id)).Nodup)(hi:i<(JB l).length){a:Int}(z:bQ l a=true)(hd:(ev l a).Depth<(ev l (JB l)[i]).Depth):a∈(JB l).take i:=by
 obtain⟨h1,h2⟩:=J8 z;have hm:ev l a∈Um l:=(aJU l).mem_iff.2 (JZ h1);obtain⟨j,I,M⟩:=G8 hm;have q:i<(Um l).length:=by simpa[JB]using hi
 have J:(JB l)[i]=(Um l)[i].Id:=Ph (λx:Aa=>x.Id);have O:ev l (JB l)[i]=(Um l)[i]:=by rw[J];exact YP u ((aJU l).mem_iff.1 (EZ q))
 have L:j<i:=by
  rcases vH j i with h|h|h
  ·exact h
  ·grind
  have :=JQ.1 (aax l) i j q I h;rw[aKk]at this
  grind
 refine aQG.2 ⟨j,AQ,?_⟩;unfold JB
 grind
def agh {x:Int}(h:FU t x=some y)(z:FH):FU (t++[z]) x=some y:=by
 unfold FU at *
 grind
def o8 (hd:Hz l=0)(j:e∈l):(∀a∈e.bI,bQ l a=true/\(ev l a).Depth<e.Depth)/\∀a∈e.bG,bQ l a=true/\(ev l a).Depth<e.Depth:=by
 unfold Hz at hd;cases q:Tz l with
 |false=>
  grind
 |true=>
  rw[q,Bj]at hd;cases u:l.all (QV l)with
  |false=>
   grind
  |true=>
   have h1:=En.1 q e j;have h2:=En.1 u e j;unfold Gm at h1;unfold QV at h2;rw[DR,En,En]at h1;rw[DR,En]at h2;refine⟨λa ha=>⟨h1.2 a ha,PI (h2.1 a ha)⟩,λa ha=>⟨h1.1 a ha,?_⟩⟩
   have hp:((e.bG.length:Int)==0)=false:=by
    grind
   have h3:=h2.2;rw[hp,BQ,DR,En]at h3;exact PI (h3.1 a ha)
structure Gl (x y:Aa):Prop where
 id:y.Id=x.Id
 room:y.Room=x.Room
 sender:y.bM=x.bM
 kind:y.Kind=x.Kind
 key:y.Key=x.Key
 time:y.Time=x.Time
 depth:y.Depth=x.Depth
 prev:y.bG=x.bG
 auth:y.bI=x.bI
 n:x.Kind=2\/x.Kind=4->y.Content.N=x.Content.N
 levels:x.Kind=3->y.Content.Levels=x.Content.Levels
def Gl.refl (x:Aa):Gl x x:=⟨rfl,rfl,rfl,rfl,rfl,rfl,rfl,rfl,rfl,λ_=>rfl,λ_=>rfl⟩
inductive J6 :List Aa->List Aa->Prop
 |nil:J6 [] []
 |cons {x y:Aa} {xs ys:List Aa} (h:Gl x y) (t:J6 xs ys):J6 (x::xs) (y::ys)
variable {a b:A8 Aa}
def J6.append {c d:A8 Aa}(h:J6 a b)(k:J6 c d):J6 (a++c) (b++d):=by
 induction h with
 |nil=>exact k
 |cons h _ j=>exact .cons h j
def J6.flat {α:Type}{f g:α->A8 Aa}:∀(l:A8 α),(∀x∈l,J6 (f x) (g x))->J6 (l.flatMap f) (l.flatMap g)
 | [],_=>.nil
 |x::l,h=>by
  rw[P5,P5];exact(h x (Gz ..)).append (J6.flat l λy j=>h y (IE _ j))
variable {p:Aa->Ad}
def J6.any (hp:∀x y,Gl x y->p y=p x)(h:J6 a b):b.any p=a.any p:=by
 induction h with
 |nil=>
  rfl
 |cons h _ j=>
  grind
def J6.all (hp:∀x y,Gl x y->p y=p x)(h:J6 a b):b.all p=a.all p:=by
 induction h with
 |nil=>
  rfl
 |cons h _ j=>
  grind
def J6.find (hp:∀x y,Gl x y->p y=p x)(h:J6 a b):(a.find? p=none/\b.find? p=none)\/∃x y,a.find? p=some x/\b.find? p=some y/\Gl x y/\p x=true:=by
 induction h with
 |nil=>
  grind
 | @cons x y xs ys h _ j=>
   rw[Xb,Xb,hp _ _ h];cases q:p x with
   |true=>
    grind
   |false=>
    exact j
variable {y:Aa}
def J6.one {x:Aa}(h:Gl x y):J6 [x] [y]:=.cons h .nil
def aDN {x:Aa}(h:Gl x y):F9 k y=F9 k x:=by unfold F9;rw[h.kind,h.key]
def acE {x:Aa}(h:Gl x y):Qd y=Qd x:=by
 unfold Qd;rw[h.kind,h.key,h.sender];cases j:x.Kind==2 with
 |false=>rfl
 |true=>rw[h.n (.inl (eq_of_beq j))]
def aKg {x:Aa}(h:Gl x y):keysOf y=keysOf x:=by
 unfold keysOf NI;rw[h.kind,h.key,h.sender];cases j:x.Kind==2 with
 |false=>rfl
 |true=>rw[h.n (.inl (eq_of_beq j))]
section
variable {a b:A8 Aa}
def ahQ (h:J6 a b):(JX b).2=(JX a).2/\Gl (JX a).1 (JX b).1:=by
 unfold JX;rcases h.find (p:=λx=>x.Kind==1) (λx y h=>by rw[h.kind])with⟨h1,h2⟩|⟨x,y,h1,h2,h3,_⟩
 ·rw[h1,h2];exact⟨rfl,.refl _⟩
 grind
def aW8 {u:BP}{x:Aa}(h:Gl x y):QU u y=QU u x:=by unfold QU;rw[h.kind,h.key]
def aJX (h:J6 a b)(u:BP):LP b u=LP a u:=by
 unfold LP;rcases h.find (p:=QU u) (λx y h=>aW8 h)with⟨h1,h2⟩|⟨x,y,h1,h2,h3,j⟩
 ·rw[h1,h2]
 rw[h1,h2];unfold QU at j;rw[DR]at j;exact h3.n (.inl (eq_of_beq j.1))
def adh (h:J6 a b):Uf b=Uf a:=by
 unfold Uf;rcases h.find (p:=λx=>x.Kind==1) (λx y h=>by rw[h.kind])with⟨h1,h2⟩|⟨x,y,h1,h2,h3,_⟩
 ·rw[h1,h2]
 rw[h1,h2];exact h3.sender
def aJA (h:J6 a b):GY b=GY a:=by
 unfold GY;rcases h.find (p:=λx=>x.Kind==3) (λx y h=>by rw[h.kind])with⟨h1,h2⟩|⟨x,y,h1,h2,h3,j⟩
 ·rw[h1,h2,adh h]
 rw[h1,h2];exact h3.levels (eq_of_beq j)
def aZd (h:J6 a b):(Xj b).1=(Xj a).1:=by
 unfold Xj;rcases h.find (p:=λx=>x.Kind==4) (λx y h=>by rw[h.kind])with⟨h1,h2⟩|⟨x,y,h1,h2,h3,j⟩
 ·rw[h1,h2]
 rw[h1,h2];exact h3.n (.inr (eq_of_beq j))
def aCA {f:Aa}(j:Gl e f)(h:J6 a b):Lp f b=Lp e a:=by
 unfold Lp;obtain⟨J,L⟩:=ahQ h;rw[j.kind,j.sender,j.room,J];cases e.Kind==1 with
 |true=>rfl
 |false=>
 cases(JX a).2 with
 |false=>rfl
 |true=>
 cases M:e.Kind==2 with
 |true=>
  have I:=j.n (.inl (eq_of_beq M));simp only[BQ,El,Bj]
  have q:Xr f b=Xr e a:=by
   unfold Xr;rw[J,j.prev,j.sender,j.key,I,L.id,L.sender,h.any λx y h=>aW8 h]
  have u:∀m now,ZA m now b=ZA m now a:=λm now=>by unfold ZA;rw[aZd h]
  have z:∀now,Zj f b now=Zj e a now:=λnow=>by
   unfold Zj;rw[aJX h,j.sender,j.key,I,aJA h]
  unfold qp;rw[q,j.key,j.sender,I,aJX h,u,z]
 |false=>
  simp only[BQ,El];rw[aJX h]
  have hl:ZN f b=ZN e a:=by
   unfold ZN;rw[aJA h,j.sender,j.kind];cases h3:e.Kind==3 with
   |false=>rfl
   |true=>rw[j.levels (eq_of_beq h3)]
  rw[hl]
end
structure Hr (l l':List Aa) (S:List Int):Prop where
 nodup:S.Nodup
 mem:∀x∈S,bQ l x=true/\bQ l' x=true/\Gl (ev l x) (ev l' x)
 prev:∀x∈S,∀a∈(ev l x).bG,a∈S
 auth:∀x∈S,∀a∈(ev l x).bI,a∈S
section
variable {l l':A8 Aa} {S:A8 Int} (h:Hr l l' S)
include h
theorem Hr.ids {ids:A8 Int}(hi:∀x∈ids,x∈S):J6 (ofIds l ids) (ofIds l' ids):=by
 induction ids with
 |nil=>exact .nil
 |cons x ids j=>
  obtain⟨q,k2,k3⟩:=h.mem x (hi x (Gz ..));unfold ofIds at j ⊢;rw[Uj,Uj,(J8 q).1,(J8 k2).1];exact .cons k3 (j λy u=>hi y (IE _ u))
theorem Hr.jf {x:Int}(j:x∈S):jf l' x=jf l x:=(h.mem x j).2.2.auth
theorem Hr.ch {ids:A8 Int}(hi:∀x∈ids,x∈S){x:Int}(q:Mc l ids x):x∈S/\Mc l' ids x:=by
 induction q with
 |one h1 h2 _=>
  have hs:=h.auth _ (hi _ h1) _ h2;exact⟨hs,.one h1 (by rw[h.jf (hi _ h1)];exact h2) (h.mem _ hs).2.1⟩
 |more _ h2 _ j=>
  have hs:=h.auth _ j.1 _ h2;exact⟨hs,.more j.2 (by rw[h.jf j.1];exact h2) (h.mem _ hs).2.1⟩
theorem Hr.ch' {ids:A8 Int}(hi:∀x∈ids,x∈S){x:Int}(q:Mc l' ids x):x∈S/\Mc l ids x:=by
 induction q with
 |one h1 h2 _=>
  rw[h.jf (hi _ h1)]at h2;have hs:=h.auth _ (hi _ h1) _ h2;exact⟨hs,.one h1 h2 (h.mem _ hs).1⟩
 |more _ h2 _ j=>
  rw[h.jf j.1]at h2;have hs:=h.auth _ j.1 _ h2;exact⟨hs,.more j.2 h2 (h.mem _ hs).1⟩
theorem Hr.chain {ids:A8 Int}(hi:∀x∈ids,x∈S):chainOf l' ids=chainOf l ids:=DK (a3m _ _) (a3m _ _) λx=>by
 rw[nN,nN];exact⟨λj=>(h.ch' hi j).2,λj=>(h.ch hi j).2⟩
theorem Hr.aEA {ids:A8 Int}(hi:∀x∈ids,x∈S):∀x∈chainOf l ids,x∈S:=λ_ j=>(h.ch hi (nN.1 j)).1
theorem Hr.from {e f:Aa}(j:Gl e f)(hi:∀x∈e.bI,x∈S):J6 (U8 l e) (U8 l' f):=by
 unfold U8;rw[aKg j,j.auth];refine J6.flat _ λk _=>?_;rcases(h.ids hi).find (p:=F9 k) (λx y h=>aDN h)with⟨h1,h2⟩|⟨x,y,h1,h2,h3,_⟩
 ·rw[h1,h2];exact .nil
 rw[h1,h2];exact .one h3
theorem Hr.fits {e f:Aa}(L:Gl e f)(hi:∀x∈e.bI,x∈S):Rj l' f=Rj l e:=by
 have hs:=h.ids hi
 have h1:e.bI.all (bQ l')=e.bI.all (bQ l):=by
  rw[Oz,En,En];exact⟨λ_ x z=>(h.mem x (hi x z)).1,λ_ x z=>(h.mem x (hi x z)).2.1⟩
 have h2:∀(I:A8 BO) {xs ys:A8 Aa},J6 xs ys->∀{q j:A8 Aa},J6 q j->LU I j ys=LU I q xs:=by
  intro I xs ys M
  induction M with
  |nil=>intro q j _;rfl
  | @cons x y xs ys z _ O=>
    intro q j hp;have hm:(I.any λk=>F9 k y)=I.any λk=>F9 k x:=BJ (λp=>I.any p) (funext λk=>aDN z)
    have hl:j.any (UK y)=q.any (UK x):=by
     rw[show UK y=UK x from funext λu=>by unfold UK;rw[z.kind,z.key]];exact hp.any λu v J=>by unfold UK;rw[J.kind,J.key]
    unfold LU;rw[O (hp.append (.one z)),hm,hl]
 unfold Rj;rw[L.auth,L.kind,L.room,aKg L,h1,hs.all (λx y h=>by rw[h.room]),h2 _ hs .nil,hs.any (λx y h=>by unfold RD;rw[h.kind,h.key])]
omit h in
theorem find_congr {p q:Int->Ad}:∀(l:A8 Int),(∀x∈l,p x=q x)->l.find? p=l.find? q
 | [],_=>rfl
 |x::l,h=>by rw[Xb,Xb,h x (Gz ..),find_congr l λy j=>h y (IE _ j)]
omit h in
theorem rE :∀{a b:A8 Int},a.Nodup->(∀x∈a,x∈b)->a.length<=b.length
 | [],_,_,_=>FB _
 |x::a,b,q,hs=>by
  have u:=hs x (Gz ..);obtain⟨h1,h2⟩:=KQ.1 q;have :=rE (b:=b.erase x) h2 λy j=>(List.mem_erase_of_ne λe=>h1 (by rw[←e];exact j)).2 (hs y (IE _ j))
  grind
theorem Hr.power {x:Int}(j:x∈S):Pg l' (ev l' x)=Pg l (ev l x):=by
 unfold Pg;rw[(h.mem x j).2.2.auth];refine find_congr _ λa ha=>?_;obtain⟨q,k2,k3⟩:=h.mem a (h.auth x j a ha);rw[q,k2,k3.kind]
theorem Hr.Dc:∀(n m:Nat) (seen:A8 Int) (id:Int),id∈S->seen.Nodup->(∀x∈seen,x∈S)->S.length<=seen.length+n->S.length<=seen.length+m->Dc l' m seen id=Dc l n seen id:=by
 have q:∀(seen:A8 Int) (id:Int),id∈S->seen.Nodup->(∀x∈seen,x∈S)->S.length<=seen.length->id∈seen:=λseen id j I hs hl=>by
  refine rV λz=>?_
  have :=rE (a:=id::seen) (b:=S) (KQ.2 ⟨z,I⟩) λx J=>by
   rcases FM.1 J with rfl|J
   ·exact j
   exact hs x J
  rw[GH]at this;omega
 have u:∀(l:A8 Aa) (n:Nat) (seen:A8 Int) (id:Int),id∈seen->Go.Proofs.YtfmoknlmaldmlaaGreat.Dc l n seen id=seen:=λl n seen id j=>by
  cases n with
  |zero=>rfl
  |succ n=>unfold Go.Proofs.YtfmoknlmaldmlaaGreat.Dc;rw[LV.2 j];rfl
 intro n
 induction n with
 |zero=>
  intro m seen id j I hs h1 _;have :=q seen id j I hs AQ;rw[u l' m seen id this,u l 0 seen id this]
 |succ n M=>
  intro m seen id j I hs h1 h2;by_cases z:id∈seen
  ·rw[u l' m seen id z,u l (n+1) seen id z]
  obtain⟨m,rfl⟩:∃O,m=O+1:=by
   cases m with
   |zero=>exact absurd (q seen id j I hs AQ) z
   |succ m=>exact⟨m,rfl⟩
  obtain⟨U,k2,k3⟩:=h.mem id j;unfold Go.Proofs.YtfmoknlmaldmlaaGreat.Dc;rw[Q7.2 z,U,k2,h.power j];cases hp:Pg l (ev l id)with
  |none=>rfl
  |some x=>
   have J:x∈S:=h.auth id j x (XV hp);refine M m (seen++[id]) x J (nE.2 ⟨I,Bf,λa ha b Y=>?_⟩) (λy L=>?_) aE3 aE3
   ·rw[Jd.1 Y];exact λe=>z (e▸ha)
   rcases Ie.1 L with L|L
   ·exact hs y L
   rw[Jd.1 L];exact j
theorem Hr.way {x:Int}(j:x∈S):ZC l' x=ZC l x:=by
 have h1:S.length<=l.length:=by
  have :=rE (b:=l.map (·.Id)) h.nodup λx j=>Hw.1 (h.mem x j).1
  grind
 have h2:S.length<=l'.length:=by
  have :=rE (b:=l'.map (·.Id)) h.nodup λx j=>Hw.1 (h.mem x j).2.1
  grind
 exact h.Dc _ _ [] x j .nil (λ_ h=>absurd h Gn) V7 LJ
theorem Hr.item {j:A8 Int}{x:Int}(q:x∈S):FV l' j x=FV l j x:=by
 unfold FV Rh;rw[h.way q,(h.mem x q).2.2.time]
theorem Hr.AU {j ids:A8 Int}(hi:∀x∈ids,x∈S):AU l' j ids=AU l j ids:=by
 unfold Go.Proofs.YtfmoknlmaldmlaaGreat.AU;rw[ZE (q:=bQ l) λx u=>by rw[(h.mem x (hi x u)).1,(h.mem x (hi x u)).2.1],lM λx u=>h.item (hi x (Gs.1 u).1)]
theorem Hr.Ik {full:A8 Int}(hi:∀x∈full,x∈S):Ik l' full=Ik l full:=by
 unfold Go.Proofs.YtfmoknlmaldmlaaGreat.Ik;refine ZE λx j=>?_;obtain⟨q,k2,k3⟩:=h.mem x (hi x j);unfold Xq;rw[q,k2,acE k3]
theorem Hr.WB {full:A8 Int}(hi:∀x∈full,x∈S):WB l' full=WB l full:=by
 unfold Go.Proofs.YtfmoknlmaldmlaaGreat.WB;rw[h.Ik hi,h.chain (ids:=Go.Proofs.YtfmoknlmaldmlaaGreat.Ik l full) λx j=>hi x (Gs.1 j).1]
theorem Hr.gQ {ids:A8 Int}(hi:∀x∈ids,x∈S):gQ l' ids=gQ l ids:=by
 unfold Go.Proofs.YtfmoknlmaldmlaaGreat.gQ;exact ZE λx j=>by rw[(h.mem x (hi x (Ld.1 j))).1,(h.mem x (hi x (Ld.1 j))).2.1]
theorem Hr.one {x:Int}(j:x∈S):chainOf l' [x]=chainOf l [x]:=h.chain λy q=>by rw[Jd.1 q];exact j
theorem Hr.node {x:Int}(j:x∈S):GK l' x=GK l x:=by
 obtain⟨_,_,k3⟩:=h.mem x j;unfold GK a1b;rw[aJA (h.from k3 (h.auth x j)),k3.sender,k3.time,h.one j]
omit h in
theorem aeB (l:A8 Aa)(left:A8 Int)(b:AB Int)(x:Int):IL l left b x=some x\/IL l left b x=b:=by
 unfold IL
 grind
theorem Hr.best {left:A8 Int}:∀(xs:A8 Int) (b:AB Int),(∀x∈xs,x∈S)->(∀y,b=some y->y∈S)->xs.foldl (IL l' left) b=xs.foldl (IL l left) b
 | [],_,_,_=>
     rfl
 |x::xs,b,j,z=>by
  have q:=j x (Gz ..)
  have e:IL l' left b x=IL l left b x:=by
   unfold IL fZ;rw[h.one q];cases b with
   |none=>
    rfl
   |some y=>
    simp only[h.node q,h.node (z y rfl)]
  rw[Fl,Fl,e];refine Hr.best xs _ (λy u=>j y (IE _ u)) λy u=>?_;rcases aeB l left b x with I|I
  ·grind
  grind
theorem Hr.tJ:∀(n:Nat) (left:A8 Int),(∀x∈left,x∈S)->tJ l' n left=tJ l n left
 |0,_,_=>rfl
 |n+1,left,hi=>by
  unfold Go.Proofs.YtfmoknlmaldmlaaGreat.tJ UZ;rw[h.best left none hi λ_ h=>Gu];cases left.foldl (IL l left) none with
  |none=>rfl
  |some b=>exact BJ _ (Hr.tJ n _ λx j=>hi x (Gs.1 j).1)
def MC (S:A8 Int)(s:A8 BO):Prop:=∀x∈s,x.Id∈S
theorem Hr.pick {s:A8 BO}(hs:MC S s){e f:Aa}(j:Gl e f)(hi:∀x∈e.bI,x∈S):J6 (U7 l s e) (U7 l' s f):=by
 unfold U7;rw[aKg j];refine J6.flat _ λk _=>?_;unfold U3 gZ;cases q:(Ht s k.Kind k.Key).2 with
 |true=>
  have hm:=aEm (s:=s) (k:=k.Kind) (key:=k.Key) (n:=(Ht s k.Kind k.Key).1) (Prod.ext rfl q);obtain⟨u,k2,k3⟩:=h.mem _ (hs _ hm)
  have z:I9 l (Ht s k.Kind k.Key).1=(ev l (Ht s k.Kind k.Key).1,true):=by
   have :=(J8 u).1;unfold ev I9 at this ⊢;rw[this]
  have I:I9 l' (Ht s k.Kind k.Key).1=(ev l' (Ht s k.Kind k.Key).1,true):=by
   have :=(J8 k2).1;unfold ev I9 at this ⊢;rw[this]
  simp only[Bj];rw[z,I];exact .one k3
 |false=>
  simp only[BQ];unfold fM;rw[j.auth];rcases(h.ids hi).find (p:=F9 k) (λx y h=>aDN h)with⟨h1,h2⟩|⟨x,y,h1,h2,h3,_⟩
  ·rw[h1,h2];exact .nil
  rw[h1,h2];exact .one h3
theorem Hr.apply {s:A8 BO}(hs:MC S s){x:Int}(j:x∈S):Po l' s x=Po l s x/\MC S (Po l s x):=by
 obtain⟨u,k2,k3⟩:=h.mem x j
 have e:UF l' s x=UF l s x:=by
  unfold UF;rw[u,k2,k3.kind,aCA k3 (h.pick hs k3 (h.auth x j))]
 unfold Po;rw[e,k3.kind,k3.key,k3.id];refine⟨rfl,?_⟩;cases UF l s x with
 |false=>exact hs
 |true=>
  intro y q;rcases UJ q with rfl|q
  ·show(ev l x).Id∈S;rw[(J8 u).2];exact j
  exact hs y q
theorem Hr.applies:∀(ids:A8 Int) (s:A8 BO),MC S s->(∀x∈ids,x∈S)->Q9 l' s ids=Q9 l s ids/\MC S (Q9 l s ids)
 | [],_,hs,_=>⟨rfl,hs⟩
 |x::ids,s,hs,hi=>by
  obtain⟨h1,h2⟩:=h.apply hs (hi x (Gz ..));unfold Q9;rw[Fl,Fl,h1];exact Hr.applies ids _ h2 λy j=>hi y (IE _ j)
theorem Hr.closure {s:A8 BO}(hs:MC S s):Fa l' s=Fa l s/\∀x∈Fa l s,x∈S:=by
 have hi:∀x∈V8 s,x∈S:=λx j=>by
  obtain⟨y,q,rfl⟩:=FT.1 j;exact hs y q
 unfold Fa;refine⟨by rw[h.chain hi],λx j=>?_⟩;rcases Xn.1 j with j|j
 ·exact hi x j
 exact h.aEA hi x j
theorem Hr.full {aY:A8 (A8 BO)}(hs:∀s∈aY,MC S s):KH l' aY=KH l aY/\∀x∈KH l aY,x∈S:=by
 have I:∀(q:A8 (A8 BO)) (a:A8 Int),(∀s∈q,MC S s)->q.foldl (λa s=>JH a (Fa l' s)) a=q.foldl (λa s=>JH a (Fa l s)) a:=by
  intro q
  induction q with
  |nil=>
   exact λ_ _=>rfl
  |cons s q M=>
   intro a J;rw[Fl,Fl,(h.closure (J s (Gz ..))).1];exact M _ λs hm=>J s (IE _ hm)
 have L:∀x,Je l' aY x=Je l aY x:=λx=>by
  unfold Je;exact List.countP_congr λs hm=>by rw[(h.closure (hs s hm)).1]
 have hd:PL l' aY=PL l aY:=by
  unfold PL allOf
  grind
 unfold KH;rw[hd];refine⟨rfl,λx j=>?_⟩;rcases Xn.1 j with j|j
 ·rw[Ld]at j;unfold TB at j;obtain⟨z,u,rfl⟩:=FT.1 j;obtain⟨s,hm,u⟩:=Vt.1 u;exact hs s hm z (Gs.1 u).1
 obtain⟨⟨s,hm,j⟩,_⟩:=aYM.1 j;exact(h.closure (hs s hm)).2 x j
omit h in
theorem aZh {aY:A8 (A8 BO)}(hs:∀s∈aY,MC S s):MC S (J3 aY):=by
 cases aY with
 |nil=>exact λ_ h=>absurd h Gn
 |cons s aY=>exact λx j=>hs s (Gz ..) x (Gs.1 j).1
theorem Hr.last {aY:A8 (A8 BO)}(hs:∀s∈aY,MC S s):lastOf l' aY=lastOf l aY/\MC S (lastOf l aY):=by
 obtain⟨f1,Z⟩:=h.full hs;have u:=aZh hs;have J:La l' aY=La l aY:=by unfold La;rw[f1,h.WB Z]
 have I:∀x∈La l aY,x∈S:=λx j=>Z x (a7R.1 j).1
 have hpo:MW l' aY=MW l aY:=by
  unfold MW;rw[J,h.gQ I];exact h.tJ _ _ λx j=>I x (Ns.1 j).1
 have M:∀x∈MW l aY,x∈S:=λx j=>I x (Ns.1 (aGO l _ _ j)).1;obtain⟨a1,a2⟩:=h.applies (MW l aY) (J3 aY) u M;have q:Iz l' aY=Iz l aY:=by unfold Iz;rw[hpo,a1]
 have O:V9 l' aY=V9 l aY:=by
  unfold V9;rw[q];cases hg:(Ht (Iz l aY) 3 CX).2 with
  |false=>rfl
  |true=>exact h.way (a2 _ (aEm (n:=(Ht (Iz l aY) 3 CX).1) (Prod.ext rfl hg)))
 have L:∀x∈Px (KH l aY) (La l aY),x∈S:=λx j=>Z x (aEd.1 j).1
 have U:LG l' aY=LG l aY:=by
  unfold LG;rw[O,f1,J,h.AU L]
 have Y:∀x∈LG l aY,x∈S:=λx j=>by
  unfold LG Go.Proofs.YtfmoknlmaldmlaaGreat.AU at j;obtain⟨y,hy,rfl⟩:=FT.1 j;obtain⟨z,hz,rfl⟩:=FT.1 ((dA ..).mem_iff.1 hy);exact L z (Gs.1 hz).1
 obtain⟨b1,b2⟩:=h.applies (LG l aY) (Iz l aY) a2 Y;unfold lastOf;rw[q,U,b1];refine⟨rfl,λx j=>?_⟩;rcases aIr _ _ j with j|j
 ·exact u x j
 exact b2 x j
theorem Hr.resolve {aY:A8 (A8 BO)}(hs:∀s∈aY,MC S s):Zk l' aY=Zk l aY/\MC S (Zk l aY):=by
 match aY,hs with
 | [],_=>exact⟨rfl,λ_ h=>absurd h Gn⟩
 | [s],hs=>exact⟨rfl,hs s (Gz ..)⟩
 |s::r::aY,hs=>exact h.last hs
theorem Hr.verdict {t t':A8 FH}{x:Int}(q:x∈S){s:A8 BO}(hs:MC S s)(M:∀a∈(ev l x).bI,errOf t' a=errOf t a):Oo l' t' (ev l' x) s=Oo l t (ev l x) s:=by
 obtain⟨O,k2,k3⟩:=h.mem x q
 have I:iZ l' (ev l' x)=iZ l (ev l x):=by
  unfold iZ;rw[h.fits k3 (h.auth x q),aCA k3 (h.from k3 (h.auth x q))]
 have j:(ev l' x).bI.any (λx=>errOf t' x != 0)=(ev l x).bI.any (λx=>errOf t x != 0):=by
  rw[k3.auth,Oz,Ip,Ip]
  grind
 have u:Lp (ev l' x) (LW l' s)=Lp (ev l x) (LW l s):=aCA k3 (h.ids λy J=>by
  obtain⟨z,L,rfl⟩:=FT.1 J
  exact hs z L)
 unfold Oo;rw[I,j,u]
theorem Hr.line {t t':A8 FH}{x:Int}(q:x∈S)(hp:∀a∈(ev l x).bG,JA t' a=JA t a/\MC S (JA t a))(z:∀a∈(ev l x).bI,errOf t' a=errOf t a):
 Ju l' t' (ev l' x)=Ju l t (ev l x)/\MC S (Ju l t (ev l x)).before/\MC S (Ju l t (ev l x)).after:=by
 obtain⟨I,k2,k3⟩:=h.mem x q
 have j:stB l' t' (ev l' x)=stB l t (ev l x)/\MC S (stB l t (ev l x)):=by
  have hm:(ev l x).bG.map (JA t')=(ev l x).bG.map (JA t):=lM λa ha=>(hp a ha).1;unfold stB;rw[k3.prev,hm]
  exact h.resolve λs hs=>by
   grind
 unfold Ju Yg;rw[j.1,h.verdict q j.2 z,k3.id,k3.kind,k3.key];refine⟨rfl,j.2,?_⟩;show MC S (bif Oo l t (ev l x) (stB l t (ev l x))==0&&J7 (ev l x).Kind then _ else _);cases(Oo l t (ev l x) (stB l t (ev l x))==0&&J7 (ev l x).Kind)with
 |false=>
  exact j.2
 |true=>
  intro y u;rcases UJ u with rfl|u
  ·show(ev l x).Id∈S;rw[(J8 I).2];exact q
  exact j.2 y u
end
def aYE (l:A8 Aa){t':A8 FH}(hp:∀a∈e.bG,JA t' a=JA t a)(u:∀a∈e.bI,errOf t' a=errOf t a):Ju l t' e=Ju l t e:=by
 have q:stB l t' e=stB l t e:=by
  unfold stB;rw[show e.bG.map (JA t')=e.bG.map (JA t)from lM hp]
 have j:e.bI.any (λx=>errOf t' x != 0)=e.bI.any (λx=>errOf t x != 0):=by
  rw[Oz,Ip,Ip]
  grind
 unfold Ju Oo;rw[q,j]
def aSU (l:A8 Aa):∀(ids:A8 Int) {t:A8 FH} {x:Int} {y:FH},FU t x=some y->FU (ids.foldl (λt id=>t++[Ju l t (ev l id)]) t) x=some y
 | [],_,_,_,h=>h
 |id::ids,_,_,_,h=>by rw[Fl];exact aSU l ids (agh h _)
def aVN {ids:A8 Int}{x:Int}{y:FH}(h:FU (Ih l (ids.take i)) x=some y):FU (Ih l ids) x=some y:=by
 have :Ih l ids=(ids.drop i).foldl (λt id=>t++[Ju l t (ev l id)]) (Ih l (ids.take i)):=by
  unfold Ih;rw[←VD,Ve]
 rw[this];exact aSU l _ h
def aCx (Y:KR l)(hd:Hz l=0){x:Int}(M:bQ l x=true):FU (DT l) x=some (Ju l (DT l) (ev l x)):=by
 obtain⟨i,hi,J⟩:=G8 (qY.2 M)
 have u:∀j,(Ih l ((JB l).take j)).map (·.id)=(JB l).take j:=λj=>by
  unfold Ih;rw[a4W l _ _ λx hx=>qY.1 (gJ hx)];rfl
 have z:(ev l x).Id=x:=(J8 M).2;have hm:ev l x∈l:=JZ (J8 M).1
 have I:∀a,bQ l a=true->(ev l a).Depth<(ev l x).Depth->∃y,FU (Ih l ((JB l).take i)) a=some y/\FU (DT l) a=some y:=λa k1 k2=>by
  have :=ag6 Y.nodup hi k1 (by rw[J];exact k2);cases hl:FU (Ih l ((JB l).take i)) a with
  |some y=>exact⟨y,rfl,aVN hl⟩
  |none=>rw[a0z,u]at hl;exact absurd this hl
 have q:FU (Ih l ((JB l).take i)) (Ju l (Ih l ((JB l).take i)) (ev l x)).id=none:=by
  show FU _ (ev l x).Id=none;rw[z,a0z,u];intro L;obtain⟨j,hj,e⟩:=G8 L;rw[H7]at hj;rw[nT,←J]at e;exact JQ.1 (jF.1 Y.order) j i AQ hi AQ e
 have h1:FU (Ih l ((JB l).take (i+1))) x=some (Ju l (Ih l ((JB l).take i)) (ev l x)):=by
  rw[aJL l hi,J,aAl q];have :(x==(Ju l (Ih l ((JB l).take i)) (ev l x)).id)=true:=by show(x==(ev l x).Id)=true;rw[z];exact NR _
  rw[this];rfl
 have h2:=aVN h1
 have h3:Ju l (DT l) (ev l x)=Ju l (Ih l ((JB l).take i)) (ev l x):=by
  obtain⟨Z,dp⟩:=o8 hd hm;refine aYE l (λa ha=>?_) λa ha=>?_
  ·obtain⟨y,O,U⟩:=I a (dp a ha).1 (dp a ha).2;unfold JA;rw[O,U]
  obtain⟨y,O,U⟩:=I a (Z a ha).1 (Z a ha).2;unfold errOf;rw[O,U]
 rw[h3];exact h2
variable {S:A8 Int}{l':A8 Aa}
def aIV (h:Hr l l' S)(q:KR l)(hd:Hz l=0)(u:KR l')(z:Hz l'=0):∀x∈S,FU (DT l') x=FU (DT l) x/\MC S (JA (DT l) x):=by
 have key:∀(n:Nat) (x:Int),x∈S->(ev l x).Depth<(n:Int)->FU (DT l') x=FU (DT l) x/\MC S (JA (DT l) x):=by
  intro n
  induction n with
  |zero=>
   intro x j M;have :=(q.dep _ (JZ (J8 (h.mem x j).1).1)).1;omega
  |succ n L=>
   intro x j M;obtain⟨I,k2,k3⟩:=h.mem x j;obtain⟨O,U⟩:=o8 hd (JZ (J8 I).1)
   obtain⟨Y,q2,Z⟩:=h.line j (t:=DT l) (t':=DT l') (λa ha=>by
    obtain⟨J,e2⟩:=L a (h.prev x j a ha) (by have :=(U a ha).2;omega)
    exact⟨by unfold JA;rw[J],e2⟩) λa ha=>by
    obtain⟨J,_⟩:=L a (h.auth x j a ha) (by have :=(O a ha).2;omega);unfold errOf;rw[J]
   rw[aCx q hd I,aCx u z k2,Y];exact⟨rfl,by unfold JA;rw[aCx q hd I];exact Z⟩
 intro x j;have :=(q.dep _ (JZ (J8 (h.mem x j).1).1)).2;exact key 100001 x j AQ
def aYQ (h:Hr l l' S)(J:KR l)(hd:Hz l=0)(u:KR l')(z:Hz l'=0)(ha:∀x∈Gv l (DT l),x∈S)(L:Gv l' (DT l')=Gv l (DT l)):O8 l' (DT l')=O8 l (DT l):=by
 have I:=aIV h J hd u z
 have M:Js l' (Gv l (DT l))=Js l (Gv l (DT l)):=by
  unfold Js;refine ZE λx _=>?_;congr 1;rw[Oz,Ip,Ip]
  have e:∀y∈Gv l (DT l),JL l' x y=JL l x y:=λy O=>by
   obtain⟨U,k2,k3⟩:=h.mem y (ha y O);unfold JL;rw[U,k2,k3.prev]
  grind
 have j:∀x∈Js l (Gv l (DT l)),x∈S:=λx q=>ha x (Ld.1 (Gs.1 q).1)
 have hm:(Js l (Gv l (DT l))).map (JA (DT l'))=(Js l (Gv l (DT l))).map (JA (DT l)):=lM λx q=>by
  unfold JA;rw[(I x (j x q)).1]
 unfold O8;rw[L,M,hm]
 exact(h.resolve λs hs=>by
  obtain⟨x,q,rfl⟩:=FT.1 hs
  exact(I x (j x q)).2).1
def aEs (l:A8 Aa)(t:A8 FH):Gv l t=(l.map (·.Id)).filter (Hd t):=by
 unfold Gv;rw[List.filter_map];rfl
variable {S:Type}{b c d l:A8 Int}{j:Ad}{m:Int}{n s:BP}{u:Nat}
section
def Ud (n:Int):Int:=if n<0 then bits .xor .u64 IntKind.u64.max (IntKind.u64.wrap (IntKind.u64.wrap n*2))else IntKind.u64.wrap (IntKind.u64.wrap n*2)
def a09 (n:Int):0<=Ud n/\Ud n<18446744073709551616:=by
 unfold Ud;have h2:∀x:Int,0<=IntKind.u64.wrap x/\IntKind.u64.wrap x<18446744073709551616:=λx=>by rw[qG];omega
 split
 ·obtain⟨j,u⟩:=h2 (IntKind.u64.wrap n*2);generalize IntKind.u64.wrap (IntKind.u64.wrap n*2)=y at *;obtain⟨k,rfl⟩:=Int.eq_ofNat_of_zero_le j;have :(IntKind.u64.max:Int)=((18446744073709551615:Nat):Int):=Bl
  rw[this,bits_xor_u64_nat _ _ AQ AQ];have :18446744073709551615^^^k<2^64:=Nat.xor_lt_two_pow AQ AQ;constructor
  ·exact aEQ _
  have q:(2:Nat)^64=18446744073709551616:=Bl
  omega
 exact h2 _
def PG (u:Nat):A8 Int:=if u<128 then[(u:Int)]else((u % 128+128:Nat):Int)::PG (u/128)
termination_by u
decreasing_by omega
def kX (h:u<128):PG u=[(u:Int)]:=by rw[PG,ET h]
def aJO (h:¬u<128):PG u=((u % 128+128:Nat):Int)::PG (u/128):=by rw[PG,Ef h]
def aNm :∀(j u:Nat),u<128^(j+1)->(PG u).length<=j+1
 |0,u,h=>by rw[kX OO];simp
 |j+1,u,h=>by
  by_cases q:u<128
  ·rw[kX q];simp
  rw[aJO q]
  have :u/128<128^(j+1):=by
   rw[Nat.div_lt_iff_lt_mul AQ];rw[Nat.pow_succ]at h;exact h
  have :=aNm j (u/128) this;simp;omega
def enc (n:Int):A8 Int:=PG (Ud n).toNat
def RN (n:Int):(enc n).length<=10:=by
 have h:=(a09 n).2;refine aNm 9 _ ?_;have :(128:Nat)^10=1180591620717411303424:=Bl
 rw[this];have :=(a09 n).1;omega
def aiP (k:Nat):bits .or .u8 ((k:Int) % 256) 128=((k % 128+128:Nat):Int):=by
 have h:=u8_or_nat (k % 256) 128 AQ AQ;rw[show((k:Int) % 256)=((k % 256:Nat):Int)from by omega];have j:(128:Int)=((128:Nat):Int):=rfl;rw[j,h];congr 1;have key:∀x,x<256->x|||128=x % 128+128:=OV
 rw[key _ AQ];omega
def vO (u c:Int):Int:=(IntKind.u64.wrap (bits .xor .u64 u (IntKind.u64.wrap c)*1099511628211)).tmod 4611686018427387904
def aNJ (x:Int):bits .and .u64 (IntKind.u64.wrap x) 4611686018427387903=(IntKind.u64.wrap x).tmod 4611686018427387904:=by
 rw[qG];have h:=bits_mask .u64 64 Bl (λn q h1=>by rw[qG];omega) 62 Bl (x % 18446744073709551616) AQ AQ;have e:((2:Int)^62-1)=4611686018427387903:=Bl
 have j:((2:Int)^62)=4611686018427387904:=Bl
 rw[aUQ AQ];simpa[e,j]using h
def aZ8 (u c:Int):bits .and .u64 (IntKind.u64.wrap (bits .xor .u64 u (IntKind.u64.wrap c)*1099511628211)) 4611686018427387903=vO u c:=aNJ _
def a6u (op:BinOp)(k:IntKind)(x y:Int)(h:op=.and\/op=.or\/op=.xor):F8 op k x y=bits op k x y:=by
 rcases h with rfl|rfl|rfl<;>rfl
def OY {b:Nat}{l m:A8 α}(j:b<=100)(h:(l++m).length<=1099511627776):DC b l m=some (l++m):=by
 refine Dz ?_;rw[Ee]at h;have :(l.length+m.length)*b<=1099511627776*100:=a1m h j;omega
def amw (u:Nat):F8 .or .u8 (IntKind.u8.wrap (u:Int)) 128=((u % 128+128:Nat):Int):=by
 rw[a6u _ _ _ _ (.inr (.inl rfl)),show IntKind.u8.wrap (u:Int)=(u:Int) % 256 from by rw[lK],aiP]
def adH (u:Nat):QZ .shr .u64 (u:Int) 7=some ((u/128:Nat):Int):=by
 unfold QZ;rw[Ef AQ];show some ((u:Int).fdiv (2^7))=_
 grind
def aQB {n:Nat}(h:u<128^(n+1+1)):u/128<128^(n+1):=by
 grind
def ala :∀(n u:Nat),u<128^(n+1)->∀m b,n<m->(b++PG u).length<=1099511627776->aP Wu m b (u:Int)=some (b++PG u):=by
 intro n
 induction n with
 |zero=>
  intro u q m b hm j;obtain⟨m,rfl⟩:∃z,m=z+1:=⟨m-1,AQ⟩
  have h:u<128:=XP
  rw[kX h]at j ⊢;show Wu (aP Wu m) b (u:Int)=_;simp only[Wu,show decide ((u:Int)>=128)=false from by simp;omega,BQ];rw[show IntKind.u8.wrap (u:Int)=(u:Int)from by rw[lK];omega,OY AQ j];rfl
 |succ n J=>
  intro u q m b hm j;obtain⟨m,rfl⟩:∃z,m=z+1:=⟨m-1,AQ⟩
  show Wu (aP Wu m) b (u:Int)=_;by_cases h:u<128
  ·rw[kX h]at j ⊢;simp only[Wu,show decide ((u:Int)>=128)=false from by simp;omega,BQ];rw[show IntKind.u8.wrap (u:Int)=(u:Int)from by rw[lK];omega,OY AQ j];rfl
  rw[aJO h]at j ⊢;have e:(b++((u % 128+128:Nat):Int)::PG (u/128))=(b++[((u % 128+128:Nat):Int)])++PG (u/128):=Bf
  have I:(b++[((u % 128+128:Nat):Int)]).length<=1099511627776:=by simp only[Ee,GH,QM]at j ⊢;omega
  simp only[Wu,show decide ((u:Int)>=128)=true from by simp;omega,Bj,amw,OY (show 1<=100 by omega) I,adH,Aj];rw[e];exact J (u/128) (aQB q) m _ AQ (by rw[←e];exact j)
def aYo :∀(n u:Nat),u<128^(n+1)->u<18446744073709551616->∀m b,n<m->(b++PG u).length<=1099511627776->aP Xk m (u:Int) b=some (b++PG u):=by
 intro n
 induction n with
 |zero=>
  intro u q _ m b hm j;obtain⟨m,rfl⟩:∃z,m=z+1:=⟨m-1,AQ⟩
  have h:u<128:=XP
  rw[kX h]at j ⊢;show Xk (aP Xk m) (u:Int) b=_;simp only[Xk,show decide ((u:Int)>=128)=false from by simp;omega,BQ];rw[show IntKind.u8.wrap (u:Int)=(u:Int)from by rw[lK];omega,OY AQ j];rfl
 |succ n J=>
  intro u q L m b hm j;obtain⟨m,rfl⟩:∃z,m=z+1:=⟨m-1,AQ⟩
  show Xk (aP Xk m) (u:Int) b=_;by_cases h:u<128
  ·rw[kX h]at j ⊢;simp only[Xk,show decide ((u:Int)>=128)=false from by simp;omega,BQ];rw[show IntKind.u8.wrap (u:Int)=(u:Int)from by rw[lK];omega,OY AQ j];rfl
  rw[aJO h]at j ⊢;have e:(b++((u % 128+128:Nat):Int)::PG (u/128))=(b++[((u % 128+128:Nat):Int)])++PG (u/128):=Bf
  have I:(b++[((u % 128+128:Nat):Int)]).length<=1099511627776:=by simp only[Ee,GH,QM]at j ⊢;omega
  have M:XY (u:Int) 128=some ((u % 128:Nat):Int):=by unfold XY;rw[Ef AQ,aUQ AQ];congr 1
  have O:uU .u64 (u:Int) 128=some ((u/128:Nat):Int):=by
   unfold uU;rw[Ef AQ,Int.tdiv_eq_ediv_of_nonneg AQ];congr 1;rw[qG];omega
  have U:IntKind.u8.wrap (IntKind.u64.wrap (((u % 128:Nat):Int)+128))=((u % 128+128:Nat):Int):=by rw[qG,lK];omega
  simp only[Xk,show decide ((u:Int)>=128)=true from by simp;omega,Bj,M,U,O,OY (show 1<=100 by omega) I,Aj];rw[e];exact J (u/128) (aQB q) AQ m _ AQ (by rw[←e];exact j)
def aXB (x:Int):QZ .shl .u64 x 1=some (IntKind.u64.wrap (x*2)):=rfl
def aN0 (x:Int):jT .u64 x=bits .xor .u64 IntKind.u64.max x:=rfl
def aNh (n:Int):(Ud n).toNat<128^(9+1):=by
 have j:=a09 n
 grind
def aU7 :9<Az:=oM
def number_eq {n:Int}(h:(b++enc n).length<=1099511627776):ZY b n=some (b++enc n):=by
 have u:=a09 n
 have j:aVW b (Ud n)=some (b++enc n):=by
  have :=ala 9 (Ud n).toNat (aNh n) Az b aU7 h
  rwa [Int.toNat_of_nonneg u.1]at this
 unfold ZY;rw[aXB,Aj];unfold a1W;unfold Ud at j;by_cases q:n<0
 ·rw[ET q]at j;rw[show decide (n<0)=true by simpa using q,Bj,aN0];exact j
 grind
def aZo (n:Int):([]++enc n).length<=1099511627776:=by have :=RN n;simp only[JJ];omega
def aRZ (n:Int):rY n=some (enc n):=by
 have u:=a09 n
 have j:aNp (Ud n) []=some (enc n):=by
  have :=aYo 9 (Ud n).toNat (aNh n) AQ Az [] aU7 (aZo n)
  rwa [Int.toNat_of_nonneg u.1]at this
 unfold rY;rw[aXB,Aj];unfold a8J;unfold Ud at j;by_cases q:n<0
 ·rw[ET q]at j;rw[show decide (n<0)=true by simpa using q,Bj,aN0];exact j
 grind
def wz {m:Nat}(h:b.length+m<=1099511627776):Za b (m:Int)=some b:=by
 unfold Za;rw[Oh AQ AQ];unfold Jg;rw[ET ⟨AQ,AQ,AQ⟩];simp[gCopy]
def a4u {a:A8 Int}(h:(a++b).length<=1099511627776):a.length<=1099511627776:=by rw[Ee]at h;omega
def JM (s:BP):A8 Int:=enc s.size++DL s
def text_eq (h:(b++JM s).length<=1099511627776):xK b s=some (b++JM s):=by
 unfold JM at h ⊢;rw[←JO]at h ⊢;unfold xK;rw[number_eq (a4u h),Aj,OY AQ h];rfl
def wH {n:Int}(h:b.length+10<=1099511627776):Ov b n=some (b++enc n):=by
 have :=RN n;unfold Ov;rw[show(10:Int)=((10:Nat):Int)from rfl,wz AQ,Aj,number_eq Lj];rfl
def YQ {n:Int}(h:b.length+10<=1099511627776):Me b n=some (b++enc n):=by
 have :=RN n;unfold Me;rw[OY AQ a3b,Aj,aRZ,Aj,JJ,OY AQ Lj];rfl
def wV (s:BP):(JM s).length<=s.size+10:=by
 have :=RN s.size;unfold JM;rw[Ee,JI];omega
def ac0 (h:b.length+s.size+10<=1099511627776):TM b s=some (b++JM s):=by
 have :=wV s;unfold TM;rw[Oh AQ AQ,show(s.size:Int)+10=((s.size+10:Nat):Int) by omega,wz AQ,Aj,text_eq Lj];rfl
def aLM (h:b.length+s.size+10<=1099511627776):RY b s=some (b++JM s):=by
 have :=wV s;unfold RY;rw[YQ AQ,Aj,OY AQ (by unfold JM at this;rw[Ee]at this;rw[Ee,Ee];omega)];simp[JM]
def adB (h:b.length+10<=1099511627776):Zb b j=some (b++[bif j then 1 else 0]):=by
 unfold Zb;rw[show(1:Int)=((1:Nat):Int)from rfl,wz AQ,Aj];cases j<;>simp only[Bj,BQ]<;>rw[OY AQ aH8]<;>rfl
def adS (h:b.length+10<=1099511627776):pF b j=some (b++[bif j then 1 else 0]):=by
 unfold pF;rw[OY AQ a3b,Aj,JJ];cases j<;>simp only[Bj,BQ]<;>rw[OY AQ aH8]<;>rfl
def aEb {body:(A8 Int->Int->AB (A8 Int))->A8 Int->Int->AB (A8 Int)}(l:A8 α)(hl:l.length<Az)(g:α->A8 Int)(z:∀k b (i:Nat) (h:i<l.length),(b++g l[i]).length<=1099511627776->body k b (i:Int)=k (b++g l[i]) (BA ((i:Int)+1)))(I:∀k b,body k b (l.length:Int)=some b)(b:A8 Int)(j:(b++l.flatMap g).length<=1099511627776):
 aP body Az b 0=some (b++l.flatMap g):=by
 have L:Az=9223372036854775808:=rfl
 have key:∀n (i:Nat) b,i+n=l.length->(b++(l.drop i).flatMap g).length<=1099511627776->∀m,n<m->aP body m b (i:Int)=some (b++(l.drop i).flatMap g):=by
  intro n
  induction n with
  |zero=>
   intro i b hi j m hm;obtain⟨m,rfl⟩:∃u,m=u+1:=⟨m-1,AQ⟩
   have :i=l.length:=AQ
   subst this;show body (aP body m) _ _=_;rw[I,PS];simp
  |succ n J=>
   intro i b hi j m hm;obtain⟨m,rfl⟩:∃u,m=u+1:=⟨m-1,AQ⟩
   have q:i<l.length:=AQ
   rw[Nj q,P5,←JO]at j ⊢;show body (aP body m) _ _=_;rw[z _ _ i q (a4u j),wrap_succ i AQ];exact J (i+1) _ AQ j m AQ
 exact key l.length 0 b AQ j Az hl
def Qs (l:A8 Int):A8 Int:=enc l.length++l.flatMap enc
def Sv (l:A8 BP):A8 Int:=enc l.length++l.flatMap JM
def aaC (h:(b++Qs l).length<=1099511627776)(hl:l.length<=1000):a7t b l=some (b++Qs l):=by
 have q:Az=9223372036854775808:=rfl;unfold Qs at h ⊢;rw[←JO]at h ⊢;unfold a7t;rw[number_eq (a4u h),Aj];unfold aNN;refine aEb l AQ enc (λk b i hi j=>?_) (λk b=>?_) _ h
 ·simp only[aE2,dec_lt hi,Bj,CU hi,number_eq j,Aj]
 simp only[aE2,DZ,BQ]
def adq {l:A8 BP}(h:(b++Sv l).length<=1099511627776)(hl:l.length<=1000000000):a1z b l=some (b++Sv l):=by
 have q:Az=9223372036854775808:=rfl;unfold Sv at h ⊢;rw[←JO]at h ⊢;unfold a1z;rw[number_eq (a4u h),Aj];unfold aSz;refine aEb l AQ JM (λk b i hi j=>?_) (λk b=>?_) _ h
 ·simp only[aKV,dec_lt hi,Bj,CU hi,text_eq j,Aj]
 simp only[aKV,DZ,BQ]
def aA5 {α:Type}{g:α->A8 Int}{m:Nat}:∀{l:A8 α},(∀x∈l,(g x).length<=m)->(l.flatMap g).length<=l.length*m
 | [],_=>Bf
 |x::l,h=>by
  rw[P5,Ee,GH,dV];have :=h x Gz;have :=aA5 (l:=l) (λy j=>h y (IE _ j));omega
def aLE (l:A8 Int):(Qs l).length<=l.length*10+10:=by
 have h1:=RN l.length;have h2:=aA5 (g:=enc) (m:=10) (l:=l) (λx _=>RN x);unfold Qs;rw[Ee];omega
def abR (j:b.length+20000<=1099511627776)(hl:l.length<=1000):Z5 b l=some (b++Qs l):=by
 have h1:=aLE l;unfold Z5;rw[Oh (x:=2*(l.length:Int)) AQ AQ,Oh AQ AQ,show 2*(l.length:Int)+10=((2*l.length+10:Nat):Int) by omega,wz AQ,Aj,aaC Lj hl];rfl
def am8 (q:b.length+20000<=1099511627776)(hl:l.length<=1000):lC b l=some (b++Qs l):=by
 have u:Az=9223372036854775808:=rfl;have h1:=aLE l;have h:(b++Qs l).length<=1099511627776:=Lj
 unfold Qs at h ⊢;rw[←JO]at h ⊢;unfold lC;rw[YQ AQ,Aj];unfold aUM;refine aEb l AQ enc (λk b i hi j=>?_) (λk b=>?_) _ h
 ·simp only[aC9,dec_lt hi,Bj,CU hi,aRZ,OY (show 1<=100 by omega) j,Aj]
 simp only[aC9,DZ,BQ]
def SG (l:A8 BP):Nat:=(l.map λs=>s.size).sum+l.length
def Wj (l:A8 IV):Nat:=(l.map λu=>u.User.size).sum+l.length
def UL (c:D6):Nat:=c.Text.size+c.Via.size+SG c.Allow+SG c.iy+Wj c.Levels.Users+c.Levels.Kinds.length
def ajp (l:A8 BP):(Sv l).length<=10*SG l+10:=by
 have h1:=RN l.length
 have key:∀l:A8 BP,(l.flatMap JM).length<=10*SG l:=by
  intro l
  induction l with
  |nil=>exact FB _
  |cons s l j=>
   have h2:=wV s;unfold SG at j ⊢;rw[P5,Ee,Gh,Rch,GH];omega
 have :=key l;unfold Sv;rw[Ee];omega
structure QL (c:D6):Prop where
 allow:c.Allow.length<=100
 deny:c.iy.length<=100
 users:c.Levels.Users.length<=100
 kinds:c.Levels.Kinds.length<=100
 text:c.Text.size<=2000
 via:c.Via.size<=2000
 allows:∀x∈c.Allow,x.size<=2000
 denies:∀x∈c.iy,x.size<=2000
 names:∀x∈c.Levels.Users,x.User.size<=2000
def Ey.content (h:Ey e):QL e.Content:=⟨h.allow,h.deny,h.users,h.kinds,h.text,h.via,h.allows,h.denies,h.names⟩
section
variable {b:A8 Int} {k:Nat}
def VO (h:b.length<=k)(j:k<=1000000000)(n:Int):Ov b n=some (b++enc n)/\Me b n=some (b++enc n)/\(b++enc n).length<=k+10:=by
 have :=RN n;exact⟨wH AQ,YQ AQ,Lj⟩
def aMZ (h:b.length<=k)(q:k<=1000000000)(j:Ad):Zb b j=some (b++[bif j then 1 else 0])/\pF b j=some (b++[bif j then 1 else 0])/\(b++[bif j then(1:Int)else 0]).length<=k+10:=
 ⟨adB AQ,adS AQ,aH8⟩
def Y1 (h:b.length<=k)(j:k<=1000000000)(m:Nat)(hs:s.size<=m)(hm:m<=1000000000):TM b s=some (b++JM s)/\RY b s=some (b++JM s)/\(b++JM s).length<=k+m+10:=by
 have :=wV s;exact⟨ac0 AQ,aLM AQ,Lj⟩
def aLt (h:b.length<=k)(j:k<=1000000000)(hl:l.length<=100):Z5 b l=some (b++Qs l)/\lC b l=some (b++Qs l)/\(b++Qs l).length<=k+1010:=by
 have :=aLE l;exact⟨abR AQ AQ,am8 AQ AQ,Lj⟩
end
def uV {R:Type}{body:(A8 Int->Int->AB R)->A8 Int->Int->AB R}(l:A8 α)(hl:l.length<Az)(g:α->A8 Int)(C:Nat)(j:A8 Int->AB R)(b:A8 Int)(I:(b++l.flatMap g).length<=C)(J:∀k a (i:Nat) (h:i<l.length),(a++g l[i]).length<=C->body k a (i:Int)=k (a++g l[i]) (BA ((i:Int)+1)))(L:∀k a,a.length<=C->body k a (l.length:Int)=j a):
 aP body Az b 0=j (b++l.flatMap g):=by
 have O:Az=9223372036854775808:=rfl
 have key:∀n (i:Nat) b,i+n=l.length->(b++(l.drop i).flatMap g).length<=C->∀m,n<m->aP body m b (i:Int)=j (b++(l.drop i).flatMap g):=by
  intro n
  induction n with
  |zero=>
   intro i b hi q m hm;obtain⟨m,rfl⟩:∃z,m=z+1:=⟨m-1,AQ⟩
   have :i=l.length:=AQ
   subst this;show body (aP body m) _ _=_;rw[PS,List.flatMap_nil,UC]at q ⊢;exact L _ _ q
  |succ n M=>
   intro i b hi q m hm;obtain⟨m,rfl⟩:∃z,m=z+1:=⟨m-1,AQ⟩
   have u:i<l.length:=AQ
   rw[Nj u,P5,←JO]at q ⊢;show body (aP body m) _ _=_;rw[J _ _ i u (by rw[Ee]at q;omega),wrap_succ i AQ];exact M (i+1) _ AQ q m AQ
 exact key l.length 0 b AQ I Az hl
def aE5 (s:BP):s.size<=(JM s).length:=by
 unfold JM;rw[Ee,JI];omega
section
variable {b:A8 Int} {k:Nat}
def aQ3 (h:b.length<=k)(u:k<=1000000000){l:A8 BP}(m:Nat)(hl:SG l<=m)(hm:m<=10000000):Fn1 b l=some (b++Sv l)/\uZ b l=some (b++Sv l)/\(b++Sv l).length<=k+10*m+10:=by
 have z:Az=9223372036854775808:=rfl;have h1:=ajp l;have h2:l.length<=SG l:=Nat.le_add_left ..;have h3:(b++Sv l).length<=k+10*m+10:=Lj
 refine⟨?_,?_,h3⟩
 ·unfold Fn1;rw[Oh (x:=8*(l.length:Int)) AQ AQ,Oh AQ AQ,show 8*(l.length:Int)+10=((8*l.length+10:Nat):Int) by omega,wz AQ,Aj,adq AQ AQ];rfl
 have j:(b++Sv l).length<=2000000000:=AQ
 unfold Sv at j ⊢;rw[←JO]at j ⊢;unfold uZ aTs;rw[YQ AQ,Aj];refine uV (body:=a7M l) l AQ JM 2000000000 some _ j (λk a i hi q=>?_) λk a _=>?_
 ·have :=aE5 l[i];rw[Ee]at q;unfold a7M;rw[DF hi,aLM AQ,Aj]
 unfold a7M
 grind
end
def TN (u:IV):A8 Int:=JM u.User++enc u.N
def Qm (u:Jv):A8 Int:=enc u.Kind++enc u.N
def Kr (l:Ch):A8 Int:=[l.User,l.Message,l.State,l.gX,l.kR,l.oN,l.ig]
def aYI (b:A8 Int)(l:Ch):A8 Int:=b++enc l.Users.length++l.Users.flatMap TN++enc l.Kinds.length++l.Kinds.flatMap Qm++(Kr l).flatMap enc
def X4 (c:D6):A8 Int:=aYI ([]++JM c.Text++enc c.N++enc c.Target++[bif c.Thread then 1 else 0]++JM c.Via++Sv c.Allow++Sv c.iy) c.Levels
def afD (u:Jv):(Qm u).length<=20:=by
 have :=RN u.Kind;have :=RN u.N;unfold Qm;rw[Ee];omega
def aM4 {R:Type}{body:(A8 Int->Int->AB R)->A8 Int->Int->AB R}(l:A8 α)(hl:l.length<=1000)(g:α->A8 Int)(m:Nat)(hm:∀x∈l,(g x).length<=m)(j:A8 Int->AB R)(b:A8 Int)(q:∀k a (i:Nat) (h:i<l.length),a.length<=b.length+i*m->body k a (i:Int)=k (a++g l[i]) (BA ((i:Int)+1)))(u:∀k a,a.length<=b.length+l.length*m->body k a (l.length:Int)=j a):aP body Az b 0=j (b++l.flatMap g)/\(b++l.flatMap g).length<=b.length+l.length*m:=by
 constructor
 ·rw[Iq l AQ (λa x=>a++g x) (λi a=>a.length<=b.length+i*m) j AQ (λk a i h z=>⟨?_,q k a i h z⟩) u,foldl_append g]
  grind
 have :=aA5 hm;rw[Ee];omega
set_option maxRecDepth 20000
set_option maxHeartbeats 1000000
def ah0 (l:A8 IV):(l.flatMap TN).length<=20*Wj l:=by
 induction l with
 |nil=>exact FB _
 |cons s l j=>
  have h1:=wV s.User;have h2:=RN s.N;have h3:(TN s).length=(JM s.User).length+(enc s.N).length:=Ee ..;unfold Wj at j ⊢;rw[P5,Ee,Gh,Rch,GH];omega
def ai5 (c:D6)(b:A8 Int)(z:b.length<=90000000):(aCc c b 0=some (b++(Kr c.Levels).flatMap enc)/\aEX (Kr c.Levels) b 0=some (b++(Kr c.Levels).flatMap enc))/\(b++(Kr c.Levels).flatMap enc).length<=b.length+70:=by
 have q:∀i:Nat,(h:i<(Kr c.Levels).length)->Au ([c.Levels.User,c.Levels.Message,c.Levels.State,c.Levels.gX,c.Levels.kR,c.Levels.oN,c.Levels.ig]:A8 Int) (i:Int)=some (Kr c.Levels)[i]:=λi h=>CU h
 have h1:=aM4 (body:=aDk c) (Kr c.Levels) (by simp[Kr]) enc 10 (λx _=>RN x) some b (λk a i h j=>by
  have u:i<7:=h;unfold aDk
  rw[KC (show(i:Int)<7 by omega),Bj,q i h,Aj,wH AQ,Aj]) λk a j=>rfl
 have h2:=aM4 (body:=a5Z (Kr c.Levels)) (Kr c.Levels) (by simp[Kr]) enc 10 (λx _=>RN x) some b (λk a i h j=>by
  have u:i<7:=h;unfold a5Z
  rw[DF h,YQ AQ,Aj]) λk a j=>by unfold a5Z;rw[DZ];rfl
 exact⟨⟨h1.1,h2.1⟩,h1.2⟩
def aki (c:D6)(b:A8 Int)(z:b.length<=60000000)(I:c.Levels.Kinds.length<=1048576):(aIW c b 0=some (b++c.Levels.Kinds.flatMap Qm++(Kr c.Levels).flatMap enc)/\aI2 c b 0=some (b++c.Levels.Kinds.flatMap Qm++(Kr c.Levels).flatMap enc))/\(b++c.Levels.Kinds.flatMap Qm++(Kr c.Levels).flatMap enc).length<=b.length+c.Levels.Kinds.length*20+70:=by
 have J:Az=9223372036854775808:=rfl
 have hl:(b++c.Levels.Kinds.flatMap Qm).length<=b.length+c.Levels.Kinds.length*20:=by
  have :=aA5 (g:=Qm) (m:=20) (l:=c.Levels.Kinds) λx _=>afD x
  grind
 have h1:=uV (body:=a6T c) c.Levels.Kinds AQ Qm 90000000 (λa=>aCc c a 0) b AQ (λk a i h j=>by
  have ha:a.length<=90000000:=by rw[Ee]at j;omega
  obtain⟨q,_,u⟩:=VO ha AQ c.Levels.Kinds[i].Kind;unfold a6T
  rw[DF h,q,Aj,wH AQ,Aj,JO];rfl) λk a j=>by unfold a6T;rw[DZ];rfl
 have h2:=uV (body:=a2t c) c.Levels.Kinds AQ Qm 90000000 (λa=>aEX (Kr c.Levels) a 0) b AQ (λk a i h j=>by
  have ha:a.length<=90000000:=by rw[Ee]at j;omega
  obtain⟨_,q,u⟩:=VO ha AQ c.Levels.Kinds[i].Kind;unfold a2t
  rw[DF h,q,Aj,CU h,Aj,YQ AQ,Aj,JO];rfl) λk a j=>by unfold a2t aJj;rw[DZ,BQ,Aj];rfl
 have h3:=ai5 c (b++c.Levels.Kinds.flatMap Qm) AQ;exact⟨⟨h1.trans h3.1.1,h2.trans h3.1.2⟩,EI h3.2 AQ⟩
def ak5 (c:D6)(b:A8 Int)(M:b.length<=30000000)(O:Wj c.Levels.Users<=1048576)(u:c.Levels.Kinds.length<=1048576):(aUd c b 0=some (b++c.Levels.Users.flatMap TN++enc c.Levels.Kinds.length++c.Levels.Kinds.flatMap Qm++(Kr c.Levels).flatMap enc)/\aWl c b 0=some (b++c.Levels.Users.flatMap TN++enc c.Levels.Kinds.length++c.Levels.Kinds.flatMap Qm++(Kr c.Levels).flatMap enc))/\(b++c.Levels.Users.flatMap TN++enc c.Levels.Kinds.length++c.Levels.Kinds.flatMap Qm++(Kr c.Levels).flatMap enc).length<=90000000:=by
 have U:Az=9223372036854775808:=rfl;have Y:=ah0 c.Levels.Users;have z:c.Levels.Users.length<=Wj c.Levels.Users:=Nat.le_add_left ..;have hl:(b++c.Levels.Users.flatMap TN).length<=b.length+20*Wj c.Levels.Users:=Lj
 have h1:=uV (body:=a4r c) c.Levels.Users AQ TN 90000000 (λa=>aIW c (a++enc c.Levels.Kinds.length) 0) b AQ (λk a i h j=>by
  have I:=aE5 c.Levels.Users[i].User;have ha:a.length+(JM c.Levels.Users[i].User).length<=90000000:=aRW
  obtain⟨q,_,J⟩:=Y1 (b:=a) (k:=90000000) AQ AQ (s:=c.Levels.Users[i].User) 90000000 AQ AQ;unfold a4r
  rw[DF h,q,Aj,wH AQ,Aj,JO];rfl) λk a j=>by unfold a4r;rw[DZ,BQ,wH AQ,Aj]
 have h2:=uV (body:=a3T c) c.Levels.Users AQ TN 90000000 (λa=>aI2 c (a++enc c.Levels.Kinds.length) 0) b AQ (λk a i h j=>by
  have I:=aE5 c.Levels.Users[i].User;have ha:a.length+(JM c.Levels.Users[i].User).length<=90000000:=aRW
  obtain⟨_,q,J⟩:=Y1 (b:=a) (k:=90000000) AQ AQ (s:=c.Levels.Users[i].User) 90000000 AQ AQ;unfold a3T
  rw[DF h,q,Aj,CU h,Aj,YQ AQ,Aj,JO];rfl) λk a j=>by unfold a3T;rw[DZ,BQ,YQ AQ,Aj]
 have Z:=RN (c.Levels.Kinds.length:Int);have L:(b++c.Levels.Users.flatMap TN++enc c.Levels.Kinds.length).length<=60000000:=Lj
 have h3:=aki c (b++c.Levels.Users.flatMap TN++enc c.Levels.Kinds.length) L u;exact⟨⟨h1.trans h3.1.1,h2.trans h3.1.2⟩,EI h3.2 AQ⟩
def aVn {c:D6}(h:UL c<=1048576):oQ c=some (X4 c)/\jr c=some (X4 c)/\(X4 c).length<=90000000:=by
 unfold UL at h;obtain⟨j,q,h1⟩:=Y1 (b:=[]) (k:=0) (EW _) AQ (s:=c.Text) 1048576 AQ AQ;obtain⟨u,z,h2⟩:=VO h1 AQ c.N;obtain⟨I,J,h3⟩:=VO h2 AQ c.Target;obtain⟨L,M,O⟩:=aMZ h3 AQ c.Thread;obtain⟨U,Y,Z⟩:=Y1 O AQ (s:=c.Via) 1048576 AQ AQ;obtain⟨a6,b6,h6⟩:=aQ3 Z AQ (l:=c.Allow) 1048576 AQ AQ;obtain⟨a7,b7,h7⟩:=aQ3 h6 AQ (l:=c.iy) 1048576 AQ AQ;obtain⟨a8,b8,h8⟩:=VO h7 AQ (c.Levels.Users.length:Int);obtain⟨⟨a9,b9⟩,h9⟩:=ak5 c _ (EI h8 AQ) AQ AQ;refine⟨?_,?_,h9⟩
 ·unfold oQ;rw[j,Aj,u,Aj,I,Aj,L,Aj,U,Aj,a6,Aj,a7,Aj,a8,Aj];exact a9
 unfold jr;rw[q,Aj,z,Aj,J,Aj,M,Aj,Y,Aj,b6,Aj,b7,Aj,b8,Aj];exact b9
def aDt {l:A8 BP}(h:∀s∈l,s.size<=2000)(k:l.length<=100):SG l<=200100:=by
 have key:∀l:A8 BP,(∀s∈l,s.size<=2000)->(l.map λs=>s.size).sum<=2000*l.length:=by
  intro l
  induction l with
  |nil=>exact λ_=>FB _
  |cons s l j=>
   intro h;have h1:=h s (Gz ..);have h2:=j λs hs=>h s (IE _ hs);rw[Gh,Rch,GH];omega
 have :=key l h;unfold SG;omega
def QL.asP {c:D6}(h:QL c):UL c<=1048576:=by
 have h1:=aDt h.allows h.allow;have h2:=aDt h.denies h.deny;have h3:=aDt (l:=c.Levels.Users.map (·.User)) (by simpa using h.names) (by rw[Df];exact h.users);have j:Wj c.Levels.Users=SG (c.Levels.Users.map (·.User)):=by unfold Wj SG;rw[cO,Df];rfl
 have :=h.kinds;have :=h.text;have :=h.via;unfold UL;omega
def afK {c:D6}(j:QL c):oQ c=some (X4 c)/\jr c=some (X4 c)/\(X4 c).length<=90000000:=aVn j.asP
def aB2 (e:Aa):A8 Int:=
 []++enc e.Id++JM e.Room++JM e.bM++enc e.Kind++[bif e.State then 1 else 0]++JM e.Key++enc e.Time++enc e.Depth++Qs e.bG++Qs e.bI++JM (TT (X4 e.Content))++enc e.Hash++JM e.sH.Server++enc e.sH.Sum
def am6 (l:A8 Int):(TT l).size=l.length:=by
 have key:∀(l:A8 Int) (r:BP),(l.foldl (λr n=>r.push (UInt8.ofNat n.toNat)) r).size=r.size+l.length:=by
  intro l
  induction l with
  |nil=>intro r;rfl
  |cons x l j=>intro r;rw[Fl,j,ByteArray.size_push,GH];omega
 unfold TT;rw[key];simp
def a2p {body:(Int->S->AB S)->Int->S->AB S}(l:A8 α)(hl:l.length<1000)(f:S->α->AB S)(u:∀k (i:Nat) (h:i<l.length) s,body k (i:Int) s=(f s l[i]).bind λx=>k (BA ((i:Int)+1)) x)(z:∀k s,body k (l.length:Int) s=some s)(s:S):aP body Az 0 s=l.foldlM f s:=by
 have J:Az=9223372036854775808:=rfl
 have key:∀n (i:Nat) s,i+n=l.length->∀m,n<m->aP body m (i:Int) s=(l.drop i).foldlM f s:=by
  intro n
  induction n with
  |zero=>
   intro i s hi m hm;obtain⟨m,rfl⟩:∃q,m=q+1:=⟨m-1,AQ⟩
   have :i=l.length:=AQ
   subst this;rw[PS];exact z _ _
  |succ n I=>
   intro i s hi m hm;obtain⟨m,rfl⟩:∃q,m=q+1:=⟨m-1,AQ⟩
   have j:i<l.length:=AQ
   rw[Nj j,VJ];show body (aP body m) _ _=(f s l[i]).bind _;rw[u _ i j,wrap_succ i AQ];congr 1;funext x;exact I (i+1) x AQ m AQ
 exact key l.length 0 s AQ Az AQ
def aPV (w:Fp)(l:A8 Int)(hl:l.length<1000):Us w l=l.foldlM pG w:=by
 unfold Us aOJ;exact a2p l hl _ (λk i h s=>by simp only[aCj,dec_lt h,Bj,CU h,Aj]) (λk s=>by simp only[aCj,DZ,BQ]) w
def aVy (w:Fp)(l:A8 BP)(hl:l.length<1000):Wv w l=l.foldlM pS w:=by
 unfold Wv aN7;exact a2p l hl _ (λk i h s=>by simp only[aEj,dec_lt h,Bj,CU h,Aj]) (λk s=>by simp only[aEj,DZ,BQ]) w
def akO (w:Fp)(l:A8 Ad)(hl:l.length<1000):zW w l=l.foldlM uh w:=by
 unfold zW aQs;exact a2p l hl _ (λk i h s=>by simp only[aBY,dec_lt h,Bj,CU h,Aj]) (λk s=>by simp only[aBY,DZ,BQ]) w
def acK (w:Fp)(l:A8 (A8 Int))(hl:l.length<1000):a0l w l=l.foldlM og w:=by
 unfold a0l aSf;exact a2p l hl _ (λk i h s=>by simp only[aGN,dec_lt h,Bj,CU h,Aj]) (λk s=>by simp only[aGN,DZ,BQ]) w
def aIp {n:Int}(h:Ov b n=some c):pG ⟨b⟩ n=some ⟨c⟩:=by unfold pG;rw[h];rfl
def aEl (h:TM b n=some c):pS ⟨b⟩ n=some ⟨c⟩:=by unfold pS;rw[h];rfl
def aeC {n:Ad}(h:Zb b n=some c):uh ⟨b⟩ n=some ⟨c⟩:=by unfold uh;rw[h];rfl
def aQI {n:A8 Int}(h:Z5 b n=some c):og ⟨b⟩ n=some ⟨c⟩:=by unfold og;rw[h];rfl
def a4O {n:Int}(h:Ov b n=some c):Us ⟨b⟩ [n]=some ⟨c⟩:=by
 rw[aPV _ _ Bf,VJ,aIp h];rfl
def ak9 {n:Int}(h:Ov b n=some c)(k:Ov c m=some d):Us ⟨b⟩ [n,m]=some ⟨d⟩:=by
 rw[aPV _ _ Bf,VJ,aIp h];show(pG ⟨c⟩ m).bind _=_;rw[aIp k];rfl
def aDg (h:TM b n=some c):Wv ⟨b⟩ [n]=some ⟨c⟩:=by
 rw[aVy _ _ Bf,VJ,aEl h];rfl
def aZu {m:BP}(h:TM b n=some c)(k:TM c m=some d):Wv ⟨b⟩ [n,m]=some ⟨d⟩:=by
 rw[aVy _ _ Bf,VJ,aEl h];show(pS ⟨c⟩ m).bind _=_;rw[aEl k];rfl
def aYV {n:Ad}(h:Zb b n=some c):zW ⟨b⟩ [n]=some ⟨c⟩:=by
 rw[akO _ _ Bf,VJ,aeC h];rfl
def aYl {n m:A8 Int}(h:Z5 b n=some c)(k:Z5 c m=some d):a0l ⟨b⟩ [n,m]=some ⟨d⟩:=by
 rw[acK _ _ Bf,VJ,aQI h];show(og ⟨c⟩ m).bind _=_;rw[aQI k];rfl
def afh (j:Ey e):xk e=some (aB2 e)/\zS e=some (aB2 e)/\(aB2 e).length<=200000000:=by
 obtain⟨ac,bc,hc⟩:=afK j.content;obtain⟨a1,b1,h1⟩:=VO (b:=[]) (k:=0) (EW _) AQ e.Id;obtain⟨a2,b2,h2⟩:=Y1 h1 AQ 2000 j.room AQ;obtain⟨a3,b3,h3⟩:=Y1 h2 AQ 2000 j.sender AQ;obtain⟨a4,b4,h4⟩:=VO h3 AQ e.Kind;obtain⟨a5,b5,h5⟩:=aMZ h4 AQ e.State;obtain⟨a6,b6,h6⟩:=Y1 h5 AQ 2000 j.key AQ;obtain⟨a7,b7,h7⟩:=VO h6 AQ e.Time;obtain⟨a8,b8,h8⟩:=VO h7 AQ e.Depth;obtain⟨a9,b9,h9⟩:=aLt h8 AQ (EI j.prev AQ);obtain⟨q,u,z⟩:=aLt h9 AQ (EI j.auth AQ);obtain⟨I,J,L⟩:=Y1 z AQ (s:=TT (X4 e.Content)) 90000000 (by rw[am6];exact hc) AQ;obtain⟨M,O,U⟩:=VO L AQ e.Hash;obtain⟨Y,Z,h13⟩:=Y1 U AQ 2000 j.server AQ;obtain⟨a14,b14,h14⟩:=VO h13 AQ e.sH.Sum;refine⟨?_,?_,EI h14 AQ⟩
 ·unfold xk
  rw[show Us aIj [e.Id]=_ from a4O a1,Aj,aZu a2 a3,Aj,a4O a4,Aj,aYV a5,Aj,aDg a6,Aj,ak9 a7 a8,Aj,aYl a9 q,Aj,
   ac,Aj,aDg I,Aj,a4O M,Aj,aDg Y,Aj,a4O a14,Aj]
  rfl
 unfold zS;rw[b1,Aj,b2,Aj,b3,Aj,b4,Aj,b5,Aj,b6,Aj,b7,Aj,b8,Aj,b9,Aj,u,Aj,bc,Aj,J,Aj,O,Aj,Z,Aj,b14,Aj];rfl
end
def a5t (l:A8 Int):Int:=BA (l.foldl vO ((IntKind.u64.wrap 860922984064492325).tmod 4611686018427387904))
def aLp (hl:l.length<=1000000000):a0b l=some (a5t l):=by
 unfold a0b aBe;rw[Aj];unfold aD6 aUO
 rw[a6u _ _ _ _ (.inl rfl),aNJ,Iq l AQ vO (λ_ _=>True) (λs=>some (BA s)) trivial (λk s i h _=>⟨trivial,by
  simp only[aHb,dec_lt h,Bj,CU h,Aj,a6u _ _ _ _ (.inl rfl),a6u _ _ _ _ (.inr (.inr rfl)),aZ8]⟩) λk s _=>by
  simp only[aHb,DZ,BQ]]
 rfl
def aQX (hl:l.length<=1000000000):a0s l=some (a5t l):=by
 unfold a0s;rw[show aDM=some 860922984064492325 from rfl,Aj];unfold aBQ aWv
 rw[show XY (IntKind.u64.wrap 860922984064492325) 4611686018427387904=some ((IntKind.u64.wrap 860922984064492325).tmod 4611686018427387904)from rfl,Aj,Iq l AQ vO (λ_ _=>True) (λs=>some (BA s)) trivial (λk s i h _=>⟨trivial,by
  have e:XY (IntKind.u64.wrap ((F8 .xor .u64 s (IntKind.u64.wrap l[i]))*1099511628211)) 4611686018427387904=some (vO s l[i]):=rfl
  simp only[aHa,dec_lt h,Bj,CU h,Aj,e]⟩) λk s _=>by
  simp only[aHa,DZ,BQ]]
 rfl
def Oc (k:Int)(c:D6):D6:=
 if k=1 then c else if k=2 then{ Eo with N:=c.N,Via:=c.Via }else if k=3 then{ Eo with Levels:=c.Levels }else if k=4 then{ Eo with N:=c.N,Allow:=c.Allow }else
 if k=5 then{ Eo with N:=c.N }else if k=6 then{ Eo with Allow:=c.Allow,iy:=c.iy }else if k=14 then{ Eo with Target:=c.Target }else Eo
def aLo {R:Type}(a b:Int)(x y:R):(bif a==b then x else y)=if a=b then x else y:=by
 by_cases h:a=b
 ·subst h;simp
 have :(a==b)=false:=OO
 rw[this,Ef h];rfl
def aPZ {R:Type}(p:Prop)[Decidable p](x y:R):(if p then some x else some y)=some (if p then x else y):=by split<;>rfl
def aBw (k:Int)(c:D6):a0x k c=some (Oc k c):=by
 unfold a0x Oc;simp only[aLo,aPZ]
def a0C {l:A8 BP}(h:l.length<=1048576):U0 l=some l:=by
 unfold U0;rw[OY AQ a3b];rfl
def aOE {l:Ch}(h1:l.Users.length<=1048576)(h2:l.Kinds.length<=1048576):dU l=some l:=by
 unfold dU;rw[OY AQ a3b,Aj,OY AQ (by rw[JJ];exact EI h2 AQ)];rfl
def a8u (k:Int):Int:=if k=2 then 18 else if k=3 then 128 else if k=4 then 34 else if k=5 then 2 else if k=6 then 96 else if k=14 then 4 else 0
def ae2 (k:Int):kM k=some (a8u k):=by
 by_cases h2:k=2
 ·subst h2;rfl
 by_cases h3:k=3
 ·subst h3;rfl
 by_cases q:k=4
 ·subst q;rfl
 by_cases u:k=5
 ·subst u;rfl
 by_cases j:k=6
 ·subst j;rfl
 unfold kM qV a8u;simp only[aLo,h2,h3,q,u,j,LH,show(k==6)=false from by simpa using j,BQ,aPZ]
variable {c:D6}
def aQi (k:Int)(h:UL c<=1048576):l9 k c=some (Oc k c):=by
 unfold UL SG Wj at h;have q:c.Allow.length<=1048576:=AQ
 have J:c.iy.length<=1048576:=AQ
 have L:c.Levels.Users.length<=1048576:=AQ
 have M:c.Levels.Kinds.length<=1048576:=AQ
 by_cases h1:k=1
 ·subst h1;show(U0 c.Allow).bind (λO=>(U0 c.iy).bind λU=>(dU c.Levels).bind λY=>some ({ { { c with Allow:=O }with iy:=U }with Levels:=Y }))=_;rw[a0C q,Aj,a0C J,Aj,aOE L M];rfl
 unfold l9;rw[show(k==1)=false from by simpa using h1,BQ,ae2,Aj];by_cases h2:k=2
 ·subst h2;rfl
 by_cases h3:k=3
 ·subst h3;show(dU c.Levels).bind (λx=>some { Eo with Levels:=x })=_;rw[aOE L M];rfl
 by_cases u:k=4
 ·subst u;show(U0 c.Allow).bind (λx=>some { Eo with N:=c.N,Allow:=x })=_;rw[a0C q];rfl
 by_cases z:k=5
 ·subst z;rfl
 by_cases I:k=6
 ·subst I;show(U0 c.Allow).bind (λx=>(U0 c.iy).bind λy=>some { Eo with Allow:=x,iy:=y })=_;rw[a0C q,Aj,a0C J];rfl
 by_cases j:k=14
 ·subst j;rfl
 have Z:a8u k=0:=by unfold a8u;simp only[h2,h3,u,z,I,j,LH]
 have e2:Oc k c=Eo:=by unfold Oc;simp only[h1,h2,h3,u,z,I,j,LH]
 rw[Z,e2];rfl
def aTC (k:Int)(j:QL c):l9 k c=some (Oc k c):=aQi k j.asP
def QL.strip (h:QL c)(k:Int):QL (Oc k c):=by
 have j:(0:Nat)<=2000:=AQ
 unfold Oc
 repeat' split
 all_goals first|exact h|exact⟨by simp[Eo,KX,h.allow],by simp[Eo,KX,h.deny],by simp[Eo,KX,h.users],by simp[Eo,KX,h.kinds],by first|exact h.text|exact j,by first|exact h.via|exact j,by first|exact h.allows|simp[Eo],by first|exact h.denies|simp[Eo],by first|exact h.names|simp[Eo,KX]⟩
def SY (e:Aa):Aa:={ e with Content:=Oc e.Kind e.Content }
def Wn (e:Aa):Prop:=Ey { e with sH:=jP }
def Wn.content {e:Aa}(h:Wn e):QL e.Content:=Ey.content (e:={ e with sH:=jP }) h
def Ey.x (h:Ey e):Wn e:=⟨h.prev,h.auth,h.allow,h.deny,h.users,h.kinds,h.room,h.sender,h.key,h.text,h.via,FB _,h.allows,h.denies,h.names⟩
def akL (j:Wn e):gy e=some (SY e)/\YG e=some (SY e):=by
 unfold gy YG;rw[aTC _ j.content,aBw];exact⟨rfl,rfl⟩
def Y0 (e:Aa):Int:=a5t (X4 e.Content)
def a5S (e:Aa):Aa:={ { SY e with Id:=0 }with sH:=jP }
def aUA (e:Aa):Int:=a5t (aB2 (a5S e))
def Wn.bare (h:Wn e):Ey (a5S e):=by
 have j:=h.content.strip e.Kind;exact⟨h.prev,h.auth,j.allow,j.deny,j.users,j.kinds,h.room,h.sender,h.key,j.text,j.via,by show(0:Nat)<=2000;omega,j.allows,j.denies,j.names⟩
def ai6 (h:UL e.Content<=1048576):yu e=some (Y0 e)/\a8q e=some (Y0 e):=by
 obtain⟨a,b,hl⟩:=aVn h;unfold yu a8q;rw[a,b,Aj,Aj,aLp AQ,aQX AQ];exact⟨rfl,rfl⟩
def a2Z (h:UL e.Content<=1048576):TG e=some (Y0 e==e.Hash)/\VQ e=some (Y0 e==e.Hash):=by
 obtain⟨a,b⟩:=ai6 h;unfold TG VQ;rw[a,b];exact⟨rfl,rfl⟩
def aOA (j:Wn e):vK e=some (aUA e)/\a8E e=some (aUA e):=by
 obtain⟨a,b⟩:=akL j;obtain⟨c,d,h⟩:=afh j.bare;unfold vK a8E;rw[a,b,Aj,Aj];show(xk (a5S e)).bind _=_/\(zS (a5S e)).bind _=_;rw[c,d,Aj,Aj,aLp AQ,aQX AQ];exact⟨rfl,rfl⟩
def Sr (s:BP):Int:=bif IX s 64 then 0 else 3
def Rx (s:BP):Int:=bif IX s 33 then 0 else 3
def Z9 (hs:s.size<=9223372036854775807):dZ s=some (Sr s)/\bK s=some (Sr s):=by
 unfold dZ wE bK Sr;rw[aK7 hs (marks:=aB9) (by rw[show DL aB9=[64]from rfl];intro m hm;simp only[FM,Gn,or_false]at hm;omega),a1x hs Bl,show((DL aB9).any λm=>IX s m)=(IX s 64||false)from rfl];cases IX s 64<;>exact⟨rfl,rfl⟩
def pY (hs:s.size<=9223372036854775807):iK s=some (Rx s)/\eM s=some (Rx s):=by
 unfold iK wE eM Rx;rw[aK7 hs (marks:=a6m) (by rw[show DL a6m=[33]from rfl];intro m hm;simp only[FM,Gn,or_false]at hm;omega),a1x hs Bl,show((DL a6m).any λm=>IX s m)=(IX s 33||false)from rfl];cases IX s 33<;>exact⟨rfl,rfl⟩
def aaR (h:YN l=true):(58:Int)∉l:=by
 intro hm;unfold YN Rn at h;simp only[DR,En]at h;have :=h.2 58 hm;exact absurd this Bl
def ahn (s:BP)(hs:s.size<=2000):(splitB s (L9 s)).1.size<=2000/\(58:Int)∉DL (splitB s (L9 s)).1/\(splitB s (L9 s)).2.1.size<=2000:=by
 have q:CX.size<=2000:=Bl
 cases h:L9 s with
 |false=>exact⟨q,by show(58:Int)∉DL CX;decide,q⟩
 |true=>
  have j:WE s=true:=by
   unfold L9 IX at h;cases j:WE s with
   |true=>rfl
   |false=>rw[j]at h;simp at h
  refine⟨EI (extract_size _ _ _) hs,aaR ?_,EI (extract_size _ _ _) hs⟩;unfold WE at j;simp only[DR]at j;exact j.1.2
def any_false (l:A8 α):(l.any λ_=>false)=false:=Bf
def aC6 {body:(Int->AB Ad)->Int->AB Ad}(l:A8 α)(hl:l.length<=1000)(rest:AB Ad)(j:∀k (i:Nat) (h:i<l.length),body k (i:Int)=k (BA ((i:Int)+1)))(q:∀k,body k (l.length:Int)=rest):bn body Az 0=rest:=by
 rw[Hl l (aHM AQ) (λ_=>false) false rest (λk i h=>by rw[j k i h];rfl) q,any_false];rfl
def ak2 {l:A8 BP}(h:l.length<=1000):VE l l=some true:=by
 unfold VE a7h;rw[show((l.length:Int) != (l.length:Int))=false from by simp,BQ];exact aC6 l h _ (λk i h=>aV5) (λk=>aBS)
structure KO (c:D6):Prop where
 allow:c.Allow.length<=9223372036854775807
 deny:c.iy.length<=9223372036854775807
 users:c.Levels.Users.length<=9223372036854775807
 kinds:c.Levels.Kinds.length<=9223372036854775807
 text:c.Text.size<=9223372036854775807
 via:c.Via.size<=9223372036854775807
 allows:∀x∈c.Allow,x.size<=9223372036854775807
 denies:∀x∈c.iy,x.size<=9223372036854775807
 names:∀x∈c.Levels.Users,x.User.size<=9223372036854775807
structure L6 (e:Aa):Prop where
 prev:e.bG.length<=9223372036854775807
 auth:e.bI.length<=9223372036854775807
 room:e.Room.size<=9223372036854775807
 sender:e.bM.size<=9223372036854775807
 key:e.Key.size<=9223372036854775807
 server:e.sH.Server.size<=9223372036854775807
 content:KO e.Content
def QL.wide (h:QL c):KO c:=by
 obtain⟨I,J,L,M,O,U,q,u,z⟩:=h;exact⟨AQ,AQ,AQ,AQ,AQ,AQ,λx j=>by have :=q x j;omega,λx j=>by have :=u x j;omega,λx j=>by have :=z x j;omega⟩
def Ey.wide {e:Aa}(h:Ey e):L6 e:=by
 have h1:=h.prev;have h2:=h.auth;have h3:=h.room;have j:=h.sender;have q:=h.key;have u:=h.server;exact⟨AQ,AQ,AQ,AQ,AQ,AQ,h.content.wide⟩
def aAT (k:Int):yx k=some (decide (k>=1)&&(k<=14))/\l7 k=some (decide (k>=1)&&(k<=14)):=by
 unfold yx l7
 grind
def TD (n:Int):Ad:=decide (n< -1000)||(n>1000)
def a6n (n:Int):lT n=some (TD n)/\TV n=some (TD n):=by
 unfold lT TV TD
 grind
def SH (c:Int):Ad:=decide (c<33)||(c>126)
def a6C (s:BP):(s.toList==CX.toList)=((s.size:Int)==0):=by
 rw[Ja];by_cases h:s=CX
 ·subst h;rfl
 have :¬s.size=0:=λj=>h (bytes_inj (by
  have h1:DL s=[]:=He (by rw[JI];exact j)
  rw[h1];rfl))
 grind
def a2N (s:BP):Int:=if s.size=0 then 9 else if s.size>64 then 7 else bif (DL s).any SH then 3 else 0
def aDx (hs:s.size<=9223372036854775807):a01 s=some (a2N s)/\lQ s=some (a2N s):=by
 have j:aBd s 0=some (bif (DL s).any SH then 3 else 0):=by
  unfold aBd;rw[Hl (DL s) Yb SH 3 (some 0) (λk i h=>?_) (λk=>?_),Lu]
  ·have h':i<s.size:=Xy
   simp only[aIC,dec_lt h',Bj,WH h,Aj,SH]
   grind
  simp only[aIC,JI,DZ,BQ]
 have q:aCk s 0=some (bif (DL s).any SH then 3 else 0):=by
  unfold aCk;rw[Hl (DL s) Yb SH 3 (some 0) (λk i h=>?_) (λk=>?_),Lu]
  ·have h':i<s.size:=Xy
   simp only[aIi,dec_lt h',Bj,WH h,Aj,SH]
   grind
  simp only[aIi,JI,DZ,BQ]
 unfold a01 lQ a2N;rw[a6C,j,q]
 grind
def wR (s:BP):Ad:=decide ((s.size:Int)>=1)&&((s.size:Int)<=32)&& !(DL s).any SH
def agW (hs:s.size<=9223372036854775807):a8H s=some (wR s):=by
 unfold a8H aWg;rw[Hl (DL s) Yb SH false (some (decide ((s.size:Int)>=1)&&((s.size:Int)<=32))) (λk i h=>?_) (λk=>?_)]
 ·unfold wR
  grind
 ·have h':i<s.size:=Xy
  simp only[aHe,dec_lt h',Bj,WH h,Aj,SH]
  grind
 simp only[aHe,JI,DZ,BQ]
 grind
def Vk (k:Int)(s:BP):Ad:=if k=2 then Sr s==0 else if k=9 then wR s else true
variable {k:Int}
def aTr (hs:s.size<=9223372036854775807):a3i k s=some (Vk k s):=by
 have q:aL1 s 0=some (bif (DL s).any SH then false else true):=by
  unfold aL1;rw[Hl (DL s) Yb SH false (some true) (λk i h=>?_) (λk=>?_),Lu]
  ·have h':i<s.size:=Xy
   simp only[aEO,dec_lt h',Bj,WH h,Aj,SH]
   grind
  simp only[aEO,JI,DZ,BQ]
 unfold a3i Vk;rw[(Z9 hs).2,q];by_cases h2:k=2
 ·subst h2;rfl
 rw[show(k==2)=false from by simpa using h2,Ef h2,BQ];by_cases j:k=9
 ·subst j;unfold wR
  grind
 rw[show(k != 9)=true from by simpa using j,Ef j];rfl
def amV (j:L6 e):a6U e=some (Rx e.Room==0&&Sr e.bM==0&&Vk e.Kind e.Key):=by
 have h1:=j.room;have h2:=j.sender;have h3:=j.key;unfold a6U Vk;rw[(pY AQ).1,(Z9 (s:=e.bM) AQ).1,(Z9 (s:=e.Key) AQ).1,agW AQ];simp only[Aj,bne];cases Rx e.Room==0 with
 |false=>rfl
 |true=>
  cases Sr e.bM==0 with
  |false=>rfl
  |true=>
   by_cases k2:e.Kind=2
   ·rw[k2];rfl
   by_cases q:e.Kind=9
   ·rw[q];rfl
   rw[show(e.Kind==2)=false from by simpa using k2,show(e.Kind==9)=false from by simpa using q,Ef k2,Ef q];rfl
def EH {R:Type}(x y:AB R):Prop:=∃r,x=some r/\y=some r
section
variable {A R:Type}
def EH.ret (r:R):EH (some r) (some r):=⟨r,rfl,rfl⟩
def EH.bind {a b:AB A}{f g:A->AB R}(h:EH a b)(k:∀x,EH (f x) (g x)):EH (a.bind f) (b.bind g):=by
 obtain⟨x,rfl,rfl⟩:=h;exact k x
def EH.bif {c:Ad}{x y j q:AB R}(h1:c=true->EH x j)(h2:c=false->EH y q):EH (bif c then x else y) (bif c then j else q):=by
 grind
def Ij:=@EH.bif
def EH.loop {f g:(Int->AB R)->Int->AB R}(n:Nat)(u:n<=9223372036854775807)(hs:∀k k' (i:Nat),i<n->EH (k ((i+1:Nat):Int)) (k' ((i+1:Nat):Int))->EH (f k (i:Int)) (g k' (i:Int)))(j:∀k k',EH (f k (n:Int)) (g k' (n:Int))):EH (bn f Az 0) (bn g Az 0):=by
 have z:Az=9223372036854775808:=rfl
 have key:∀m (i:Nat),i+m=n->∀a,m<a->EH (bn f a (i:Int)) (bn g a (i:Int)):=by
  intro m
  induction m with
  |zero=>
   intro i hi a ha;obtain⟨a,rfl⟩:∃a',a=a'+1:=⟨a-1,AQ⟩
   have :i=n:=AQ
   subst this;exact j _ _
  |succ m q=>
   intro i hi a ha;obtain⟨a,rfl⟩:∃a',a=a'+1:=⟨a-1,AQ⟩
   exact hs _ _ i AQ (q (i+1) AQ a AQ)
 exact key n 0 AQ Az AQ
end
def yA (h:i<=9223372036854775806):BA ((i:Int)+1)=((i+1:Nat):Int):=wrap_succ i AQ
def wQ {l:A8 α}(h:i<l.length)(hl:l.length<=9223372036854775807)(j:decide ((i:Int)>0)=true):Au l (BA ((i:Int)-1))=some (l[i-1]' AQ):=by
 have j:0<i:=Vf
 rw[Oh AQ AQ,show(i:Int)-1=((i-1:Nat):Int) by omega];exact CU AQ
def aVG (hl:l.length<=9223372036854775807):EH (a0G l) (dz l):=by
 unfold a0G aNW dz aGW;refine EH.loop l.length hl (λk k' i h j=>?_) (λk k'=>?_)
 ·simp only[aDs,a4S,gY,dec_lt h,Bj,CU h,Aj,yA (show i<=9223372036854775806 by omega)];cases decide (l[i]<0)with
  |true=>exact .ret _
  |false=>
   simp only[BQ];cases q:decide ((i:Int)>0)with
   |true=>
    simp only[Bj,wQ h hl q,Aj,ge_iff_le];cases decide (l[i]<=l[i-1])with
    |true=>exact .ret _
    |false=>exact j
   |false=>exact j
 simp only[aDs,a4S,DZ,BQ];exact .ret _
def aUe {l:A8 BP}(hl:l.length<=9223372036854775807)(hs:∀s∈l,s.size<=9223372036854775807):EH (XD l) (UD l):=by
 unfold XD UD;refine Ij (λ_=>.ret _) λ_=>?_;unfold aTq aDd;refine EH.loop l.length hl (λk k' i h j=>?_) (λk k'=>?_)
 ·obtain⟨q,u⟩:=aDx (s:=l[i]) (by have :=hs _ (EZ h);omega);simp only[aGB,wU,dec_lt h,Bj,CU h,Aj,q,u,yA (show i<=9223372036854775806 by omega)];exact Ij (λ_=>.ret _) λ_=>j
 simp only[aGB,wU,DZ,BQ];exact .ret _
def aZb (j:KO c):EH (Y4 4 c) (jS c):=by
 have hl:=j.allow;unfold Y4 jS;rw[show((4:Int)==6)=false from rfl,BQ];refine EH.bind (Ij (λ_=>.ret _) λ_=>.ret _) λx=>Ij (λ_=>.ret _) λ_=>Ij (λ_=>.ret _) λ_=>?_;unfold aMf aLj;refine EH.loop c.Allow.length AQ (λk k' i h q=>?_) (λk k'=>?_)
 ·obtain⟨u,z⟩:=pY (s:=c.Allow[i]) (by have :=j.allows _ (EZ h);omega);simp only[aGe,a1o,ug,dec_lt h,Bj,CU h,Aj,u,z,yA (show i<=9223372036854775806 by omega)];refine Ij (λ_=>.ret _) λ_=>?_;cases I:decide ((i:Int)>0)with
  |true=>
   simp only[Bj,wQ h (show c.Allow.length<=9223372036854775807 by omega) I,Aj];exact Ij (λ_=>.ret _) λ_=>q
  |false=>exact q
 simp only[aGe,a1o,DZ,BQ];exact .ret _
def ag3 {l:A8 IV}(hl:l.length<=9223372036854775807)(hs:∀u∈l,u.User.size<=9223372036854775807):EH (a5K l) (au l):=by
 unfold a5K au;refine Ij (λ_=>.ret _) λ_=>?_;unfold aLk aJv;refine EH.loop l.length hl (λk k' i h j=>?_) (λk k'=>?_)
 ·obtain⟨q,z⟩:=Z9 (s:=l[i].User) (by have :=hs _ (EZ h);omega);obtain⟨I,J⟩:=a6n l[i].N;simp only[aGI,yg,a7U,qE,dec_lt h,Bj,CU h,Aj,q,z,I,J,yA (show i<=9223372036854775806 by omega)];refine Ij (λ_=>.ret _) λ_=>?_;cases L:decide ((i:Int)>0)with
  |true=>
   simp only[Bj,wQ h hl L,Aj];exact Ij (λ_=>.ret _) λ_=>Ij (λ_=>.ret _) λ_=>j
  |false=>
   simp only[BQ];exact Ij (λ_=>.ret _) λ_=>j
 simp only[aGI,yg,DZ,BQ];exact .ret _
def akI {l:A8 Jv}(hl:l.length<=9223372036854775807):EH (a6N l) (aB l):=by
 unfold a6N aB;refine Ij (λ_=>.ret _) λ_=>?_;unfold aWG aGS;refine EH.loop l.length hl (λk k' i h j=>?_) (λk k'=>?_)
 ·obtain⟨q,u⟩:=aAT l[i].Kind;obtain⟨z,I⟩:=a6n l[i].N;simp only[aFH,a7G,a8b,a5D,dec_lt h,Bj,CU h,Aj,q,u,z,I,yA (show i<=9223372036854775806 by omega)];refine Ij (λ_=>.ret _) λ_=>?_;cases J:decide ((i:Int)>0)with
  |true=>
   simp only[Bj,wQ h hl J,Aj];exact Ij (λ_=>.ret _) λ_=>Ij (λ_=>.ret _) λ_=>j
  |false=>
   simp only[BQ];exact Ij (λ_=>.ret _) λ_=>j
 simp only[aFH,a7G,DZ,BQ];exact .ret _
def aYW {l:Ch}(h1:l.Users.length<=9223372036854775807)(h2:l.Kinds.length<=9223372036854775807)(h3:∀u∈l.Users,u.User.size<=9223372036854775807):EH (je l) (ZO l):=by
 have j:aDC l 0=some (bif (Kr l).any TD then 2 else 0):=by
  unfold aDC;rw[Hl (Kr l) (by have :Az=9223372036854775808:=rfl;simp[Kr,this]) TD 2 (some 0) (λk i h=>?_) (λk=>rfl),Lu];have z:i<7:=h;have q:Au ([l.User,l.Message,l.State,l.gX,l.kR,l.oN,l.ig]:A8 Int) (i:Int)=some ((Kr l)[i]'(h)):=CU h;simp only[aWQ,show decide ((i:Int)<7)=true from by simp;omega,Bj,q,Aj,(a6n _).1]
 unfold je ZO;refine EH.bind (ag3 AQ h3) λx=>Ij (λ_=>.ret _) λ_=>EH.bind (akI AQ) λy=>Ij (λ_=>.ret _) λ_=>?_;rw[j];simp only[(a6n _).2,Aj,Kr,List.any_cons,List.any_nil];cases TD l.User<;>cases TD l.Message<;>cases TD l.State<;>cases TD l.gX<;>cases TD l.kR<;>cases TD l.oN<;>cases TD l.ig<;>exact .ret _
def Uz {l:A8 α}(h:((l.length:Int)==0)=true):l=[]:=He aH2
def Oi (l:Ch):Ad:=((l.Users.length:Int)==0)&&((l.Kinds.length:Int)==0)&&(l.User==0)&&(l.Message==0)&&(l.State==0)&&(l.gX==0)&&(l.kR==0)&&(l.oN==0)&&(l.ig==0)
def bare_eq (l:Ch):a8T l=some (Oi l):=by
 unfold a8T Oi
 grind
def aTe (l:Ch):XK l KX=some (Oi l):=by
 unfold XK Oi;show(bif ((l.Users.length:Int) != 0)then some true else some ((l.Kinds.length:Int) != 0)).bind _=_;simp only[bne];cases u:((l.Users.length:Int)==0)with
 |false=>rfl
 |true=>
  cases z:((l.Kinds.length:Int)==0)with
  |false=>rfl
  |true=>
   have j:=Uz u;have q:=Uz z
   have h3:Zx l KX 0=some ((l.User==0)&&(l.Message==0)&&(l.State==0)&&(l.gX==0)&&(l.kR==0)&&(l.oN==0)&&(l.ig==0)):=by
    unfold Zx;refine aC6 l.Kinds (by rw[q];simp) _ (λk i h=>by rw[q]at h;simp at h) (λk=>?_);simp only[rP,DZ,BQ,Lu,Aj,SB];rfl
   have h1:a0n l KX 0=some ((l.User==0)&&(l.Message==0)&&(l.State==0)&&(l.gX==0)&&(l.kR==0)&&(l.oN==0)&&(l.ig==0)):=by
    unfold a0n;refine aC6 l.Users (by rw[j];simp) _ (λk i h=>by rw[j]at h;simp at h) (λk=>?_);simp only[pI,DZ,BQ];exact h3
   simp only[El,BQ,Aj,h1,Fv]
def abe (l:Ch):aB4 l=some (Oi l):=by
 unfold aB4;rw[aTe];rfl
def abB (l:A8 BP):VE l []=some ((l.length:Int)==0):=by
 cases h:((l.length:Int)==0)with
 |true=>rw[Uz h];exact ak2 (l:=[]) Bf
 |false=>
  unfold VE;show(bif ((l.length:Int) != 0)then some false else _)=_;simp only[bne,h,JV,Bj]
def kU (a0 j q u z I J L:Ad):Ad:=a0&&j&&q&&u&&z&&I&&J&&L
def aOr (c:D6):VG c Eo=some (kU (c.Text.toList==CX.toList) (c.N==0) (c.Target==0) (!c.Thread) (c.Via.toList==CX.toList) ((c.Allow.length:Int)==0) ((c.iy.length:Int)==0) (Oi c.Levels)):=by
 unfold VG kU;show(bif c.Text.toList==CX.toList then some (c.N==0)else some false).bind _=_;simp only[show Eo.Allow=[]from rfl,show Eo.iy=[]from rfl,show Eo.Levels=KX from rfl,show Eo.Target=0 from rfl,show Eo.Thread=false from rfl,show Eo.Via=CX from rfl,abB,aTe,Lu,Aj,SB];congr 1
 grind
def a4p (a0 j q u z I J L:Ad):Int:=
 let v:=bif !a0 then F8 .or .i64 0 1 else 0
 let v:=bif !j then F8 .or .i64 v 2 else v
 let v:=bif !q then F8 .or .i64 v 4 else v
 let v:=bif !u then F8 .or .i64 v 8 else v
 let v:=bif !z then F8 .or .i64 v 16 else v
 let v:=bif !I then F8 .or .i64 v 32 else v
 let v:=bif !J then F8 .or .i64 v 64 else v
 bif !L then F8 .or .i64 v 128 else v
def pos_eq (l:A8 α):decide ((l.length:Int)>0)= !((l.length:Int)==0):=by
 grind
def an3 (c:D6):sN c=some (a4p (c.Text.toList==CX.toList) (c.N==0) (c.Target==0) (!c.Thread) (c.Via.toList==CX.toList) ((c.Allow.length:Int)==0) ((c.iy.length:Int)==0) (Oi c.Levels)):=by
 unfold sN a2y a8i a6l a7d a5T a6b a7n a4D a4p;rw[bare_eq,pos_eq,pos_eq];simp only[Aj,bne,a0j];generalize(c.Text.toList==CX.toList)=j;generalize(c.N==0)=q;generalize(c.Target==0)=u;generalize c.Thread=z;generalize(c.Via.toList==CX.toList)=I;generalize((c.Allow.length:Int)==0)=J;generalize((c.iy.length:Int)==0)=L;generalize Oi c.Levels=M;cases j<;>cases q<;>cases u<;>cases z<;>cases I<;>cases J<;>cases L<;>cases M<;>rfl
def agy :∀a0 j q u z I J L:Ad,(a4p a0 j q u z I J L==0)=kU a0 j q u z I J L:=OV
def NP (j q u z I J L M a0 O U Y Z a5 a6 a7:Ad):Ad:=(a0||j)&&(O||q)&&(U||u)&&(Y||z)&&(Z||I)&&(a5||J)&&(a6||L)&&(a7||M)
variable {I J L q u z:Ad}{K:Int}
def aRA {M:Ad}(O:Ci K Ji=some j)(h1:Ci K KG=some q)(h2:Ci K KE=some u)(h3:Ci K Nk=some z)(U:Ci K O4=some I)(Y:Ci K N7=some J)(Z:Ci K Na=some L)(h7:Ci K NV=some M):eP K c=some (NP j q u z I J L M (c.Text.toList==CX.toList) (c.N==0) (c.Target==0) (!c.Thread) (c.Via.toList==CX.toList) ((c.Allow.length:Int)==0) ((c.iy.length:Int)==0) (Oi c.Levels)):=by
 unfold eP NP;simp only[O,h1,h2,h3,U,Y,Z,h7,abe,Lu,Aj,ql,SB]
def IJ (x r:AB Int):AB Int:=x.bind λv=>bif v != 0 then some v else r
variable {r:AB Int}
def Eu {x:AB Int}(h:x=some 0):IJ x r=r:=by rw[h];rfl
def OL {x y s:AB Int}(h:EH x y)(k:EH r s):EH (IJ x r) (IJ y s):=EH.bind h λ_=>Ij (λ_=>.ret _) λ_=>k
def a2O (x:AB Int):IJ x (some 0)=x:=by
 cases x with
 |none=>rfl
 |some v=>
  show(bif v != 0 then some v else some 0)=some v;by_cases h:v=0
  ·subst h;rfl
  rw[show(v != 0)=true from by simpa using h];rfl
def aKO (x:AB A):(x.bind λv=>some v)=x:=by cases x<;>rfl
def Ou (K:Int)(c:D6):AB Int:=IJ (bT K c) (IJ (Oy K c.N) (IJ (XE K c) (IJ (ZM c) (bif K==4 then jS c else IJ (UD c.Allow) (IJ (UD c.iy) (ZO c.Levels))))))
def frame {M kp:Int}{br:Ad}{O U:Ad}(hU:kV K=some M)(hk:(decide (K>=1)&&(K<=14))=true)(Y:kM K=some kp)(hb:a7f K=some br)(h0:Ci K Ji=some q)(h1:Ci K KG=some u)(h2:Ci K KE=some z)(h3:Ci K Nk=some I)(h4:Ci K O4=some J)(h5:Ci K N7=some L)(h6:Ci K Na=some O)(h7:Ci K NV=some U)(hM:∀a0 a1 a2 a3 a4 a5 a6 a7:Ad,(F8 .andNot .i64 (a4p a0 a1 a2 a3 a4 a5 a6 a7) M != 0)= !NP q u z I J L O U a0 a1 a2 a3 a4 a5 a6 a7)(hbr:(br=true->kp=0))(hA:kp=0->br=false->Nh M K 0 c=some 0)(j:NP q u z I J L O U (c.Text.toList==CX.toList) (c.N==0) (c.Target==0) (!c.Thread) (c.Via.toList==CX.toList) ((c.Allow.length:Int)==0) ((c.iy.length:Int)==0) (Oi c.Levels)=true->EH (Nh M K 0 c) (Ou K c)):EH (ND K c) (KT K c):=by
 have ht:KT K c=(l7 K).bind λx1=>(bif (!x1)then some true else(eP K c).bind λx4=>some (!x4)).bind λx2=>(bif x2 then some 1 else(a7f K).bind λx6=>(bif x6 then(VG c Eo).bind λx9=>some x9 else some false).bind λx7=>(bif x7 then some 0 else Ou K c)):=by
  unfold KT Ou IJ;simp only[aKO]
 rw[ht];unfold ND;obtain⟨Z,k2⟩:=aAT K;rw[hk]at Z k2;rw[hU,Z,k2,an3,Y,hb,aRA h0 h1 h2 h3 h4 h5 h6 h7,aOr];simp only[Aj,El,BQ,hM,agy];cases ho:NP q u z I J L O U (c.Text.toList==CX.toList) (c.N==0) (c.Target==0) (!c.Thread) (c.Via.toList==CX.toList) ((c.Allow.length:Int)==0) ((c.iy.length:Int)==0) (Oi c.Levels)with
 |false=>
  exact .ret _
 |true=>
  simp only[El,BQ];have j:=j ho;cases ha:kU (c.Text.toList==CX.toList) (c.N==0) (c.Target==0) (!c.Thread) (c.Via.toList==CX.toList) ((c.Allow.length:Int)==0) ((c.iy.length:Int)==0) (Oi c.Levels)with
  |false=>
   simp only[BQ,Aj];cases br<;>exact j
  |true=>
   simp only[Bj,Aj];cases hz:kp==0 with
   |false=>
    cases br with
    |false=>
     exact j
    |true=>
     grind
   |true=>
    cases br with
    |true=>
     exact .ret _
    |false=>
     have e:=hA (eq_of_beq hz) rfl;rw[e]at j;exact j
def TW (M b:Int)(x r:AB Int):AB Int:=bif F8 .and .i64 M b==0 then r else IJ x r
def dQ {B R:Type}(body:(S->B->AB R)->S->B->AB R)(n:Nat)(a:S)(b:B):aP body (n+1) a b=body (aP body n) a b:=rfl
def aYm (M K:Int)(c:D6):Nh M K 0 c=TW M 1 (SQ K c) (TW M 2 (PK K c) (TW M 4 (Td K c) (TW M 8 (fE K c) (TW M 16 (iH K c) (TW M 32 (Y4 K c)
 (bif F8 .and .i64 M 64 != 0 then XD c.iy else bif F8 .and .i64 M 128 != 0 then je c.Levels else some 0)))))):=by
 have j:Az=9223372036854775801+1+1+1+1+1+1+1:=rfl;have q:∀k,ah M K k 0 c=TW M 1 (SQ K c) (k 1 c):=λk=>rfl;have u:∀k,ah M K k 1 c=TW M 2 (PK K c) (k 2 c):=λk=>rfl;have z:∀k,ah M K k 2 c=TW M 4 (Td K c) (k 3 c):=λk=>rfl;have I:∀k,ah M K k 3 c=TW M 8 (fE K c) (k 4 c):=λk=>rfl;have J:∀k,ah M K k 4 c=TW M 16 (iH K c) (k 5 c):=λk=>rfl;have L:∀k,ah M K k 5 c=TW M 32 (Y4 K c) (k 6 c):=λk=>rfl;have O:∀k,ah M K k 6 c=(bif F8 .and .i64 M 64 != 0 then(XD c.iy).bind λx=>some x else bif F8 .and .i64 M 128 != 0 then(je c.Levels).bind λx=>some x else some 0):=λk=>rfl;unfold Nh;rw[j,dQ,q,dQ,u,dQ,z,dQ,I,dQ,J,dQ,L,dQ,O,aKO,aKO]
section
variable {c:D6} {K:Int}
def text0 (h:(c.Text.toList==CX.toList)=true)(j:K≠12):bT K c=some 0:=by
 have q:(c.Text.size:Int)=0:=by rw[a6C]at h;exact eq_of_beq h
 unfold bT
 grind
def Wq (h:Ci K KE=some false)(h3:(!c.Thread)=true):XE K c=some 0:=by
 unfold XE
 grind
def Rq (h:(c.Via.toList==CX.toList)=true):ZM c=some 0:=by unfold ZM;rw[h];rfl
def Kz {l:A8 BP}(h:((l.length:Int)==0)=true):UD l=some 0:=by
 rw[Uz h];unfold UD aDd;show bn (wU []) Az 0=some 0;rw[Hl ([]:A8 BP) Bl (λ_=>false) 0 (some 0) (λk i h=>J9) (λk=>rfl)];rfl
def TQ {l:Ch}(h:Oi l=true):ZO l=some 0:=by
 unfold Oi at h;simp only[DR]at h;obtain⟨⟨⟨⟨⟨⟨⟨⟨h1,h2⟩,h3⟩,j⟩,q⟩,u⟩,z⟩,I⟩,J⟩:=h
 have L:au []=some 0:=by
  unfold au aJv;show bn (yg []) Az 0=some 0;rw[Hl ([]:A8 BP) Bl (λ_=>false) 0 (some 0) (λk i h=>J9) (λk=>rfl)];rfl
 have M:aB []=some 0:=by
  unfold aB aGS;show bn (a7G []) Az 0=some 0;rw[Hl ([]:A8 BP) Bl (λ_=>false) 0 (some 0) (λk i h=>J9) (λk=>rfl)];rfl
 unfold ZO;rw[Uz h1,Uz h2,L,M,eq_of_beq h3,eq_of_beq j,eq_of_beq q,eq_of_beq u,eq_of_beq z,eq_of_beq I,eq_of_beq J];rfl
def iC (q:KO c):EH (SQ K c) (bT K c):=by
 have h1:=q.text;obtain⟨u,z⟩:=aDx (s:=c.Text) AQ;unfold SQ a8k bT;rw[u,z];have e:=a6C c.Text;by_cases j:K=9
 ·subst j;cases h:(c.Text.toList==CX.toList)with
  |false=>exact .ret _
  |true=>
   have I:(c.Text.size:Int)=0:=by rw[e]at h;exact eq_of_beq h
   rw[I];exact .ret _
 rw[show(K==9)=false from by simpa using j];cases K==12<;>cases(c.Text.toList==CX.toList)<;>cases decide ((c.Text.size:Int)>32)<;>cases decide ((c.Text.size:Int)>400)<;>exact .ret _
def aYu (j:KO c):EH (iH K c) (ZM c):=by
 have h1:=j.via;obtain⟨q,u⟩:=Z9 (s:=c.Via) AQ;unfold iH ZM;rw[q,u];exact Ij (λ_=>.ret _) λ_=>Ij (λ_=>.ret _) λ_=>.ret _
def aF5 (h:Ci K KE=some true)(h3:(!c.Thread)=true):EH (Td K c) (XE K c):=by
 unfold Td XE;rw[h,show c.Thread=false from by simpa using h3];cases decide (c.Target<0)<;>cases c.Target==0<;>cases K != 11<;>exact .ret _
def aj7 (h:Ci K KE=some true):EH (IJ (Td K c) (fE K c)) (XE K c):=by
 unfold Td fE XE IJ;rw[h];cases decide (c.Target<0)<;>cases c.Target==0<;>cases K != 11<;>cases c.Thread<;>exact .ret _
def ajm (j:KO c):EH (Y4 6 c) (UD c.Allow):=by
 have h1:=j.allow;have :=aUe (l:=c.Allow) AQ j.allows;show EH ((XD c.Allow).bind λx=>some x) _
 grind
end
def uY (a b:Int):decide (a>=b)= !decide (a<b):=by by_cases h:a<b<;>simp[h]<;>omega
def vw (a b:Int):decide (a<=b)= !decide (a>b):=by by_cases h:a>b<;>simp[h]<;>omega
def ai3 (hc:KO c):EH (ND 1 c) (KT 1 c):=by
 have q:Ci 1 Ji=some false:=AA
 have h1:Ci 1 KG=some false:=AA
 have h2:Ci 1 KE=some false:=AA
 have h3:Ci 1 Nk=some false:=AA
 have u:Ci 1 O4=some false:=AA
 have z:Ci 1 N7=some false:=AA
 have I:Ci 1 Na=some false:=AA
 have J:Ci 1 NV=some false:=AA
 refine frame (M:=0) (kp:=0) (br:=false) rfl rfl rfl rfl q h1 h2 h3 u z I J OV (λh=>Gu) (λh h'=>rfl) λj=>?_;unfold NP at j;simp only[RU,O1,MJ,Fv,DR]at j;obtain⟨⟨⟨⟨⟨⟨⟨L,e1⟩,e2⟩,O⟩,U⟩,Y⟩,Z⟩,e7⟩:=j;have hL:Nh 0 1 0 c=(some 0):=RP
 rw[hL];unfold Ou;rw[Eu (text0 L Bl),Eu (show Oy 1 c.N=some 0 from rfl),Eu (Wq h2 O),Eu (Rq U),show((1:Int)==4)=false from rfl,BQ,Eu (Kz Y),Eu (Kz Z),TQ e7];exact .ret _
def adZ (c:D6):EH (PK 2 c) (Oy 2 c.N):=by
 show EH ((bif c.N<0 then some true else some (decide (c.N>4))).bind λj=>(bif j then some 2 else some 0)) ((bif c.N>=0 then some (decide (c.N<=4))else some false).bind λq=>(bif (!q)then some 2 else some 0));rw[uY,vw];cases decide (c.N<0)<;>cases decide (c.N>4)<;>exact .ret _
def ab3 (q:KO c):EH (ND 2 c) (KT 2 c):=by
 have u:Ci 2 Ji=some true:=AA
 have h1:Ci 2 KG=some true:=AA
 have h2:Ci 2 KE=some false:=AA
 have h3:Ci 2 Nk=some false:=AA
 have z:Ci 2 O4=some true:=AA
 have I:Ci 2 N7=some false:=AA
 have J:Ci 2 Na=some false:=AA
 have L:Ci 2 NV=some false:=AA
 refine frame (M:=19) (kp:=18) (br:=false) rfl rfl rfl rfl u h1 h2 h3 z I J L OV (λh=>Gu) (λh h'=>Gu) λj=>?_;unfold NP at j;simp only[RU,O1,MJ,Fv,DR]at j;obtain⟨⟨⟨⟨e2,O⟩,U⟩,Y⟩,Z⟩:=j;have hL:Nh 19 2 0 c=(IJ (SQ 2 c) (IJ (PK 2 c) (IJ (iH 2 c) (some 0)))):=RP
 rw[hL];unfold Ou;rw[Eu (Wq h2 O),show((2:Int)==4)=false from rfl,BQ,Eu (Kz U),Eu (Kz Y),TQ Z];exact OL (iC q) (OL (adZ c) (OL (aYu q) (.ret _)))
def agn (j:KO c):EH (ND 3 c) (KT 3 c):=by
 have u:Ci 3 Ji=some false:=AA
 have h1:Ci 3 KG=some false:=AA
 have h2:Ci 3 KE=some false:=AA
 have h3:Ci 3 Nk=some false:=AA
 have z:Ci 3 O4=some false:=AA
 have I:Ci 3 N7=some false:=AA
 have J:Ci 3 Na=some false:=AA
 have L:Ci 3 NV=some true:=AA
 refine frame (M:=128) (kp:=128) (br:=false) rfl rfl rfl rfl u h1 h2 h3 z I J L OV (λh=>Gu) (λh h'=>Gu) λq=>?_;unfold NP at q;simp only[RU,O1,MJ,Fv,DR]at q;obtain⟨⟨⟨⟨⟨⟨O,e1⟩,e2⟩,U⟩,Y⟩,Z⟩,e6⟩:=q;have hL:Nh 128 3 0 c=(je c.Levels):=RP
 rw[hL];unfold Ou;rw[Eu (text0 O Bl),Eu (show Oy 3 c.N=some 0 from rfl),Eu (Wq h2 U),Eu (Rq Y),show((3:Int)==4)=false from rfl,BQ,Eu (Kz Z),Eu (Kz e6)];exact aYW j.users j.kinds j.names
def afy (c:D6):EH (PK 4 c) (Oy 4 c.N):=by
 show EH ((bif c.N<0 then some true else some (decide (c.N>3))).bind λj=>(bif j then some 2 else some 0)) ((bif c.N>=0 then some (decide (c.N<=3))else some false).bind λq=>(bif (!q)then some 2 else some 0));rw[uY,vw];cases decide (c.N<0)<;>cases decide (c.N>3)<;>exact .ret _
def aYs (q:KO c):EH (ND 4 c) (KT 4 c):=by
 have u:Ci 4 Ji=some false:=AA
 have h1:Ci 4 KG=some true:=AA
 have h2:Ci 4 KE=some false:=AA
 have h3:Ci 4 Nk=some false:=AA
 have z:Ci 4 O4=some false:=AA
 have I:Ci 4 N7=some true:=AA
 have J:Ci 4 Na=some false:=AA
 have L:Ci 4 NV=some false:=AA
 refine frame (M:=34) (kp:=34) (br:=false) rfl rfl rfl rfl u h1 h2 h3 z I J L OV (λh=>Gu) (λh h'=>Gu) λj=>?_;unfold NP at j;simp only[RU,O1,MJ,Fv,DR]at j;obtain⟨⟨⟨⟨⟨O,e2⟩,U⟩,Y⟩,e6⟩,e7⟩:=j;have Z:Nh 34 4 0 c=(IJ (PK 4 c) (IJ (Y4 4 c) (some 0))):=RP
 rw[Z];unfold Ou;rw[Eu (text0 O Bl),Eu (Wq h2 U),Eu (Rq Y),show((4:Int)==4)=true from rfl,Bj];rw[a2O];exact OL (afy c) (aZb q)
def amU (c:D6):EH (PK 5 c) (Oy 5 c.N):=by
 show EH ((bif c.N<0 then some true else some (decide (c.N>3))).bind λj=>(bif j then some 2 else some 0)) ((bif c.N>=0 then some (decide (c.N<=3))else some false).bind λq=>(bif (!q)then some 2 else some 0));rw[uY,vw];cases decide (c.N<0)<;>cases decide (c.N>3)<;>exact .ret _
def abT (hc:KO c):EH (ND 5 c) (KT 5 c):=by
 have q:Ci 5 Ji=some false:=AA
 have h1:Ci 5 KG=some true:=AA
 have h2:Ci 5 KE=some false:=AA
 have h3:Ci 5 Nk=some false:=AA
 have u:Ci 5 O4=some false:=AA
 have z:Ci 5 N7=some false:=AA
 have I:Ci 5 Na=some false:=AA
 have J:Ci 5 NV=some false:=AA
 refine frame (M:=2) (kp:=2) (br:=false) rfl rfl rfl rfl q h1 h2 h3 u z I J OV (λh=>Gu) (λh h'=>Gu) λj=>?_;unfold NP at j;simp only[RU,O1,MJ,Fv,DR]at j;obtain⟨⟨⟨⟨⟨⟨L,e2⟩,O⟩,U⟩,Y⟩,Z⟩,e7⟩:=j;have hL:Nh 2 5 0 c=(IJ (PK 5 c) (some 0)):=RP
 rw[hL];unfold Ou;rw[Eu (text0 L Bl),Eu (Wq h2 O),Eu (Rq U),show((5:Int)==4)=false from rfl,BQ,Eu (Kz Y),Eu (Kz Z),TQ e7];exact OL (amU c) (.ret _)
def ab4 (j:KO c):EH (ND 6 c) (KT 6 c):=by
 have u:Ci 6 Ji=some false:=AA
 have h1:Ci 6 KG=some false:=AA
 have h2:Ci 6 KE=some false:=AA
 have h3:Ci 6 Nk=some false:=AA
 have z:Ci 6 O4=some false:=AA
 have I:Ci 6 N7=some true:=AA
 have J:Ci 6 Na=some true:=AA
 have L:Ci 6 NV=some false:=AA
 refine frame (M:=96) (kp:=96) (br:=false) rfl rfl rfl rfl u h1 h2 h3 z I J L OV (λh=>Gu) (λh h'=>Gu) λq=>?_;unfold NP at q;simp only[RU,O1,MJ,Fv,DR]at q;obtain⟨⟨⟨⟨⟨O,e1⟩,e2⟩,U⟩,Y⟩,Z⟩:=q;have hL:Nh 96 6 0 c=(IJ (Y4 6 c) (XD c.iy)):=RP
 rw[hL];unfold Ou;rw[Eu (text0 O Bl),Eu (show Oy 6 c.N=some 0 from rfl),Eu (Wq h2 U),Eu (Rq Y),show((6:Int)==4)=false from rfl,BQ,TQ Z];have h1:=j.deny;rw[a2O];exact OL (ajm j) (aUe AQ j.denies)
def aZU (q:KO c):EH (ND 7 c) (KT 7 c):=by
 have u:Ci 7 Ji=some true:=AA
 have h1:Ci 7 KG=some false:=AA
 have h2:Ci 7 KE=some false:=AA
 have h3:Ci 7 Nk=some false:=AA
 have z:Ci 7 O4=some false:=AA
 have I:Ci 7 N7=some false:=AA
 have J:Ci 7 Na=some false:=AA
 have L:Ci 7 NV=some false:=AA
 refine frame (M:=1) (kp:=0) (br:=true) rfl rfl rfl rfl u h1 h2 h3 z I J L OV (λh=>rfl) (λh h'=>jd) λj=>?_;unfold NP at j;simp only[RU,O1,MJ,Fv,DR]at j;obtain⟨⟨⟨⟨⟨⟨e1,e2⟩,O⟩,U⟩,Y⟩,Z⟩,e7⟩:=j;have hL:Nh 1 7 0 c=(IJ (SQ 7 c) (some 0)):=RP
 rw[hL];unfold Ou;rw[Eu (show Oy 7 c.N=some 0 from rfl),Eu (Wq h2 O),Eu (Rq U),show((7:Int)==4)=false from rfl,BQ,Eu (Kz Y),Eu (Kz Z),TQ e7];exact OL (iC q) (.ret _)
def afr (c:D6):EH (PK 8 c) (Oy 8 c.N):=by
 show EH ((bif c.N<0 then some true else some (decide (c.N>1000000000))).bind λj=>(bif j then some 2 else some 0)) ((bif c.N>=0 then some (decide (c.N<=1000000000))else some false).bind λq=>(bif (!q)then some 2 else some 0));rw[uY,vw];cases decide (c.N<0)<;>cases decide (c.N>1000000000)<;>exact .ret _
def ale (hc:KO c):EH (ND 8 c) (KT 8 c):=by
 have q:Ci 8 Ji=some false:=AA
 have h1:Ci 8 KG=some true:=AA
 have h2:Ci 8 KE=some false:=AA
 have h3:Ci 8 Nk=some false:=AA
 have u:Ci 8 O4=some false:=AA
 have z:Ci 8 N7=some false:=AA
 have I:Ci 8 Na=some false:=AA
 have J:Ci 8 NV=some false:=AA
 refine frame (M:=2) (kp:=0) (br:=true) rfl rfl rfl rfl q h1 h2 h3 u z I J OV (λh=>rfl) (λh h'=>jd) λj=>?_;unfold NP at j;simp only[RU,O1,MJ,Fv,DR]at j;obtain⟨⟨⟨⟨⟨⟨L,e2⟩,O⟩,U⟩,Y⟩,Z⟩,e7⟩:=j;have hL:Nh 2 8 0 c=(IJ (PK 8 c) (some 0)):=RP
 rw[hL];unfold Ou;rw[Eu (text0 L Bl),Eu (Wq h2 O),Eu (Rq U),show((8:Int)==4)=false from rfl,BQ,Eu (Kz Y),Eu (Kz Z),TQ e7];exact OL (afr c) (.ret _)
def aZV (c:D6):EH (PK 9 c) (Oy 9 c.N):=by
 show EH ((bif (c.N==1)then some true else some (c.N==2)).bind λj=>(bif j then some true else some (c.N==6)).bind λq=>(bif q then some 0 else some 2)) ((bif (c.N==1)then some true else some (c.N==2)).bind λu=>(bif u then some true else some (c.N==6)).bind λz=>(bif (!z)then some 2 else some 0));cases c.N==1<;>cases c.N==2<;>cases c.N==6<;>exact .ret _
def ahB (q:KO c):EH (ND 9 c) (KT 9 c):=by
 have u:Ci 9 Ji=some true:=AA
 have h1:Ci 9 KG=some true:=AA
 have h2:Ci 9 KE=some false:=AA
 have h3:Ci 9 Nk=some false:=AA
 have z:Ci 9 O4=some false:=AA
 have I:Ci 9 N7=some false:=AA
 have J:Ci 9 Na=some false:=AA
 have L:Ci 9 NV=some false:=AA
 refine frame (M:=3) (kp:=0) (br:=true) rfl rfl rfl rfl u h1 h2 h3 z I J L OV (λh=>rfl) (λh h'=>jd) λj=>?_;unfold NP at j;simp only[RU,O1,MJ,Fv,DR]at j;obtain⟨⟨⟨⟨⟨e2,O⟩,U⟩,Y⟩,Z⟩,e7⟩:=j;have hL:Nh 3 9 0 c=(IJ (SQ 9 c) (IJ (PK 9 c) (some 0))):=RP
 rw[hL];unfold Ou;rw[Eu (Wq h2 O),Eu (Rq U),show((9:Int)==4)=false from rfl,BQ,Eu (Kz Y),Eu (Kz Z),TQ e7];exact OL (iC q) (OL (aZV c) (.ret _))
def adx (c:D6):EH (PK 10 c) (Oy 10 c.N):=by
 show EH ((bif c.N<1 then some true else some (decide (c.N>10000))).bind λj=>(bif j then some 2 else some 0)) ((bif c.N>=1 then some (decide (c.N<=10000))else some false).bind λq=>(bif (!q)then some 2 else some 0));rw[uY,vw];cases decide (c.N<1)<;>cases decide (c.N>10000)<;>exact .ret _
def aXT (hc:KO c):EH (ND 10 c) (KT 10 c):=by
 have q:Ci 10 Ji=some false:=AA
 have h1:Ci 10 KG=some true:=AA
 have h2:Ci 10 KE=some false:=AA
 have h3:Ci 10 Nk=some false:=AA
 have u:Ci 10 O4=some false:=AA
 have z:Ci 10 N7=some false:=AA
 have I:Ci 10 Na=some false:=AA
 have J:Ci 10 NV=some false:=AA
 refine frame (M:=2) (kp:=0) (br:=true) rfl rfl rfl rfl q h1 h2 h3 u z I J OV (λh=>rfl) (λh h'=>jd) λj=>?_;unfold NP at j;simp only[RU,O1,MJ,Fv,DR]at j;obtain⟨⟨⟨⟨⟨⟨L,e2⟩,O⟩,U⟩,Y⟩,Z⟩,e7⟩:=j;have hL:Nh 2 10 0 c=(IJ (PK 10 c) (some 0)):=RP
 rw[hL];unfold Ou;rw[Eu (text0 L Bl),Eu (Wq h2 O),Eu (Rq U),show((10:Int)==4)=false from rfl,BQ,Eu (Kz Y),Eu (Kz Z),TQ e7];exact OL (adx c) (.ret _)
def aiA (q:KO c):EH (ND 11 c) (KT 11 c):=by
 have u:Ci 11 Ji=some true:=AA
 have h1:Ci 11 KG=some false:=AA
 have h2:Ci 11 KE=some true:=AA
 have h3:Ci 11 Nk=some true:=AA
 have z:Ci 11 O4=some false:=AA
 have I:Ci 11 N7=some false:=AA
 have J:Ci 11 Na=some false:=AA
 have L:Ci 11 NV=some false:=AA
 refine frame (M:=13) (kp:=0) (br:=true) rfl rfl rfl rfl u h1 h2 h3 z I J L OV (λh=>rfl) (λh h'=>jd) λj=>?_;unfold NP at j;simp only[RU,O1,MJ,Fv,DR]at j;obtain⟨⟨⟨⟨e1,O⟩,U⟩,Y⟩,Z⟩:=j;have hL:Nh 13 11 0 c=(IJ (SQ 11 c) (IJ (Td 11 c) (IJ (fE 11 c) (some 0)))):=RP
 rw[hL];unfold Ou;rw[Eu (show Oy 11 c.N=some 0 from rfl),Eu (Rq O),show((11:Int)==4)=false from rfl,BQ,Eu (Kz U),Eu (Kz Y),TQ Z];rw[a2O,a2O];exact OL (iC q) (aj7 h2)
def afi (q:KO c):EH (ND 12 c) (KT 12 c):=by
 have u:Ci 12 Ji=some true:=AA
 have h1:Ci 12 KG=some false:=AA
 have h2:Ci 12 KE=some true:=AA
 have h3:Ci 12 Nk=some false:=AA
 have z:Ci 12 O4=some false:=AA
 have I:Ci 12 N7=some false:=AA
 have J:Ci 12 Na=some false:=AA
 have L:Ci 12 NV=some false:=AA
 refine frame (M:=5) (kp:=0) (br:=true) rfl rfl rfl rfl u h1 h2 h3 z I J L OV (λh=>rfl) (λh h'=>jd) λj=>?_;unfold NP at j;simp only[RU,O1,MJ,Fv,DR]at j;obtain⟨⟨⟨⟨⟨e1,O⟩,U⟩,Y⟩,Z⟩,e7⟩:=j;have hL:Nh 5 12 0 c=(IJ (SQ 12 c) (IJ (Td 12 c) (some 0))):=RP
 rw[hL];unfold Ou;rw[Eu (show Oy 12 c.N=some 0 from rfl),Eu (Rq U),show((12:Int)==4)=false from rfl,BQ,Eu (Kz Y),Eu (Kz Z),TQ e7];exact OL (iC q) (OL (aF5 h2 O) (.ret _))
def adU (q:KO c):EH (ND 13 c) (KT 13 c):=by
 have u:Ci 13 Ji=some true:=AA
 have h1:Ci 13 KG=some false:=AA
 have h2:Ci 13 KE=some true:=AA
 have h3:Ci 13 Nk=some false:=AA
 have z:Ci 13 O4=some false:=AA
 have I:Ci 13 N7=some false:=AA
 have J:Ci 13 Na=some false:=AA
 have L:Ci 13 NV=some false:=AA
 refine frame (M:=5) (kp:=0) (br:=true) rfl rfl rfl rfl u h1 h2 h3 z I J L OV (λh=>rfl) (λh h'=>jd) λj=>?_;unfold NP at j;simp only[RU,O1,MJ,Fv,DR]at j;obtain⟨⟨⟨⟨⟨e1,O⟩,U⟩,Y⟩,Z⟩,e7⟩:=j;have hL:Nh 5 13 0 c=(IJ (SQ 13 c) (IJ (Td 13 c) (some 0))):=RP
 rw[hL];unfold Ou;rw[Eu (show Oy 13 c.N=some 0 from rfl),Eu (Rq U),show((13:Int)==4)=false from rfl,BQ,Eu (Kz Y),Eu (Kz Z),TQ e7];exact OL (iC q) (OL (aF5 h2 O) (.ret _))
def aiE (q:KO c):EH (ND 14 c) (KT 14 c):=by
 have u:Ci 14 Ji=some true:=AA
 have h1:Ci 14 KG=some false:=AA
 have h2:Ci 14 KE=some true:=AA
 have h3:Ci 14 Nk=some false:=AA
 have z:Ci 14 O4=some false:=AA
 have I:Ci 14 N7=some false:=AA
 have J:Ci 14 Na=some false:=AA
 have L:Ci 14 NV=some false:=AA
 refine frame (M:=5) (kp:=4) (br:=false) rfl rfl rfl rfl u h1 h2 h3 z I J L OV (λh=>Gu) (λh h'=>Gu) λj=>?_;unfold NP at j;simp only[RU,O1,MJ,Fv,DR]at j;obtain⟨⟨⟨⟨⟨e1,O⟩,U⟩,Y⟩,Z⟩,e7⟩:=j;have hL:Nh 5 14 0 c=(IJ (SQ 14 c) (IJ (Td 14 c) (some 0))):=RP
 rw[hL];unfold Ou;rw[Eu (show Oy 14 c.N=some 0 from rfl),Eu (Rq U),show((14:Int)==4)=false from rfl,BQ,Eu (Kz Y),Eu (Kz Z),TQ e7];exact OL (iC q) (OL (aF5 h2 O) (.ret _))
def agc (k:Int)(j:KO c):EH (ND k c) (KT k c):=by
 cases q:decide (k>=1)&&decide (k<=14)with
 |false=>
  obtain⟨u,k2⟩:=aAT k;rw[q]at u k2
  have f:∀n:Int,1<=n->n<=14->(k==n)=false:=λn h1 h2=>by
   grind
  have hm:kV k=some 0:=by
   unfold kV zN a06;rw[f 2 Bl Bl,f 3 Bl Bl,f 4 Bl Bl,f 5 Bl Bl,f 8 Bl Bl,f 10 Bl Bl,f 6 Bl Bl,f 7 Bl Bl,f 9 Bl Bl,f 11 Bl Bl,f 12 Bl Bl,f 13 Bl Bl,f 14 Bl Bl];rfl
  unfold ND KT;rw[hm,u,k2];exact .ret _
 |true=>
  simp only[DR,IQ]at q;have :k=1\/k=2\/k=3\/k=4\/k=5\/k=6\/k=7\/k=8\/k=9\/k=10\/k=11\/k=12\/k=13\/k=14:=AQ
  rcases this with rfl|rfl|rfl|rfl|rfl|rfl|rfl|rfl|rfl|rfl|rfl|rfl|rfl|rfl
  ·exact ai3 j
  ·exact ab3 j
  ·exact agn j
  ·exact aYs j
  ·exact abT j
  ·exact ab4 j
  ·exact aZU j
  ·exact ale j
  ·exact ahB j
  ·exact aXT j
  ·exact aiA j
  ·exact afi j
  ·exact adU j
  exact aiE j
def N8 (p:α->α->Ad)(a b:A8 α):Ad:=((a.length:Int)==(b.length:Int))&& !((a.zip b).any λx=> !p x.1 x.2)
def ZJ {R:Type}{body:(Int->AB R)->Int->AB R}(p:α->α->Ad)(a b:A8 α)(ha:a.length<=1000)(j:a.length=b.length)(bad:R)(rest:AB R)(u:∀k (i:Nat) (h:i<a.length) (h':i<b.length),body k (i:Int)=bif !p a[i] b[i]then some bad else k (BA ((i:Int)+1)))(q:∀k,body k (a.length:Int)=rest):bn body Az 0=bif (a.zip b).any λx=> !p x.1 x.2 then some bad else rest:=by
 have hl:(a.zip b).length=a.length:=Ej
 refine Hl (a.zip b) (by rw[hl];exact aHM AQ) (λx=> !p x.1 x.2) bad rest (λk i h=>?_) (λk=>by rw[hl];exact q k)
 grind
def len_eq {a b:A8 α}(h:((a.length:Int)==(b.length:Int))=true):a.length=b.length:=aH2
def Xg (x y:BP):Ad:=x.toList==y.toList
def VW (x y:IV):Ad:=x.User.toList==y.User.toList&&x.N==y.N
def TS (x y:Jv):Ad:=x.Kind==y.Kind&&x.N==y.N
def a6Y {a b:A8 BP}(ha:a.length<=1000):Fit a b=some (N8 Xg a b)/\VE a b=some (N8 Xg a b):=by
 unfold Fit VE N8;simp only[bne];cases h:((a.length:Int)==(b.length:Int))with
 |false=>exact⟨rfl,rfl⟩
 |true=>
  have j:=len_eq h;simp only[El,BQ,Fv];unfold aPB a7h
  rw[ZJ Xg a b ha j false (some true) (λk i h h'=>by simp only[aCM,dec_lt h,Bj,CU h,CU h',Aj];rfl) (λk=>by simp only[aCM,DZ,BQ]),
   ZJ Xg a b ha j false (some true) (λk i h h'=>by simp only[a7i,dec_lt h,Bj,CU h,CU h',Aj];rfl) (λk=>aBS)]
  cases(a.zip b).any λx=> !Xg x.1 x.2<;>exact⟨rfl,rfl⟩
def ajv {a b:A8 IV}(ha:a.length<=1000):aAh a b=some (N8 VW a b):=by
 unfold aAh N8;simp only[bne];cases h:((a.length:Int)==(b.length:Int))with
 |false=>rfl
 |true=>
  have j:=len_eq h;simp only[El,BQ,Fv];unfold aLH;rw[ZJ VW a b ha j false (some true) (λk i h h'=>by simp only[aIZ,dec_lt h,Bj,CU h,CU h',Aj,a8X,VW,MJ]) (λk=>by simp only[aIZ,DZ,BQ])];cases(a.zip b).any λx=> !VW x.1 x.2<;>rfl
def ada {a b:A8 Jv}(ha:a.length<=1000):a7w a b=some (N8 TS a b):=by
 unfold a7w N8;simp only[bne];cases h:((a.length:Int)==(b.length:Int))with
 |false=>rfl
 |true=>
  have j:=len_eq h;simp only[El,BQ,Fv];unfold aU2;rw[ZJ TS a b ha j false (some true) (λk i h h'=>by simp only[aEt,dec_lt h,Bj,CU h,CU h',Aj,aAz,TS,MJ]) (λk=>by simp only[aEt,DZ,BQ])];cases(a.zip b).any λx=> !TS x.1 x.2<;>rfl
def vW (a b:Ch):Ad:=(a.User==b.User)&&(a.Message==b.Message)&&(a.State==b.State)&&(a.gX==b.gX)&&(a.kR==b.kR)&&(a.oN==b.oN)&&(a.ig==b.ig)
def kT (a b:Ch):Ad:=N8 VW a.Users b.Users&&(N8 TS a.Kinds b.Kinds&&vW a b)
def aiH {a b:Ch}(h1:a.Users.length<=1000)(h2:a.Kinds.length<=1000):XK a b=some (kT a b):=by
 unfold XK kT N8;simp only[bne];cases j:((a.Users.length:Int)==(b.Users.length:Int))with
 |false=>
  rfl
 |true=>
  cases q:((a.Kinds.length:Int)==(b.Kinds.length:Int))with
  |false=>
   simp
  |true=>
   have u:=len_eq j;have ek:=len_eq q
   have h3:Zx a b 0=bif (a.Kinds.zip b.Kinds).any λx=> !TS x.1 x.2 then some false else some (vW a b):=by
    unfold Zx;refine ZJ TS a.Kinds b.Kinds h2 ek false (some (vW a b)) (λk i h h'=>?_) (λk=>?_)
    ·simp only[rP,dec_lt h,Bj,CU h,CU h',Aj,tq,TS,bne]
     grind
    simp only[rP,DZ,BQ,Lu,Aj,SB];rfl
   simp only[El,BQ,Aj,Fv];unfold a0n
   rw[ZJ VW a.Users b.Users h1 u false (Zx a b 0) (λk i h h'=>by
    simp only[pI,dec_lt h,Bj,CU h,CU h',Aj,a0h,VW,bne]
    cases a.Users[i].User.toList==b.Users[i].User.toList<;>cases a.Users[i].N==b.Users[i].N<;>rfl) (λk=>by simp only[pI,DZ,BQ]),h3]
   cases(a.Users.zip b.Users).any λx=> !VW x.1 x.2<;>cases(a.Kinds.zip b.Kinds).any λx=> !TS x.1 x.2<;>rfl
def a0q (a b:D6):Ad:=(a.Text.toList==b.Text.toList)&&(a.N==b.N)&&(a.Target==b.Target)&&(a.Thread==b.Thread)&&(a.Via.toList==b.Via.toList)&&N8 Xg a.Allow b.Allow&&N8 Xg a.iy b.iy&&kT a.Levels b.Levels
variable {a:D6}
def aFT (b:D6)(ha:QL a):VG a b=some (a0q a b):=by
 have h1:=ha.allow;have h2:=ha.deny;have h3:=ha.users;have j:=ha.kinds;unfold VG a0q;rw[(a6Y (a:=a.Allow) AQ).2,(a6Y (a:=a.iy) AQ).2,aiH (a:=a.Levels) AQ AQ];simp only[Lu,Aj,SB]
def alN (b:D6)(ha:QL a):aAQ a b=some (a0q a b):=by
 have h1:=ha.allow;have h2:=ha.deny;have h3:=ha.users;have M:=ha.kinds;unfold aAQ a0q kT vW;rw[(a6Y (a:=a.Allow) AQ).1,(a6Y (a:=a.iy) AQ).1,ajv (a:=a.Levels.Users) AQ,ada (a:=a.Levels.Kinds) AQ];simp only[Lu,Aj,SB,ql,bne];generalize(a.Text.toList==b.Text.toList)=j;generalize(a.N==b.N)=q;generalize(a.Target==b.Target)=u;generalize(a.Thread==b.Thread)=z;generalize(a.Via.toList==b.Via.toList)=I;generalize N8 Xg a.Allow b.Allow=J;generalize N8 Xg a.iy b.iy=L;generalize N8 VW a.Levels.Users b.Levels.Users=O;generalize N8 TS a.Levels.Kinds b.Levels.Kinds=U;cases j<;>cases q<;>cases u<;>cases z<;>cases I<;>cases J<;>cases L<;>first|rfl|(simp only[El,a1P,BQ,Fv,Bool.and_self,Bool.and_assoc])
def alr (j:L6 e)(v:Ad):EH (Zy e v) ((UH e v).bind λu=>(bif (u != 0)then some u else(KT e.Kind e.Content).bind λz=>some z)):=by
 have h1:=j.room;have h2:=j.sender;have h3:=j.key;have Z:=j.prev;have h5:=j.auth;unfold Zy UH;rw[amV j,(pY (s:=e.Room) AQ).2,(Z9 (s:=e.bM) AQ).2,aTr AQ];cases v with
 |true=>
  exact .ret _
 |false=>
  simp only[BQ,Aj,bne,Lu,ql];generalize(Rx e.Room==0)=a;generalize(Sr e.bM==0)=b;generalize Vk e.Kind e.Key=I;cases a with
  |false=>
   exact .ret _
  |true=>
   cases b with
   |false=>
    exact .ret _
   |true=>
    cases I with
    |false=>
     exact .ret _
    |true=>
     simp only[El,a1P,Bool.and_self,BQ,a6p];refine Ij (λ_=>.ret _) λ_=>Ij (λ_=>.ret _) λhlen=>?_;simp only[a7y,mV]at hlen;obtain⟨J,L,M⟩:=aVG (l:=e.bG) AQ;obtain⟨O,U,Y⟩:=aVG (l:=e.bI) AQ;rw[L,U,M,Y];simp only[Aj,Lu,ql,a6p];cases J with
     |false=>
      exact .ret _
     |true=>
     cases O with
     |false=>
      exact .ret _
     |true=>
     simp only[El,BQ]
     have hs:decide ((BA ((e.bG.length:Int)+(e.bI.length:Int)))>0)=(decide ((e.bG.length:Int)>0)||((e.bI.length:Int)>0)):=by
      rw[Oh AQ AQ]
      grind
     rw[hs];generalize(bif ((e.bG.length:Int)==0)then !e.Kind==1 else false)=p;generalize(bif (e.Kind==1)then(decide ((e.bG.length:Int)>0)||((e.bI.length:Int)>0))else false)=q;cases p with
     |true=>
      exact .ret _
     |false=>
      cases q with
      |true=>
       exact .ret _
      |false=>
       exact EH.bind (agc e.Kind j.content) λx=>.ret _
def an0 (q:L6 e):EH (a7F e) (rW e):=by
 have j:=alr q;unfold a7F rW a4A;rw[show fV e.Kind=UY e.Kind from rfl];simp only[a6p,bne,Lu,Aj];refine Ij (λ_=>j _) λ_=>Ij (λ_=>j _) λ_=>?_;have hs:∃b,UY e.Kind=some b:=by unfold UY;cases decide (e.Kind>=1)<;>cases decide (e.Kind<=10)<;>exact⟨_,rfl⟩
 obtain⟨b,u⟩:=hs;rw[u];simp only[Aj,a6p];refine Ij (λ_=>j _) λ_=>Ij (λ_=>?_) λ_=>j _;cases e.Kind==2 with
 |true=>exact j _
 |false=>exact j _
def oJ (j:Wn e):TG e=some (Y0 e==e.Hash)/\VQ e=some (Y0 e==e.Hash):=a2Z j.content.asP
def amZ (j:Wn e)(v:Ad):EH (iD e v) (qL e v):=by
 have h2:e.bM.size<=2000:=j.sender;unfold iD qL;obtain⟨q,u⟩:=aOA j;obtain⟨z,I⟩:=qy (s:=e.bM) AQ;rw[q,u,z,I];refine Ij (λ_=>.ret _) λ_=>?_;simp only[Aj];refine Ij (λ_=>.ret _) λ_=>?_;unfold a3w a7C;show EH (bif !((e.sH.Server.toList==(splitB e.bM (L9 e.bM)).2.1.toList)&&((e.sH.Sum==e.Id)&&true))then some 12 else some 0) _;simp only[bne];cases(e.sH.Server.toList==(splitB e.bM (L9 e.bM)).2.1.toList)<;>cases(e.sH.Sum==e.Id)<;>exact .ret _
variable {a:Int}
def Ky {c:Ad}{X:AB Int}(h:(bif c then some a else X)=some 0)(ha:a≠0):c=false/\X=some 0:=by
 grind
def Tq {x:AB Int}(h:(bif a != 0 then some a else x)=some 0):a=0/\x=some 0:=by
 grind
def firsts {R:Type}{body:(Int->AB R)->Int->AB R}{ok:R}(l:A8 α)(hl:l.length<=9223372036854775807)(P:Nat->Prop)(u:∀k (i:Nat),i<l.length->body k (i:Int)=some ok->P i/\k ((i+1:Nat):Int)=some ok)(q:Nat)(h:bn body Az (q:Int)=some ok):∀i,q<=i->i<l.length->P i:=by
 have key:∀n (i:Nat) m,i+n=l.length->n<m->bn body m (i:Int)=some ok->∀j,i<=j->j<l.length->P j:=by
  intro n
  induction n with
  |zero=>
   grind
  |succ n z=>
   intro i m hi hm I j h1 h2;obtain⟨m,rfl⟩:∃J,m=J+1:=⟨m-1,AQ⟩
   obtain⟨a,b⟩:=u (bn body m) i AQ I;rcases aG8 h1 with rfl|h1
   ·exact a
   exact z (i+1) m AQ AQ b j h1 h2
 intro i h1 h2;have L:Az=9223372036854775808:=rfl;exact key (l.length-q) q Az AQ AQ h i h1 h2
def kG {l:A8 α}{Q:α->Prop}(h:∀i,0<=i->i<l.length->∀x,l[i]? =some x->Q x):∀x∈l,Q x:=λx j=>by
 obtain⟨i,hi,rfl⟩:=G8 j;exact h i (FB _) hi _ (EO hi)
def ajR (s:BP)(a b:Nat)(j:b<=s.size):(s.extract a b).size=b-a:=by rw[aKr];omega
def aPd {p:Int->Ad}(h:Rn l p=true):l.length<=32:=(aMO h).2
def zY (h:IX s m=true):s.size<=100:=by
 unfold IX WE at h;simp only[DR,IQ]at h;have h1:=h.2.1.1;have h2:=aPd h.2.1.2
 have h3:(DL (Tc s)).length<=32:=by
  have :=h.2.2;unfold Zr at this;simp only[DR]at this;exact aPd this.1.1
 rw[JI]at h2 h3;unfold WC at h2;unfold Tc at h3;rw[ajR _ _ _ AQ]at h2 h3;omega
def aVd (hs:s.size<=9223372036854775807)(h:bK s=some 0):s.size<=100/\IX s 64=true:=by
 rw[(Z9 hs).2]at h;have h:=Dx h;unfold Sr at h;cases hm:IX s 64 with
 |true=>
  exact⟨zY hm,rfl⟩
 |false=>
  grind
def acR (hs:s.size<=9223372036854775807)(h:eM s=some 0):s.size<=100/\IX s 33=true:=by
 rw[(pY hs).2]at h;have h:=Dx h;unfold Rx at h;cases hm:IX s 33 with
 |true=>
  exact⟨zY hm,rfl⟩
 |false=>
  grind
def aRw (hs:s.size<=9223372036854775807)(h:lQ s=some 0):s.size<=100:=by
 rw[(aDx hs).2]at h;have h:=Dx h;unfold a2N at h
 grind
def aNR {l:A8 BP}(hl:l.length<=9223372036854775807)(hs:∀s∈l,s.size<=9223372036854775807)(h:UD l=some 0):l.length<=100/\∀s∈l,s.size<=100:=by
 unfold UD at h;obtain⟨h1,h⟩:=Ky h Bl;refine⟨aFJ,kG (firsts l hl (λi=>∀x,l[i]? =some x->x.size<=100) (λk i hi j=>?_) 0 h)⟩;unfold wU at j;rw[DF hi]at j;obtain⟨x,u,j⟩:=Dq j;obtain⟨e,j⟩:=Tq j;subst e;rw[wrap_succ i AQ]at j;exact⟨λy q=>by rw[EO hi]at q;obtain rfl:=Dx q;exact aRw (hs _ (EZ hi)) u,j⟩
def ajC (hl:c.Allow.length<=9223372036854775807)(hs:∀s∈c.Allow,s.size<=9223372036854775807)(h:jS c=some 0):c.Allow.length<=100/\∀s∈c.Allow,s.size<=100:=by
 unfold jS at h;obtain⟨x,_,h⟩:=Dq h;obtain⟨_,h⟩:=Ky h Bl;obtain⟨h1,h⟩:=Ky h Bl;refine⟨aFJ,kG (firsts c.Allow hl (λi=>∀x,c.Allow[i]? =some x->x.size<=100) (λk i hi j=>?_) 0 h)⟩;unfold a1o ug at j;rw[DF hi]at j;obtain⟨x,I,j⟩:=Dq j;obtain⟨e,j⟩:=Ky j Bl;have q:x=0:=TR
 subst q;refine⟨λy u=>by rw[EO hi]at u;obtain rfl:=Dx u;exact(acR (hs _ (EZ hi)) I).1,?_⟩;cases hp:decide ((i:Int)>0)with
 |true=>
  rw[hp,Bj]at j;obtain⟨y,_,j⟩:=Dq j;obtain⟨z,_,j⟩:=Dq j;obtain⟨_,j⟩:=Ky j Bl
  rwa [wrap_succ i AQ]at j
 |false=>
  rw[hp,BQ,BQ]at j
  rwa [wrap_succ i AQ]at j
def aha {l:A8 IV}(hl:l.length<=9223372036854775807)(hs:∀u∈l,u.User.size<=9223372036854775807)(h:au l=some 0):l.length<=100/\∀u∈l,u.User.size<=100:=by
 unfold au at h;obtain⟨h1,h⟩:=Ky h Bl;refine⟨aFJ,kG (firsts l hl (λi=>∀x,l[i]? =some x->x.User.size<=100) (λk i hi q=>?_) 0 h)⟩
 have J:∀v,qE l (i:Int) k v=some 0->k ((i+1:Nat):Int)=some 0:=λv j=>by
  unfold qE at j;obtain⟨_,j⟩:=Ky j Bl;obtain⟨y,_,j⟩:=Dq j;obtain⟨z,_,j⟩:=Dq j;obtain⟨_,j⟩:=Ky j Bl
  rwa [wrap_succ i AQ]at j
 unfold yg at q;rw[DF hi]at q;obtain⟨x,L,O⟩:=Dq q;obtain⟨e,hd⟩:=Ky O Bl;have I:x=0:=TR
 rw[I]at L;refine⟨λy M=>by rw[EO hi]at M;obtain rfl:=Dx M;exact(aVd (hs _ (EZ hi)) L).1,?_⟩;cases hp:decide ((i:Int)>0)with
 |true=>
  rw[hp,Bj]at hd;obtain⟨y,_,U⟩:=Dq hd;obtain⟨z,_,Y⟩:=Dq U;exact J _ Y
 |false=>
  rw[hp,BQ]at hd;exact J _ hd
def aYt {l:A8 Jv}(h:aB l=some 0):l.length<=100:=by
 unfold aB at h
 grind
def empty_of (h:(s.toList==CX.toList)=true):s.size<=100:=by rw[a6C]at h;have :=eq_of_beq h;omega
def aUZ {l:Ch}(h:Oi l=true):l.Users=[]/\l.Kinds=[]:=by
 unfold Oi at h;simp only[DR]at h;exact⟨Uz h.1.1.1.1.1.1.1.1,Uz h.1.1.1.1.1.1.1.2⟩
def aYx (L:KO c)(h:KT k c=some 0):QL c:=by
 unfold KT at h;rw[(aAT k).2,Aj]at h;obtain⟨x2,Z,h⟩:=Dq h;obtain⟨e2,h⟩:=Ky h Bl;subst e2
 have J:eP k c=some true:=by
  cases hk:(decide (k>=1)&&(k<=14))with
  |false=>
   grind
  |true=>
   rw[hk]at Z;obtain⟨y,O,M⟩:=Dq (show(eP k c).bind (λx4=>some (!x4))=some false from Z);have M:=Dx M;cases y with
   |true=>
    exact O
   |false=>
    cases M
 obtain⟨x6,_,h⟩:=Dq h;obtain⟨x7,U,h⟩:=Dq h;cases x7 with
 |true=>
  have M:kU (c.Text.toList==CX.toList) (c.N==0) (c.Target==0) (!c.Thread) (c.Via.toList==CX.toList) ((c.Allow.length:Int)==0) ((c.iy.length:Int)==0) (Oi c.Levels)=true:=by
   cases x6 with
   |false=>
    cases U
   |true=>
    rw[aOr]at U;exact Dx U
  unfold kU at M;simp only[DR]at M;obtain⟨⟨⟨⟨⟨⟨⟨t1,_⟩,_⟩,_⟩,t5⟩,t6⟩,t7⟩,t8⟩:=M;have p:=aUZ t8;have q1:=empty_of t1;have q2:=empty_of t5;have a1:=Uz t6;have a2:=Uz t7;refine⟨?_,?_,?_,?_,AQ,AQ,?_,?_,?_⟩<;>first|rw[a1]|rw[a2]|rw[p.1]|rw[p.2]
  all_goals first|exact FB _|exact λx hx=>absurd hx Gn
 |false=>
  rw[BQ]at h;obtain⟨x11,j,h⟩:=Dq h;obtain⟨e,h⟩:=Tq h;subst e;obtain⟨x13,_,h⟩:=Dq h;obtain⟨_,h⟩:=Tq h;obtain⟨x15,_,h⟩:=Dq h;obtain⟨_,h⟩:=Tq h;obtain⟨x17,I,h⟩:=Dq h;obtain⟨e,h⟩:=Tq h;subst e
  have ht:c.Text.size<=2000:=by
   unfold bT at j;cases h9:k==9 with
   |true=>
    rw[h9,Bj]at j;cases h0:(c.Text.toList==CX.toList)with
    |true=>
     have :=empty_of h0;omega
    |false=>
     rw[h0,BQ]at j;obtain⟨y,O,j⟩:=Dq j;obtain rfl:=Dx j;have :=aRw L.text O;omega
   |false=>
    rw[h9,BQ]at j;obtain⟨y,_,j⟩:=Dq j;obtain⟨_,j⟩:=Ky j Bl;obtain⟨z,M,j⟩:=Dq j;obtain⟨e,_⟩:=Ky j Bl;subst e;cases hd:decide ((c.Text.size:Int)>400)with
    |true=>
     rw[hd]at M;cases M
    |false=>
     have :=Np hd;omega
  have hv:c.Via.size<=2000:=by
   unfold ZM at I;cases h0:(c.Via.toList==CX.toList)with
   |true=>
    have :=empty_of h0;omega
   |false=>
    rw[h0,BQ]at I;obtain⟨_,I⟩:=Ky I Bl;obtain⟨y,O,I⟩:=Dq I;obtain rfl:=Dx I;have :=(aVd L.via O).1;omega
  have Y:∀{l:A8 BP},(∀s∈l,s.size<=100)->∀s∈l,s.size<=2000:=λh s hs=>EI (h s hs) AQ;cases h4:k==4 with
  |true=>
   have e4:=eq_of_beq h4;subst e4;rw[NR,Bj]at h;obtain⟨y,O,h⟩:=Dq h;obtain rfl:=Dx h;obtain⟨r1,r2⟩:=ajC L.allow L.allows O;rw[aRA (K:=4) (c:=c) (show _=some false by kernel_rfl) (show _=some true by kernel_rfl) (show _=some false by kernel_rfl) (show _=some false by kernel_rfl) (show _=some false by kernel_rfl) (show _=some true by kernel_rfl) (show _=some false by kernel_rfl) (show _=some false by kernel_rfl)]at J;have ho:=Dx J;unfold NP at ho;simp only[DR,O1]at ho;have d:=Uz ho.1.2;have p:=aUZ ho.2;refine⟨r1,?_,?_,?_,ht,hv,Y r2,?_,?_⟩<;>first|rw[d]|rw[p.1]|rw[p.2]
   all_goals first|exact FB _|exact λx hx=>absurd hx Gn
  |false=>
   rw[h4,BQ]at h;obtain⟨y1,hy1,h⟩:=Dq h;obtain⟨e,h⟩:=Tq h;subst e;obtain⟨y2,hy2,h⟩:=Dq h;obtain⟨e,h⟩:=Tq h;subst e;obtain⟨y3,q,h⟩:=Dq h;obtain rfl:=Dx h;unfold ZO at q;obtain⟨z1,hz1,q⟩:=Dq q;obtain⟨e,q⟩:=Tq q;subst e;obtain⟨z2,hz2,q⟩:=Dq q;obtain⟨e,q⟩:=Tq q;subst e;obtain⟨a1,a2⟩:=aNR L.allow L.allows hy1;obtain⟨d1,d2⟩:=aNR L.deny L.denies hy2;obtain⟨u1,u2⟩:=aha L.users L.names hz1;exact⟨a1,d1,u1,aYt hz2,ht,hv,Y a2,Y d2,λu hu=>EI (u2 u hu) AQ⟩
structure fK (e:Aa):Prop where
 kind:1<=e.Kind/\e.Kind<=14
 state:e.State=J7 e.Kind
 keyed:e.Key=CX\/e.Kind=2\/e.Kind=9
 room:IX e.Room 33=true
 sender:IX e.bM 64=true
 key:Vk e.Kind e.Key=true
 time:0<=e.Time/\e.Time<=1000000000
 depth:1<=e.Depth/\e.Depth<=100000
 prev:e.bG.length<=10/\Inc e.bG/\∀x∈e.bG,0<=x
 auth:e.bI.length<=8/\Inc e.bI/\∀x∈e.bI,0<=x
 short:e.bG=[]->e.Kind=1
 form:e.Kind=1->e.bG=[]/\e.bI=[]
 content:KT e.Kind e.Content=some 0
 small:Wn e
def aUw (hl:l.length<=9223372036854775807)(h:dz l=some true):Inc l/\∀x∈l,0<=x:=by
 unfold dz aGW at h
 have u:=firsts l hl (λi=>∀x,l[i]? =some x->0<=x/\∀y,0<i->l[i-1]? =some y->y<x) (λk i hi q=>by
  have J:∀v,gY k (i:Int) v=some true->v=false/\k ((i+1:Nat):Int)=some true:=λv L=>by
   unfold gY at L;cases v with
   |true=>cases L
   |false=>rw[BQ,wrap_succ i AQ]at L;exact⟨rfl,L⟩
  unfold a4S at q;rw[DF hi]at q;cases M:decide (l[i]<0)with
  |true=>rw[M,Bj]at q;cases(J _ q).1
  |false=>
   have Y:=Np M;rw[M,BQ]at q;cases hp:decide ((i:Int)>0)with
   |false=>
    have Z:=Np hp;rw[hp,BQ]at q;refine⟨λx z=>?_,(J _ q).2⟩;rw[EO hi]at z;obtain rfl:=Dx z;exact⟨AQ,λy Y O=>AQ⟩
   |true=>
    rw[hp,Bj,CU hi,Aj,wQ hi hl hp,Aj]at q;obtain⟨h1,h2⟩:=J _ q;refine⟨λx z=>?_,h2⟩;rw[EO hi]at z;obtain rfl:=Dx z;refine⟨AQ,λy Y O=>?_⟩;rw[EO AQ]at O;obtain rfl:=Dx O
    have :=Np h1;omega) 0 h
 have I:∀i,(hi:i+1<l.length)->l[i]<l[i+1]:=λi hi=>(u (i+1) AQ hi _ (EO hi)).2 _ AQ (EO AQ);refine⟨?_,λx z=>?_⟩
 ·rw[Inc,JQ];intro i j hi J U
  induction j with
  |zero=>omega
  |succ j ih=>
   have h1:=I j J;rcases aG8 (Nat.le_of_lt_succ U)with rfl|h2
   ·exact h1
   have :=ih AQ h2;omega
 obtain⟨i,hi,rfl⟩:=G8 z;exact(u i (FB _) hi _ (EO hi)).1
def wO {c:Ad}{X:AB Ad}{f:Ad->AB Int}{v:Int}(j:f true≠some v)(h:((bif c then some true else X).bind f)=some v):c=false/\X.bind f=some v:=by
 grind
def ad4 (L:L6 e)(h:rW e=some 0):fK e:=by
 unfold rW at h;obtain⟨x1,h1,h⟩:=Dq h;obtain⟨e1,h⟩:=Tq h;subst e1;obtain⟨x3,h3,h⟩:=Dq h;obtain rfl:=Dx h;have J:=aYx L.content h3
 have M:∀v,UH e v=some 0->v=false:=λv hv=>by
  cases v with
  |true=>cases hv
  |false=>rfl
 have Z:UH e false=some 0/\(1<=e.Kind/\e.Kind<=14)/\e.State=J7 e.Kind/\(e.Key=CX\/e.Kind=2\/e.Kind=9):=by
  unfold a4A at h1;cases Y:decide (e.Kind<1)with
  |true=>rw[Y,Bj]at h1;cases M _ h1
  |false=>
   cases c2:decide (e.Kind>14)with
   |true=>rw[Y,c2,BQ,Bj]at h1;cases M _ h1
   |false=>
    rw[Y,c2,BQ,BQ,a2w,Aj]at h1;have k1:=Np Y;have k2:=Np c2;cases c3:(e.State==J7 e.Kind)with
    |false=>rw[c3,JV,Bj]at h1;cases M _ h1
    |true=>
     rw[c3,El,BQ]at h1;refine⟨?_,⟨AQ,AQ⟩,eq_of_beq c3,?_⟩
     all_goals cases c4:(e.Key.toList==CX.toList)with
     |true=>rw[c4,El,BQ]at h1;first|exact h1|exact .inl (toList_inj (eq_of_beq c4))
     |false=>
      rw[c4,JV,Bj]at h1;cases c5:(e.Kind != 2)with
      |false=>rw[c5,BQ]at h1;first|exact h1|exact .inr (.inl (by simpa using c5))
      |true=>
       rw[c5,Bj]at h1;have :=M _ h1;rw[this]at h1
       first|exact h1|exact .inr (.inr a4o)
 clear h1 M;obtain⟨h1,hk,hst,O⟩:=Z;unfold UH at h1;rw[BQ,(pY (s:=e.Room) L.room).2,(Z9 (s:=e.bM) L.sender).2,aTr L.key]at h1;simp only[Aj]at h1
 have u:IX e.Room 33=true:=by
  cases hm:IX e.Room 33 with
  |true=>rfl
  |false=>unfold Rx at h1;rw[hm]at h1;cases h1
 have r0:Rx e.Room=0:=by unfold Rx;rw[u];rfl
 rw[r0,Ry,BQ,Aj]at h1
 have z:IX e.bM 64=true:=by
  cases hm:IX e.bM 64 with
  |true=>rfl
  |false=>unfold Sr at h1;rw[hm]at h1;cases h1
 have u0:Sr e.bM=0:=by unfold Sr;rw[z];rfl
 rw[u0,Ry,BQ,Aj]at h1
 have j:Vk e.Kind e.Key=true:=by
  cases hm:Vk e.Kind e.Key with
  |true=>rfl
  |false=>rw[hm]at h1;cases h1
 rw[j,El,BQ]at h1;obtain⟨t1,h1⟩:=wO sG h1;rw[Aj]at h1;obtain⟨t2,h1⟩:=wO sG h1;rw[Aj]at h1;obtain⟨t3,h1⟩:=wO sG h1;rw[Aj]at h1;obtain⟨t4,h1⟩:=Ky h1 Bl;obtain⟨t5,h1⟩:=wO sG h1;rw[Aj]at h1;obtain⟨t6,h1⟩:=Ky h1 Bl;obtain⟨x21,h21,h1⟩:=Dq h1;obtain⟨t7,h1⟩:=wO sG h1;rw[Option.bind_assoc]at h1;obtain⟨x24,h24,h1⟩:=Dq h1;rw[Aj]at h1;obtain⟨t8,h1⟩:=Ky h1 Bl;obtain⟨x26,U,h1⟩:=Dq h1;obtain⟨t9,h1⟩:=Ky h1 Bl;obtain⟨x29,I,h1⟩:=Dq h1;obtain⟨t10,_⟩:=Ky h1 Bl;have e21:x21=true:=by simpa using t7
 have e24:x24=true:=by simpa using t8
 subst e21 e24 t9 t10;have p1:=Np t5;have p2:=Np t6;have r1:=aUw L.prev h21;have r2:=aUw L.auth h24;have d1:=Np t1;have d2:=Np t2;have d3:=Np t3;have d4:=Np t4
 have hkz:e.Key.size<=2000:=by
  rcases O with h|h|h
  ·rw[h];exact FB _
  ·unfold Vk at j;rw[ET h]at j;have :Sr e.Key=0:=Vf
   unfold Sr at this;cases hm:IX e.Key 64 with
   |true=>have :=zY hm;omega
   |false=>rw[hm]at this;cases this
  unfold Vk at j;rw[Ef AQ,ET h]at j;unfold wR at j;simp only[DR,IQ]at j;have :=j.1.2;omega
 have z1:=zY u;have z2:=zY z;refine⟨hk,hst,O,u,z,j,⟨AQ,AQ⟩,⟨AQ,AQ⟩,⟨AQ,r1⟩,⟨AQ,r2⟩,λhp=>?_,λhk1=>?_,h3,⟨?_,?_,J.allow,J.deny,J.users,J.kinds,?_,?_,hkz,J.text,J.via,FB _,J.allows,J.denies,J.names⟩⟩
 ·rw[hp]at U;have :=Dx U;simpa using this
 ·rw[hk1]at I;have I:((bif (e.bG.length:Int)>0 then some true else some (decide ((e.bI.length:Int)>0))).bind λx31=>some x31)=some false:=I;cases q:decide ((e.bG.length:Int)>0)with
  |true=>rw[q]at I;cases I
  |false=>
   rw[q]at I;have q2:=Dx I;have :=Np q;have :=Np q2;exact⟨He AQ,He AQ⟩
 ·show e.bG.length<=40;omega
 ·show e.bI.length<=40;omega
 ·show e.Room.size<=2000;omega
 show e.bM.size<=2000;omega
def aAs (L:L6 e):∃c,xH e=some c/\Kv e=some c/\(c=0->fK e/\Ey e):=by
 obtain⟨x,z,u⟩:=an0 L;unfold xH Kv;rw[z,u,Aj,Aj];cases I:x != 0 with
 |true=>
  grind
 |false=>
  obtain rfl:x=0:=oL
  have M:=ad4 L u;have hs:=M.small;have J:e.bM.size<=2000:=hs.sender;rw[BQ,BQ,(oJ hs).1,(oJ hs).2,aTC _ hs.content,aBw];simp only[Aj];rw[alN _ hs.content,aFT _ hs.content];simp only[Aj]
  have key:∀v,∃c,iD e v=some c/\qL e v=some c/\(c=0->fK e/\Ey e):=λv=>by
   obtain⟨c,j,U⟩:=amZ hs v;refine⟨c,j,U,λY=>⟨M,?_⟩⟩;subst Y;unfold iD at j;obtain⟨_,j⟩:=Ky j Bl;rw[(aOA hs).1,Aj]at j;obtain⟨_,j⟩:=Ky j Bl;rw[(qy (s:=e.bM) AQ).1,Aj]at j;obtain⟨O,_⟩:=Ky (show(bif !((e.sH.Server.toList==(splitB e.bM (L9 e.bM)).2.1.toList)&&((e.sH.Sum==e.Id)&&true))then some 12 else some 0)=some (0:Int)from j) Bl
   have Z:e.sH.Server=(splitB e.bM (L9 e.bM)).2.1:=by
    cases q:(e.sH.Server.toList==(splitB e.bM (L9 e.bM)).2.1.toList)with
    |true=>
     exact toList_inj (eq_of_beq q)
    |false=>
     rw[q]at O;cases O
   have hz:=(ahn e.bM J).2.2;exact⟨hs.prev,hs.auth,hs.allow,hs.deny,hs.users,hs.kinds,hs.room,hs.sender,hs.key,hs.text,hs.via,by rw[Z];exact hz,hs.allows,hs.denies,hs.names⟩
  cases(!(Y0 e==e.Hash))with
  |true=>
   rw[Bj,Bj];exact key _
  |false=>
   rw[BQ,BQ];exact key _
def aBU {f g:(Int->AB Int)->Int->AB Int}(N lo:Nat)(hs:∀k k' (i:Nat),lo<=i->i<N->EH (k ((i+1:Nat):Int)) (k' ((i+1:Nat):Int))->EH (f k (i:Int)) (g k' (i:Int)))(z:∀k k',EH (f k (N:Int)) (g k' (N:Int))):
 ∀n (i:Nat),lo<=i->i+n=N->∀m j,n<m->n<j->EH (bn f m (i:Int)) (bn g j (i:Int)):=by
 intro n
 induction n with
 |zero=>
  intro i u hi m j h1 h2;obtain⟨m,rfl⟩:∃q,m=q+1:=⟨m-1,AQ⟩
  obtain⟨j,rfl⟩:∃q,j=q+1:=⟨j-1,AQ⟩
  have :i=N:=AQ
  subst this;exact z _ _
 |succ n I=>
  intro i u hi m j h1 h2;obtain⟨m,rfl⟩:∃q,m=q+1:=⟨m-1,AQ⟩
  obtain⟨j,rfl⟩:∃q,j=q+1:=⟨j-1,AQ⟩
  exact hs _ _ i u AQ (I (i+1) AQ AQ m j AQ AQ)
def lasts {R:Type}{body:(Int->AB R)->Int->AB R}{ok:R}(N:Nat)(L:N<=9223372036854775807)(P:Nat->Prop)(I:∀k (i:Nat),i<N->body k (i:Int)=some ok->P i/\k ((i+1:Nat):Int)=some ok)(q:Nat)(M:q<=N)(h:bn body Az (q:Int)=some ok):(∀i,q<=i->i<N->P i)/\∃k,body k (N:Int)=some ok:=by
 have key:∀n (i:Nat) m,i+n=N->n<m->bn body m (i:Int)=some ok->(∀j,i<=j->j<N->P j)/\∃k,body k (N:Int)=some ok:=by
  intro n
  induction n with
  |zero=>
   intro i m hi hm u;obtain⟨m,rfl⟩:∃z,m=z+1:=⟨m-1,AQ⟩
   have :i=N:=AQ
   subst this;exact⟨λj h1 h2=>AQ,_,u⟩
  |succ n J=>
   intro i m hi hm u;obtain⟨m,rfl⟩:∃z,m=z+1:=⟨m-1,AQ⟩
   obtain⟨a,b⟩:=I (bn body m) i AQ u;obtain⟨c,d⟩:=J (i+1) m AQ AQ b;refine⟨λj h1 h2=>?_,d⟩;rcases aG8 h1 with rfl|h1
   ·exact a
   exact c j h1 h2
 have O:Az=9223372036854775808:=rfl;exact key (N-q) q Az AQ AQ h
def aUc {l:A8 α}(h:i+1<l.length)(hl:l.length<=1000000):Au l (BA (((i+1:Nat):Int)-1))=some l[i]:=by
 rw[show BA (((i+1:Nat):Int)-1)=(i:Int) by rw[gU];omega,CU AQ]
variable {l:A8 Aa}
def ac8 (L:∀e∈l,L6 e)(hl:l.length<=1000):EH (NZ l) (Ko l):=by
 by_cases I:l=[]
 ·subst I;exact⟨0,AA,AA⟩
 have q:0<l.length:=qh.2 I;have M:Az=9223372036854775807+1:=rfl
 have h3:EH (a3K l 1) (a2G l 1):=by
  unfold a3K a2G;refine aBU l.length 1 (λk k' i z hi u=>?_) (λk k'=>?_) (l.length-1) 1 (EW _) AQ Az Az AQ AQ
  ·obtain⟨i,rfl⟩:∃j,i=j+1:=⟨i-1,AQ⟩
   unfold a4E a07;rw[DF hi,dec_lt hi,Bj,aUc hi AQ,Aj,Aj,CU hi,Aj,wrap_succ (i+1) AQ];show EH (bif l[i+1].Id<=l[i].Id then some 8 else k _) (bif l[i].Id>=l[i+1].Id then some 8 else k' _);exact Ij (λ_=>.ret _) λ_=>u
  unfold a4E a07;rw[DZ];exact .ret _
 have J:Au l 0=some l[0]:=CU (i:=0) q
 have h2:EH (a0X l 0) (a3a l 1):=by
  have O:∀k,YU l k 0=k 1:=λk=>by
   unfold YU;rw[show decide ((0:Int)<(l.length:Int))=true by simpa using q,Bj,J,Aj,Aj,NR];rfl
  have U:a0X l 0=bn (YU l) 9223372036854775807 1:=by
   unfold a0X;rw[M];exact O _
  rw[U];unfold a3a;refine aBU l.length 1 (λk k' i z hi u=>?_) (λk k'=>?_) (l.length-1) 1 (EW _) AQ _ Az AQ AQ
  ·unfold YU tH;rw[DF hi,DF hi,J,Aj,Aj,wrap_succ i AQ];exact Ij (λ_=>.ret _) λ_=>u
  unfold YU tH
  grind
 unfold NZ Ko;rw[Ic (show ¬(l.length:Int)>2000 by omega),BQ,BQ];unfold aGA a7J;refine aBU l.length 0 (λk k' i _ hi u=>?_) (λk k'=>?_) l.length 0 (EW _) AQ Az Az AQ AQ
 ·unfold a0E lD;obtain⟨c,Y,Z,_⟩:=aAs (L _ (EZ hi));rw[DF hi,DF hi,Y,Z,Aj,Aj,wrap_succ i AQ];exact Ij (λ_=>.ret _) λ_=>u
 unfold a0E lD
 grind
structure N9 (l:List Aa):Prop where
 ev:∀e∈l,fK e/\Ey e
 room:∀x∈l,∀y∈l,x.Room=y.Room
 inc:Inc (l.map (·.Id))
def agk {f:Nat->Int}:∀(n i j:Nat),(∀k,i<=k->k<j->f k<f (k+1))->i+n=j->0<n->f i<f j:=by
 intro n
 induction n with
 |zero=>
  grind
 |succ n z=>
  intro i j h q _;rcases Vb n with u|u
  ·subst u;rw[←q];exact h i (EW _) AQ
  have a:=h i (EW _) AQ;have b:=z (i+1) j (λk h1 h2=>h k AQ h2) AQ u;omega
def an8 (hw:∀e∈l,L6 e)(hl:l.length<=1000)(h:NZ l=some 0):N9 l:=by
 unfold NZ at h;rw[Ic (show ¬(l.length:Int)>2000 by omega),BQ]at h;unfold aGA at h
 obtain⟨p1,k1,h⟩:=lasts l.length AQ (λi=>∀x,l[i]? =some x->fK x/\Ey x) (λk i hi u=>by
  unfold a0E at u;obtain⟨c,c1,_,c3⟩:=aAs (hw _ (EZ hi));rw[DF hi,c1,Aj,wrap_succ i AQ]at u;obtain⟨e,u⟩:=Tq u
  exact⟨λx I=>by rw[EO hi]at I;obtain rfl:=Dx I;exact c3 e,u⟩) 0 (FB _) h
 unfold a0E at h;rw[DZ,BQ]at h;unfold a0X at h
 obtain⟨p2,k2,h⟩:=lasts l.length AQ (λi=>∀x y,l[i]? =some x->l[0]? =some y->x.Room=y.Room) (λk i hi u=>by
  unfold YU at u;have g0:Au l 0=some l[0]:=CU (i:=0) AQ;rw[DF hi,g0,Aj,wrap_succ i AQ]at u;obtain⟨e,u⟩:=Ky u Bl;refine⟨λx y I J=>?_,u⟩;rw[EO hi]at I;rw[EO AQ]at J;obtain rfl:=Dx I;obtain rfl:=Dx J
  exact toList_inj TR) 0 (FB _) h
 unfold YU at h;rw[DZ,BQ]at h;refine⟨kG p1,λx I y J=>?_,?_⟩
 ·have key:∀x∈l,∀y,l[0]? =some y->x.Room=y.Room:=kG λi hi M x I y J=>p2 i hi M x y I J;have h0:0<l.length:=List.length_pos_of_mem I;have e0:l[0]? =some l[0]:=EO h0
  grind
 by_cases U:l=[]
 ·subst U;exact .nil
 have L:0<l.length:=qh.2 U;unfold a3K at h
 obtain⟨p3,_⟩:=lasts l.length AQ (λi=>∀j x y,i=j+1->l[i]? =some x->l[j]? =some y->y.Id<x.Id) (λk i hi u=>by
  unfold a4E at u;rw[DF hi]at u;obtain⟨z,Y,u⟩:=Dq u;obtain⟨e,u⟩:=Ky u Bl;rw[wrap_succ i AQ]at u;refine⟨λj x y Z I J=>?_,u⟩;subst Z;rw[aUc hi AQ]at Y;rw[EO hi]at I;rw[EO AQ]at J;obtain rfl:=Dx I;obtain rfl:=Dx J;obtain rfl:=Dx Y
  have :=Np e;omega) 1 L h
 rw[Inc,cu,JQ];intro i j hi Z hij
 have :=agk (f:=λq=>(l.getD q Fe).Id) (j-i) i j (λk h1 h2=>by
  have O:k+1<l.length:=AQ
  have :=p3 (k+1) AQ O k l[k+1] l[k] rfl (EO O) (EO AQ)
  simpa[List.getD,EO O,EO (show k<l.length by omega)]using this) AQ AQ
 grind
def N9.ok (h:N9 l)(hl:l.length<=100):KR l:=⟨hl,λe j=>(h.ev e j).2,QH h.inc,λe j=>(h.ev e j).1.depth⟩
def aVB (j:∀e∈l,L6 e)(hl:l.length<=100):∃c,NZ l=some c/\Ko l=some c/\(c=0->N9 l):=by
 obtain⟨c,q,u⟩:=ac8 j AQ;exact⟨c,q,u,λh=>an8 j AQ (by rw[q,h])⟩
def agZ (e:Aa):Gl e (SY e):=by
 refine⟨rfl,rfl,rfl,rfl,rfl,rfl,rfl,rfl,rfl,λh=>?_,λh=>?_⟩
 ·show(Oc e.Kind e.Content).N=_;rcases h with h|h<;>rw[h]<;>rfl
 show(Oc e.Kind e.Content).Levels=_;rw[h];rfl
def aie (h:Ey e):Ey (SY e):=by
 have j:=h.content.strip e.Kind;exact⟨h.prev,h.auth,j.allow,j.deny,j.users,j.kinds,h.room,h.sender,h.key,j.text,j.via,h.server,j.allows,j.denies,j.names⟩
def rQ (q:Ko l=some 0)(hl:l.length<=100):∀x∈l,Kv x=some 0:=by
 unfold Ko at q;obtain⟨_,h⟩:=Ky q Bl;unfold a7J at h
 obtain⟨z,_⟩:=lasts l.length AQ (λi=>∀x,l[i]? =some x->Kv x=some 0) (λk i hi j=>by
  unfold lD at j;rw[DF hi]at j;obtain⟨y,I,j⟩:=Dq j;obtain⟨e,j⟩:=Tq j;subst e;rw[wrap_succ i AQ]at j
  exact⟨λx u=>by rw[EO hi]at u;obtain rfl:=Dx u;exact I,j⟩) 0 (FB _) h
 exact kG z
structure aUK (l k:List Aa):Prop where
 ref:Ko k=some 0
 prog:NZ k=some 0
 facts:N9 k
 deep:Hz k=0
 ids:k.map (·.Id)=l.map (·.Id)
 agr:Hr l k (l.map (·.Id))
def acY {k:A8 Aa}(h:aUK l k)(J:N9 l)(hl:l.length<=100)(u:k.length<=100)(hd:Hz l=0):(∀x,FU (DT k) x=FU (DT l) x)/\O8 k (DT k)=O8 l (DT l)/\Gv k (DT k)=Gv l (DT l):=by
 have I:=J.ok hl;have q:=h.facts.ok u;have L:=aIV h.agr I hd q h.deep
 have h1:∀x,FU (DT k) x=FU (DT l) x:=λx=>by
  by_cases j:x∈l.map (·.Id)
  ·exact(L x j).1
  have z:∀{m:A8 Aa},x∉m.map (·.Id)->FU (DT m) x=none:=λ{m} hm=>by
   rw[a0z,aJI];exact λM=>hm (Hw.1 (qY.1 M))
  rw[z j,z (by rw[h.ids];exact j)]
 have h2:Gv k (DT k)=Gv l (DT l):=by
  rw[aEs,aEs,h.ids];exact ZE λx _=>by unfold Hd;rw[h1]
 exact⟨h1,aYQ h.agr I hd q h.deep (λx j=>by rw[aEs]at j;exact(Gs.1 j).1) h2,h2⟩
end Go.Proofs.YtfmoknlmaldmlaaGreat
