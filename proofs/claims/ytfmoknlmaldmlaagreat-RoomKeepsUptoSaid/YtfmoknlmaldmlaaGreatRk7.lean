/- Part 7 of the laws' proofs (short forms by wip/shrink2.py). -/
import Derived.Test.YtfmoknlmaldmlaaGreatRk6
set_option linter.defProp false
set_option linter.unnecessarySimpa false
set_option linter.unusedSectionVars false
set_option linter.unusedVariables false
set_option linter.unusedSimpArgs false
namespace Go.Proofs.YtfmoknlmaldmlaaGreat
open Go.RowKit Go.Proofs.Tryz
variable {A α:Type}
def aIe {R:Type}{body:(Int->A->AB R)->Int->A->AB R}(l:A8 α)(hl:l.length<Ar)(p:α->AX)(g:Nat->AB R)(rest:AB R)(a0:A)(u:∀k (i:Nat) (h:i<l.length),body k (i:Int) a0=bif p l[i]then g i else k (Aw ((i:Int)+1)) a0)(z:∀k,body k (l.length:Int) a0=rest):
 aQ body Ar 0 a0=if l.findIdx p<l.length then g (l.findIdx p)else rest:=by
 have J:Ar=9223372036854775808:=rfl
 have key:∀n (i:Nat),i+n=l.length->∀m,n<m->aQ body m (i:Int) a0=if(l.drop i).findIdx p+i<l.length then g ((l.drop i).findIdx p+i)else rest:=by
  intro n
  induction n with
  |zero=>
   intro i hi m hm;obtain⟨m,rfl⟩:∃q,m=q+1:=⟨m-1,AL⟩
   have :i=l.length:=AL
   subst this;show body (aQ body m) _ _=_;rw[z,PL,Eh Bf]
  |succ n I=>
   intro i hi m hm;obtain⟨m,rfl⟩:∃q,m=q+1:=⟨m-1,AL⟩
   have j:i<l.length:=AL
   show body (aQ body m) _ _=_;rw[u _ i j,wrap_succ i AL,I (i+1) AL m AL,NW j,YH];cases p l[i]with
   |true=>
    grind
   |false=>
    simp only[BR];rw[show(l.drop (i+1)).findIdx p+(i+1)=(l.drop (i+1)).findIdx p+1+i by omega]
 grind
def JZ (l:A8 AQ):AQ×AX:=match l.find? λx=>x.Kind==1 with |some x=>(x,true)|none=>(Fj,false)
def aIS (l:A8 AQ)(p:AQ->AX):(if l.findIdx p<l.length then(some (match l[l.findIdx p]? with |some x=>(x,true)|none=>(Fj,false)))else some (Fj,false))=some (match l.find? p with |some x=>(x,true)|none=>(Fj,false)):=by
 rw[Ku]
 grind
def aN2 (l:A8 AQ)(hl:l.length<=1000):tK l=some (JZ l):=by
 unfold tK aQf;rw[aIe l (fuel_lt AL) (λx=>x.Kind==1) (λi=>some (match l[i]? with |some x=>(x,true)|none=>(Fj,false))) (some (Fj,false))]
 ·exact aIS l _
 ·intro k i h;unfold aEf;rw[DI h,ES h]
 intro k;unfold aEf;rw[EM]
def aVT (l:A8 AQ)(hl:l.length<=1000):zx l=some (JZ l):=by
 unfold zx aSg;rw[aIe l (fuel_lt AL) (λx=>x.Kind==1) (λi=>some (match l[i]? with |some x=>(x,true)|none=>(Fj,false))) (some (Fj,false))]
 ·exact aIS l _
 ·intro k i h;unfold aCu;rw[DI h,CY h,ES h];rfl
 intro k;unfold aCu;rw[EM]
def QK (u:BO)(x:AQ):AX:=x.Kind==2&&(x.Key=u)
def LD (l:A8 AQ)(u:BO):Int:=match l.find? (QK u)with |some x=>x.Content.N|none=>0
def a4Z (u:BO)(x:AQ):(bif (x.Kind==2)then some (x.Key.toList==u.toList)else some false)=some (QK u x):=by
 unfold QK;rw[Ja];cases x.Kind==2<;>rfl
def aI8 (l:A8 AQ)(u:BO)(hl:l.length<=1000):qg l u=some (LD l u):=by
 unfold qg aNl LD;rw[KC l (fuel_lt AL) (QK u) (λi=>some (match l[i]? with |some x=>x.Content.N|none=>0)) (some 0)]
 ·rw[Ku]
  grind
 ·intro k i h;unfold aGP;rw[DI h,CY h,ES h];simp only[Ad];rw[a4Z];rfl
 intro k;unfold aGP;rw[EM]
def aFv (l:A8 AQ)(u:BO)(hl:l.length<=1000):ji l u=some (LD l u):=by
 unfold ji aQY LD;rw[KC l (fuel_lt AL) (QK u) (λi=>some (match l[i]? with |some x=>x.Content.N|none=>0)) (some 0)]
 ·rw[Ku]
  grind
 ·intro k i h;unfold aDo;rw[DI h,CY h,ES h];simp only[Ad];rw[a4Z];rfl
 intro k;unfold aDo;rw[EM]
def Xj (e:AQ)(l:A8 AQ):AX:=
 (JZ l).2&&(e.bH.length==1&&(e.bH.getD 0 0==(JZ l).1.Id&&(decide (e.bQ=(JZ l).1.bQ)&&(decide (e.Key=(JZ l).1.bQ)&&(e.Content.N==3&& !l.any (QK e.Key))))))
def akz (e:AQ)(l:A8 AQ)(hl:l.length<=1000):a7H e l=some (Xj e l):=by
 have u:aFS l e 0=some (!l.any (QK e.Key)):=by
  unfold aFS;rw[Hq l (fuel_lt AL) (QK e.Key) false (some true)]
  ·grind
  ·intro k i h;unfold aDj;rw[DI h,a4Z];rfl
  intro k;unfold aDj;rw[EM]
 unfold a7H Xj Z5;rw[aN2 l hl];simp only[Ad];rw[u,Ja,Ja];cases(JZ l).2 with
 |false=>
  rfl
 |true=>
  by_cases hp:e.bH.length=1
  ·have z:0<e.bH.length:=AL
   have j:((e.bH.length:Int) != 1)=false:=by rw[hp];rfl
   have q:(e.bH.length==1)=true:=a2X
   have I:Aq e.bH 0=some (e.bH.getD 0 0):=by
    have :Aq e.bH ((0:Nat):Int)=some e.bH[0]:=CY z
    grind
   rw[j,q,I];simp only[Ad,bne];cases e.bH.getD 0 0==(JZ l).1.Id<;>cases decide (e.bQ=(JZ l).1.bQ)<;>cases decide (e.Key=(JZ l).1.bQ)<;>cases e.Content.N==3<;>rfl
  have j:((e.bH.length:Int) != 1)=true:=Ej
  have q:(e.bH.length==1)=false:=a2X
  rw[j,q];rfl
def aay (e:AQ)(l:A8 AQ)(hl:l.length<=1000):aBb e l=some (Xj e l):=by
 have u:a6G l e.Key=some (l.any (QK e.Key)):=by
  unfold a6G aSb;rw[Hq l (fuel_lt AL) (QK e.Key) true (some false)]
  ·grind
  ·intro k i h;unfold aLE;rw[DI h,CY h];simp only[Ad];rw[a4Z];rfl
  intro k;unfold aLE;rw[EM]
 unfold aBb Xj Y5;rw[aVT l hl];simp only[Ad];rw[u,Ja,Ja];cases(JZ l).2 with
 |false=>
  rfl
 |true=>
  by_cases hp:e.bH.length=1
  ·have z:0<e.bH.length:=AL
   have j:((e.bH.length:Int)==1)=true:=by rw[hp];rfl
   have q:(e.bH.length==1)=true:=a2X
   have I:Aq e.bH 0=some (e.bH.getD 0 0):=by
    have :Aq e.bH ((0:Nat):Int)=some e.bH[0]:=CY z
    grind
   rw[j,q,I];simp only[Ad];cases e.bH.getD 0 0==(JZ l).1.Id<;>cases decide (e.bQ=(JZ l).1.bQ)<;>cases decide (e.Key=(JZ l).1.bQ)<;>cases e.Content.N==3<;>rfl
  have j:((e.bH.length:Int)==1)=false:=Ej
  have q:(e.bH.length==1)=false:=a2X
  rw[j,q];rfl
def moveB (f t:Int)(s:AX):AX:=
 bif decide (f<0)||decide (f>4)then false else bif t==3 then s&&f != 4 else bif t==0 then f==1||f==2||f==3||(f==4&& !s)else bif t==2 then s&&(f==0||f==2)else bif t==1 then !s&&(f==0||f==2||f==1)else bif t==4 then !s else false
def aPG (f t:Int)(s:AX):XQ f t s=some (moveB f t s):=by
 unfold XQ moveB;simp only[Lr,Ad,oW,SV]
def aYm (f t:Int)(s:AX):jV f t s=some (moveB f t s):=by
 rw[←aPG];by_cases j:f<0
 ·unfold jV XQ
  grind
 by_cases q:f>4
 ·unfold jV XQ
  grind
 by_cases u:t<0
 ·unfold jV XQ;rw[KL u,IC j,IC q,show(t==3)=false by simp;omega,show(t==0)=false by simp;omega,show(t==2)=false by simp;omega,show(t==1)=false by simp;omega,show(t==4)=false by simp;omega];rfl
 by_cases z:t>4
 ·unfold jV XQ;rw[KL z,IC u,IC j,IC q,show(t==3)=false by simp;omega,show(t==0)=false by simp;omega,show(t==2)=false by simp;omega,show(t==1)=false by simp;omega,show(t==4)=false by simp;omega];rfl
 have I:f=0\/f=1\/f=2\/f=3\/f=4:=AL
 have J:t=0\/t=1\/t=2\/t=3\/t=4:=AL
 rcases I with rfl|rfl|rfl|rfl|rfl<;>rcases J with rfl|rfl|rfl|rfl|rfl<;>cases s<;>decide
def X9 (l:A8 AQ):Int×A8 BO:=match l.find? λx=>x.Kind==4 with |some x=>(x.Content.N,x.Content.Allow)|none=>(0,[])
def akm (l:A8 AQ)(hl:l.length<=1000)(hs:EX l):a6E l=some (X9 l):=by
 unfold a6E aT2 X9;rw[KC l (fuel_lt AL) (λx=>x.Kind==4) (λi=>some (match l[i]? with |some x=>(x.Content.N,x.Content.Allow)|none=>(0,[]))) (some (0,[]))]
 ·rw[Ku]
  grind
 ·intro k i h;have ha:=(hs _ (EY h)).allow;unfold aFx;rw[DI h,ES h,Dy SG];rfl
 intro k;unfold aFx;rw[EM]
def anA (l:A8 AQ)(hl:l.length<=1000)(hs:EX l):a4F l=some (X9 l):=by
 unfold a4F aRm X9;rw[KC l (fuel_lt AL) (λx=>x.Kind==4) (λi=>some (match l[i]? with |some x=>(x.Content.N,x.Content.Allow)|none=>(0,[]))) (some (0,[]))]
 ·rw[Ku]
  grind
 ·intro k i h;have ha:=(hs _ (EY h)).allow;unfold aLP;rw[DI h,CY h,ES h];simp only[Ad];rw[Dy SG];rfl
 intro k;unfold aLP;rw[EM]
def sU (j now:Int):Int:=bif now==3||j==1 then 0 else bif now==1&&(j==0||j==2||j==3)then 0 else 21
def a0r (j now:Int):Int:=bif j==2&&(now==0||now==2)then 0 else 21
def abD (r n:Int):a5X r n=some (sU r n):=by
 unfold a5X xJ a2w sU;cases n==3<;>cases r==1<;>cases r==2<;>cases r==3<;>cases r==0<;>cases n==1<;>rfl
def am9 (r n:Int):a3H r n=some (sU r n):=by
 unfold a3H sU;cases n==3<;>cases r==1<;>cases r==2<;>cases r==3<;>cases r==0<;>cases n==1<;>rfl
def aeO (r n:Int):aAc r n=some (a0r r n):=by
 unfold aAc a3k a0r bne
 grind
def ai3 (r n:Int):aAa r n=some (a0r r n):=by
 unfold aAa a0r
 grind
def Zz (m now:Int)(l:A8 AQ):Int:=bif m==3 then sU (X9 l).1 now else bif m==2 then a0r (X9 l).1 now else 0
def akg (m now:Int)(l:A8 AQ)(hl:l.length<=1000)(hs:EX l):aBf m now l=some (Zz m now l):=by
 unfold aBf Zz;rw[akm l hl hs];simp only[Ad];rw[abD,aeO]
 grind
def amb (e:AQ)(now:Int)(l:A8 AQ)(hl:l.length<=1000)(hs:EX l):a3D e l now=some (Zz e.Content.N now l):=by
 unfold a3D Zz;rw[anA l hl hs];simp only[Ad];rw[am9,ai3]
 grind
def Ic (k:Int):AX:=decide (k>=1)&&(k<=10)
def aNk (k:Int):dA k=some (Ic k):=by
 unfold dA Ic;cases decide (k>=1)<;>rfl
def aBZ (k:Int):Uw k=some (Ic k):=by
 unfold Uw Ic;cases decide (k>=1)<;>rfl
def XV (v:Cx)(k:Int):Int:=match v.Kinds.find? λx=>x.Kind==k with |some x=>x.N|none=>bif Ic k then v.State else v.Message
def aHV (v:Cx)(k:Int)(h:v.Kinds.length<=1000):ny v k=some (XV v k):=by
 unfold ny aLj XV;rw[KC v.Kinds (fuel_lt AL) (λx=>x.Kind==k) (λi=>some (match v.Kinds[i]? with |some x=>x.N|none=>0)) (some (bif Ic k then v.State else v.Message))]
 ·rw[Ku]
  grind
 ·intro k2 i h;unfold aGe;rw[DI h,ES h]
 intro k2;unfold aGe;rw[EM,aNk];cases Ic k<;>rfl
def xB (v:Cx)(k:Int)(h:v.Kinds.length<=1000):lg v k=some (XV v k):=by
 unfold lg aVs XV;rw[KC v.Kinds (fuel_lt AL) (λx=>x.Kind==k) (λi=>some (match v.Kinds[i]? with |some x=>x.N|none=>0)) (some (bif Ic k then v.State else v.Message))]
 ·rw[Ku]
  grind
 ·intro k2 i h;unfold aGI;rw[DI h,CY h,ES h];rfl
 intro k2;unfold aGI;rw[EM,aBZ];cases Ic k<;>rfl
def Xa (own j q:Int):AX:=j==q||(decide (j<=own)&&(q<=own))
def numsOf (v:Cx):A8 Int:=[v.User,v.Message,v.State,v.gW,v.kS,v.oN,v.iq]
def a0t (own:Int)(p:Int×Int):AX:= !Xa own p.1 p.2
def Vb (own:Int)(j q:Cx)(x:Jr):AX:= !Xa own (XV j x.Kind) (XV q x.Kind)
def Jm (own:Int)(j q:Cx)(u:BO)(x:IQ):AX:= !(Xa own (FK j x.User) (FK q x.User)&&(FK j x.User==FK q x.User||(x.User=u)||(FK j x.User<own)))
def xY (j u:Cx)(q:BO):Int:=
 bif ((numsOf j).zip (numsOf u)).any (a0t (FK j q))then 20 else bif (j.Kinds++u.Kinds).any (Vb (FK j q) j u)then 20 else bif (j.Users++u.Users).any (Jm (FK j q) j u q)then 20 else 0
def aLQ (own j q:Int):Y3 j q own=some (!Xa own j q):=by
 unfold Y3 Xa;have h1:(j != q)= !(j==q):=rfl;have h2:decide (j>own)= !decide (j<=own):=by by_cases h:j<=own<;>simp[h]<;>omega
 have h3:decide (q>own)= !decide (q<=own):=by by_cases h:q<=own<;>simp[h]<;>omega
 rw[h1,h2,h3]
 grind
def a2U (own j q:Int):oM j q own=some (Xa own j q):=by
 unfold oM Xa
 grind
structure Yo (v:Cx):Prop where
 users:v.Users.length<=100
 kinds:v.Kinds.length<=100
def zu (a b:Cx):((numsOf a).zip (numsOf b)).length=7:=rfl
def akh (q u:Cx)(z:BO)(Y:Yo q)(Z:Yo u):Fn2 q u z=some (xY q u z):=by
 have o1:=Y.users;have o2:=Y.kinds;have n1:=Z.users;have n2:=Z.kinds;unfold Fn2;rw[eI q z AL];unfold aBV;simp only[Ad];unfold xY;generalize hown:FK q z=own
 have hU:a8i q u own z false 0=some (bif (q.Users++u.Users).any (Jm own q u z)then 20 else 0):=by
  unfold a8i;rw[aKO ([q.Users,u.Users]:A8 (A8 IQ)) (fuel_lt Bf) (λus=>us.any (Jm own q u z)) (λ_=>some 20) (some 0) false]
  ·have e:(q.Users++u.Users).any (Jm own q u z)=([q.Users,u.Users]:A8 (A8 IQ)).any (λus=>us.any (Jm own q u z)):=Bf
   rw[e]
   have hf:∀L:A8 (A8 IQ),(if L.findIdx (λus=>us.any (Jm own q u z))<L.length then some (20:Int)else some 0)=some (bif L.any (λus=>us.any (Jm own q u z))then 20 else 0):=λL=>by
    by_cases h:L.findIdx (λus=>us.any (Jm own q u z))<L.length
    ·rw[Ea h];have :L.any (λus=>us.any (Jm own q u z))=true:=JV.2 ((dM).1 h);rw[this];rfl
    rw[Eh h]
    have :L.any (λus=>us.any (Jm own q u z))=false:=by
     rw[Bool.eq_false_iff];exact λk=>h (dM.2 (JV.1 k))
    rw[this];rfl
   exact hf _
  ·intro k i h
   have M:([q.Users,u.Users]:A8 (A8 IQ))[i].length<=100:=by
    have :([q.Users,u.Users]:A8 (A8 IQ))[i]∈[q.Users,u.Users]:=EY h;simp only[FP,G7,or_false]at this;rcases this with e|e<;>rw[e]<;>assumption
   unfold a6o;rw[show decide ((i:Int)<2)=true by simp only[GK,Q7]at h;simp;omega,CY h];simp only[Bl,Ad];generalize([q.Users,u.Users]:A8 (A8 IQ))[i]=us at M;unfold aTk;rw[aKO us (fuel_lt AL) (Jm own q u z) (λ_=>some 20) (k false (Aw ((i:Int)+1))) false]
   ·by_cases h2:us.findIdx (Jm own q u z)<us.length
    ·rw[Ea h2];have :us.any (Jm own q u z)=true:=JV.2 ((dM).1 h2);rw[this];rfl
    rw[Eh h2]
    have :us.any (Jm own q u z)=false:=by
     rw[Bool.eq_false_iff];exact λk=>h2 (dM.2 (JV.1 k))
    rw[this];rfl
   ·intro k2 j O;unfold a5S kV;rw[DI O,eI q _ AL,eI u _ AL];simp only[Ad];rw[aLQ,Ja];unfold Jm;have h2:decide (FK q us[j].User>=own)= !decide (FK q us[j].User<own):=by by_cases h:FK q us[j].User<own<;>simp[h]<;>omega
    have h3:(FK q us[j].User != FK u us[j].User)= !(FK q us[j].User==FK u us[j].User):=rfl;simp only[Ad];rw[h2,h3];cases Xa own (FK q us[j].User) (FK u us[j].User)<;>cases FK q us[j].User==FK u us[j].User<;>cases decide (us[j].User=z)<;>cases decide (FK q us[j].User<own)<;>rfl
   intro k2;unfold a5S;rw[EM]
  intro k;unfold a6o kV;rw[show decide (((([q.Users,u.Users]:A8 (A8 IQ)).length:Nat):Int)<2)=false from rfl];rfl
 have hK:a1n q u own z 0=some (bif (q.Kinds++u.Kinds).any (Vb own q u)then 20 else bif (q.Users++u.Users).any (Jm own q u z)then 20 else 0):=by
  unfold a1n;rw[Hq ([q.Kinds,u.Kinds]:A8 (A8 Jr)) (fuel_lt Bf) (λI=>I.any (Vb own q u)) 20 (a8i q u own z false 0)]
  ·rw[hU];have e:(q.Kinds++u.Kinds).any (Vb own q u)=([q.Kinds,u.Kinds]:A8 (A8 Jr)).any (λI=>I.any (Vb own q u)):=Bf
   rw[e];cases([q.Kinds,u.Kinds]:A8 (A8 Jr)).any (λI=>I.any (Vb own q u))<;>rfl
  ·intro k i h
   have U:([q.Kinds,u.Kinds]:A8 (A8 Jr))[i].length<=100:=by
    have :([q.Kinds,u.Kinds]:A8 (A8 Jr))[i]∈[q.Kinds,u.Kinds]:=EY h;simp only[FP,G7,or_false]at this;rcases this with e|e<;>rw[e]<;>assumption
   unfold a1h;rw[show decide ((i:Int)<2)=true by simp only[GK,Q7]at h;simp;omega,CY h];simp only[Bl,Ad];generalize([q.Kinds,u.Kinds]:A8 (A8 Jr))[i]=I at U;unfold aU9;rw[Hq I (fuel_lt AL) (Vb own q u) 20 (k (Aw ((i:Int)+1)))]
   ·intro k2 j O;unfold a2g;rw[DI O,aHV q _ AL,aHV u _ AL];simp only[Ad];rw[aLQ];rfl
   intro k2;unfold a2g;rw[EM]
  intro k;unfold a1h;rw[show decide (((([q.Kinds,u.Kinds]:A8 (A8 Jr)).length:Nat):Int)<2)=false from rfl];rfl
 unfold aTO;rw[Hq ((numsOf q).zip (numsOf u)) aQ1 (a0t own) 20 (a1n q u own z 0)]
 ·rw[hK];cases((numsOf q).zip (numsOf u)).any (a0t own)<;>rfl
 ·intro k i h;have J:i<7:=by rw[zu]at h;exact h
  have e1:Aq [q.User,q.Message,q.State,q.gW,q.kS,q.oN,q.iq] (i:Int)=some ((numsOf q)[i]'(J)):=CY (l:=numsOf q) J;have e2:Aq [u.User,u.Message,u.State,u.gW,u.kS,u.oN,u.iq] (i:Int)=some ((numsOf u)[i]'(J)):=CY (l:=numsOf u) J;unfold a4S;rw[show decide ((i:Int)<7)=true by simp;omega,e1,e2];simp only[Bl,Ad];rw[aLQ,aFF];rfl
 intro k;unfold a4S;rw[zu,show decide (((7:Nat):Int)<7)=false from rfl];rfl
def aia (j z:Cx)(u q:BO)(I:Yo j)(J:Yo z):oz j z u q=some (Xa (FK j q) (FK j u) (FK z u)&&(FK j u==FK z u||(u=q)||(FK j u<FK j q))):=by
 have o1:=I.users;have L:=J.users;unfold oz;rw[aJ j q AL,aJ j u AL,aJ z u AL];simp only[Ad];rw[a2U,Ja]
 grind
def acu (j q:Cx)(u:BO)(J:Yo j)(L:Yo q):a1i j q u=some (xY j q u):=by
 have o1:=J.users;have o2:=J.kinds;have n1:=L.users;have n2:=L.kinds;unfold a1i;rw[aJ j u AL];unfold a1Z;simp only[Ad];unfold xY
 have z:∀x:IQ,(oz j q x.User u)=some (!Jm (FK j u) j q u x):=λx=>by
  rw[aia j q _ _ J L];unfold Jm;rw[yj]
 generalize O:FK j u=own at z
 have M:aEV q j u 0=some (bif q.Users.any (Jm own j q u)then 20 else 0):=by
  unfold aEV;rw[Hq q.Users (fuel_lt AL) (Jm own j q u) 20 (some 0)]
  ·cases q.Users.any (Jm own j q u)<;>rfl
  ·intro k i h;unfold aEo;rw[DI h,z];simp only[Ad,yj]
  intro k;unfold aEo;rw[EM]
 have Y:aHL j q u 0=some (bif (j.Users++q.Users).any (Jm own j q u)then 20 else 0):=by
  unfold aHL;rw[Hq j.Users (fuel_lt AL) (Jm own j q u) 20 (some (bif q.Users.any (Jm own j q u)then 20 else 0))]
  ·rw[aJ2];cases j.Users.any (Jm own j q u)<;>rfl
  ·intro k i h;unfold aIy;rw[DI h,z];simp only[Ad,yj]
  intro k;unfold aIy;rw[EM,M]
 have Z:a3v j q own u 0=some (bif (j.Kinds++q.Kinds).any (Vb own j q)then 20 else bif (j.Users++q.Users).any (Jm own j q u)then 20 else 0):=by
  unfold a3v;have U:Aw ((j.Kinds.length:Int)+(q.Kinds.length:Int))=(((j.Kinds++q.Kinds).length:Nat):Int):=by rw[Ei,bP];omega
  rw[Hq (j.Kinds++q.Kinds) (fuel_lt Ln) (Vb own j q) 20 (some (bif (j.Users++q.Users).any (Jm own j q u)then 20 else 0))]
  ·cases(j.Kinds++q.Kinds).any (Vb own j q)<;>rfl
  ·intro k i h;unfold aK5 aA9;rw[U,dec_lt h];simp only[Bl];by_cases hi:i<j.Kinds.length
   ·rw[dec_lt hi,CY hi];simp only[Bl,Ad];rw[xB j _ AL,xB q _ AL];simp only[Ad];rw[a2U,a2z hi];rfl
   have hj:i-j.Kinds.length<q.Kinds.length:=by rw[Ei]at h;omega
   have w:Aw ((i:Int)-(j.Kinds.length:Int))=((i-j.Kinds.length:Nat):Int):=by rw[Ei]at h;rw[bP];omega
   rw[show decide ((i:Int)<(j.Kinds.length:Int))=false by simp;omega,w,CY hj];simp only[BR,Ad];rw[xB j _ AL,xB q _ AL];simp only[Ad];rw[a2U,List.getElem_append_right AL];rfl
  intro k;unfold aK5;rw[U,Di,Y];rfl
 unfold aX9;rw[Hq ((numsOf j).zip (numsOf q)) aQ1 (a0t own) 20 (a3v j q own u 0)]
 ·rw[Z];cases((numsOf j).zip (numsOf q)).any (a0t own)<;>rfl
 ·intro k i h;have I:i<7:=by rw[zu]at h;exact h
  have e1:Aq [j.User,j.Message,j.State,j.gW,j.kS,j.oN,j.iq] (i:Int)=some ((numsOf j)[i]'(I)):=CY (l:=numsOf j) I;have e2:Aq [q.User,q.Message,q.State,q.gW,q.kS,q.oN,q.iq] (i:Int)=some ((numsOf q)[i]'(I)):=CY (l:=numsOf q) I;unfold aBp;rw[show decide ((i:Int)<(([j.User,j.Message,j.State,j.gW,j.kS,j.oN,j.iq]:A8 Int).length:Int))=true from dec_lt (n:=7) I,e1,e2];simp only[Bl,Ad];rw[a2U,aFF];rfl
 intro k;unfold aBp;rw[zu];rfl
def Zb (e:AQ)(l:A8 AQ)(now:Int):Int:=
 bif !(LD l e.bQ==3)then 18 else
 bif e.Content.N==1&&decide (FK (Gf l) e.bQ<(Gf l).gW)then 20 else
 bif e.Content.N==0&&((now==4&&(FK (Gf l) e.bQ<(Gf l).oN))||(FK (Gf l) e.bQ<(Gf l).kS)||(FK (Gf l) e.Key>=FK (Gf l) e.bQ))then 20 else
 bif e.Content.N==4&&(decide (FK (Gf l) e.bQ<(Gf l).oN)||(FK (Gf l) e.Key>=FK (Gf l) e.bQ))then 20 else 0
def kP (e:AQ)(l:A8 AQ):Int:=
 bif Xj e l then 0 else
 bif decide (e.Key=e.bQ)&&LD l e.Key==4 then 19 else
 bif !moveB (LD l e.Key) e.Content.N (decide (e.Key=e.bQ))then 18 else
 bif e.Key=e.bQ then Zz e.Content.N (LD l e.Key) l else Zb e l (LD l e.Key)
def ZK (e:AQ)(l:A8 AQ):Int:=
 bif FK (Gf l) e.bQ<XV (Gf l) e.Kind then 20 else bif e.Kind==3 then xY (Gf l) e.Content.Levels e.bQ else 0
def aPg (s:BO):BO:=(splitB s (LU s)).2.1
def Lp (e:AQ)(l:A8 AQ):Int:=
 bif e.Kind==1 then(bif !(JZ l).2&&(aPg e.bQ).toList==(aPg e.Room).toList then 0 else 17)else
 bif !(JZ l).2 then 17 else bif e.Kind==2 then kP e l else bif !(LD l e.bQ==3)then 18 else ZK e l
variable {l:A8 AQ}
def aWD (h:EX l):Yo (Gf l):=⟨(mZ h).1,(mZ h).2⟩
variable {e:AQ}
def FH.levels (h:FH e):Yo e.Content.Levels:=⟨h.users,h.kinds⟩
def ajb (e:AQ)(l:A8 AQ)(hl:l.length<=1000)(hs:EX l)(q:FH e):aAy e l=some (ZK e l):=by
 have j:=aWD hs;have h1:=j.users;have h2:=j.kinds;unfold aAy ZK;rw[aDk l hl hs];simp only[Ad];rw[eI _ _ AL,aHV _ _ AL];simp only[Ad];rw[akh _ _ _ j q.levels];cases decide (FK (Gf l) e.bQ<XV (Gf l) e.Kind)<;>cases e.Kind==3<;>rfl
def aYl (e:AQ)(l:A8 AQ)(hl:l.length<=1000)(hs:EX l)(q:FH e):a5J e l=some (ZK e l):=by
 have j:=aWD hs;have h1:=j.users;have h2:=j.kinds;unfold a5J ZK;rw[aDg l hl];simp only[Ad];rw[aJ _ _ AL,xB _ _ AL];simp only[Ad];rw[acu _ _ _ j q.levels];cases decide (FK (Gf l) e.bQ<XV (Gf l) e.Kind)<;>cases e.Kind==3<;>rfl
def mP (x:Int):Except BI Unit:=.error (.iface 263 (.agg #[.int .i64 x]))
def aOg (x:Int):eB x=some (mP x):=rfl
def aCX (b:AX)(x:Int):SI b x=some (bif b then .ok ()else mP x):=by cases b<;>rfl
def aEH (b:AX)(x:Int)(f:Unit->AB (Except BI Unit)):NC (bif b then .ok ()else mP x) f=bif b then f ()else some (mP x):=by cases b<;>rfl
def aTS (x:Int)(f:Unit->AB (Except BI Unit)):NC (mP x) f=some (mP x):=rfl
def aYp (a b:Int):decide (a>=b)= !decide (a<b):=by by_cases h:a<b<;>simp[h]<;>omega
def ahv (e:AQ)(l:A8 AQ)(now:Int)(hl:l.length<=1000)(hs:EX l):(qH l e now).bind Ue=some (Zb e l now):=by
 have h1:=(mZ hs).1;unfold qH Zb;rw[aI8 l _ hl,aDk l hl hs];simp only[Ad];rw[eI _ _ AL,eI _ _ AL];simp only[aCX,Ad,aEH,aYp]
 have h2:decide (FK (Gf l) e.Key<FK (Gf l) e.bQ)= !decide (FK (Gf l) e.bQ<=FK (Gf l) e.Key):=by
  by_cases h:FK (Gf l) e.Key<FK (Gf l) e.bQ<;>simp[h]<;>omega
 have h3:(now != 4)= !(now==4):=rfl;rw[h3];generalize decide (FK (Gf l) e.Key<FK (Gf l) e.bQ)=t;generalize decide (FK (Gf l) e.bQ<(Gf l).gW)=i;generalize decide (FK (Gf l) e.bQ<(Gf l).oN)=b;generalize decide (FK (Gf l) e.bQ<(Gf l).kS)=k;generalize(now==4)=n;cases LD l e.bQ==3 with
 |false=>rfl
 |true=>
  by_cases j:e.Content.N=1
  ·rw[j];cases i<;>rfl
  rw[show(e.Content.N==1)=false by simpa using j];by_cases q:e.Content.N=0
  ·rw[q];cases n<;>cases b<;>cases k<;>cases t<;>rfl
  rw[show(e.Content.N==0)=false by simpa using q];cases e.Content.N==4<;>cases b<;>cases t<;>rfl
def abu (e:AQ)(l:A8 AQ)(now:Int)(hl:l.length<=1000)(hs:EX l):a1W e l now=some (Zb e l now):=by
 have h1:=(mZ hs).1;unfold a1W Zb;rw[aFv l _ hl,aDg l hl];simp only[Ad];rw[aJ _ _ AL,aJ _ _ AL];simp only[Ad,Lr,oW,SV,bne]
def abf (e:AQ)(l:A8 AQ)(hl:l.length<=1000)(hs:EX l):a5s e l=some (kP e l):=by
 unfold a5s kP;rw[akz e l hl];simp only[Ad];cases Xj e l with
 |true=>rfl
 |false=>
  simp only[BR]
  have q:∀o:AB (Except BI Unit),(o.bind λu=>(Ue u).bind λz=>some z)=o.bind Ue:=λo=>by
   cases o with
   |none=>rfl
   |some x=>cases h:Ue x<;>simp[h]
  rw[q];have j:=ahv e l (LD l e.Key) hl hs;unfold aHs;rw[aI8 l _ hl,Ja];simp only[Ad];rw[aYm,akg _ _ _ hl hs];simp only[Ad,aCX,aOg,aEH,aTS,Lr];have h3:(LD l e.Key != 4)= !(LD l e.Key==4):=rfl;rw[h3];generalize qH l e (LD l e.Key)=J at j;generalize decide (e.Key=e.bQ)=s;cases s with
  |true=>
   cases LD l e.Key==4 with
   |true=>rfl
   |false=>cases moveB (LD l e.Key) e.Content.N true<;>rfl
  |false=>
   cases moveB (LD l e.Key) e.Content.N false with
   |false=>rfl
   |true=>exact j
def aYz (e:AQ)(l:A8 AQ)(hl:l.length<=1000)(hs:EX l):aAV e l=some (kP e l):=by
 unfold aAV kP;rw[aay e l hl,aFv l _ hl];simp only[Ad];rw[aPG,amb e _ l hl hs,abu e l _ hl hs,Ja];simp only[Ad,Lr,SV]
def aAG (e:AQ)(l:A8 AQ)(hl:l.length<=1000)(hs:EX l)(j:FH e):jS e l=some (Lp e l):=by
 have h1:=j.sender;have h2:=j.room;unfold jS Lp
 have q:∀o:AB (Except BI Unit),(o.bind λu=>(Ue u).bind λz=>some z)=o.bind Ue:=λo=>by
  cases o with
  |none=>rfl
  |some x=>cases h:Ue x<;>simp[h]
 rw[q];unfold aGZ a7o a5Q a3J;rw[aN2 l hl,(jo (s:=e.bQ) AL).1,(jo (s:=e.Room) AL).1,aI8 l _ hl,ajb e l hl hs j,abf e l hl hs];simp only[Ad,aCX,aOg,aEH,aTS];show _=some (bif e.Kind==1 then(bif !(JZ l).2&&(splitB e.bQ (LU e.bQ)).2.1.toList==(splitB e.Room (LU e.Room)).2.1.toList then 0 else 17)else _);cases e.Kind==1 with
 |true=>
  cases(JZ l).2 with
  |true=>rfl
  |false=>cases(splitB e.bQ (LU e.bQ)).2.1.toList==(splitB e.Room (LU e.Room)).2.1.toList<;>rfl
 |false=>
  cases(JZ l).2 with
  |false=>rfl
  |true=>
   cases e.Kind==2 with
   |true=>rfl
   |false=>cases LD l e.bQ==3<;>rfl
def aDJ (e:AQ)(l:A8 AQ)(hl:l.length<=1000)(hs:EX l)(j:FH e):oq e l=some (Lp e l):=by
 have h1:=j.sender;have h2:=j.room;unfold oq a7k Lp;rw[aVT l hl,(jo (s:=e.bQ) AL).2,(jo (s:=e.Room) AL).2,aFv l _ hl,aYl e l hl hs j,aYz e l hl hs];simp only[Ad];show _=some (bif e.Kind==1 then(bif !(JZ l).2&&(splitB e.bQ (LU e.bQ)).2.1.toList==(splitB e.Room (LU e.Room)).2.1.toList then 0 else 17)else _);cases e.Kind==1 with
 |true=>
  cases(JZ l).2 with
  |true=>rfl
  |false=>cases(splitB e.bQ (LU e.bQ)).2.1.toList==(splitB e.Room (LU e.Room)).2.1.toList<;>rfl
 |false=>
  cases(JZ l).2 with
  |false=>rfl
  |true=>
   cases e.Kind==2 with
   |true=>rfl
   |false=>unfold bne;cases LD l e.bQ==3<;>rfl
def eU (named:A8 AQ)(k:BL):AQ×AX:=match named.find? (F6 k)with |some x=>(x,true)|none=>(Fj,false)
def eu (l:A8 AQ)(s:A8 BL)(e:AQ)(k:BL):AQ×AX:=bif (Ht s k.Kind k.Key).2 then IK l (Ht s k.Kind k.Key).1 else eU (ofIds l e.bJ) k
def U3 (l:A8 AQ)(s:A8 BL)(e:AQ)(k:BL):A8 AQ:=bif (eu l s e k).2 then[(eu l s e k).1]else[]
def St (l:A8 AQ)(s:A8 BL)(e:AQ):A8 AQ:=(keysOf e).flatMap (U3 l s e)
def aIk (l:A8 AQ)(s:A8 BL)(e:AQ)(k:BL):(U3 l s e k).length<=1:=by
 unfold U3;cases(eu l s e k).2<;>simp
def aPo (l:A8 AQ)(s:A8 BL)(e:AQ):(St l s e).length<=5:=by
 have h1:=flat_length (f:=U3 l s e) (n:=1) (aIk l s e) (keysOf e);have h2:=YC e;unfold St;omega
variable {s:A8 BL}
def alH {x:AQ}(h:x∈St l s e):x∈l:=by
 obtain⟨k,_,h⟩:=Um.1 h;unfold U3 eu eU at h;cases q:(Ht s k.Kind k.Key).2 with
 |true=>
  rw[q]at h;simp only[Bl]at h;cases hp:Ef l (Ht s k.Kind k.Key).1 with
  |none=>rw[RN hp]at h;exact absurd h G7
  |some y=>rw[Og hp]at h;rw[JI.1 h];exact JM hp
 |false=>
  rw[q]at h;simp only[BR]at h;cases j:(ofIds l e.bJ).find? (F6 k)with
  |none=>rw[j]at h;exact absurd h G7
  |some y=>rw[j]at h;rw[JI.1 h];exact aKq (Ug j)
def EX.base (h:EX l)(s:A8 BL)(e:AQ):EX (St l s e):=λx j=>h x (alH j)
def aml (named:A8 AQ)(k:BL)(j:named.length<=1000):aBl named k=some (eU named k):=by
 unfold aBl;rw[a1Q named AL (λa0=>sQ a0 k) (F6 k) λe=>by unfold sQ F6;rw[Ja];cases e.Kind==k.Kind<;>rfl];exact found_eq named (F6 k) rfl
def agQ (named:A8 AQ)(k:BL)(j:named.length<=1000):a7B named k.Kind k.Key=some (eU named k):=by
 unfold a7B aU2;rw[aIe named (fuel_lt AL) (F6 k) (λi=>some (match named[i]? with |some x=>(x,true)|none=>(Fj,false))) (some (Fj,false))]
 ·exact aIS named _
 ·intro k2 i h;unfold aJl;rw[DI h,CY h,ES h];simp only[Ad];rw[Ja];unfold F6;cases named[i].Kind==k.Kind<;>cases decide (named[i].Key=k.Key)<;>rfl
 intro k2;unfold aJl;rw[EM]
def ajS (l:A8 AQ)(s:A8 BL)(e:AQ)(hl:l.length<=1000)(j:e.bJ.length<=40)(hs:KT s)(hsl:s.length<=1000000):a3G l s e=some (St l s e):=by
 unfold a3G;have q:=eS l e.bJ;have u:=YC e;have hm:Jj 376 Fj 0 5=some []:=by unfold Jj;rw[Ea a7J];rfl
 rw[aeW l _ hl AL,hm,aUz];simp only[Ad];unfold aUp;rw[Ip (keysOf e) AL (λr k=>r++U3 l s e k) (λi r=>r.length<=i) (λr=>some r) (Eb _)]
 ·rw[foldl_append (U3 l s e),JQ];rfl
 ·intro k r i h z;have hp:=aIk l s e (keysOf e)[i];refine⟨Ln,?_⟩;unfold aKV aAX aBh;rw[DI h,aml _ _ AL,aGb s _ _ hsl hs];simp only[Ad];rw[Om l _ AL,Dy GR];simp only[Ad];rw[Dy GR];unfold U3 eu;cases(Ht s (keysOf e)[i].Kind (keysOf e)[i].Key).2 with
  |true=>
   simp only[Bl];cases(IK l (Ht s (keysOf e)[i].Kind (keysOf e)[i].Key).1).2 with
   |true=>rfl
   |false=>simp
  |false=>
   simp only[BR];cases(eU (ofIds l e.bJ) (keysOf e)[i]).2 with
   |true=>rfl
   |false=>simp
 intro k r _;unfold aKV;rw[EM]
def agT (l:A8 AQ)(s:A8 BL)(e:AQ)(hl:l.length<=1000)(j:e.bJ.length<=40)(hsl:s.length<=1000000):a7c l s e=some (St l s e):=by
 unfold a7c;have q:=eS l e.bJ;have u:=YC e;rw[aFt,aGT l _ hl AL];simp only[Ad];unfold aPl;rw[Ip (a0:=[]) (keysOf e) AL (λr k=>r++U3 l s e k) (λi r=>r.length<=i) (λr=>some r) (Eb _)]
 ·rw[foldl_append (U3 l s e),JQ];rfl
 ·intro k r i h z;have hp:=aIk l s e (keysOf e)[i];refine⟨Ln,?_⟩;unfold aIs a1F a5B;rw[dec_lt h,CY h];simp only[Bl,Ad];rw[agQ _ _ AL,aGF s _ _ hsl];simp only[Ad];rw[N7 l _ AL,Dy GR];simp only[Ad];rw[Dy GR];unfold U3 eu;cases(Ht s (keysOf e)[i].Kind (keysOf e)[i].Key).2 with
  |true=>
   simp only[Bl];cases(IK l (Ht s (keysOf e)[i].Kind (keysOf e)[i].Key).1).2 with
   |true=>rfl
   |false=>simp
  |false=>
   simp only[BR];cases(eU (ofIds l e.bJ) (keysOf e)[i]).2 with
   |true=>rfl
   |false=>simp
 intro k r _;unfold aIs;rw[Di];rfl
def Tn (l:A8 AQ)(s:A8 BL)(id:Int):AX:=bU l id&&(Ic (ev l id).Kind&&Lp (ev l id) (St l s (ev l id))==0)
def Po (l:A8 AQ)(s:A8 BL)(id:Int):A8 BL:=bif Tn l s id then Gh s (ev l id).Kind (ev l id).Key (ev l id).Id else s
def PS (l:A8 AQ)(s:A8 BL)(ids:A8 Int):A8 BL:=ids.foldl (Po l) s
def aPy (h:KT s)(id:Int):KT (Po l s id):=by
 unfold Po;cases Tn l s id with
 |true=>exact Y8 h _ _ _
 |false=>exact h
def aEh {l:A8 AQ}:∀{ids:A8 Int} {s:A8 BL},KT s->KT (PS l s ids)
 | [],_,h=>h
 |id::ids,s,h=>aEh (ids:=ids) (aPy h id)
def aC7 (l:A8 AQ)(s:A8 BL)(id:Int):(Po l s id).length<=s.length+1:=by
 unfold Po;cases Tn l s id with
 |true=>exact Ql _ _ _ _
 |false=>exact Nat.le_succ _
def a4V (l:A8 AQ):∀(ids:A8 Int) (s:A8 BL),(PS l s ids).length<=s.length+ids.length
 | [],s=>Eb _
 |id::ids,s=>by
  have h1:=a4V l ids (Po l s id);have h2:=aC7 l s id;show(PS l (Po l s id) ids).length<=_;rw[GK];omega
def aVU (hs:EX l){id:Int}(h:bU l id=true):FH (ev l id):=hs _ (JM (Ib h).1)
def agz (l:A8 AQ)(s:A8 BL)(id:Int)(hl:l.length<=1000)(hs:EX l)(u:KT s)(hsl:s.length<=1000000):a3Y l s id=some (Po l s id):=by
 unfold a3Y aFd uq Po Tn;have j:aAJ s (.error (.iface 378 (.agg #[])):Except BI (A8 BL))=some s:=rfl;rw[Om l _ AL];simp only[Ad];rw[Nb];cases I:(Ef l id).isSome with
 |false=>rw[show bU l id=false from I];exact j
 |true=>
  have q:bU l id=true:=I;have J:=aVU hs q;have z:(IK l id).1=ev l id:=rfl;rw[q,z,aNk];simp only[Ad,FU,BR,GX];cases Ic (ev l id).Kind with
  |false=>exact j
  |true=>
   have L:=aPo l s (ev l id);rw[ajS l s _ hl J.auth u hsl];simp only[Ad,FU,BR,GX];rw[aAG _ _ AL (hs.base s _) J];simp only[Ad];rw[YZ s _ _ _ hsl];unfold bne;cases Lp (ev l id) (St l s (ev l id))==0 with
   |true=>rfl
   |false=>exact j
def aUT (l:A8 AQ)(s:A8 BL)(ids:A8 Int)(hl:l.length<=1000)(hs:EX l)(j:KT s)(hsl:s.length+ids.length<=1000000):gy l s ids=some (PS l s ids):=by
 unfold gy aAC;rw[Dy SG];simp only[Ad,JQ];unfold aR6;rw[Ip ids AL (Po l) (λi r=>KT r/\r.length<=s.length+i) (λr=>some r) ⟨j,Eb _⟩]
 ·rfl
 ·intro k r i h q;have h1:=aC7 l r ids[i];refine⟨⟨aPy q.1 _,AL⟩,?_⟩;unfold aFy;rw[DI h,agz l r _ hl hs q.1 AL];rfl
 intro k r _;unfold aFy;rw[EM]
def aWQ (l:A8 AQ)(s:A8 BL)(ids:A8 Int)(hl:l.length<=1000)(hs:EX l)(hsl:s.length+ids.length<=1000000):eM l s ids=some (PS l s ids):=by
 unfold eM;rw[Dy SG];simp only[Ad,JQ];unfold aNc;rw[Ip ids AL (Po l) (λi r=>r.length<=s.length+i) (λr=>some r) (Eb _)]
 ·rfl
 ·intro k r i h I;have h1:=aC7 l r ids[i];refine⟨AL,?_⟩;unfold aHl sB a2F Po Tn;rw[DI h,N7 l _ AL];simp only[Ad];rw[Nb];cases u:(Ef l ids[i]).isSome with
  |false=>rw[show bU l ids[i]=false from u];rfl
  |true=>
   have j:bU l ids[i]=true:=u;have z:=aVU hs j;have q:(IK l ids[i]).1=ev l ids[i]:=rfl;rw[j,q,aBZ];simp only[Ad,Bl,GX];cases Ic (ev l ids[i]).Kind with
   |false=>rfl
   |true=>
    have J:=aPo l r (ev l ids[i]);rw[agT l r _ hl z.auth AL];simp only[Ad,Bl,GX];rw[aDJ _ _ AL (hs.base r _) z];simp only[Ad];rw[aDt r _ _ _ AL];cases Lp (ev l ids[i]) (St l r (ev l ids[i]))==0<;>rfl
 intro k r _;unfold aHl;rw[EM]
def LV (l:A8 AQ)(aX:A8 (A8 BL)):A8 Int:=Wp l (Jd l aX)
def MG (l:A8 AQ)(aX:A8 (A8 BL)):A8 Int:=sO l (gK l (LV l aX)).length (gK l (LV l aX))
def J4 (l:A8 AQ)(aX:A8 (A8 BL)):A8 BL:=PS l (Iu aX) (MG l aX)
def Uo (l:A8 AQ)(aX:A8 (A8 BL)):A8 Int:=bif (Ht (J4 l aX) 3 Ce).2 then YK l (Ht (J4 l aX) 3 Ce).1 else[]
def LG (l:A8 AQ)(aX:A8 (A8 BL)):A8 Int:=Ap l (Uo l aX) (Ph (Jd l aX) (LV l aX))
def yZ (s a:A8 BL):A8 BL:=a.foldl (λs x=>Gh s x.Kind x.Key x.Id) s
def lastOf (l:A8 AQ)(aX:A8 (A8 BL)):A8 BL:=yZ (PS l (J4 l aX) (LG l aX)) (Iu aX)
structure O9 (l:List AQ) (aX:List (List BL)):Prop where
 len:l.length<=100
 small:EX l
 states:PY aX
variable {aX:A8 (A8 BL)}
def oZ (h:O9 l aX):(Jd l aX).length<=40000:=by
 have j:=h.len;have q:=a6q h.states;have u:=Nw (Qw aX);have h1:=aBN l aX [] λs hs=>(h.states.2 s hs).1;have h2:=h.states.1;have h3:=Lu (λx=>Ji l aX x<aX.length) (allOf l aX);have z:aX.length*(100+l.length)<=100*200:=a1j h2 AL;have I:=aI3 (FW (Qw aX)) (PE l aX)
 have J:(PE l aX).length<=20000:=by
  unfold PE;unfold allOf at h3 ⊢;simp only[Q7]at h1;omega
 unfold Jd;omega
def ahQ (h:O9 l aX):(H8 l (Jd l aX)).length<=40000:=EK (Lu _ _) (oZ h)
def aJr (h:O9 l aX):(MG l aX).length<=100:=by
 have h1:=aRS l (gK l (LV l aX)).length (gK l (LV l aX));have h2:(gK l (LV l aX)).length<=l.length:=lI (dG _ _) λx j=>(NT.1 j).2;have h3:=h.len;unfold MG;omega
def a2l (h:O9 l aX):(J4 l aX).length<=200:=by
 have h1:=a4V l (MG l aX) (Iu aX);have h2:=aJr h;have h3:=iD h.states;unfold J4;omega
def aJ9 (h:O9 l aX):KT (J4 l aX):=aEh (aNA h.states)
def aOe (h:O9 l aX):(Uo l aX).length<=100:=by
 have h1:=aMp l (Ht (J4 l aX) 3 Ce).1;have h2:=h.len;unfold Uo;cases(Ht (J4 l aX) 3 Ce).2 with
 |true=>simp only[Bl];omega
 |false=>exact F7 _
def aMo (h:O9 l aX):(LG l aX).length<=40000:=by
 have h1:=ace l (Uo l aX) (Ph (Jd l aX) (LV l aX));have h2:=aLI (Jd l aX) (LV l aX);have h3:=oZ h;unfold LG;omega
def alx (h:O9 l aX):a0N (Jd l aX) (LV l aX) l (J4 l aX,MG l aX) (Iu aX,FW (Qw aX)) (Uo l aX)=some ⟨lastOf l aX,MG l aX,LG l aX⟩:=by
 have u:=h.len;have h1:=oZ h;have h2:=a6F l (Jd l aX);have h3:=aOe h;have z:=aLI (Jd l aX) (LV l aX);have I:=a2l h;have J:=aMo h;have L:=iD h.states;unfold a0N aFg aC6;rw[alj _ _ AL (by unfold LV;omega)];simp only[Ad];rw[aY0 l _ _ AL h.small AL AL (TK (aIX _ _))];simp only[Ad];show((gy l (J4 l aX) (LG l aX)).bind _).bind _=_;rw[aUT l _ _ AL h.small (aJ9 h) AL];simp only[Ad];unfold aWY;have M:=a4V l (LG l aX) (J4 l aX);show aQ _ Ar 0 (⟨PS l (J4 l aX) (LG l aX),MG l aX,LG l aX⟩:PX)=_;rw[qL (Iu aX) AL (λv x=>({ v with Iq:=Gh v.Iq x.Kind x.Key x.Id }:PX)) (λi v=>v.Iq.length<=(PS l (J4 l aX) (LG l aX)).length+i) (λv=>some v) (Eb _)]
 ·congr 1;unfold lastOf yZ
  have key:∀(a:A8 BL) (v:PX),a.foldl (λv x=>({ v with Iq:=Gh v.Iq x.Kind x.Key x.Id }:PX)) v=⟨a.foldl (λs x=>Gh s x.Kind x.Key x.Id) v.Iq,v.ams,v.awm⟩:=by
   intro a
   induction a with
   |nil=>intro v;rfl
   |cons x a j=>intro v;rw[Fv,j];rfl
  rw[key]
 ·intro k v i hi O;have q:=Ql v.Iq (Iu aX)[i].Kind (Iu aX)[i].Key (Iu aX)[i].Id;refine⟨by show(Gh _ _ _ _).length<=_;omega,?_⟩;unfold aHH;rw[DI hi,YZ _ _ _ _ AL];rfl
 intro k v _;unfold aHH;rw[EM]
def afG (h:O9 l aX):a6M l aX=some ⟨lastOf l aX,MG l aX,LG l aX⟩:=by
 have u:=h.len;have h1:=oZ h;have h2:=a6F l (Jd l aX);have h3:=ahQ h;have z:=a2l h;have I:=aJr h;have J:=iD h.states;have j:=alx h;unfold a6M;rw[aOW aX h.states,aYJ l aX AL h.small.amG h.states];simp only[Ad];rw[aav l _ AL h.small AL AL];simp only[Ad];unfold aJU aBu;rw[afj l _ AL h.small AL];simp only[Ad];have ha:gy l (Iu aX) (MG l aX)=some (J4 l aX):=aUT l _ _ AL h.small (aNA h.states) AL;unfold MG LV at ha;rw[ha];simp only[Ad];rw[aGb _ _ _ AL (aJ9 h)];simp only[Ad];rw[amJ l _ AL h.small];unfold Uo at j;cases q:(Ht (J4 l aX) 3 Ce).2 with
 |true=>rw[q]at j;exact j
 |false=>rw[q]at j;exact j
def ac7 (h:O9 l aX):a0o (Jd l aX) (LV l aX) l (Iu aX,FW (Qw aX)) (MG l aX) (J4 l aX) (Uo l aX)=some ⟨Iu aX,MG l aX,J4 l aX,LG l aX,lastOf l aX⟩:=by
 have z:=h.len;have h1:=oZ h;have h2:=a6F l (Jd l aX);have h3:=aOe h;have I:=aLI (Jd l aX) (LV l aX);have J:=a2l h;have L:=aMo h;have M:=iD h.states;unfold a0o;rw[aAt _ _ AL (by unfold LV;omega)];simp only[Ad];rw[aiY l _ _ AL h.small AL AL (TK (aIX _ _))];simp only[Ad];show(eM l (J4 l aX) (LG l aX)).bind _=_;rw[aWQ l _ _ AL h.small AL];simp only[Ad];unfold aQS;have O:=a4V l (LG l aX) (J4 l aX);show aQ _ Ar 0 (⟨Iu aX,MG l aX,J4 l aX,LG l aX,PS l (J4 l aX) (LG l aX)⟩:PU)=_;rw[qL (Iu aX) AL (λv x=>({ v with Last:=Gh v.Last x.Kind x.Key x.Id }:PU)) (λi v=>v.Same=Iu aX/\v.Last.length<=(PS l (J4 l aX) (LG l aX)).length+i) (λv=>some v) ⟨rfl,Eb _⟩]
 ·congr 1;unfold lastOf yZ
  have key:∀(a:A8 BL) (v:PU),a.foldl (λv x=>({ v with Last:=Gh v.Last x.Kind x.Key x.Id }:PU)) v=⟨v.Same,v.Power,v.First,v.Others,a.foldl (λs x=>Gh s x.Kind x.Key x.Id) v.Last⟩:=by
   intro a
   induction a with
   |nil=>intro v;rfl
   |cons x a q=>intro v;rw[Fv,q];rfl
  rw[key]
 ·intro k v i hi j;have u:=Ql v.Last (Iu aX)[i].Kind (Iu aX)[i].Key (Iu aX)[i].Id;refine⟨⟨j.1,by show(Gh _ _ _ _).length<=_;omega⟩,?_⟩;unfold aKl;rw[j.1,dec_lt hi,CY hi];simp only[Bl,Ad];rw[aDt _ _ _ _ AL];rfl
 intro k v j;unfold aKl;rw[j.1,Di];rfl
def acj (h:O9 l aX):a6n l aX=some ⟨Iu aX,MG l aX,J4 l aX,LG l aX,lastOf l aX⟩:=by
 have u:=h.len;have h1:=oZ h;have h2:=a6F l (Jd l aX);have z:=a2l h;have I:=aJr h;have J:=iD h.states;have j:=ac7 h;unfold a6n;rw[aVO aX h.states,agU l aX AL h.small.amG h.states];simp only[Ad];rw[aXf l _ AL h.small AL];simp only[Ad];rw[al2 l _ AL h.small AL];simp only[Ad];have ha:eM l (Iu aX) (MG l aX)=some (J4 l aX):=aWQ l _ _ AL h.small AL;unfold MG LV at ha;rw[ha];simp only[Ad];rw[aGF _ _ _ AL];simp only[Ad];rw[aO6 l _ AL h.small];unfold Uo at j;cases q:(Ht (J4 l aX) 3 Ce).2 with
 |true=>rw[q]at j;exact j
 |false=>rw[q]at j;exact j
def Xu (l:A8 AQ)(aX:A8 (A8 BL)):A8 BL:=match aX with
 | []=>[]
 | [s]=>s
 |_=>lastOf l aX
def aRg (h:O9 l aX):nY l aX=some (Xu l aX):=by
 match aX,h with
 | [],_=>rfl
 | [s],h=>
   have hs:=(h.states.2 s (Gt ..)).1;have j:Aq [s] 0=some s:=rfl;show((Aq [s] 0).bind λq=>(DL 32 [] q).bind λu=>some u)=some s;rw[j];simp only[Ad];rw[Dy SG];rfl
 |s::t::aX,h=>
  unfold nY;have j:(((s::t::aX).length:Int)==0)=false:=aAx
  have z:(((s::t::aX).length:Int)==1)=false:=aAx
  rw[j,z,afG h];rfl
def aMr (h:O9 l aX):rW l aX=some (Xu l aX):=by
 match aX,h with
 | [],_=>rfl
 | [s],_=>rfl
 |s::t::aX,h=>
  unfold rW;have j:(((s::t::aX).length:Int)==0)=false:=aAx
  have q:(((s::t::aX).length:Int)==1)=false:=aAx
  rw[j,q,acj h];rfl
def aEM {x:BL}:∀(a s:A8 BL),x∈yZ s a->x∈a\/x∈s
 | [],_,h=>.inr h
 |y::a,s,h=>by
  rcases aEM a _ h with h|h
  ·grind
  rcases Rt h with h|h
  ·left;rw[h];cases y;exact Gt ..
  exact .inr h
def aXO (l:A8 AQ)(ids:A8 Int)(x:BL):Prop:=∃id∈ids,bU l id=true/\Ic (ev l id).Kind=true/\x=⟨(ev l id).Kind,(ev l id).Key,(ev l id).Id⟩
def aHq {l:A8 AQ}{x:BL}:∀(ids:A8 Int) (s:A8 BL),x∈PS l s ids->x∈s\/aXO l ids x
 | [],_,h=>.inl h
 |id::ids,s,h=>by
  rcases aHq ids _ h with h|⟨j,q,h⟩
  ·have h2:x∈bif Tn l s id then Gh s (ev l id).Kind (ev l id).Key (ev l id).Id else s:=h
   cases hm:Tn l s id with
   |false=>
    grind
   |true=>
    rw[hm]at h2;rcases Rt h2 with h2|h2
    ·unfold Tn at hm;simp only[Dj]at hm;exact .inr ⟨id,Gt ..,hm.1,hm.2.1,h2⟩
    exact .inl h2
  exact .inr ⟨j,IZ _ q,h⟩
def aff {x:Int}(h:x∈LV l aX):x∈Jd l aX:=(aA6.1 h).1
def aVQ {x:BL}(h:x∈lastOf l aX):x∈Iu aX\/aXO l (Jd l aX) x:=by
 unfold lastOf at h;rcases aEM _ _ h with h|h
 ·exact .inl h
 rcases aHq _ _ h with h|⟨j,q,h⟩
 ·unfold J4 at h;rcases aHq _ _ h with h|⟨j,q,h⟩
  ·exact .inl h
  exact .inr ⟨j,aff (NT.1 (aHX _ _ _ q)).1,h⟩
 exact .inr ⟨j,(aEO.1 (abj.1 q).1).1,h⟩
def aT4 :∀(a s:A8 BL),KT s->KT (yZ s a)
 | [],_,h=>h
 |x::a,s,h=>aT4 a _ (Y8 h x.Kind x.Key x.Id)
def adH (h:O9 l aX):KT (lastOf l aX):=aT4 _ _ (aEh (aJ9 h))
structure Jw (l:List AQ) (s:List BL):Prop where
 sorted:KT s
 named:∀x∈s,bU l x.Id=true/\Ic x.Kind=true/\(ev l x.Id).Kind=x.Kind/\(ev l x.Id).Key=x.Key
def Jw.nil (l:A8 AQ):Jw l []:=⟨List.Pairwise.nil,λ_ h=>absurd h G7⟩
def Jw.nodup (h:Jw l s):(s.map (·.Id)).Nodup:=by
 rw[X5,Zn];refine List.Pairwise.imp_of_mem ?_ h.sorted;intro a b ha j hp e;obtain⟨_,_,q,k2⟩:=h.named a ha;obtain⟨_,_,k3,u⟩:=h.named b j;have z:a.Kind=b.Kind:=by rw[←q,←k3,e]
 have I:a.Key=b.Key:=by rw[←k2,←u,e]
 rw[xF (Xh.2 ⟨z,I⟩)]at hp;cases hp
def Jw.length {l:A8 AQ}{s:A8 BL}(h:Jw l s):s.length<=l.length:=by
 have :WM l (s.map (·.Id)):=⟨h.nodup,λx j=>by
  obtain⟨y,q,rfl⟩:=Ez.1 j
  exact(h.named y q).1⟩
 have :=this.length
 grind
def Jw.okay (hl:l.length<=100)(hs:EX l)(j:aX.length<=100)(h:∀s∈aX,Jw l s):O9 l aX:=
 ⟨hl,hs,j,λs hm=>⟨EK (h s hm).length hl,(h s hm).sorted⟩⟩
def Jw.resolve (j:O9 l aX)(h:∀s∈aX,Jw l s):Jw l (Xu l aX):=by
 match aX,j,h with
 | [],_,_=>exact .nil l
 | [s],_,h=>exact h s (Gt ..)
 |s::t::aX,j,h=>
  refine⟨adH j,λx I=>?_⟩;rcases aVQ I with hm|⟨id,_,z,hst,q⟩
  ·exact(h s (Gt ..)).named x ((aSp j.states (List.cons_ne_nil _ _)).1 hm s (Gt ..))
  have u:=Ib z;have J:x.Id=id:=by rw[q];exact u.2
  rw[J];exact⟨z,by rw[q];exact hst,by rw[q],by rw[q]⟩
def Jw.set (h:Jw l s)(u:bU l e.Id=true)(q:ev l e.Id=e)(hst:Ic e.Kind=true):Jw l (Gh s e.Kind e.Key e.Id):=
 ⟨Y8 h.sorted _ _ _,λx j=>by
  rcases Rt j with rfl|j
  ·exact⟨u,hst,by rw[q],by rw[q]⟩
  exact h.named x j⟩
def Gl (l:A8 AQ)(e:AQ):AX:=e.bH.all (bU l)&&e.bJ.all (bU l)
def TW (l:A8 AQ):AX:=l.all (Gl l)
variable {p:α->AX}
def nU {l:A8 α}{x:α}(h:x∈l)(j:p x=false):l.all p=false:=by
 grind
def all_good {l:A8 α}(h:∀j,(hj:j<l.length)->p l[j]=true):l.all p=true:=FQ.2 (am4 h)
def aNx (refs:A8 Int)(l:A8 AQ)(m:A8 (Int×Int))(h:aF l m)(j:refs.length<=1000):zD refs m=some (refs.all (bU l)):=by
 unfold zD aVF;rw[Hq refs (fuel_lt AL) (λx=> !bU l x) false (some true)]
 ·grind
 ·intro k i hi;unfold aCH;rw[DI hi,h.isSome]
 intro k;unfold aCH;rw[EM]
def amZ (l:A8 AQ)(hl:l.length<=100)(hs:EX l):a5i l=some (TW l):=by
 refine dL.eq ?_;unfold a5i;refine(a0R l AL).bind λm hm=>?_;unfold aQM;refine aB (body:=aK3 l) (Q:=λb=>b=TW l) (λn a b=>∃i:Nat,a=i/\i+n=l.length/\b=m/\∀j,(q:j<i)->(hl:j<l.length)->Gl l l[j]=true) ?_ Ar l.length 0 m (fuel_lt AL) ⟨0,rfl,AL,rfl,λj q=>AL⟩;rintro n a b k ⟨i,rfl,L,rfl,z⟩ J;unfold aK3;by_cases hi:i<l.length
 ·have I:=hs l[i] (EY hi);have h1:=I.prev;have h2:=I.auth;rw[DI hi,aNx _ l b hm AL,Ad,CY hi,Ad,aNx _ l b hm AL];cases hp:l[i].bH.all (bU l)with
  |false=>exact .ret (nU (EY hi) (by unfold Gl;rw[hp];rfl)).symm
  |true=>
   cases ha:l[i].bJ.all (bU l)with
   |false=>exact .ret (nU (EY hi) (by unfold Gl;rw[hp,ha];rfl)).symm
   |true=>
    refine J (n-1) _ _ AL ⟨i+1,wrap_succ i AL,AL,rfl,λj q u=>?_⟩;by_cases e:j=i
    ·subst e;unfold Gl;rw[hp,ha];rfl
    exact z j AL u
 have :i=l.length:=AL
 subst this;rw[EM];exact .ret (all_good λj q=>z j q q).symm
def jY (l:A8 AQ):A8 Int:=l.foldl (λr e=>e.bJ.foldl put (e.bH.foldl put r)) []
variable {i:Nat}
def aa5 (hi:i<l.length)(k3:A8 Int->Int->AB (A8 Int))(v:A8 Int)(z:Inc v)(hl:v.length<=900000)(ha:l[i].bJ.length<=40):
 a3U l (i:Int) k3 v 0=k3 (l[i].bJ.foldl put v) (Aw ((i:Int)+1)):=by
 unfold a3U;rw[Ip l[i].bJ AL put (λj a=>Inc a/\a.length<=v.length+j) (λa=>k3 a (Aw ((i:Int)+1))) ⟨z,AL⟩]
 ·intro k a j q u;have hp:=qA a l[i].bJ[j];refine⟨⟨TG u.1,AL⟩,?_⟩;unfold aEd;rw[CY hi,Ad,dec_lt q,Bl,Ad,CY q,Ad,aJT a _ u.1 AL,Ad]
 intro k a _;unfold aEd;rw[CY hi,Ad,Di];rfl
def akY (hi:i<l.length)(k3:A8 Int->Int->AB (A8 Int))(v:A8 Int)(q:Inc v)(hl:v.length<=800000)(hp:l[i].bH.length<=40)(ha:l[i].bJ.length<=40):
 aC5 l (i:Int) k3 v 0=k3 (l[i].bJ.foldl put (l[i].bH.foldl put v)) (Aw ((i:Int)+1)):=by
 unfold aC5;rw[Ip l[i].bH AL put (λj a=>Inc a/\a.length<=v.length+j) (λa=>a3U l (i:Int) k3 a 0) ⟨q,AL⟩]
 ·have h:=qm l[i].bH v;exact aa5 hi k3 _ (a6K q) AL ha
 ·intro k a j u z;have hp:=qA a l[i].bH[j];refine⟨⟨TG z.1,AL⟩,?_⟩;unfold aIl;rw[CY hi,Ad,dec_lt u,Bl,Ad,CY u,Ad,aJT a _ z.1 AL,Ad]
 intro k a _;unfold aIl;rw[CY hi,Ad,Di];rfl
def a4o :∀(l:A8 AQ) (r:A8 Int),Inc r->(∀e∈l,e.bH.length<=40/\e.bJ.length<=40)->
 Inc (l.foldl (λr e=>e.bJ.foldl put (e.bH.foldl put r)) r)/\(l.foldl (λr e=>e.bJ.foldl put (e.bH.foldl put r)) r).length<=r.length+l.length*80/\
 ∀x,x∈l.foldl (λr e=>e.bJ.foldl put (e.bH.foldl put r)) r↔x∈r\/∃e∈l,x∈e.bH\/x∈e.bJ
 | [],r,h,_=>⟨h,Bf,λx=>Bf⟩
 |e::l,r,h,hs=>by
  have q:=hs e (Gt ..);obtain⟨h1,h2,h3⟩:=a4o l (e.bJ.foldl put (e.bH.foldl put r)) (a6K (a6K h)) λx j=>hs x (IZ _ j);have u:=qm e.bH r;have z:=qm e.bJ (e.bH.foldl put r);rw[Fv];refine⟨h1,by rw[GK];omega,λx=>(h3 x).trans ?_⟩;rw[aCp,aCp]
  grind
def EX.lists (hs:EX l):∀e∈l,e.bH.length<=40/\e.bJ.length<=40:=λe j=>⟨(hs e j).prev,(hs e j).auth⟩
def aZB (h:i<l.length):(l.take (i+1)).foldl (λr e=>e.bJ.foldl put (e.bH.foldl put r)) ([]:A8 Int)=l[i].bJ.foldl put (l[i].bH.foldl put ((l.take i).foldl (λr e=>e.bJ.foldl put (e.bH.foldl put r)) [])):=by
 rw[Us,ES h,SB,Uk];rfl
def acZ (l:A8 AQ)(hl:l.length<=1000)(hs:EX l):a2x l=some (jY l):=by
 unfold a2x aU8;refine dL.eq (Jf l.length (fuel_lt AL) (λi a=>a=(l.take i).foldl (λr e=>e.bJ.foldl put (e.bH.foldl put r)) []) rfl (λi a k hi ha j=>?_) λa k ha=>?_)
 ·subst ha;obtain⟨h1,h2,_⟩:=a4o (l.take i) [] .nil λe q=>hs.lists e (YU q);have hp:=hs.lists l[i] (EY hi);unfold aHr;rw[dec_lt hi,Bl,akY hi k _ h1 (by rw[H6]at h2;simp only[Q7]at h2;omega) hp.1 hp.2,wrap_succ i AL];exact j _ (aZB hi).symm
 unfold aHr;rw[Di];refine .ret ?_;rw[ha,Gy];rfl
def ajK (hs:EX l):(jY l).length<=l.length*80:=by
 have :=(a4o l [] .nil hs.lists).2.1;unfold jY;simpa using this
def aVA (hs:EX l){x:Int}:x∈jY l↔∃e∈l,x∈e.bH\/x∈e.bJ:=by
 have :=(a4o l [] .nil hs.lists).2.2 x;unfold jY;rw[this];simp
def agI:TW l=true↔∀e∈l,(∀x∈e.bH,bU l x=true)/\∀x∈e.bJ,bU l x=true:=by
 unfold TW Gl
 grind
def aam (l:A8 AQ)(hl:l.length<=1000)(hs:EX l):a7r l=some (TW l):=by
 have h1:=ajK hs;unfold a7r;rw[acZ l hl hs,Ad,rX l _ hl AL,Ad];refine BG some ?_;rw[Ox,agI];constructor
 ·intro h e u;have j:Qr l (jY l)=[]:=Ho aLA
  have key:∀x,x∈e.bH\/x∈e.bJ->bU l x=true:=λx q=>by
   cases z:bU l x with
   |true=>
    rfl
   |false=>
    have :=lZ.2 ⟨(aVA hs).2 ⟨e,u,q⟩,z⟩;rw[j]at this;cases this
  grind
 intro h
 have j:Qr l (jY l)=[]:=aDS.2 λx q=>by
  obtain⟨h3,I⟩:=lZ.1 q;obtain⟨e,u,J⟩:=(aVA hs).1 h3
  grind
 rw[j];rfl
def qG (l:A8 AQ):Prop:=∀e∈l,1<=e.Depth/\e.Depth<=100000
def Hd (l:A8 AQ)(x:Int):Int:=(IK l x).1.Depth
def QN (l:A8 AQ)(e:AQ):AX:=e.bJ.all (λx=>Hd l x<e.Depth)&&bif (e.bH.length:Int)==0 then e.Depth==1 else e.bH.all (λx=>Hd l x<e.Depth)&&e.bH.any λx=>Hd l x==e.Depth-1
def HY (l:A8 AQ):Int:=bif TW l then bif l.all (QN l)then 0 else 15 else 14
def aRO (h:qG l)(x:Int):0<=Hd l x/\Hd l x<=100000:=by
 unfold Hd IK;cases j:Ef l x with
 |none=>exact⟨a1p 0,Bj⟩
 |some e=>have :=h e (JM j);exact⟨by show 0<=e.Depth;omega,this.2⟩
def a4t (a b:Int):decide (a>=b)= !decide (a<b):=by by_cases h:a<b<;>simp[h];omega
def kZ (l:A8 α)(p:α->AX):l.any (λx=> !p x)= !l.all p:=by rw[List.all_eq_not_any_not,yj]
def adb (l:A8 AQ)(e:AQ)(hl:l.length<=1000)(M:FH e)(hd:qG l)(O:1<=e.Depth/\e.Depth<=100000):uV l e=some (QN l e):=by
 have h1:=M.prev;have h2:=M.auth;have w:Aw (e.Depth-1)=e.Depth-1:=OY AL AL
 have z:a6r e l ((e.bH.length:Int)==0) 0=some (bif (e.bH.length:Int)==0 then true else e.bH.all (λx=>Hd l x<e.Depth)&&e.bH.any λx=>Hd l x==e.Depth-1):=by
  unfold a6r;refine dL.eq (Jf e.bH.length (fuel_lt AL) (λi a=>(∀j,(u:j<i)->(hl:j<e.bH.length)->decide (Hd l e.bH[j]<e.Depth)=true)/\a=(((e.bH.length:Int)==0)||(e.bH.take i).any λx=>Hd l x==e.Depth-1)) ⟨λj u=>AL,Bf⟩ (λi a k hi ha U=>?_) λa k ha=>?_)
  ·have Y:((e.bH.length:Int)==0)=false:=by simp;intro Z;rw[Z]at hi;simp at hi
   unfold a4X;rw[DI hi,N7 l _ AL,Ad,a4t];refine dL.bif (λq=>.ret ?_) λq=>?_
   ·have q:decide (Hd l e.bH[i]<e.Depth)=false:=by unfold Hd;simpa using q
    rw[Y,nU (EY hi) q];rfl
   have q:decide (Hd l e.bH[i]<e.Depth)=true:=by unfold Hd;simpa using q
   rw[show(bif a then some true else some ((IK l e.bH[i]).1.Depth==Aw (e.Depth-1)))=some (a||(Hd l e.bH[i]==e.Depth-1)) by rw[w];cases a<;>rfl,Ad,wrap_succ i AL];refine U _ ⟨λj u I=>?_,?_⟩
   ·by_cases ej:j=i
    ·subst ej;exact q
    exact ha.1 j AL I
   rw[ha.2,Us,ES hi,SB,aJ2,Bool.or_assoc];simp
  unfold a4X;rw[EM];refine .ret ?_;rw[ha.2,Gy,all_good λj u=>ha.1 j u u];cases((e.bH.length:Int)==0)<;>simp
 unfold uV
 have J:aGh e l 0=some (e.bJ.all (λx=>Hd l x<e.Depth)&&(bif (e.bH.length:Int)==0 then true else e.bH.all (λx=>Hd l x<e.Depth)&&e.bH.any λx=>Hd l x==e.Depth-1)):=by
  unfold aGh;rw[Hq e.bJ (fuel_lt AL) (λx=> !decide (Hd l x<e.Depth)) false (a6r e l ((e.bH.length:Int)==0) 0)]
  ·rw[z,kZ];cases e.bJ.all (λx=>Hd l x<e.Depth)<;>rfl
  ·intro k i hi;unfold a7w;rw[DI hi,N7 l _ AL,Ad,a4t];rfl
  intro k;unfold a7w;rw[EM]
 rw[J];unfold QN;have L:(e.Depth != 1)= !(e.Depth==1):=rfl;rw[L];cases((e.bH.length:Int)==0)<;>cases(e.Depth==1)<;>cases e.bJ.all (λx=>Hd l x<e.Depth)<;>rfl
def aJk {m:A8 (Int×Int)}(h:aF l m){x:Int}(j:bU l x=true):∃e,Aq l ((DN m x).getD 0)=some e/\e.Depth=Hd l x:=⟨_,h.get (Ib j).1,rfl⟩
def adY (p:A8 Int)(f:Int->Int)(d a:Int)(j:∃y∈p,f y=a)(ha:∀y∈p,f y<=a):(p.all (λx=>f x<d)&&p.any λx=>f x==d-1)=bif d>a then d-a==1 else false:=by
 grind
def aaO (l:A8 AQ)(m:A8 (Int×Int))(e:AQ)(hm:aF l m)(U:FH e)(I:Gl l e=true)(hd:qG l)(Y:1<=e.Depth/\e.Depth<=100000):a1A l m e=some (QN l e,m):=by
 have h1:=U.prev;have h2:=U.auth;unfold Gl at I;simp only[Dj,FQ]at I;unfold a1A aXI;rw[Hq e.bJ (fuel_lt AL) (λx=> !decide (Hd l x<e.Depth)) (false,m) (some ((bif (e.bH.length:Int)==0 then e.Depth==1 else e.bH.all (λx=>Hd l x<e.Depth)&&e.bH.any λx=>Hd l x==e.Depth-1),m))]
 ·rw[kZ];unfold QN;cases e.bJ.all (λx=>Hd l x<e.Depth)<;>rfl
 ·intro k i hi;unfold aKF;obtain⟨x,O,q⟩:=aJk hm (I.2 _ (EY hi));rw[DI hi,O,Ad,a4t,q]
 intro k;unfold aKF;rw[EM];cases J:((e.bH.length:Int)==0)with
 |true=>
  rfl
 |false=>
  have hp:0<e.bH.length:=by
   grind
  obtain⟨x,O,q⟩:=aJk hm (I.1 _ (EY hp));have Z:Aq e.bH 0=some e.bH[0]:=CY (i:=0) hp;rw[BR,BR,Z,Ad,O,Ad,q];unfold aWW;refine dL.eq (Jf e.bH.length (fuel_lt AL) (λi a=>(0<=a/\a<=100000)/\(∃y∈e.bH,Hd l y=a)/\∀y∈e.bH.take i,Hd l y<=a) ⟨aRO hd _,⟨_,EY hp,rfl⟩,λy L=>a0V⟩ (λi a k2 hi ha hk=>?_) λa k2 ha=>?_)
  ·unfold aFP;obtain⟨y,L,u⟩:=aJk hm (I.1 _ (EY hi));have hb:=aRO hd e.bH[i];rw[DI hi,L,Ad,wrap_succ i AL,u]
   have M:Xq a (Hd l e.bH[i])=a/\Hd l e.bH[i]<=a\/Xq a (Hd l e.bH[i])=Hd l e.bH[i]/\a<=Hd l e.bH[i]:=by
    unfold Xq;by_cases h:Hd l e.bH[i]>a
    ·grind
    rw[IC h];exact .inl ⟨rfl,AL⟩
   refine hk _ ⟨AL,?_,λz J=>?_⟩
   ·rcases M with h|h
    ·rw[h.1];exact ha.2.1
    rw[h.1];exact⟨_,EY hi,rfl⟩
   rw[Us,ES hi,SB,I8,JI]at J;rcases J with J|rfl
   ·have :=ha.2.2 z J;omega
   omega
  obtain⟨hb,⟨y,L,u⟩,j⟩:=ha;rw[Gy]at j;unfold aFP;rw[EM,OY AL AL,adY e.bH (Hd l) e.Depth a ⟨y,L,u⟩ j];cases decide (e.Depth>a)<;>exact .ret rfl
def aNN (l:A8 AQ)(hl:l.length<=100)(hs:EX l)(hd:qG l):eG l=some (HY l):=by
 unfold eG HY;rw[amZ l hl hs,Ad];cases L:TW l with
 |false=>rfl
 |true=>
  have M:∀e∈l,Gl l e=true:=FQ.1 L;refine dL.eq ((a0R l AL).bind λm hm=>?_);unfold aUO;refine aB (body:=aJx l) (Q:=λb=>b=bif l.all (QN l)then 0 else 15) (λn a b=>∃i:Nat,a=i/\i+n=l.length/\b=m/\∀j,(u:j<i)->(hl:j<l.length)->QN l l[j]=true) ?_ Ar l.length 0 m (fuel_lt AL) ⟨0,rfl,AL,rfl,λj u=>AL⟩;rintro n a b k ⟨i,rfl,U,rfl,I⟩ O;unfold aJx;by_cases hi:i<l.length
  ·have q:=EY hi;rw[DI hi,aaO l b l[i] hm (hs _ q) (M _ q) hd (hd _ q),Ad];cases J:QN l l[i]with
   |false=>exact .ret (by rw[nU q J];rfl)
   |true=>
    refine O (n-1) _ _ AL ⟨i+1,wrap_succ i AL,AL,rfl,λj u z=>?_⟩;by_cases e:j=i
    ·subst e;exact J
    exact I j AL z
  have :i=l.length:=AL
  subst this;rw[EM];exact .ret (by rw[all_good λj u=>I j u u];rfl)
def aVt (l:A8 AQ)(hl:l.length<=100)(hs:EX l)(hd:qG l):wF l=some (HY l):=by
 unfold wF HY;rw[aam l AL hs,Ad];cases M:TW l with
 |false=>rfl
 |true=>
  show aEL l 0=_;unfold aEL;refine dL.eq (YQ l.length (fuel_lt AL) (λi=>∀j,(u:j<i)->(hl:j<l.length)->QN l l[j]=true) (λj u=>AL) (λi k hi z L=>?_) λk z=>?_)
  ·have q:=EY hi;unfold aFl;rw[DI hi,adb l l[i] AL (hs _ q) hd (hd _ q),Ad,wrap_succ i AL];cases J:QN l l[i]with
   |false=>exact .ret (by rw[nU q J];rfl)
   |true=>
    refine L λj u I=>?_;by_cases e:j=i
    ·subst e;exact J
    exact z j AL I
  unfold aFl;rw[Di];exact .ret (by rw[all_good λj u=>z j u u];rfl)
section
variable {α β R:Type} {lt:α->α->AX}
def Kz (lt:α->α->AX)(A:A8 α)(x:α):A8 α:=(A.reverse.dropWhile (lt x)).reverse++x::(A.reverse.takeWhile (lt x)).reverse
def aNM {A:A8 α}{a x:α}(h:lt x a=true):Kz lt (A++[a]) x=Kz lt A x++[a]:=by
 unfold Kz;rw[aCN,List.reverse_singleton,List.singleton_append,aQl h,List.takeWhile_cons_of_pos h,List.reverse_cons,JU];rfl
def aNp {A:A8 α}{a x:α}(h:lt x a=false):Kz lt (A++[a]) x=A++a::[x]:=by
 have h':¬lt x a=true:=by rw[h];simp
 unfold Kz;rw[aCN,List.reverse_singleton,List.singleton_append,aUq h',List.takeWhile_cons_of_neg h'];simp
def aeR (A:A8 α)(x:α):(Kz lt A x).length=A.length+1:=by
 unfold Kz;have :=BG List.length (sF (p:=lt x) (l:=A.reverse));simp only[Ei,List.length_reverse,GK]at this ⊢;omega
def aSc (A:A8 α)(x:α):(Kz lt A x).Perm (x::A):=by
 unfold Kz;refine a5m.trans (List.Perm.cons x ?_);rw[←aCN,sF,List.reverse_reverse]
def aXo {lt':β->β->AX}{f:α->β}(h:∀x a,lt x a=lt' (f x) (f a))(A:A8 α)(x:α):(Kz lt A x).map f=Kz lt' (A.map f) (f x):=by
 have e:lt x=lt' (f x)∘f:=funext λa=>h x a;unfold Kz;have h1:(A.map f).reverse=A.reverse.map f:=aGX.symm;rw[h1,List.dropWhile_map,List.takeWhile_map,JY,Gs,aGX,aGX,e]
def aT8 {lt':β->β->AX}{f:α->β}(h:∀x a,lt x a=lt' (f x) (f a)):∀(l A:A8 α),(l.foldl (Kz lt) A).map f=(l.map f).foldl (Kz lt') (A.map f)
 | [],A=>rfl
 |x::l,A=>by rw[Fv,aT8 h l,Gs,Fv,aXo h]
def a2O :∀(l A:A8 α),(l.foldl (Kz lt) A).length=A.length+l.length
 | [],A=>rfl
 |x::l,A=>by rw[Fv,a2O l,aeR,GK];omega
def aTa :∀(l A:A8 α),(l.foldl (Kz lt) A).Perm (A++l)
 | [],A=>by rw[RZ];exact .refl _
 |x::l,A=>by
  rw[Fv];exact(aTa l (Kz lt A x)).trans (((aSc A x).append_right l).trans (a5m (l₁:=A) (l₂:=l) (a:=x)).symm)
def a1z (A:A8 α)(x:α)(B:A8 α):Aq (A++x::B) (A.length:Int)=some x:=by rw[a7m];simp
def aFK (A:A8 α)(a x:α)(B:A8 α):Aq (A++a::x::B) ((A.length+1:Nat):Int)=some x:=by rw[a7m];simp
def set_mid (A:A8 α)(x y:α)(B:A8 α):(A++x::B).set A.length y=A++y::B:=Bf
def aNH (A:A8 α)(a x y:α)(B:A8 α):(A++a::x::B).set (A.length+1) y=A++a::y::B:=by
 have :=set_mid (A++[a]) x y B;simpa using this
def bubble {body:(Int->A8 α->AB R)->Int->A8 α->AB R}(j:A8 α->AB R)(N:Nat)(U:∀k x B,(x::B).length=N->body k 0 (x::B)=j (x::B))(hs:∀k A a x B,(A++a::x::B).length=N->body k ((A.length+1:Nat):Int) (A++a::x::B)=bif lt x a then k (A.length:Int) (A++x::a::B)else j (A++a::x::B)):
 ∀n (A:A8 α) (x:α) (B:A8 α),A.length=n->(A++x::B).length=N->∀m,n<m->aQ body m (A.length:Int) (A++x::B)=j (Kz lt A x++B):=by
 intro n
 induction n with
 |zero=>
  intro A x B I J m hm;obtain⟨m,rfl⟩:∃L,m=L+1:=⟨m-1,AL⟩
  obtain rfl:=Ho I;exact U _ x B J
 |succ n Y=>
  intro A x B I J m hm;obtain⟨m,rfl⟩:∃L,m=L+1:=⟨m-1,AL⟩
  have q:A≠[]:=λe=>by subst e;cases I
  obtain⟨A',a,rfl⟩:∃A' a,A=A'++[a]:=⟨A.dropLast,A.getLast q,(List.dropLast_concat_getLast q).symm⟩
  have M:A'.length=n:=jf
  have O:A'++[a]++x::B=A'++a::x::B:=Bf
  have u:(A'++a::x::B).length=N:=by rw[←O];exact J
  have Z:(A'++[a]).length=A'.length+1:=Bf
  rw[O,Z];show body (aQ body m) _ _=_;rw[hs _ A' a x B u];cases z:lt x a with
  |true=>
   rw[Bl,Y A' x (a::B) M (by simp at u ⊢;omega) m AL,aNM z];simp
  |false=>rw[BR,aNp z];simp
end
def O4 (a b:AQ):AX:=decide (a.Depth<b.Depth)||((a.Depth==b.Depth)&&(a.Id<b.Id))
def Ub (l:A8 AQ):A8 AQ:=l.foldl (Kz O4) []
def He (l:A8 AQ):A8 Int:=(Ub l).map (·.Id)
def aHR (l:A8 AQ):(Ub l).length=l.length:=by unfold Ub;rw[a2O];simp
def aDA (l:A8 AQ):(Ub l).Perm l:=by have :=aTa (lt:=O4) l [];rwa [JQ]at this
def aXp (a b:AQ):aBK a b=some (O4 a b):=by
 unfold aBK O4
 grind
variable {β:Type}{l:A8 α}
def aWX {f:β->α->β}{b:β}(h:i<l.length):(l.take (i+1)).foldl f b=f ((l.take i).foldl f b) l[i]:=by
 rw[Us,ES h,SB,Uk];rfl
def map_take {f:α->β}(h:i<l.length):(l.take (i+1)).map f=(l.take i).map f++[f l[i]]:=by
 rw[Us,ES h,SB,JY];rfl
def ae7 (l:A8 AQ)(hl:l.length<=1000000):aBC l=some (l.map (·.Id)):=by
 unfold aBC aMK;refine dL.eq (Jf l.length (fuel_lt AL) (λi a=>a=(l.take i).map (·.Id)) rfl (λi a k hi ha j=>?_) λa k ha=>?_)
 ·unfold aGa;have hlen:a.length<=i:=uj
  rw[DI hi,Dy GR,Ad,wrap_succ i AL];exact j _ a7j
 unfold aGa;rw[EM];exact .ret Yr
def akb (l:A8 AQ)(hl:l.length<=1000):a7M l=some (He l):=by
 unfold a7M aPZ;refine dL.eq (Jf l.length (fuel_lt AL) (λi a=>a=(l.take i).foldl (Kz O4) []) rfl (λi a k hi ha u=>?_) λa k ha=>?_)
 ·have hlen:a.length=i:=by rw[ha,a2O,H6];simp;omega
  unfold aI4;rw[DI hi,Dy GR,Ad];unfold aMB;have j:=bubble (lt:=O4) (body:=a2C k (i:Int)) (λv=>k v ((i+1:Nat):Int)) (i+1) (λk2 x B q=>?_) (λk2 A b x B q=>?_) i a l[i] [] hlen Ej Ar (fuel_lt AL)
  ·rw[hlen]at j;rw[j,RZ];exact u _ (by rw[aWX hi,ha])
  ·unfold a2C a0g;rw[wrap_succ i AL];rfl
  have hA:A.length+2<=i+1:=by rw[←q];simp
  have z:Aw (((A.length+1:Nat):Int)-1)=(A.length:Int):=Oj
  unfold a2C a0g;rw[KL (show((A.length+1:Nat):Int)>0 by omega),Bl,aFK,Ad,z,a1z,Ad,aXp,Ad,wrap_succ i AL];cases O4 x b with
  |false=>rfl
  |true=>
   simp only[Bl,Ad,XI];rw[aNH,a1z,Ad,set_mid]
 unfold aI4;rw[Di,BR];have e:a=Ub l:=by rw[ha,Gy];rfl
 rw[e,ae7 _ (by rw[aHR];omega)];exact .ret rfl
def yS (e:AQ):U2:=⟨e.Depth,e.Id⟩
def nH (a b:U2):AX:=decide (a.pV<b.pV)||((a.pV==b.pV)&&(a.nR<b.nR))
def ajX (a x:U2):(bif a.pV<x.pV then some true else(bif (a.pV==x.pV)then some (decide (a.nR<=x.nR))else some false).bind λj=>some j)=some (!nH x a):=by
 unfold nH;by_cases h1:a.pV<x.pV
 ·rw[KL h1,Bl,IC AL,show(x.pV==a.pV)=false by simp;omega];rfl
 rw[IC h1,BR];by_cases h2:a.pV=x.pV
 ·rw[h2,IC (show ¬x.pV<x.pV by omega)];simp only[VJ,Bl,Ad,Qv,GX];by_cases h3:a.nR<=x.nR
  ·grind
  grind
 rw[show(a.pV==x.pV)=false by simpa using h2,KL (show x.pV<a.pV by omega)];rfl
def amB (l:A8 AQ)(hl:l.length<=1000):a5y l=some (He l):=by
 have J:Jj 16 a1E 0 (l.length:Int)=some []:=by unfold Jj;rw[Ea ⟨a1p _,AL,AL⟩];rfl
 unfold a5y;rw[J,Ad];unfold aT5;refine dL.eq (Jf l.length (fuel_lt AL) (λi a=>a=((l.take i).map yS).foldl (Kz nH) []) rfl (λi a k hi ha L=>?_) λa k ha=>?_)
 ·have hlen:a.length=i:=by rw[ha,a2O,Df,H6];simp;omega
  unfold aK2;rw[DI hi,CY hi,Ad,Dy GR,Ad];unfold aTq;have M:Aw (((a++[(⟨l[i].Depth,l[i].Id⟩:U2)]).length:Int)-1)=(a.length:Int):=aJt
  rw[M];have O:=bubble (lt:=nH) (body:=zf k (i:Int)) (λv=>k v ((i+1:Nat):Int)) (i+1) (λk2 x B u=>?_) (λk2 A b x B u=>?_) i a (yS l[i]) [] hlen Ej Ar (fuel_lt AL)
  ·show dL (aQ (zf k (i:Int)) Ar (a.length:Int) (a++[yS l[i]])) _;rw[O,RZ];exact L _ (by rw[map_take hi,Uk,ha];rfl)
  ·unfold zf vN;rw[wrap_succ i AL];rfl
  have hA:A.length+2<=i+1:=by rw[←u];simp
  have U:Aw (((A.length+1:Nat):Int)-1)=(A.length:Int):=Oj
  unfold zf vN;rw[KL (show((A.length+1:Nat):Int)>0 by omega),Bl,U,a1z,Ad,aFK,Ad,ajX,Ad,wrap_succ i AL];cases nH x b with
  |false=>rfl
  |true=>
   simp only[FU,BR,Bl,Ad,XI];rw[set_mid,aFK,Ad,aNH]
 unfold aK2;rw[EM];have e:a=(Ub l).map yS:=by rw[ha,Gy];exact(aT8 (lt:=O4) (lt':=nH) (f:=yS) (λ_ _=>rfl) l []).symm
 have Y:a.length=l.length:=by rw[e,Df,aHR]
 have Z:Jj 8 0 (a.length:Int) (a.length:Int)=some (List.replicate a.length (0:Int)):=by unfold Jj;rw[Ea ⟨AL,a1p _,AL⟩];simp
 have e2:He l=a.map (·.nR):=by rw[e,jP];rfl
 rw[Z,Ad,e2];unfold aWZ;refine UQ (body:=aKQ a) (Q:=λr=>r=a.map (·.nR)) (λn (x:Int) (o:A8 Int) (p:A8 U2)=>∃i:Nat,x=i/\i+n=a.length/\o=(a.take i).map (·.nR)++List.replicate (a.length-i) 0/\p=a) ?_ Ar a.length 0 (List.replicate a.length 0) a (fuel_lt AL) ⟨0,rfl,AL,Bf,rfl⟩;rintro n x o p k2 ⟨i,rfl,hn,I,rfl⟩ q;unfold aKQ;by_cases hi:i<p.length
 ·have hm:((p.take i).map (·.nR)).length=i:=by rw[Df,H6];omega
  obtain⟨z,hz⟩:∃z,p.length-i=z+1:=⟨p.length-i-1,AL⟩
  have j:o=(p.take i).map (·.nR)++0::List.replicate z 0:=by rw[I,hz,List.replicate_succ]
  have g2:Aq o (i:Int)=some 0:=by have :=a1z ((p.take i).map (·.nR)) 0 (List.replicate z 0);rw[hm]at this;rw[j];exact this
  have s2:o.set i p[i].nR=(p.take i).map (·.nR)++p[i].nR::List.replicate z 0:=by have :=set_mid ((p.take i).map (·.nR)) 0 p[i].nR (List.replicate z 0);rw[hm]at this;rw[j];exact this
  rw[DI hi,g2,Ad];refine q (n-1) _ _ _ AL ⟨i+1,wrap_succ i AL,AL,?_,rfl⟩;rw[XI,s2,map_take hi,show p.length-(i+1)=z by omega];simp
 have :i=p.length:=AL
 subst this;rw[EM];exact .ret (by rw[I];simp)
def JG (l:A8 AQ)(x y:Int):AX:=bU l y&&(y != x&&ER (ev l y).bH x)
def JX (l:A8 AQ)(ids:A8 Int):A8 Int:=(FW ids).filter λx=> !ids.any (JG l x)
def aYa {a b:A8 α}(p:α->AX)(h:∀x,x∈a↔x∈b):a.any p=b.any p:=by
 grind
def ajv (ids:A8 Int)(p:Int->AX):FW (ids.filter p)=(FW ids).filter p:=
 Dp (NP _) ((NP ids).sublist Uc) λx=>by rw[Kw,Gx,Gx,Kw]
def yP (l:A8 AQ)(ids:A8 Int):(JX l ids).length<=ids.length:=EK (Lu _ _) (Nw ids)
def a0p (h:i<l.length):(l.take (i+1)).filter p=(l.take i).filter p++bif p l[i]then[l[i]]else[]:=by
 rw[Us,ES h,SB,Qy]
 grind
def y8 (h:i<l.length):(l.take (i+1)).any p=((l.take i).any p||p l[i]):=by
 rw[Us,ES h,SB,aJ2];simp
def aXE (l:A8 AQ)(ids:A8 Int)(hl:l.length<=100)(hs:EX l)(hi0:ids.length<=1000):zA l ids=some (JX l ids):=by
 unfold zA;refine dL.eq ((a0R l AL).bind λm hm=>?_);unfold aQz;refine UQ (body:=aHc ids l) (Q:=λr=>r=JX l ids) (λn a b c=>∃i:Nat,a=i/\i+n=ids.length/\b=m/\∀x,(DN c x).getD false=(ids.take i).any (JG l x)) ?_ Ar ids.length 0 m [] (fuel_lt AL) ⟨0,rfl,AL,rfl,λx=>rfl⟩;rintro n a b c k ⟨i,rfl,hn,rfl,M⟩ U;unfold aHc;by_cases hi:i<ids.length
 ·have hj:∀Y,(∀x,(DN Y x).getD false=((ids.take i).any (JG l x)||JG l x ids[i]))->dL (aBL k (i:Int) b Y) (λr=>r=JX l ids):=λY h8=>U (n-1) _ _ _ AL ⟨i+1,wrap_succ i AL,AL,rfl,λx=>by rw[h8,y8 hi]⟩;rw[DI hi,hm.isSome];cases q:bU l ids[i]with
  |false=>
   exact hj c λx=>by rw[M];unfold JG;rw[q];simp
  |true=>
   obtain⟨hg,_⟩:=Ib q;rw[hm.get hg,Ad];have hp:=(hs _ (JM hg)).prev;simp only[FU,BR];unfold aVW;refine UQ (body:=aGD (ev l ids[i]) ids[i] k (i:Int)) (Q:=λr=>r=JX l ids) (λO a2 b2 c2=>∃j:Nat,a2=j/\j+O=(ev l ids[i]).bH.length/\b2=b/\∀x,(DN c2 x).getD false=((ids.take i).any (JG l x)||(ids[i] != x&&ER ((ev l ids[i]).bH.take j) x))) ?_ Ar (ev l ids[i]).bH.length 0 b c (fuel_lt AL) ⟨0,rfl,AL,rfl,λx=>by rw[M,a1a];unfold ER;simp⟩;rintro O a2 b2 c2 k2 ⟨j,rfl,hn2,rfl,u⟩ z;unfold aGD;by_cases I:j<(ev l ids[i]).bH.length
   ·have J:∀x,ER ((ev l ids[i]).bH.take (j+1)) x=(ER ((ev l ids[i]).bH.take j) x||(x==(ev l ids[i]).bH[j])):=λx=>by
     rw[Ox,ZT,LQ,LQ,Us,ES I,SB,I8,JI,MZ]
    rw[DI I];cases L:(ev l ids[i]).bH[j] != ids[i]with
    |true=>
     refine z (O-1) _ _ _ AL ⟨j+1,wrap_succ j AL,AL,rfl,λx=>?_⟩;rw[RX,J];cases hx:x==(ev l ids[i]).bH[j]with
     |true=>
      have e:=eq_of_beq hx;subst e;rw[show(ids[i] != (ev l ids[i]).bH[j])=true by rw[bne_comm];exact L];simp
     |false=>
      grind
    |false=>
     refine z (O-1) _ _ _ AL ⟨j+1,wrap_succ j AL,AL,rfl,λx=>?_⟩;rw[J,u];have e:(ev l ids[i]).bH[j]=ids[i]:=by simpa using L
     rw[e];cases hx:x==ids[i]with
     |false=>
      simp
     |true=>
      grind
   have :j=(ev l ids[i]).bH.length:=AL
   subst this;rw[EM];exact hj _ λx=>by rw[u,Gy];unfold JG;rw[q];rfl
 have :i=ids.length:=AL
 subst this;rw[EM];unfold aUt;rw[Gy]at M;refine Jf ids.length (fuel_lt AL) (λi a=>a=(ids.take i).filter λx=> !ids.any (JG l x)) rfl (λi a k2 hi ha U=>?_) λa k2 ha=>?_
 ·have Z:a.length<=i:=aD5
  unfold aIz a1b;rw[DI hi,wrap_succ i AL,M];have hf:=a0p (p:=λx=> !ids.any (JG l x)) hi;cases hb:ids.any (JG l ids[i])with
  |true=>
   grind
  |false=>
   simp only[Jl,Bl];rw[Dy GR,Ad];exact U _ (by rw[hf,ha,hb];rfl)
 have Z:a.length<=ids.length:=aD5
 unfold aIz;rw[EM,fF _ AL];exact .ret (by rw[ha,Gy,ajv];rfl)
def ahU {l:A8 Int}(h:Inc l){j:Nat}(hi:i<l.length)(q:j<l.length)(e:l[i]=l[j]):i=j:=by
 rcases uT i j with h1|h1|h1
 ·have :=J9.1 h i j hi q h1;omega
 ·exact h1
 have :=J9.1 h j i q hi h1;omega
def aVR (l:A8 AQ)(ids:A8 Int)(hl:l.length<=1000)(hs:EX l)(hi0:ids.length<=1000):aA1 l ids=some (JX l ids):=by
 have I:=NP ids;have hlen:=Nw ids;have J:∀x,(FW ids).any (JG l x)=ids.any (JG l x):=λx=>aYa _ λ_=>Kw;unfold aA1 JX;rw[aH6 _ AL,Ad];have q:(λx=> !ids.any (JG l x))=λx=> !(FW ids).any (JG l x):=funext λx=>by rw[J]
 rw[q];generalize FW ids=S at I hlen;clear J q;unfold aN0;refine dL.eq (Jf S.length (fuel_lt AL) (λi a=>a=(S.take i).filter λx=> !S.any (JG l x)) rfl (λi a k hi ha hk=>?_) λa k ha=>?_)
 ·have hal:a.length<=i:=aD5
  have hf:=a0p (p:=λx=> !S.any (JG l x)) hi;unfold aHT;rw[dec_lt hi,Bl];unfold aQp;refine UQ (body:=aHZ S l (i:Int) k) (Q:=_) (λn b x c=>∃j:Nat,x=j/\j+n=S.length/\c=a/\b= !(S.take j).any (JG l S[i])) ?_ Ar S.length true 0 a (fuel_lt AL) ⟨0,rfl,AL,rfl,Bf⟩;rintro n b x c k2 ⟨j,rfl,hn,rfl,M⟩ O;unfold aHZ;by_cases U:j<S.length
  ·have u:∀Y,Y=(!((S.take j).any (JG l S[i])||JG l S[i] S[j]))->dL (a3d k2 (j:Int) Y c) (λx=>x=(S.filter λx=> !S.any (JG l x))):=λY h'=>O (n-1) _ _ _ AL ⟨j+1,wrap_succ j AL,AL,rfl,by rw[y8 U];exact h'⟩;rw[DI U,N7 l _ AL,Ad,Nb]
   have Z:(((j:Int) != (i:Int)))=(S[j] != S[i]):=by
    rw[Ox];simp only[bne_iff_ne,ne_eq];constructor
    ·intro h e;exact h (by rw[ahU I U hi e])
    intro h e;have :j=i:=AL
    subst this;exact h rfl
   rw[Z];cases z:(Ef l S[j]).isSome with
   |false=>
    unfold cD;exact u b (by rw[M];unfold JG bU;rw[z];simp)
   |true=>
    cases hq:S[j] != S[i]with
    |false=>
     unfold cD;exact u b (by rw[M];unfold JG;rw[hq];simp)
    |true=>
     simp only[Bl]
     have hpl:(IK l S[j]).1.bH.length<=40:=by
      obtain⟨e,he⟩:=SX.1 z;rw[Og he];exact(hs e (JM he)).prev
     rw[CY hi,Ad,XG _ _ AL,Ad];unfold cD;cases hh:ER (IK l S[j]).1.bH S[i]with
     |true=>exact u false (by unfold JG bU ev;rw[z,hq,hh];simp)
     |false=>exact u b (by rw[M];unfold JG bU ev;rw[z,hq,hh];simp)
  have :j=S.length:=AL
  subst this;rw[EM,M,Gy];unfold aBQ;rw[wrap_succ i AL];cases L:S.any (JG l S[i])with
  |true=>exact hk _ (by rw[hf,ha,L];simp)
  |false=>
   simp only[Jl,Bl];rw[CY hi,Ad,Dy GR,Ad];exact hk _ (by rw[hf,ha,L];rfl)
 unfold aHT;rw[Di];exact .ret Yr
def TV (x y:AQ):AX:=y.Kind==x.Kind&&(y.Key=x.Key)
def L6 (q:A8 BL):A8 AQ->A8 AQ->AX
 |_,[]=>true
 |j,x::xs=>(q.any λk=>F6 k x)&& !j.any (TV x)&&L6 q (j++[x]) xs
def Qo (x:AQ):AX:=x.Kind==1&&(x.Key=Ce)
def SH (l:A8 AQ)(e:AQ):Int:=
 bif !e.bJ.all (bU l)then 14 else bif !(ofIds l e.bJ).all (λx=>x.Room=e.Room)then 13
 else bif L6 (keysOf e) [] (ofIds l e.bJ)&&(e.Kind==1||(ofIds l e.bJ).any Qo)then 0 else 16
variable {k:BL}
def dF {x:AQ}:F6 k x=true↔x.Kind=k.Kind/\x.Key=k.Key:=by unfold F6;simp
def aTp {x y:AQ}:TV x y=true↔y.Kind=x.Kind/\y.Key=x.Key:=by unfold TV;simp
variable {j:A8 BL}
def aX0 {X:A8 AQ}(h:i<X.length):L6 j (X.take i) (X.drop i)=((j.any λk=>F6 k X[i])&& !(X.take i).any (TV X[i])&&L6 j (X.take (i+1)) (X.drop (i+1))):=by
 rw[NW h,Us,ES h];rfl
def aVx (X:A8 AQ):L6 j (X.take X.length) (X.drop X.length)=true:=by rw[PL];rfl
def aUM (X:A8 AQ)(k:Int)(key:BO)(h:X.length<=1000):ZA (X.map λx=>(⟨x.Kind,x.Key,0⟩:BL)) k key=some (X.any λy=>y.Kind==k&&(y.Key=key)):=by
 unfold ZA aCc;rw[Hq (X.map λx=>(⟨x.Kind,x.Key,0⟩:BL)) (fuel_lt ZL) (λy=>y.Kind==k&&(y.Key=key)) true (some false)]
 ·rw[List.any_map];show(bif X.any (λy=>y.Kind==k&&(y.Key=key))then some true else some false)=_;cases X.any (λy=>y.Kind==k&&(y.Key=key))<;>rfl
 ·intro q i hi;unfold sI;rw[DI hi,CY hi,Ad,Ja];cases((X.map λx=>(⟨x.Kind,x.Key,0⟩:BL))[i].Kind==k)<;>rfl
 intro q;unfold sI;rw[Di];rfl
def aZh (j:A8 BL)(x:AQ)(h:j.length<=1000):ZA j x.Kind x.Key=some (j.any λk=>F6 k x):=by
 unfold ZA aCc;rw[Hq j (fuel_lt AL) (λk=>F6 k x) true (some false)]
 ·grind
 ·intro q i hi;unfold sI;rw[DI hi,CY hi,Ad,Ja];have u:(j[i].Kind==x.Kind)=(x.Kind==j[i].Kind):=by rw[Ox,MZ,MZ];exact eq_comm
  have z:decide (j[i].Key=x.Key)=decide (x.Key=j[i].Key):=decide_eq_decide.2 eq_comm;unfold F6
  grind
 intro q;unfold sI;rw[Di];rfl
def ag8 (X:A8 AQ)(e:AQ)(O:X.length<=40):aFm X (keysOf e) e [] 0=some (bif L6 (keysOf e) [] X&&(e.Kind==1||X.any Qo)then 0 else 16):=by
 have I:=YC e;unfold aFm;refine dL.eq (Jf X.length (fuel_lt AL) (λi a=>a=(X.take i).map (λx=>(⟨x.Kind,x.Key,0⟩:BL))/\L6 (keysOf e) [] X=L6 (keysOf e) (X.take i) (X.drop i)) ⟨rfl,rfl⟩ (λi a k hi ha J=>?_) λa k ha=>?_)
 ·obtain⟨rfl,j⟩:=ha;unfold aK6;rw[DI hi,CY hi,Ad,aZh _ _ AL,Ad];rw[aX0 hi]at j
  have u:∀b,L6 (keysOf e) [] X=(!b&&L6 (keysOf e) (X.take (i+1)) (X.drop (i+1)))->dL (uK X (i:Int) ((X.take i).map λx=>(⟨x.Kind,x.Key,0⟩:BL)) k b) (· =bif L6 (keysOf e) [] X&&(e.Kind==1||X.any Qo)then 0 else 16):=λb z=>by
   unfold uK;cases b with
   |true=>exact .ret wI
   |false=>
    simp only[BR];rw[CY hi,Ad,Ad,Dy (by simp only[Oe,Df,H6];omega),Ad,wrap_succ i AL];exact J _ ⟨by rw[map_take hi],wI⟩
  cases hm:(keysOf e).any λk=>F6 k X[i]with
  |false=>
   rw[Jl,Bl];exact u true (by rw[j,hm];rfl)
  |true=>
   rw[FU,BR];have L:(λy:AQ=>y.Kind==X[i].Kind&&(y.Key=X[i].Key))=TV X[i]:=rfl;rw[Ad,Ad,aUM _ _ _ cZ,Ad,L];exact u _ (by rw[j,hm,GX])
 obtain⟨rfl,j⟩:=ha;rw[aVx]at j;unfold aK6;rw[Di,BR,Gy,j,aUM _ _ _ AL];have M:(X.any λy=>y.Kind==1&&(y.Key=Ce))=X.any Qo:=rfl;rw[M];have q:(e.Kind != 1)= !(e.Kind==1):=rfl;rw[q];cases e.Kind==1<;>cases X.any Qo<;>exact .ret rfl
def af2 (X:A8 AQ)(e:AQ)(j:X.length<=40):aKN X e 0=some (bif !X.all (λx=>x.Room=e.Room)then 13 else bif L6 (keysOf e) [] X&&(e.Kind==1||X.any Qo)then 0 else 16):=by
 unfold aKN;rw[Hq X (fuel_lt AL) (λx=> !decide (x.Room=e.Room)) 13 (some (bif L6 (keysOf e) [] X&&(e.Kind==1||X.any Qo)then 0 else 16))]
 ·rw[kZ];cases X.all (λx=>x.Room=e.Room)<;>rfl
 ·intro k i hi;unfold aJz;rw[DI hi,Ja]
 intro k;unfold aJz;rw[EM,aFt,Ad,ag8 X e j]
def ail (l:A8 AQ)(e:AQ)(hl:l.length<=100)(j:FH e):a4e l e=some (SH l e):=by
 have h1:=j.auth;have q:=eS l e.bJ;unfold a4e aTP SH;rw[Hq e.bJ (fuel_lt AL) (λx=> !bU l x) 14 (some (bif !(ofIds l e.bJ).all (λx=>x.Room=e.Room)then 13 else bif L6 (keysOf e) [] (ofIds l e.bJ)&&(e.Kind==1||(ofIds l e.bJ).any Qo)then 0 else 16))]
 ·rw[kZ]
  grind
 ·intro k i hi;unfold aF3;rw[DI hi,N7 l _ AL,Ad,Nb];rfl
 intro k;unfold aF3;rw[Di,BR,aGT l _ AL AL,Ad,af2 _ e AL]
def af7 (k:BL)(e:AQ):Wu (KE k) e=some (F6 k e):=by
 unfold Wu F6 KE;cases h:(e.Kind==k.Kind)with
 |false=>rfl
 |true=>show some (e.Key.toList==k.Key.toList)=_;rw[Ja,GX]
def aYy (j:A8 BL)(x:AQ)(h:j.length<=100):a4k (j.map KE) x=some (if j.findIdx (λk=>F6 k x)<j.length then((j.findIdx (λk=>F6 k x):Nat):Int)else -1):=by
 unfold a4k aTA
 have u:∀k (i:Nat),i<j.length->aB1 (j.map KE) x k (i:Int)=bif F6 (j.getD i ⟨0,Ce,0⟩) x then some (i:Int)else k (Aw ((i:Int)+1)):=λk i hi=>by
  unfold aB1;have q:i<(j.map KE).length:=a7i
  rw[DI q,Px];show((Wu (KE j[i]) x).bind _)=_;rw[af7,Ad];simp[List.getD,hi]
 rw[KC j (fuel_lt AL) (λk=>F6 k x) (λi=>some (i:Int)) (some (-1))]
 ·split<;>rfl
 ·grind
 intro k;unfold aB1;rw[show((j.map KE).length:Int)=(j.length:Int) by rw[Df],Di];rfl
def aRt {α:Type}{p:α->AX}:∀l:A8 α,l.Pairwise (λa b=>¬(p a=true/\p b=true))->l.findIdx p<l.length->l.filter (λx=> !p x)=l.take (l.findIdx p)++l.drop (l.findIdx p+1)
 | [],_,h=>absurd h (gQ _)
 |a::l,hp,h=>by
  obtain⟨h1,h2⟩:=QB.1 hp;rw[YH]at h ⊢;cases ha:p a with
  |true=>
   rw[List.filter_cons_of_neg (by simp[ha]),nS.2 λb j=>by
    cases q:p b with
    |false=>rfl
    |true=>exact absurd ⟨ha,q⟩ (h1 b j)]
   rfl
  |false=>
   rw[ha]at h;rw[List.filter_cons_of_pos (by simp[ha]),aRt l h2 OG];rfl
def aZN:∀l:A8 α,decide (l.findIdx p<l.length)=l.any p
 | []=>
  rfl
 |a::l=>by
  grind
def alP (e:AQ):KT (keysOf e):=by
 have z:KT (MW e):=Y8 (Y8 (Y8 List.Pairwise.nil _ _ _) _ _ _) _ _ _;unfold keysOf;cases e.Kind==1<;>cases e.Kind==2<;>cases(e.Content.N==3||e.Content.N==1||e.Content.N==2)<;>simp only[Bl,BR]
 ·exact z
 ·exact z
 ·exact Y8 z _ _ _
 ·exact Y8 (Y8 z _ _ _) _ _ _
 all_goals exact List.Pairwise.nil
def adR (h:k∈keysOf e)(h1:k.Kind=1):k.Key=Ce:=by
 have z:∀x∈MW e,x.Kind=1->x.Key=Ce:=λx j q=>by
  unfold MW at j;rcases Rt j with rfl|j
  ·cases q
  rcases Rt j with rfl|j
  ·cases q
  rcases Rt j with rfl|j
  ·rfl
  cases j
 unfold keysOf at h;cases h2:e.Kind==1 with
 |true=>
  grind
 |false=>
  cases h3:e.Kind==2 with
  |false=>
   grind
  |true=>
   rw[h2,h3]at h;cases u:(e.Content.N==3||e.Content.N==1||e.Content.N==2)with
   |true=>
    rw[u]at h;rcases Rt h with rfl|h
    ·cases h1
    rcases Rt h with rfl|h
    ·cases h1
    exact z k h h1
   |false=>
    rw[u]at h;rcases Rt h with rfl|h
    ·cases h1
    exact z k h h1
def aOq {u:A8 BL}:∀(X j:A8 AQ),L6 u j X=true->∀x∈X,∃k∈u,F6 k x=true
 | [],_,_,_,h=>absurd h G7
 |y::X,j,h,x,q=>by
  unfold L6 at h;simp only[Dj]at h;rcases FP.1 q with rfl|q
  ·grind
  exact aOq X _ h.2 x q
def any_congr {q:α->AX}(h:∀x∈l,p x=q x):l.any p=l.any q:=by
 grind
def ahh (l:A8 AQ)(e:AQ)(hl:l.length<=100)(he:FH e):wG l e=some (SH l e):=by
 have h1:=he.auth;have hk5:=YC e;have hsk:=alP e;unfold wG aMG;refine dL.eq (Jf e.bJ.length (fuel_lt AL) (λi a=>a=ofIds l (e.bJ.take i)/\∀x∈e.bJ.take i,bU l x=true) ⟨rfl,λx U=>by simp at U⟩ (λi a k hi ha J=>?_) λa k ha=>?_)
 ·obtain⟨rfl,u⟩:=ha;have hal:=eS l (e.bJ.take i);rw[H6]at hal;unfold a7D;rw[DI hi,Om l _ AL,Ad,wrap_succ i AL];cases Y:Ef l e.bJ[i]with
  |none=>
   rw[RN Y];refine .ret ?_;unfold SH;rw[nU (EY hi) (show bU l e.bJ[i]=false by unfold bU;rw[Y];rfl)];rfl
  |some x=>
   rw[Og Y];simp only[FU,BR];rw[Dy GR,Ad];refine J _ ⟨?_,λy I=>?_⟩
   ·unfold ofIds;rw[Us,ES hi,SB,fQ,VD,Y];rfl
   rw[Us,ES hi,SB,I8,JI]at I;rcases I with I|rfl
   ·exact u y I
   unfold bU;rw[Y];rfl
 obtain⟨rfl,u⟩:=ha;rw[Gy]at u ⊢;have U:=eS l e.bJ;have Z:e.bJ.all (bU l)=true:=FQ.2 u;unfold a7D;rw[EM];unfold SH;rw[Z];simp only[FU,BR];generalize ofIds l e.bJ=X at U;unfold aTI;rw[Hq X (fuel_lt AL) (λx=> !decide (x.Room=e.Room)) 13 (some (bif L6 (keysOf e) [] X&&(e.Kind==1||X.any Qo)then 0 else 16))]
 ·rw[kZ];cases X.all (λx=>x.Room=e.Room)<;>exact .ret rfl
 ·intro k2 i hi;unfold a3P;rw[DI hi,Ja]
 intro k2;unfold a3P;rw[EM,aPO,Ad];unfold aQI;refine dL.eq (UQ (body:=a2m X) (Q:=(· =bif L6 (keysOf e) [] X&&(e.Kind==1||X.any Qo)then 0 else 16)) (λn b ks x=>∃i:Nat,x=i/\i+n=X.length/\ks=((keysOf e).filter λk=> !(X.take i).any (F6 k)).map KE/\b=(e.Kind==1||(X.take i).any λx=>x.Kind==1)/\L6 (keysOf e) [] X=L6 (keysOf e) (X.take i) (X.drop i)) ?_ Ar X.length (e.Kind==1) ((keysOf e).map KE) 0 (fuel_lt AL) ⟨0,rfl,AL,by rw[a1a];exact BG (List.map KE) (nS.2 λ_ _=>rfl).symm,Bf,rfl⟩);rintro n b ks x k3 ⟨i,rfl,hn,hks,hb,z⟩ hk3;unfold a2m;by_cases hi:i<X.length
 ·rw[aX0 hi]at z;have hlk:((keysOf e).filter λk=> !(X.take i).any (F6 k)).length<=5:=EK (Lu _ _) hk5;rw[DI hi,hks,aYy _ _ AL,Ad];have L:=aZN (p:=λk=>F6 k X[i]) ((keysOf e).filter λk=> !(X.take i).any (F6 k))
  have M:(((keysOf e).filter λk=> !(X.take i).any (F6 k)).any λk=>F6 k X[i])=((keysOf e).any (λk=>F6 k X[i])&& !(X.take i).any (TV X[i])):=by
   rw[Ox,JV,Dj,JV,V9,←Z4,JV];constructor
   ·rintro⟨k,J,hm⟩;obtain⟨hk1,hk2⟩:=Gx.1 J;refine⟨⟨k,hk1,hm⟩,?_⟩;rintro⟨y,I,hs⟩;obtain⟨m1,m2⟩:=dF.1 hm;obtain⟨s1,s2⟩:=aTp.1 hs;rw[JV.2 ⟨y,I,dF.2 ⟨s1.trans m1,s2.trans m2⟩⟩]at hk2;cases hk2
   rintro⟨⟨k,J,hm⟩,hno⟩;refine⟨k,Gx.2 ⟨J,?_⟩,hm⟩;rw[V9,←Z4,JV];rintro⟨y,I,hs⟩;obtain⟨m1,m2⟩:=dF.1 hm;obtain⟨s1,s2⟩:=dF.1 hs;exact hno ⟨y,I,aTp.2 ⟨s1.trans m1.symm,s2.trans m2.symm⟩⟩
  rw[←M,←L]at z;by_cases q:((keysOf e).filter λk=> !(X.take i).any (F6 k)).findIdx (λk=>F6 k X[i])<((keysOf e).filter λk=> !(X.take i).any (F6 k)).length
  ·rw[Ea q,IC AL,BR];rw[KL q,GX]at z;have hlm:(((keysOf e).filter λk=> !(X.take i).any (F6 k)).map KE).length=((keysOf e).filter λk=> !(X.take i).any (F6 k)).length:=Df ..
   have hpw:((keysOf e).filter λk=> !(X.take i).any (F6 k)).Pairwise (λa b=>¬(F6 a X[i]=true/\F6 b X[i]=true)):=by
    refine(List.Pairwise.sublist Uc hsk).imp λ{a b} hab h=>?_;obtain⟨a1,a2⟩:=dF.1 h.1;obtain⟨b1,b2⟩:=dF.1 h.2;rw[xF (Xh.2 ⟨a1.symm.trans b1,a2.symm.trans b2⟩)]at hab;cases hab
   have hd:=aRt _ hpw q
   have O:((keysOf e).filter λk=> !(X.take i).any (F6 k)).filter (λk=> !F6 k X[i])=(keysOf e).filter λk=> !(X.take (i+1)).any (F6 k):=by
    rw[List.filter_filter];refine Zp λk _=>?_;rw[y8 hi];cases(X.take i).any (F6 k)<;>cases F6 k X[i]<;>rfl
   rw[O]at hd;generalize((keysOf e).filter λk=> !(X.take i).any (F6 k))=K at q hd hlm hlk;generalize K.findIdx (λk=>F6 k X[i])=j at q hd;have s1:Hw (K.map KE) 0 (j:Int)=some (((K.map KE).drop 0).take (j-0)):=Ya (lo:=0) (F7 _) AL;have s2:Hw (K.map KE) (Aw ((j:Int)+1)) ((K.map KE).length:Int)=some (((K.map KE).drop (j+1)).take ((K.map KE).length-(j+1))):=by rw[wrap_succ j AL];exact Ya AL (Eb _)
   rw[s1,Ad,s2,Ad,Dy (by simp only[H6,Ld];omega),Ad];have hb3:(bif b then some true else(Aq X (i:Int)).bind λx28=>some (x28.Kind==1))=some (b||X[i].Kind==1):=by rw[CY hi];cases b<;>rfl
   rw[hb3,Ad];refine hk3 (n-1) _ _ _ AL ⟨i+1,wrap_succ i AL,AL,?_,?_,z⟩
   ·rw[hd,JY,aV,iy,Nat.sub_zero,a1H,Qj (l:=(K.map KE).drop (j+1)) (by rw[Ld];omega)]
   rw[y8 hi,hb,Bool.or_assoc]
  rw[Eh q];rw[IC q,uD]at z;exact .ret wI
 have :i=X.length:=AL
 subst this;rw[aVx]at z;rw[EM,z,hb,Gy,GX]
 have hc:(X.any λx=>x.Kind==1)=X.any Qo:=any_congr λx U=>by
  obtain⟨k,J,hm⟩:=aOq X [] z x U;obtain⟨m1,m2⟩:=dF.1 hm;unfold Qo;cases hq:x.Kind==1 with
  |false=>rfl
  |true=>rw[m2,adR J (by rw[←m1];exact eq_of_beq hq)];simp
 rw[hc];cases(e.Kind==1||X.any Qo)<;>exact .ret rfl
def MC (l:A8 AQ)(s:A8 BL):A8 AQ:=ofIds l (s.map (·.Id))
def wH (l:A8 AQ)(s:A8 BL):(MC l s).length<=s.length:=by have :=eS l (s.map (·.Id));rwa [Df]at this
variable {l:A8 AQ}
def aFw (hs:EX l)(ids:A8 Int):EX (ofIds l ids):=λx j=>hs x (aKq j)
def a7p (h:i<s.length):MC l (s.take (i+1))=MC l (s.take i)++(Ef l s[i].Id).toList:=by
 unfold MC ofIds;rw[map_take h,fQ,VD,List.filterMap_nil]
 grind
def aTz (l:A8 AQ)(s:A8 BL)(hl:l.length<=100)(h:s.length<=1000):qj l s=some (MC l s):=by
 unfold qj vw;rw[Ad];unfold aR3;refine dL.eq (a6v (body:=aJq s) (Q:=(· =MC l s)) (λn a b c _ _=>∃i:Nat,b=i/\i+n=s.length/\c=l/\a=MC l (s.take i)) ?_ Ar s.length [] 0 l [] [] (fuel_lt AL) ⟨0,rfl,AL,rfl,rfl⟩);rintro n a b c d f k ⟨i,rfl,z,rfl,ha⟩ u;unfold aJq;by_cases hi:i<s.length
 ·have q:=wH c (s.take i);rw[H6]at q;rw[DI hi,Om c _ AL,Ad,wrap_succ i AL];cases j:Ef c s[i].Id with
  |none=>rw[RN j];exact u (n-1) _ _ _ _ _ AL ⟨i+1,rfl,AL,rfl,by rw[a7p hi,j,ha];simp⟩
  |some x=>
   rw[Og j];simp only[Bl];rw[Dy (by rw[ha];simp only[Oe];omega),Ad];exact u (n-1) _ _ _ _ _ AL ⟨i+1,rfl,AL,rfl,by rw[a7p hi,j,ha];rfl⟩
 have :i=s.length:=AL
 subst this;rw[EM];exact .ret Yr
def afl (l:A8 AQ)(s:A8 BL)(hl:l.length<=100)(h:s.length<=1000):a1R l s=some (MC l s):=by
 unfold a1R aV5;refine dL.eq (Jf s.length (fuel_lt AL) (λi a=>a=MC l (s.take i)) rfl (λi a k hi ha u=>?_) λa k ha=>?_)
 ·have q:=wH l (s.take i);rw[H6]at q;unfold aKo a3X;rw[DI hi,N7 l _ AL,Ad,wrap_succ i AL];cases j:Ef l s[i].Id with
  |none=>rw[RN j];exact u _ (by rw[a7p hi,j,ha];simp)
  |some x=>
   rw[Og j];simp only[Bl];rw[Dy (by rw[ha];simp only[Oe];omega),Ad];exact u _ (by rw[a7p hi,j,ha];rfl)
 unfold aKo;rw[Di];exact .ret Yr
structure Ed where
 id:Int
 before:List BL
 after:List BL
 err:Int
def En (t:A8 Ed)(x:Int):Option Ed:=t.find? λy=>y.id==x
def Ig (t:A8 Ed)(x:Int):A8 BL:=((En t x).map (·.after)).getD []
def errOf (t:A8 Ed)(x:Int):Int:=((En t x).map (·.err)).getD 0
def aT (l:A8 AQ)(e:AQ):Int:=bif SH l e != 0 then SH l e else Lp e (TA l e)
def MV (l:A8 AQ)(t:A8 Ed)(e:AQ)(s:A8 BL):Int:=
 bif aT l e != 0 then aT l e else bif e.bJ.any (λx=>errOf t x != 0)then 16 else Lp e (MC l s)
def stB (l:A8 AQ)(t:A8 Ed)(e:AQ):A8 BL:=Xu l (e.bH.map (Ig t))
def Zd (e:AQ)(s:A8 BL)(r:Int):Ed:=⟨e.Id,s,bif r==0&&Ic e.Kind then Gh s e.Kind e.Key e.Id else s,r⟩
def J8 (l:A8 AQ)(t:A8 Ed)(e:AQ):Ed:=Zd e (stB l t e) (MV l t e (stB l t e))
def I4 (l:A8 AQ)(ids:A8 Int):A8 Ed:=ids.foldl (λt id=>t++[J8 l t (ev l id)]) []
def DT (l:A8 AQ):A8 Ed:=I4 l (He l)
def a5r (l:A8 AQ){ids:A8 Int}(h:i<ids.length):I4 l (ids.take (i+1))=I4 l (ids.take i)++[J8 l (I4 l (ids.take i)) (ev l ids[i])]:=aWX h
variable {t:A8 Ed}
def cV {x:Int}:En t x=none↔x∉t.map (·.id):=by
 unfold En
 grind
variable {y:Ed}
def a04 (h:En t y.id=none)(x:Int):En (t++[y]) x=bif x==y.id then some y else En t x:=by
 unfold En at h ⊢
 grind
def acv {x:Int}(h:En t x=some y):y.id=x:=by have :=xU h;simpa using this
def yE (l:A8 AQ):∀(ids:A8 Int) (t:A8 Ed),(∀x∈ids,bU l x=true)->(ids.foldl (λt id=>t++[J8 l t (ev l id)]) t).map (·.id)=t.map (·.id)++ids
 | [],t,_=>Bf
 |x::ids,t,h=>by
  have j:(J8 l t (ev l x)).id=x:=(Ib (h x (Gt ..))).2;rw[Fv,yE l ids _ λy q=>h y (IZ _ q),JY,Gs,List.map_nil,j,JU];rfl
def NR (l:A8 AQ)(t:A8 Ed):Prop:=∀y∈t,Jw l y.before/\Jw l y.after
def NR.after (h:NR l t)(x:Int):Jw l (Ig t x):=by
 unfold Ig;cases hl:En t x with
 |none=>exact .nil l
 |some y=>exact(h y (Ug hl)).2
def NR.states (h:NR l t)(ids:A8 Int):∀s∈ids.map (Ig t),Jw l s:=λs hs=>by
 obtain⟨x,_,rfl⟩:=Ez.1 hs;exact h.after x
def NR.okay {l:A8 AQ}{t:A8 Ed}(h:NR l t)(hl:l.length<=100)(hs:EX l)(ids:A8 Int)(hi:ids.length<=100):O9 l (ids.map (Ig t)):=Jw.okay hl hs a7i (h.states ids)
def NR.stB (h:NR l t)(hl:l.length<=100)(hs:EX l)(j:e.bH.length<=40):Jw l (stB l t e):=Jw.resolve (h.okay hl hs _ AL) (h.states _)
def NR.line (h:NR l t)(hl:l.length<=100)(hs:EX l)(u:e.bH.length<=40)(z:Ic e.Kind=true->bU l e.Id=true/\ev l e.Id=e):NR l (t++[J8 l t e]):=λy j=>by
 rcases I8.1 j with j|j
 ·exact h y j
 rw[JI.1 j];have hp:=h.stB hl hs u;refine⟨hp,?_⟩;show Jw l (bif MV l t e (Go.Proofs.YtfmoknlmaldmlaaGreat.stB l t e)==0&&Ic e.Kind then Gh _ e.Kind e.Key e.Id else _);cases q:(MV l t e (Go.Proofs.YtfmoknlmaldmlaaGreat.stB l t e)==0&&Ic e.Kind)with
 |false=>exact hp
 |true=>
  have hst:Ic e.Kind=true:=by rw[Dj]at q;exact q.2
  obtain⟨I,k2⟩:=z hst;exact hp.set I k2 hst
def aen {id:Int}(h:Ic (ev l id).Kind=true):bU l (ev l id).Id=true/\ev l (ev l id).Id=ev l id:=by
 cases j:Ef l id with
 |none=>unfold ev at h;rw[RN j]at h;exact absurd h Bj
 |some e=>
  have q:bU l id=true:=by unfold bU;rw[j];rfl
  have :=(Ib q).2;rw[this];exact⟨q,rfl⟩
def aaL :FH Fj:=⟨F7 _,F7 _,F7 _,F7 _,F7 _,F7 _,F7 _,F7 _,F7 _,F7 _,F7 _,F7 _,λ_ h=>absurd h G7,λ_ h=>absurd h G7,λ_ h=>absurd h G7⟩
def a0v (hs:EX l)(id:Int):FH (ev l id):=by
 unfold ev IK;cases h:Ef l id with
 |none=>exact aaL
 |some e=>exact hs e (JM h)
def xR {l:A8 AQ}(hl:l.length<=100)(hs:EX l):∀(ids:A8 Int) (t:A8 Ed),NR l t->NR l (ids.foldl (λt id=>t++[J8 l t (ev l id)]) t)
 | [],t,h=>h
 |x::ids,t,h=>by rw[Fv];exact xR hl hs ids _ (h.line hl hs (a0v hs x).prev aen)
structure QU (t:List Ed) (m1 m2:List (Int×List BL)) (m3:List (Int×Int)):Prop where
 b:∀x,DN m1 x=(En t x).map (·.before)
 a:∀x,DN m2 x=(En t x).map (·.after)
 r:∀x,DN m3 x=(En t x).map (·.err)
variable {j q:A8 (Int×A8 BL)}{u:A8 (Int×Int)}
def QU.after (h:QU t q j u)(x:Int):(DN j x).getD []=Ig t x:=by rw[h.a];rfl
def QU.err {u:A8 (Int×A8 BL)}{j:A8 (Int×Int)}(h:QU t q u j)(x:Int):(DN j x).getD 0=errOf t x:=by rw[h.r];rfl
def agC {u:A8 (Int×A8 BL)}{z:A8 (Int×Int)}(h:QU t q u z)(l:A8 AQ)(e:AQ)(s:A8 BL)(hl:l.length<=100)(hs:EX l)(j:FH e)(hsl:s.length<=100):
 a2G q u z l e s=some (MV l t e s):=by
 have h1:=j.auth;have h2:=wH l s;unfold a2G MV aT;rw[ahh l e hl j,Ad];cases I:SH l e != 0 with
 |true=>
  grind
 |false=>
  simp only[BR];rw[aVD l e AL AL,Ad,aAG e _ (EK (a2t l e) AL) (hs.from e) j,Ad];cases ha:Lp e (TA l e) != 0 with
  |true=>
   rfl
  |false=>
   simp only[BR];unfold aMM;rw[Hq e.bJ (fuel_lt AL) (λx=>errOf t x != 0) 16 (some (Lp e (MC l s)))]
   ·cases e.bJ.any (λx=>errOf t x != 0)<;>rfl
   ·intro k i hi;unfold aBx;rw[DI hi,h.err]
   intro k;unfold aBx;rw[EM,aTz l s hl AL,Ad,aAG e (MC l s) AL (aFw hs _) j];rfl
variable {I:A8 (Int×A8 BL)}
def QU.snoc {J:A8 (Int×A8 BL)}{L:A8 (Int×Int)}(h:QU t I J L)(z:En t y.id=none)(h1:∀x,DN j x=bif x==y.id then some y.before else DN I x)(h2:∀x,DN q x=bif x==y.id then some y.after else DN J x)(h3:∀x,DN u x=bif x==y.id then some y.err else DN L x):QU (t++[y]) j q u:=by
 refine⟨λx=>?_,λx=>?_,λx=>?_⟩
 ·rw[h1,a04 z,h.b];cases x==y.id<;>rfl
 ·rw[h2,a04 z,h.a];cases x==y.id<;>rfl
 rw[h3,a04 z,h.r];cases x==y.id<;>rfl
def add_eq {z:A8 (Int×A8 BL)}{J:A8 (Int×Int)}(h:QU t z I J)(l:A8 AQ)(e:AQ)(hl:l.length<=100)(hs:EX l)(L:FH e)(M:NR l t)(O:En t e.Id=none):
 dL (a2o z I J l e) (λr=>QU (t++[J8 l t e]) r.1 r.2.1 r.2.2):=by
 have h1:=L.prev;unfold a2o aW6;refine Jf e.bH.length (fuel_lt AL) (λi a=>a=(e.bH.take i).map (Ig t)) rfl (λi a k hi ha U=>?_) λa k ha=>?_
 ·have Y:a.length<=i:=uj
  unfold aGM;rw[DI hi,Dy GR,Ad,wrap_succ i AL,h.after];exact U _ a7j
 rw[Gy]at ha;subst ha;unfold aGM;have hp:Jw l (stB l t e):=M.stB hl hs h1;have Z:=hp.length;have u:nY l (e.bH.map (Ig t))=some (stB l t e):=aRg (M.okay hl hs _ AL);rw[EM,u,Ad,agC h l e _ hl hs L AL,Ad];have j:J8 l t e=Zd e (stB l t e) (MV l t e (stB l t e)):=rfl;rw[j];generalize MV l t e (stB l t e)=r;have q:∀(c d f:AX) {R:Type} (g:AX->AB R),((bif c then some d else some false).bind λx9=>(bif x9 then some f else some false).bind g)=g (c&&(d&&f)):=λc d f R g=>by cases c<;>cases d<;>rfl
 rw[q];show dL (bif (r==0&&Ic e.Kind)then _ else _) _;unfold Zd;cases hc:(r==0&&Ic e.Kind)with
 |true=>
  simp only[Bl];rw[YZ _ _ _ _ AL,Ad];refine .ret (h.snoc O (λx=>RX ..) (λx=>?_) λx=>RX ..);rw[RX,RX];cases x==e.Id<;>rfl
 |false=>exact .ret (h.snoc O (λx=>RX ..) (λx=>RX ..) λx=>RX ..)
def run_go (l:A8 AQ)(ids:A8 Int)(hl:l.length<=100)(hs:EX l)(u:∀x∈ids,bU l x=true)(z:ids.Nodup)(J:ids.length<=1000):dL (aIC ids l 0 [] [] []) (λo=>∃T,o=some T/\QU (I4 l ids) T.1 T.2.1 T.2.2):=by
 unfold aIC;refine aKX (body:=aEp ids l) (Q:=λo=>∃T,o=some T/\QU (I4 l ids) T.1 T.2.1 T.2.2) (λn a b c d=>∃i:Nat,a=i/\i+n=ids.length/\QU (I4 l (ids.take i)) b c d) ?_ Ar ids.length 0 [] [] [] (fuel_lt AL) ⟨0,rfl,AL,⟨λx=>rfl,λx=>rfl,λx=>rfl⟩⟩;rintro n a b c d k ⟨i,rfl,Z,hm⟩ L;unfold aEp;by_cases hi:i<ids.length
 ·have I:=u _ (EY hi)
  have q:En (I4 l (ids.take i)) (ev l ids[i]).Id=none:=by
   rw[cV,(Ib I).2];unfold I4;rw[yE l _ _ λx M=>u x (YU M),List.map_nil,JQ];intro hm;obtain⟨j,O,e⟩:=G8 hm;rw[H6]at O;rw[gZ]at e;have :=J9.1 (X5.1 z) j i AL hi AL;exact this e
  rw[DI hi,Om l _ AL,Ad];refine(add_eq hm l _ hl hs (a0v hs ids[i]) (xR hl hs _ _ λy U=>absurd U G7) q).bind λr Y=>?_;exact L (n-1) _ _ _ _ AL ⟨i+1,wrap_succ i AL,AL,by rw[a5r l hi];exact Y⟩
 have :i=ids.length:=AL
 subst this;rw[EM];exact .ret ⟨_,rfl,by rw[Gy]at hm;exact hm⟩
structure JL (l:List AQ):Prop where
 len:l.length<=100
 small:EX l
 nodup:(l.map (·.Id)).Nodup
 dep:qG l
def IU {x:Int}:bU l x=true↔x∈l.map (·.Id):=by
 unfold bU Ef
 grind
def aLo (l:A8 AQ):(He l).Perm (l.map (·.Id)):=(aDA l).map _
def ZP {x:Int}:x∈He l↔bU l x=true:=by rw[(aLo l).mem_iff,IU]
def a1e (l:A8 AQ):(He l).length=l.length:=by unfold He;rw[Df,aHR]
def JL.order (h:JL l):(He l).Nodup:=(aLo l).nodup_iff.2 h.nodup
def OW (l:A8 AQ)(c:Int):A8 Ed:=bif c==0&&HY l==0 then DT l else[]
variable {c:Int}
def run_eq (l:A8 AQ)(z:Mc l=some c)(h:c=0->JL l):
 dL (Yz l) (λo=>(OW l c=[]/\o=none)\/(OW l c=DT l/\JL l/\∃T,o=some T/\QU (DT l) T.1 T.2.1 T.2.2)):=by
 unfold Yz OW;rw[z,Ad];by_cases u:c=0
 ·subst u;have j:=h rfl;rw[aNN l j.len j.small j.dep];cases hd:HY l==0 with
  |false=>
   have q:(HY l != 0)=true:=by unfold bne;rw[hd];rfl
   simp only[Y6,BR,Ad,q,Bl];exact .ret (.inl ⟨rfl,rfl⟩)
  |true=>
   have q:(HY l != 0)=false:=by unfold bne;rw[hd];rfl
   simp only[Y6,BR,Ad,q];rw[amB l (by have :=j.len;omega),Ad];exact(run_go l (He l) j.len j.small (λx I=>ZP.1 I) j.order (by rw[a1e];have :=j.len;omega)).mono λo J=>.inr ⟨rfl,j,J⟩
 have L:(c != 0)=true:=Rf
 have M:(c==0)=false:=Rf
 rw[L,M];exact .ret (.inl ⟨rfl,rfl⟩)
def a2N (h:JL l):NR l (DT l):=xR h.len h.small _ _ λy j=>absurd j G7
def aEN (l:A8 AQ):(DT l).map (·.id)=He l:=by
 have :=yE l (He l) [] λx j=>ZP.1 j;simpa[DT,I4]using this
def rQ {x:Int}(h:bU l x=true):∃y,En (DT l) x=some y:=by
 cases hl:En (DT l) x with
 |some y=>exact⟨y,rfl⟩
 |none=>rw[cV,aEN]at hl;exact absurd (ZP.2 h) hl
def Fg (t:A8 Ed)(x:Int):AX:=match En t x with
 |some y=>y.err==0
 |none=>false
def Gn (l:A8 AQ)(t:A8 Ed):A8 Int:=(l.filter λe=>Fg t e.Id).map (·.Id)
def NZ (l:A8 AQ)(t:A8 Ed):A8 BL:=Xu l ((JX l (Gn l t)).map (Ig t))
def aO (l:A8 AQ)(t:A8 Ed):(Gn l t).length<=l.length:=by unfold Gn;rw[Df];exact Lu _ _
def aVK (l:A8 AQ):Gn l []=[]:=by
 unfold Gn;rw[aIE.2 λe _=>by unfold Fg En;simp];rfl
def aNw (l:A8 AQ):NZ l []=[]:=by unfold NZ;rw[aVK];rfl
def aAu (h:i<l.length):Gn (l.take (i+1)) t=Gn (l.take i) t++bif Fg t l[i].Id then[l[i].Id]else[]:=by
 unfold Gn;rw[a0p h,JY]
 grind
def aSo {x:Int}(h:bU l x=true):Fg (DT l) x=(errOf (DT l) x==0):=by
 obtain⟨y,j⟩:=rQ h;unfold Fg errOf;rw[j];rfl
def aME (h:QU (DT l) j q u)(hl:l.length<=100):cO j q u l=some (Gn l (DT l)):=by
 unfold cO
 have hp:a4c l j q u=some (Gn l (DT l)):=by
  unfold a4c aT6;refine dL.eq (Jf l.length (fuel_lt AL) (λi a=>a=Gn (l.take i) (DT l)) rfl (λi a k hi ha z=>?_) λa k ha=>?_)
  ·have J:a.length<=i:=aUf
   unfold aIW aDz a2s;rw[DI hi,Ad,h.err,←aSo (IU.2 (Ez.2 ⟨_,EY hi,rfl⟩)),wrap_succ i AL];cases I:Fg (DT l) l[i].Id with
   |true=>
    rw[Bl,CY hi,Ad,Dy GR,Ad];exact z _ (by rw[aAu hi,I,ha];rfl)
   |false=>exact z _ (by rw[aAu hi,I,ha];simp)
  unfold aIW;rw[EM];exact .ret Yr
 rw[hp];rfl
def aYT (u:Mc l=some c)(h:c=0->JL l):lS l=some (NZ l (OW l c)):=by
 unfold lS;refine dL.eq ((run_eq l u h).bind λo j=>?_);rcases j with⟨h1,rfl⟩|⟨h1,j,T,rfl,q⟩
 ·rw[h1,aNw];exact .ret rfl
 rw[h1];have hl:=j.len;have ha:=aO l (DT l);have z:=yP l (Gn l (DT l));show dL ((cO T.1 T.2.1 T.2.2 l).bind _) _;rw[aME q hl,Ad,aXE l _ hl j.small AL,Ad];unfold NZ;generalize JX l (Gn l (DT l))=H at z;unfold aMs;refine Jf H.length (fuel_lt AL) (λi a=>a=(H.take i).map (Ig (DT l))) rfl (λi a k hi ha I=>?_) λa k ha=>?_
 ·have J:a.length<=i:=uj
  unfold aJB;rw[DI hi,Dy GR,Ad,q.after,wrap_succ i AL];exact I _ a7j
 rw[Gy]at ha;unfold aJB;rw[EM,ha,aRg ((a2N j).okay hl j.small _ AL),Ad];exact .ret rfl
def aOD (h:c=0->JL l):Jw l (NZ l (OW l c)):=by
 unfold OW;cases q:(c==0&&HY l==0)with
 |false=>rw[BR,aNw];exact .nil l
 |true=>
  rw[Dj]at q;have j:=h (eq_of_beq q.1);have u:=a2N j;have ha:=aO l (DT l);have z:=yP l (Gn l (DT l));have hl:=j.len;rw[Bl];exact Jw.resolve (u.okay hl j.small _ AL) (u.states _)
def agq {lt:α->α->AX}(J:∀a b c,lt b a=false->lt c b=false->lt c a=false)(ha:∀a b,lt a b=true->lt b a=false)(x:α):
 ∀n (A:A8 α),A.length=n->A.Pairwise (λa b=>lt b a=false)->(Kz lt A x).Pairwise λa b=>lt b a=false:=by
 intro n
 induction n with
 |zero=>
  intro A q _;obtain rfl:=Ho q;exact aIi ..
 |succ n L=>
  intro A q hA;rcases List.eq_nil_or_concat A with rfl|⟨B,a,rfl⟩
  ·cases q
  rw[List.concat_eq_append]at q hA ⊢;have q:B.length=n:=YF
  obtain⟨h1,_,h3⟩:=Yt.1 hA;cases u:lt x a with
  |true=>
   rw[aNM u];refine Yt.2 ⟨L B q h1,aIi ..,λy j z I=>?_⟩;rw[JI.1 I];rcases FP.1 ((aSc B x).mem_iff.1 j)with rfl|j
   ·exact ha _ _ u
   exact h3 y j a (JI.2 rfl)
  |false=>
   rw[aNp u,show B++a::[x]=(B++[a])++[x] by simp];refine Yt.2 ⟨hA,aIi ..,λy j z I=>?_⟩;rw[JI.1 I];rcases I8.1 j with j|j
   ·exact J y a x (h3 y j a (JI.2 rfl)) u
   rw[JI.1 j];exact u
def aJA {a b:AQ}:O4 b a=false↔a.Depth<b.Depth\/(a.Depth=b.Depth/\a.Id<=b.Id):=by
 unfold O4
 grind
def afT (l:A8 AQ):(Ub l).Pairwise λa b=>O4 b a=false:=by
 have key:∀(l A:A8 AQ),A.Pairwise (λa b=>O4 b a=false)->(l.foldl (Kz O4) A).Pairwise λa b=>O4 b a=false:=by
  intro l
  induction l with
  |nil=>exact λA h=>h
  |cons x l j=>
   intro A h;rw[Fv];refine j _ (agq (λa b c h1 h2=>?_) (λa b h=>?_) x _ A rfl h)
   ·rw[aJA]at *;omega
   rw[aJA];unfold O4 at h;rw[ZT,Dj,Iz,Iz,MZ]at h;omega
 exact key l [] .nil
def dV (q:(l.map (·.Id)).Nodup)(h:e∈l):ev l e.Id=e:=by
 have u:bU l e.Id=true:=IU.2 (Ez.2 ⟨e,h,rfl⟩);obtain⟨h1,h2⟩:=Ib u;have h3:=JM h1;obtain⟨i,hi,z⟩:=G8 h3;obtain⟨j,I,J⟩:=G8 h;have hp:=J9.1 (X5.1 q)
 grind
def aUy (u:(l.map (·.Id)).Nodup)(hi:i<(He l).length){a:Int}(z:bU l a=true)(hd:(ev l a).Depth<(ev l (He l)[i]).Depth):a∈(He l).take i:=by
 obtain⟨h1,h2⟩:=Ib z;have hm:ev l a∈Ub l:=(aDA l).mem_iff.2 (JM h1);obtain⟨j,I,M⟩:=G8 hm;have q:i<(Ub l).length:=by simpa[He]using hi
 have J:(He l)[i]=(Ub l)[i].Id:=Px (λx:AQ=>x.Id);have O:ev l (He l)[i]=(Ub l)[i]:=by rw[J];exact dV u ((aDA l).mem_iff.1 (EY q))
 have L:j<i:=by
  rcases uT j i with h|h|h
  ·exact h
  ·grind
  have :=J9.1 (afT l) i j q I h;rw[aJA]at this
  grind
 refine aW3.2 ⟨j,AL,?_⟩;unfold He
 grind
def Ru (t:A8 Ed)(s:A8 BL):Prop:=∀x∈s,Fg t x.Id=true
structure OU (l:List AQ) (t:List Ed):Prop where
 st:∀y∈t,Ru t y.before/\Ru t y.after
 au:∀y∈t,y.err=0->∀a∈iQ l y.id,Fg t a=true
def dN {x:Int}:Fg t x=true↔∃y,En t x=some y/\y.err=0:=by
 unfold Fg
 grind
def aSF {x:Int}(h:En t x=some y)(z:Ed):En (t++[z]) x=some y:=by
 unfold En at *
 grind
def a2D {x:Int}(h:Fg t x=true)(z:Ed):Fg (t++[z]) x=true:=by
 obtain⟨y,h1,h2⟩:=dN.1 h;exact dN.2 ⟨y,aSF h1 z,h2⟩
def Ru.nil (t:A8 Ed):Ru t []:=λ_ h=>absurd h G7
def OU.after (h:OU l t)(x:Int):Ru t (Ig t x):=by
 unfold Ig;cases hl:En t x with
 |none=>exact .nil t
 |some y=>exact(h.st y (Ug hl)).2
def OU.auth (h:OU l t){x:Int}(j:Fg t x=true):∀a∈iQ l x,Fg t a=true:=by
 obtain⟨y,h1,h2⟩:=dN.1 j;have :=h.au y (Ug h1) h2
 rwa [acv h1]at this
def OU.chain (h:OU l t){ids:A8 Int}(hi:∀x∈ids,Fg t x=true){x:Int}(j:Ls l ids x):Fg t x=true:=by
 induction j with
 |one h1 h2 _=>exact h.auth (hi _ h1) _ h2
 |more _ h2 _ q=>exact h.auth q _ h2
def OU.full (h:OU l t)(hs:∀s∈aX,Ru t s){x:Int}(j:x∈Jd l aX):Fg t x=true:=by
 have q:∀s∈aX,∀y∈TY s,Fg t y=true:=λs hm y I=>by
  obtain⟨z,u,rfl⟩:=Ez.1 I;exact hs s hm z u
 unfold Jd at j;rcases Uf.1 j with j|j
 ·rw[Kw]at j;unfold Qw at j;obtain⟨z,u,rfl⟩:=Ez.1 j;obtain⟨s,hm,u⟩:=Um.1 u;exact hs s hm z (Gx.1 u).1
 obtain⟨⟨s,hm,j⟩,_⟩:=aMl.1 j;unfold Fe at j;rcases Uf.1 j with j|j
 ·exact q s hm x j
 exact h.chain (q s hm) (jO.1 j)
def OU.resolve (h:OU l t)(j:O9 l aX)(hs:∀s∈aX,Ru t s):Ru t (Xu l aX):=by
 match aX,j,hs with
 | [],_,_=>exact .nil t
 | [s],_,hs=>exact hs s (Gt ..)
 |s::r::aX,j,hs=>
  intro x u;rcases aVQ u with hm|⟨id,q,z,_,I⟩
  ·exact hs s (Gt ..) x ((aSp j.states (List.cons_ne_nil _ _)).1 hm s (Gt ..))
  have J:x.Id=id:=by rw[I];exact(Ib z).2
  rw[J];exact h.full hs q
def OU.line (h:OU l t)(O:NR l t)(hl:l.length<=100)(hs:EX l){id:Int}(U:bU l id=true)(Y:En t id=none)(ha:∀a∈iQ l id,∃y,En t a=some y):OU l (t++[J8 l t (ev l id)]):=by
 have z:(ev l id).Id=id:=(Ib U).2
 have J:Ru t (stB l t (ev l id)):=h.resolve (O.okay hl hs _ (by have :=(a0v hs id).prev;omega)) λs hm=>by
  obtain⟨x,_,rfl⟩:=Ez.1 hm;exact h.after x
 have j:∀{s:A8 BL},Ru t s->Ru (t++[J8 l t (ev l id)]) s:=λhs x I=>a2D (hs x I) _;refine⟨λy q=>?_,λy q u a hm=>?_⟩
 ·rcases I8.1 q with q|q
  ·exact⟨j (h.st y q).1,j (h.st y q).2⟩
  rw[JI.1 q];refine⟨j J,?_⟩;show Ru _ (bif MV l t (ev l id) (stB l t (ev l id))==0&&Ic (ev l id).Kind then Gh _ (ev l id).Kind (ev l id).Key (ev l id).Id else _);cases M:(MV l t (ev l id) (stB l t (ev l id))==0&&Ic (ev l id).Kind)with
  |false=>
   exact j J
  |true=>
   rw[Dj]at M;intro x I;rcases Rt I with rfl|I
   ·refine dN.2 ⟨J8 l t (ev l id),?_,eq_of_beq M.1⟩;show En _ (ev l id).Id=_;have L:En t (J8 l t (ev l id)).id=none:=by show En t (ev l id).Id=none;rw[z];exact Y
    rw[a04 L,show((ev l id).Id==(J8 l t (ev l id)).id)=true from VJ _];rfl
   exact a2D (J x I) _
 rcases I8.1 q with q|q
 ·exact a2D (h.au y q u a hm) _
 rw[JI.1 q]at u hm;have hm:a∈iQ l id:=by rw[←z];exact hm
 have u:MV l t (ev l id) (stB l t (ev l id))=0:=u;obtain⟨y,q⟩:=ha a hm;refine a2D (dN.2 ⟨y,q,?_⟩) _;unfold MV at u;cases h1:aT l (ev l id) != 0 with
 |true=>
  grind
 |false=>
  rw[h1,BR]at u;cases h2:(ev l id).bJ.any (λx=>errOf t x != 0)with
  |true=>
   grind
  |false=>
   have h3:=Z9.1 h2 a hm;have :errOf t a=0:=Ve
   unfold errOf at this;rw[q]at this;exact this
def gG (hd:HY l=0)(j:e∈l):(∀a∈e.bJ,bU l a=true/\(ev l a).Depth<e.Depth)/\∀a∈e.bH,bU l a=true/\(ev l a).Depth<e.Depth:=by
 unfold HY at hd;cases q:TW l with
 |false=>
  grind
 |true=>
  rw[q,Bl]at hd;cases u:l.all (QN l)with
  |false=>
   grind
  |true=>
   have h1:=FQ.1 q e j;have h2:=FQ.1 u e j;unfold Gl at h1;unfold QN at h2;rw[Dj,FQ,FQ]at h1;rw[Dj,FQ]at h2;refine⟨λa ha=>⟨h1.2 a ha,P7 (h2.1 a ha)⟩,λa ha=>⟨h1.1 a ha,?_⟩⟩
   have hp:((e.bH.length:Int)==0)=false:=by
    grind
   have h3:=h2.2;rw[hp,BR,Dj,FQ]at h3;exact P7 (h3.1 a ha)
def aU0 {l:A8 AQ}(u:JL l)(hd:HY l=0):∀i,i<=(He l).length->OU l (I4 l ((He l).take i))
 |0,_=>⟨λy z=>absurd z G7,λy z=>absurd z G7⟩
 |i+1,hi=>by
  have hi:i<(He l).length:=hi;have I:bU l (He l)[i]=true:=ZP.1 (EY hi)
  have q:∀j,(I4 l ((He l).take j)).map (·.id)=(He l).take j:=λj=>by
   unfold I4;rw[yE l _ _ λx J=>ZP.1 (YU J)];rfl
  rw[a5r l hi];refine(aU0 u hd i AL).line (xR u.len u.small _ _ λy z=>absurd z G7) u.len u.small I ?_ λa ha=>?_
  ·rw[cV,q];intro hm;obtain⟨j,L,e⟩:=G8 hm;rw[H6]at L;rw[gZ]at e;exact J9.1 (X5.1 u.order) j i AL hi AL e
  have hm:ev l (He l)[i]∈l:=JM (Ib I).1;obtain⟨M,k2⟩:=(gG hd hm).1 a ha;have :=aUy u.nodup hi M k2;cases hl:En (I4 l ((He l).take i)) a with
  |some y=>exact⟨y,rfl⟩
  |none=>rw[cV,q]at hl;exact absurd this hl
def ae0 (j:JL l)(hd:HY l=0):OU l (DT l):=by
 have :=aU0 j hd _ (Eb _)
 rwa [Gy]at this
def OU.current (j:JL l)(hd:HY l=0):Ru (DT l) (NZ l (DT l)):=by
 have h:=ae0 j hd;have q:=a2N j;have ha:=aO l (DT l);have u:=yP l (Gn l (DT l));have hl:=j.len
 exact h.resolve (q.okay hl j.small _ AL) λs hm=>by
  obtain⟨x,_,rfl⟩:=Ez.1 hm;exact h.after x
structure H7 (x y:AQ):Prop where
 id:y.Id=x.Id
 room:y.Room=x.Room
 sender:y.bQ=x.bQ
 kind:y.Kind=x.Kind
 key:y.Key=x.Key
 time:y.Time=x.Time
 depth:y.Depth=x.Depth
 prev:y.bH=x.bH
 auth:y.bJ=x.bJ
 n:x.Kind=2\/x.Kind=4->y.Content.N=x.Content.N
 levels:x.Kind=3->y.Content.Levels=x.Content.Levels
def H7.refl (x:AQ):H7 x x:=⟨rfl,rfl,rfl,rfl,rfl,rfl,rfl,rfl,rfl,λ_=>rfl,λ_=>rfl⟩
inductive J3 :List AQ->List AQ->Prop
 |nil:J3 [] []
 |cons {x y:AQ} {xs ys:List AQ} (h:H7 x y) (t:J3 xs ys):J3 (x::xs) (y::ys)
variable {a b:A8 AQ}
def J3.append {c d:A8 AQ}(h:J3 a b)(k:J3 c d):J3 (a++c) (b++d):=by
 induction h with
 |nil=>exact k
 |cons h _ j=>exact .cons h j
def J3.flat {α:Type}{f g:α->A8 AQ}:∀(l:A8 α),(∀x∈l,J3 (f x) (g x))->J3 (l.flatMap f) (l.flatMap g)
 | [],_=>.nil
 |x::l,h=>by
  rw[Ov,Ov];exact(h x (Gt ..)).append (J3.flat l λy j=>h y (IZ _ j))
variable {p:AQ->AX}
def J3.any (hp:∀x y,H7 x y->p y=p x)(h:J3 a b):b.any p=a.any p:=by
 induction h with
 |nil=>
  rfl
 |cons h _ j=>
  grind
def J3.all (hp:∀x y,H7 x y->p y=p x)(h:J3 a b):b.all p=a.all p:=by
 induction h with
 |nil=>
  rfl
 |cons h _ j=>
  grind
def J3.find (hp:∀x y,H7 x y->p y=p x)(h:J3 a b):(a.find? p=none/\b.find? p=none)\/∃x y,a.find? p=some x/\b.find? p=some y/\H7 x y/\p x=true:=by
 induction h with
 |nil=>
  grind
 | @cons x y xs ys h _ j=>
   rw[Xr,Xr,hp _ _ h];cases q:p x with
   |true=>
    grind
   |false=>
    exact j
variable {y:AQ}
def J3.one {x:AQ}(h:H7 x y):J3 [x] [y]:=.cons h .nil
def aHB {x:AQ}(h:H7 x y):F6 k y=F6 k x:=by unfold F6;rw[h.kind,h.key]
def afa {x:AQ}(h:H7 x y):QV y=QV x:=by
 unfold QV;rw[h.kind,h.key,h.sender];cases j:x.Kind==2 with
 |false=>rfl
 |true=>rw[h.n (.inl (eq_of_beq j))]
def aLT {x:AQ}(h:H7 x y):keysOf y=keysOf x:=by
 unfold keysOf MW;rw[h.kind,h.key,h.sender];cases j:x.Kind==2 with
 |false=>rfl
 |true=>rw[h.n (.inl (eq_of_beq j))]
section
variable {a b:A8 AQ}
def aZm (h:J3 a b):(JZ b).2=(JZ a).2/\H7 (JZ a).1 (JZ b).1:=by
 unfold JZ;rcases h.find (p:=λx=>x.Kind==1) (λx y h=>by rw[h.kind])with⟨h1,h2⟩|⟨x,y,h1,h2,h3,_⟩
 ·rw[h1,h2];exact⟨rfl,.refl _⟩
 grind
def aRu {u:BO}{x:AQ}(h:H7 x y):QK u y=QK u x:=by unfold QK;rw[h.kind,h.key]
def aJC (h:J3 a b)(u:BO):LD b u=LD a u:=by
 unfold LD;rcases h.find (p:=QK u) (λx y h=>aRu h)with⟨h1,h2⟩|⟨x,y,h1,h2,h3,j⟩
 ·rw[h1,h2]
 rw[h1,h2];unfold QK at j;rw[Dj]at j;exact h3.n (.inl (eq_of_beq j.1))
def aeT (h:J3 a b):UL b=UL a:=by
 unfold UL;rcases h.find (p:=λx=>x.Kind==1) (λx y h=>by rw[h.kind])with⟨h1,h2⟩|⟨x,y,h1,h2,h3,_⟩
 ·rw[h1,h2]
 rw[h1,h2];exact h3.sender
def aDx (h:J3 a b):Gf b=Gf a:=by
 unfold Gf;rcases h.find (p:=λx=>x.Kind==3) (λx y h=>by rw[h.kind])with⟨h1,h2⟩|⟨x,y,h1,h2,h3,j⟩
 ·rw[h1,h2,aeT h]
 rw[h1,h2];exact h3.levels (eq_of_beq j)
def adK (h:J3 a b):(X9 b).1=(X9 a).1:=by
 unfold X9;rcases h.find (p:=λx=>x.Kind==4) (λx y h=>by rw[h.kind])with⟨h1,h2⟩|⟨x,y,h1,h2,h3,j⟩
 ·rw[h1,h2]
 rw[h1,h2];exact h3.n (.inr (eq_of_beq j))
def aJh {f:AQ}(j:H7 e f)(h:J3 a b):Lp f b=Lp e a:=by
 unfold Lp;obtain⟨J,L⟩:=aZm h;rw[j.kind,j.sender,j.room,J];cases e.Kind==1 with
 |true=>rfl
 |false=>
 cases(JZ a).2 with
 |false=>rfl
 |true=>
 cases M:e.Kind==2 with
 |true=>
  have I:=j.n (.inl (eq_of_beq M));simp only[BR,FU,Bl]
  have q:Xj f b=Xj e a:=by
   unfold Xj;rw[J,j.prev,j.sender,j.key,I,L.id,L.sender,h.any λx y h=>aRu h]
  have u:∀m now,Zz m now b=Zz m now a:=λm now=>by unfold Zz;rw[adK h]
  have z:∀now,Zb f b now=Zb e a now:=λnow=>by
   unfold Zb;rw[aJC h,j.sender,j.key,I,aDx h]
  unfold kP;rw[q,j.key,j.sender,I,aJC h,u,z]
 |false=>
  simp only[BR,FU];rw[aJC h]
  have hl:ZK f b=ZK e a:=by
   unfold ZK;rw[aDx h,j.sender,j.kind];cases h3:e.Kind==3 with
   |false=>rfl
   |true=>rw[j.levels (eq_of_beq h3)]
  rw[hl]
end
structure Hl (l l':List AQ) (S:List Int):Prop where
 nodup:S.Nodup
 mem:∀x∈S,bU l x=true/\bU l' x=true/\H7 (ev l x) (ev l' x)
 prev:∀x∈S,∀a∈(ev l x).bH,a∈S
 auth:∀x∈S,∀a∈(ev l x).bJ,a∈S
section
variable {l l':A8 AQ} {S:A8 Int} (h:Hl l l' S)
include h
theorem Hl.ids {ids:A8 Int}(hi:∀x∈ids,x∈S):J3 (ofIds l ids) (ofIds l' ids):=by
 induction ids with
 |nil=>exact .nil
 |cons x ids j=>
  obtain⟨q,k2,k3⟩:=h.mem x (hi x (Gt ..));unfold ofIds at j ⊢;rw[VD,VD,(Ib q).1,(Ib k2).1];exact .cons k3 (j λy u=>hi y (IZ _ u))
theorem Hl.iQ {x:Int}(j:x∈S):iQ l' x=iQ l x:=(h.mem x j).2.2.auth
theorem Hl.ch {ids:A8 Int}(hi:∀x∈ids,x∈S){x:Int}(q:Ls l ids x):x∈S/\Ls l' ids x:=by
 induction q with
 |one h1 h2 _=>
  have hs:=h.auth _ (hi _ h1) _ h2;exact⟨hs,.one h1 (by rw[h.iQ (hi _ h1)];exact h2) (h.mem _ hs).2.1⟩
 |more _ h2 _ j=>
  have hs:=h.auth _ j.1 _ h2;exact⟨hs,.more j.2 (by rw[h.iQ j.1];exact h2) (h.mem _ hs).2.1⟩
theorem Hl.ch' {ids:A8 Int}(hi:∀x∈ids,x∈S){x:Int}(q:Ls l' ids x):x∈S/\Ls l ids x:=by
 induction q with
 |one h1 h2 _=>
  rw[h.iQ (hi _ h1)]at h2;have hs:=h.auth _ (hi _ h1) _ h2;exact⟨hs,.one h1 h2 (h.mem _ hs).1⟩
 |more _ h2 _ j=>
  rw[h.iQ j.1]at h2;have hs:=h.auth _ j.1 _ h2;exact⟨hs,.more j.2 h2 (h.mem _ hs).1⟩
theorem Hl.chain {ids:A8 Int}(hi:∀x∈ids,x∈S):chainOf l' ids=chainOf l ids:=Dp (a7L _ _) (a7L _ _) λx=>by
 rw[jO,jO];exact⟨λj=>(h.ch' hi j).2,λj=>(h.ch hi j).2⟩
theorem Hl.aEe {ids:A8 Int}(hi:∀x∈ids,x∈S):∀x∈chainOf l ids,x∈S:=λ_ j=>(h.ch hi (jO.1 j)).1
theorem Hl.from {e f:AQ}(j:H7 e f)(hi:∀x∈e.bJ,x∈S):J3 (TA l e) (TA l' f):=by
 unfold TA;rw[aLT j,j.auth];refine J3.flat _ λk _=>?_;rcases(h.ids hi).find (p:=F6 k) (λx y h=>aHB h)with⟨h1,h2⟩|⟨x,y,h1,h2,h3,_⟩
 ·rw[h1,h2];exact .nil
 rw[h1,h2];exact .one h3
theorem Hl.fits {e f:AQ}(L:H7 e f)(hi:∀x∈e.bJ,x∈S):SH l' f=SH l e:=by
 have hs:=h.ids hi
 have h1:e.bJ.all (bU l')=e.bJ.all (bU l):=by
  rw[Ox,FQ,FQ];exact⟨λ_ x z=>(h.mem x (hi x z)).1,λ_ x z=>(h.mem x (hi x z)).2.1⟩
 have h2:∀(I:A8 BL) {xs ys:A8 AQ},J3 xs ys->∀{q j:A8 AQ},J3 q j->L6 I j ys=L6 I q xs:=by
  intro I xs ys M
  induction M with
  |nil=>intro q j _;rfl
  | @cons x y xs ys z _ O=>
    intro q j hp;have hm:(I.any λk=>F6 k y)=I.any λk=>F6 k x:=BG (λp=>I.any p) (funext λk=>aHB z)
    have hl:j.any (TV y)=q.any (TV x):=by
     rw[show TV y=TV x from funext λu=>by unfold TV;rw[z.kind,z.key]];exact hp.any λu v J=>by unfold TV;rw[J.kind,J.key]
    unfold L6;rw[O (hp.append (.one z)),hm,hl]
 unfold SH;rw[L.auth,L.kind,L.room,aLT L,h1,hs.all (λx y h=>by rw[h.room]),h2 _ hs .nil,hs.any (λx y h=>by unfold Qo;rw[h.kind,h.key])]
omit h in
theorem find_congr {p q:Int->AX}:∀(l:A8 Int),(∀x∈l,p x=q x)->l.find? p=l.find? q
 | [],_=>rfl
 |x::l,h=>by rw[Xr,Xr,h x (Gt ..),find_congr l λy j=>h y (IZ _ j)]
omit h in
theorem pF :∀{a b:A8 Int},a.Nodup->(∀x∈a,x∈b)->a.length<=b.length
 | [],_,_,_=>F7 _
 |x::a,b,q,hs=>by
  have u:=hs x (Gt ..);obtain⟨h1,h2⟩:=KN.1 q;have :=pF (b:=b.erase x) h2 λy j=>(List.mem_erase_of_ne λe=>h1 (by rw[←e];exact j)).2 (hs y (IZ _ j))
  grind
theorem Hl.power {x:Int}(j:x∈S):Oy l' (ev l' x)=Oy l (ev l x):=by
 unfold Oy;rw[(h.mem x j).2.2.auth];refine find_congr _ λa ha=>?_;obtain⟨q,k2,k3⟩:=h.mem a (h.auth x j a ha);rw[q,k2,k3.kind]
theorem Hl.CG:∀(n m:Nat) (seen:A8 Int) (id:Int),id∈S->seen.Nodup->(∀x∈seen,x∈S)->S.length<=seen.length+n->S.length<=seen.length+m->CG l' m seen id=CG l n seen id:=by
 have q:∀(seen:A8 Int) (id:Int),id∈S->seen.Nodup->(∀x∈seen,x∈S)->S.length<=seen.length->id∈seen:=λseen id j I hs hl=>by
  refine lY λz=>?_
  have :=pF (a:=id::seen) (b:=S) (KN.2 ⟨z,I⟩) λx J=>by
   rcases FP.1 J with rfl|J
   ·exact j
   exact hs x J
  rw[GK]at this;omega
 have u:∀(l:A8 AQ) (n:Nat) (seen:A8 Int) (id:Int),id∈seen->Go.Proofs.YtfmoknlmaldmlaaGreat.CG l n seen id=seen:=λl n seen id j=>by
  cases n with
  |zero=>rfl
  |succ n=>unfold Go.Proofs.YtfmoknlmaldmlaaGreat.CG;rw[LQ.2 j];rfl
 intro n
 induction n with
 |zero=>
  intro m seen id j I hs h1 _;have :=q seen id j I hs AL;rw[u l' m seen id this,u l 0 seen id this]
 |succ n M=>
  intro m seen id j I hs h1 h2;by_cases z:id∈seen
  ·rw[u l' m seen id z,u l (n+1) seen id z]
  obtain⟨m,rfl⟩:∃O,m=O+1:=by
   cases m with
   |zero=>exact absurd (q seen id j I hs AL) z
   |succ m=>exact⟨m,rfl⟩
  obtain⟨U,k2,k3⟩:=h.mem id j;unfold Go.Proofs.YtfmoknlmaldmlaaGreat.CG;rw[PO.2 z,U,k2,h.power j];cases hp:Oy l (ev l id)with
  |none=>rfl
  |some x=>
   have J:x∈S:=h.auth id j x (Ug hp);refine M m (seen++[id]) x J (qO.2 ⟨I,Bf,λa ha b Y=>?_⟩) (λy L=>?_) aD8 aD8
   ·rw[JI.1 Y];exact λe=>z (e▸ha)
   rcases I8.1 L with L|L
   ·exact hs y L
   rw[JI.1 L];exact j
theorem Hl.way {x:Int}(j:x∈S):YK l' x=YK l x:=by
 have h1:S.length<=l.length:=by
  have :=pF (b:=l.map (·.Id)) h.nodup λx j=>IU.1 (h.mem x j).1
  grind
 have h2:S.length<=l'.length:=by
  have :=pF (b:=l'.map (·.Id)) h.nodup λx j=>IU.1 (h.mem x j).2.1
  grind
 exact h.CG _ _ [] x j .nil (λ_ h=>absurd h G7) VG L9
theorem Hl.item {j:A8 Int}{x:Int}(q:x∈S):FV l' j x=FV l j x:=by
 unfold FV SQ;rw[h.way q,(h.mem x q).2.2.time]
theorem Hl.Ap {j ids:A8 Int}(hi:∀x∈ids,x∈S):Ap l' j ids=Ap l j ids:=by
 unfold Go.Proofs.YtfmoknlmaldmlaaGreat.Ap;rw[Zp (q:=bU l) λx u=>by rw[(h.mem x (hi x u)).1,(h.mem x (hi x u)).2.1],pq λx u=>h.item (hi x (Gx.1 u).1)]
theorem Hl.H8 {full:A8 Int}(hi:∀x∈full,x∈S):H8 l' full=H8 l full:=by
 unfold Go.Proofs.YtfmoknlmaldmlaaGreat.H8;refine Zp λx j=>?_;obtain⟨q,k2,k3⟩:=h.mem x (hi x j);unfold Xl;rw[q,k2,afa k3]
theorem Hl.Wp {full:A8 Int}(hi:∀x∈full,x∈S):Wp l' full=Wp l full:=by
 unfold Go.Proofs.YtfmoknlmaldmlaaGreat.Wp;rw[h.H8 hi,h.chain (ids:=Go.Proofs.YtfmoknlmaldmlaaGreat.H8 l full) λx j=>hi x (Gx.1 j).1]
theorem Hl.gK {ids:A8 Int}(hi:∀x∈ids,x∈S):gK l' ids=gK l ids:=by
 unfold Go.Proofs.YtfmoknlmaldmlaaGreat.gK;exact Zp λx j=>by rw[(h.mem x (hi x (Kw.1 j))).1,(h.mem x (hi x (Kw.1 j))).2.1]
theorem Hl.one {x:Int}(j:x∈S):chainOf l' [x]=chainOf l [x]:=h.chain λy q=>by rw[JI.1 q];exact j
theorem Hl.node {x:Int}(j:x∈S):GL l' x=GL l x:=by
 obtain⟨_,_,k3⟩:=h.mem x j;unfold GL aBG;rw[aDx (h.from k3 (h.auth x j)),k3.sender,k3.time,h.one j]
omit h in
theorem ana (l:A8 AQ)(left:A8 Int)(b:AB Int)(x:Int):IJ l left b x=some x\/IJ l left b x=b:=by
 unfold IJ
 grind
theorem Hl.best {left:A8 Int}:∀(xs:A8 Int) (b:AB Int),(∀x∈xs,x∈S)->(∀y,b=some y->y∈S)->xs.foldl (IJ l' left) b=xs.foldl (IJ l left) b
 | [],_,_,_=>
     rfl
 |x::xs,b,j,z=>by
  have q:=j x (Gt ..)
  have e:IJ l' left b x=IJ l left b x:=by
   unfold IJ gV;rw[h.one q];cases b with
   |none=>
    rfl
   |some y=>
    simp only[h.node q,h.node (z y rfl)]
  rw[Fv,Fv,e];refine Hl.best xs _ (λy u=>j y (IZ _ u)) λy u=>?_;rcases ana l left b x with I|I
  ·grind
  grind
theorem Hl.sO:∀(n:Nat) (left:A8 Int),(∀x∈left,x∈S)->sO l' n left=sO l n left
 |0,_,_=>rfl
 |n+1,left,hi=>by
  unfold Go.Proofs.YtfmoknlmaldmlaaGreat.sO VT;rw[h.best left none hi λ_ h=>Gv];cases left.foldl (IJ l left) none with
  |none=>rfl
  |some b=>exact BG _ (Hl.sO n _ λx j=>hi x (Gx.1 j).1)
def Lc (S:A8 Int)(s:A8 BL):Prop:=∀x∈s,x.Id∈S
theorem Hl.pick {s:A8 BL}(hs:Lc S s){e f:AQ}(j:H7 e f)(hi:∀x∈e.bJ,x∈S):J3 (St l s e) (St l' s f):=by
 unfold St;rw[aLT j];refine J3.flat _ λk _=>?_;unfold U3 eu;cases q:(Ht s k.Kind k.Key).2 with
 |true=>
  have hm:=aJe (s:=s) (k:=k.Kind) (key:=k.Key) (n:=(Ht s k.Kind k.Key).1) (Prod.ext rfl q);obtain⟨u,k2,k3⟩:=h.mem _ (hs _ hm)
  have z:IK l (Ht s k.Kind k.Key).1=(ev l (Ht s k.Kind k.Key).1,true):=by
   have :=(Ib u).1;unfold ev IK at this ⊢;rw[this]
  have I:IK l' (Ht s k.Kind k.Key).1=(ev l' (Ht s k.Kind k.Key).1,true):=by
   have :=(Ib k2).1;unfold ev IK at this ⊢;rw[this]
  simp only[Bl];rw[z,I];exact .one k3
 |false=>
  simp only[BR];unfold eU;rw[j.auth];rcases(h.ids hi).find (p:=F6 k) (λx y h=>aHB h)with⟨h1,h2⟩|⟨x,y,h1,h2,h3,_⟩
  ·rw[h1,h2];exact .nil
  rw[h1,h2];exact .one h3
theorem Hl.apply {s:A8 BL}(hs:Lc S s){x:Int}(j:x∈S):Po l' s x=Po l s x/\Lc S (Po l s x):=by
 obtain⟨u,k2,k3⟩:=h.mem x j
 have e:Tn l' s x=Tn l s x:=by
  unfold Tn;rw[u,k2,k3.kind,aJh k3 (h.pick hs k3 (h.auth x j))]
 unfold Po;rw[e,k3.kind,k3.key,k3.id];refine⟨rfl,?_⟩;cases Tn l s x with
 |false=>exact hs
 |true=>
  intro y q;rcases Rt q with rfl|q
  ·show(ev l x).Id∈S;rw[(Ib u).2];exact j
  exact hs y q
theorem Hl.applies:∀(ids:A8 Int) (s:A8 BL),Lc S s->(∀x∈ids,x∈S)->PS l' s ids=PS l s ids/\Lc S (PS l s ids)
 | [],_,hs,_=>⟨rfl,hs⟩
 |x::ids,s,hs,hi=>by
  obtain⟨h1,h2⟩:=h.apply hs (hi x (Gt ..));unfold PS;rw[Fv,Fv,h1];exact Hl.applies ids _ h2 λy j=>hi y (IZ _ j)
theorem Hl.closure {s:A8 BL}(hs:Lc S s):Fe l' s=Fe l s/\∀x∈Fe l s,x∈S:=by
 have hi:∀x∈TY s,x∈S:=λx j=>by
  obtain⟨y,q,rfl⟩:=Ez.1 j;exact hs y q
 unfold Fe;refine⟨by rw[h.chain hi],λx j=>?_⟩;rcases Uf.1 j with j|j
 ·exact hi x j
 exact h.aEe hi x j
theorem Hl.full {aX:A8 (A8 BL)}(hs:∀s∈aX,Lc S s):Jd l' aX=Jd l aX/\∀x∈Jd l aX,x∈S:=by
 have I:∀(q:A8 (A8 BL)) (a:A8 Int),(∀s∈q,Lc S s)->q.foldl (λa s=>JF a (Fe l' s)) a=q.foldl (λa s=>JF a (Fe l s)) a:=by
  intro q
  induction q with
  |nil=>
   exact λ_ _=>rfl
  |cons s q M=>
   intro a J;rw[Fv,Fv,(h.closure (J s (Gt ..))).1];exact M _ λs hm=>J s (IZ _ hm)
 have L:∀x,Ji l' aX x=Ji l aX x:=λx=>by
  unfold Ji;exact List.countP_congr λs hm=>by rw[(h.closure (hs s hm)).1]
 have hd:PE l' aX=PE l aX:=by
  unfold PE allOf
  grind
 unfold Jd;rw[hd];refine⟨rfl,λx j=>?_⟩;rcases Uf.1 j with j|j
 ·rw[Kw]at j;unfold Qw at j;obtain⟨z,u,rfl⟩:=Ez.1 j;obtain⟨s,hm,u⟩:=Um.1 u;exact hs s hm z (Gx.1 u).1
 obtain⟨⟨s,hm,j⟩,_⟩:=aMl.1 j;exact(h.closure (hs s hm)).2 x j
omit h in
theorem afB {aX:A8 (A8 BL)}(hs:∀s∈aX,Lc S s):Lc S (Iu aX):=by
 cases aX with
 |nil=>exact λ_ h=>absurd h G7
 |cons s aX=>exact λx j=>hs s (Gt ..) x (Gx.1 j).1
theorem Hl.last {aX:A8 (A8 BL)}(hs:∀s∈aX,Lc S s):lastOf l' aX=lastOf l aX/\Lc S (lastOf l aX):=by
 obtain⟨f1,Z⟩:=h.full hs;have u:=afB hs;have J:LV l' aX=LV l aX:=by unfold LV;rw[f1,h.Wp Z]
 have I:∀x∈LV l aX,x∈S:=λx j=>Z x (aA6.1 j).1
 have hpo:MG l' aX=MG l aX:=by
  unfold MG;rw[J,h.gK I];exact h.sO _ _ λx j=>I x (NT.1 j).1
 have M:∀x∈MG l aX,x∈S:=λx j=>I x (NT.1 (aHX l _ _ j)).1;obtain⟨a1,a2⟩:=h.applies (MG l aX) (Iu aX) u M;have q:J4 l' aX=J4 l aX:=by unfold J4;rw[hpo,a1]
 have O:Uo l' aX=Uo l aX:=by
  unfold Uo;rw[q];cases hg:(Ht (J4 l aX) 3 Ce).2 with
  |false=>rfl
  |true=>exact h.way (a2 _ (aJe (n:=(Ht (J4 l aX) 3 Ce).1) (Prod.ext rfl hg)))
 have L:∀x∈Ph (Jd l aX) (LV l aX),x∈S:=λx j=>Z x (aEO.1 j).1
 have U:LG l' aX=LG l aX:=by
  unfold LG;rw[O,f1,J,h.Ap L]
 have Y:∀x∈LG l aX,x∈S:=λx j=>by
  unfold LG Go.Proofs.YtfmoknlmaldmlaaGreat.Ap at j;obtain⟨y,hy,rfl⟩:=Ez.1 j;obtain⟨z,hz,rfl⟩:=Ez.1 ((iP ..).mem_iff.1 hy);exact L z (Gx.1 hz).1
 obtain⟨b1,b2⟩:=h.applies (LG l aX) (J4 l aX) a2 Y;unfold lastOf;rw[q,U,b1];refine⟨rfl,λx j=>?_⟩;rcases aEM _ _ j with j|j
 ·exact u x j
 exact b2 x j
theorem Hl.resolve {aX:A8 (A8 BL)}(hs:∀s∈aX,Lc S s):Xu l' aX=Xu l aX/\Lc S (Xu l aX):=by
 match aX,hs with
 | [],_=>exact⟨rfl,λ_ h=>absurd h G7⟩
 | [s],hs=>exact⟨rfl,hs s (Gt ..)⟩
 |s::r::aX,hs=>exact h.last hs
theorem Hl.verdict {t t':A8 Ed}{x:Int}(q:x∈S){s:A8 BL}(hs:Lc S s)(M:∀a∈(ev l x).bJ,errOf t' a=errOf t a):MV l' t' (ev l' x) s=MV l t (ev l x) s:=by
 obtain⟨O,k2,k3⟩:=h.mem x q
 have I:aT l' (ev l' x)=aT l (ev l x):=by
  unfold aT;rw[h.fits k3 (h.auth x q),aJh k3 (h.from k3 (h.auth x q))]
 have j:(ev l' x).bJ.any (λx=>errOf t' x != 0)=(ev l x).bJ.any (λx=>errOf t x != 0):=by
  rw[k3.auth,Ox,JV,JV]
  grind
 have u:Lp (ev l' x) (MC l' s)=Lp (ev l x) (MC l s):=aJh k3 (h.ids λy J=>by
  obtain⟨z,L,rfl⟩:=Ez.1 J
  exact hs z L)
 unfold MV;rw[I,j,u]
theorem Hl.line {t t':A8 Ed}{x:Int}(q:x∈S)(hp:∀a∈(ev l x).bH,Ig t' a=Ig t a/\Lc S (Ig t a))(z:∀a∈(ev l x).bJ,errOf t' a=errOf t a):
 J8 l' t' (ev l' x)=J8 l t (ev l x)/\Lc S (J8 l t (ev l x)).before/\Lc S (J8 l t (ev l x)).after:=by
 obtain⟨I,k2,k3⟩:=h.mem x q
 have j:stB l' t' (ev l' x)=stB l t (ev l x)/\Lc S (stB l t (ev l x)):=by
  have hm:(ev l x).bH.map (Ig t')=(ev l x).bH.map (Ig t):=pq λa ha=>(hp a ha).1;unfold stB;rw[k3.prev,hm]
  exact h.resolve λs hs=>by
   grind
 unfold J8 Zd;rw[j.1,h.verdict q j.2 z,k3.id,k3.kind,k3.key];refine⟨rfl,j.2,?_⟩;show Lc S (bif MV l t (ev l x) (stB l t (ev l x))==0&&Ic (ev l x).Kind then _ else _);cases(MV l t (ev l x) (stB l t (ev l x))==0&&Ic (ev l x).Kind)with
 |false=>
  exact j.2
 |true=>
  intro y u;rcases Rt u with rfl|u
  ·show(ev l x).Id∈S;rw[(Ib I).2];exact q
  exact j.2 y u
end
def amq (l:A8 AQ){t':A8 Ed}(hp:∀a∈e.bH,Ig t' a=Ig t a)(u:∀a∈e.bJ,errOf t' a=errOf t a):J8 l t' e=J8 l t e:=by
 have q:stB l t' e=stB l t e:=by
  unfold stB;rw[show e.bH.map (Ig t')=e.bH.map (Ig t)from pq hp]
 have j:e.bJ.any (λx=>errOf t' x != 0)=e.bJ.any (λx=>errOf t x != 0):=by
  rw[Ox,JV,JV]
  grind
 unfold J8 MV;rw[q,j]
def aUd (l:A8 AQ):∀(ids:A8 Int) {t:A8 Ed} {x:Int} {y:Ed},En t x=some y->En (ids.foldl (λt id=>t++[J8 l t (ev l id)]) t) x=some y
 | [],_,_,_,h=>h
 |id::ids,_,_,_,h=>by rw[Fv];exact aUd l ids (aSF h _)
def aNV {ids:A8 Int}{x:Int}{y:Ed}(h:En (I4 l (ids.take i)) x=some y):En (I4 l ids) x=some y:=by
 have :I4 l ids=(ids.drop i).foldl (λt id=>t++[J8 l t (ev l id)]) (I4 l (ids.take i)):=by
  unfold I4;rw[←Uk,UU]
 rw[this];exact aUd l _ h
def aDc (Y:JL l)(hd:HY l=0){x:Int}(M:bU l x=true):En (DT l) x=some (J8 l (DT l) (ev l x)):=by
 obtain⟨i,hi,J⟩:=G8 (ZP.2 M)
 have u:∀j,(I4 l ((He l).take j)).map (·.id)=(He l).take j:=λj=>by
  unfold I4;rw[yE l _ _ λx hx=>ZP.1 (YU hx)];rfl
 have z:(ev l x).Id=x:=(Ib M).2;have hm:ev l x∈l:=JM (Ib M).1
 have I:∀a,bU l a=true->(ev l a).Depth<(ev l x).Depth->∃y,En (I4 l ((He l).take i)) a=some y/\En (DT l) a=some y:=λa k1 k2=>by
  have :=aUy Y.nodup hi k1 (by rw[J];exact k2);cases hl:En (I4 l ((He l).take i)) a with
  |some y=>exact⟨y,rfl,aNV hl⟩
  |none=>rw[cV,u]at hl;exact absurd this hl
 have q:En (I4 l ((He l).take i)) (J8 l (I4 l ((He l).take i)) (ev l x)).id=none:=by
  show En _ (ev l x).Id=none;rw[z,cV,u];intro L;obtain⟨j,hj,e⟩:=G8 L;rw[H6]at hj;rw[gZ,←J]at e;exact J9.1 (X5.1 Y.order) j i AL hi AL e
 have h1:En (I4 l ((He l).take (i+1))) x=some (J8 l (I4 l ((He l).take i)) (ev l x)):=by
  rw[a5r l hi,J,a04 q];have :(x==(J8 l (I4 l ((He l).take i)) (ev l x)).id)=true:=by show(x==(ev l x).Id)=true;rw[z];exact VJ _
  rw[this];rfl
 have h2:=aNV h1
 have h3:J8 l (DT l) (ev l x)=J8 l (I4 l ((He l).take i)) (ev l x):=by
  obtain⟨Z,dp⟩:=gG hd hm;refine amq l (λa ha=>?_) λa ha=>?_
  ·obtain⟨y,O,U⟩:=I a (dp a ha).1 (dp a ha).2;unfold Ig;rw[O,U]
  obtain⟨y,O,U⟩:=I a (Z a ha).1 (Z a ha).2;unfold errOf;rw[O,U]
 rw[h3];exact h2
variable {S:A8 Int}{l':A8 AQ}
def aHn (h:Hl l l' S)(q:JL l)(hd:HY l=0)(u:JL l')(z:HY l'=0):∀x∈S,En (DT l') x=En (DT l) x/\Lc S (Ig (DT l) x):=by
 have key:∀(n:Nat) (x:Int),x∈S->(ev l x).Depth<(n:Int)->En (DT l') x=En (DT l) x/\Lc S (Ig (DT l) x):=by
  intro n
  induction n with
  |zero=>
   intro x j M;have :=(q.dep _ (JM (Ib (h.mem x j).1).1)).1;omega
  |succ n L=>
   intro x j M;obtain⟨I,k2,k3⟩:=h.mem x j;obtain⟨O,U⟩:=gG hd (JM (Ib I).1)
   obtain⟨Y,q2,Z⟩:=h.line j (t:=DT l) (t':=DT l') (λa ha=>by
    obtain⟨J,e2⟩:=L a (h.prev x j a ha) (by have :=(U a ha).2;omega)
    exact⟨by unfold Ig;rw[J],e2⟩) λa ha=>by
    obtain⟨J,_⟩:=L a (h.auth x j a ha) (by have :=(O a ha).2;omega);unfold errOf;rw[J]
   rw[aDc q hd I,aDc u z k2,Y];exact⟨rfl,by unfold Ig;rw[aDc q hd I];exact Z⟩
 intro x j;have :=(q.dep _ (JM (Ib (h.mem x j).1).1)).2;exact key 100001 x j AL
def aXZ (h:Hl l l' S)(J:JL l)(hd:HY l=0)(u:JL l')(z:HY l'=0)(ha:∀x∈Gn l (DT l),x∈S)(L:Gn l' (DT l')=Gn l (DT l)):NZ l' (DT l')=NZ l (DT l):=by
 have I:=aHn h J hd u z
 have M:JX l' (Gn l (DT l))=JX l (Gn l (DT l)):=by
  unfold JX;refine Zp λx _=>?_;congr 1;rw[Ox,JV,JV]
  have e:∀y∈Gn l (DT l),JG l' x y=JG l x y:=λy O=>by
   obtain⟨U,k2,k3⟩:=h.mem y (ha y O);unfold JG;rw[U,k2,k3.prev]
  grind
 have j:∀x∈JX l (Gn l (DT l)),x∈S:=λx q=>ha x (Kw.1 (Gx.1 q).1)
 have hm:(JX l (Gn l (DT l))).map (Ig (DT l'))=(JX l (Gn l (DT l))).map (Ig (DT l)):=pq λx q=>by
  unfold Ig;rw[(I x (j x q)).1]
 unfold NZ;rw[L,M,hm]
 exact(h.resolve λs hs=>by
  obtain⟨x,q,rfl⟩:=Ez.1 hs
  exact(I x (j x q)).2).1
def a1J (l:A8 AQ)(t:A8 Ed):Gn l t=(l.map (·.Id)).filter (Fg t):=by
 unfold Gn;rw[List.filter_map];rfl
variable {S:Type}{b c d l:A8 Int}{j:AX}{m:Int}{n s:BO}{u:Nat}
section
def UN (n:Int):Int:=if n<0 then bits .xor .u64 IntKind.u64.max (IntKind.u64.wrap (IntKind.u64.wrap n*2))else IntKind.u64.wrap (IntKind.u64.wrap n*2)
def uy (n:Int):0<=UN n/\UN n<18446744073709551616:=by
 unfold UN;have h2:∀x:Int,0<=IntKind.u64.wrap x/\IntKind.u64.wrap x<18446744073709551616:=λx=>by rw[pI];omega
 split
 ·obtain⟨j,u⟩:=h2 (IntKind.u64.wrap n*2);generalize IntKind.u64.wrap (IntKind.u64.wrap n*2)=y at *;obtain⟨k,rfl⟩:=Int.eq_ofNat_of_zero_le j;have :(IntKind.u64.max:Int)=((18446744073709551615:Nat):Int):=Bj
  rw[this,bits_xor_u64_nat _ _ AL AL];have :18446744073709551615^^^k<2^64:=Nat.xor_lt_two_pow AL AL;constructor
  ·exact aCh _
  have q:(2:Nat)^64=18446744073709551616:=Bj
  omega
 exact h2 _
def PK (u:Nat):A8 Int:=if u<128 then[(u:Int)]else((u % 128+128:Nat):Int)::PK (u/128)
termination_by u
decreasing_by omega
def qV (h:u<128):PK u=[(u:Int)]:=by rw[PK,Ea h]
def aHt (h:¬u<128):PK u=((u % 128+128:Nat):Int)::PK (u/128):=by rw[PK,Eh h]
def aTr :∀(j u:Nat),u<128^(j+1)->(PK u).length<=j+1
 |0,u,h=>by rw[qV OG];simp
 |j+1,u,h=>by
  by_cases q:u<128
  ·rw[qV q];simp
  rw[aHt q]
  have :u/128<128^(j+1):=by
   rw[Nat.div_lt_iff_lt_mul AL];rw[Nat.pow_succ]at h;exact h
  have :=aTr j (u/128) this;simp;omega
def enc (n:Int):A8 Int:=PK (UN n).toNat
def Qu (n:Int):(enc n).length<=10:=by
 have h:=(uy n).2;refine aTr 9 _ ?_;have :(128:Nat)^10=1180591620717411303424:=Bj
 rw[this];have :=(uy n).1;omega
def aa0 (k:Nat):bits .or .u8 ((k:Int) % 256) 128=((k % 128+128:Nat):Int):=by
 have h:=u8_or_nat (k % 256) 128 AL AL;rw[show((k:Int) % 256)=((k % 256:Nat):Int)from by omega];have j:(128:Int)=((128:Nat):Int):=rfl;rw[j,h];congr 1;have key:∀x,x<256->x|||128=x % 128+128:=OB
 rw[key _ AL];omega
def a0q (u c:Int):Int:=(IntKind.u64.wrap (bits .xor .u64 u (IntKind.u64.wrap c)*1099511628211)).tmod 4611686018427387904
def aWa (x:Int):bits .and .u64 (IntKind.u64.wrap x) 4611686018427387903=(IntKind.u64.wrap x).tmod 4611686018427387904:=by
 rw[pI];have h:=bits_mask .u64 64 Bj (λn q h1=>by rw[pI];omega) 62 Bj (x % 18446744073709551616) AL AL;have e:((2:Int)^62-1)=4611686018427387903:=Bj
 have j:((2:Int)^62)=4611686018427387904:=Bj
 rw[aT0 AL];simpa[e,j]using h
def alu (u c:Int):bits .and .u64 (IntKind.u64.wrap (bits .xor .u64 u (IntKind.u64.wrap c)*1099511628211)) 4611686018427387903=a0q u c:=aWa _
def aBR (op:BinOp)(k:IntKind)(x y:Int)(h:op=.and\/op=.or\/op=.xor):F8 op k x y=bits op k x y:=by
 rcases h with rfl|rfl|rfl<;>rfl
def OX {b:Nat}{l m:A8 α}(j:b<=100)(h:(l++m).length<=1099511627776):DL b l m=some (l++m):=by
 refine Dy ?_;rw[Ei]at h;have :(l.length+m.length)*b<=1099511627776*100:=a1j h j;omega
def al9 (u:Nat):F8 .or .u8 (IntKind.u8.wrap (u:Int)) 128=((u % 128+128:Nat):Int):=by
 rw[aBR _ _ _ _ (.inr (.inl rfl)),show IntKind.u8.wrap (u:Int)=(u:Int) % 256 from by rw[jr],aa0]
def akP (u:Nat):QO .shr .u64 (u:Int) 7=some ((u/128:Nat):Int):=by
 unfold QO;rw[Eh AL];show some ((u:Int).fdiv (2^7))=_
 grind
def aOL {n:Nat}(h:u<128^(n+1+1)):u/128<128^(n+1):=by
 grind
def afD :∀(n u:Nat),u<128^(n+1)->∀m b,n<m->(b++PK u).length<=1099511627776->aQ Y7 m b (u:Int)=some (b++PK u):=by
 intro n
 induction n with
 |zero=>
  intro u q m b hm j;obtain⟨m,rfl⟩:∃z,m=z+1:=⟨m-1,AL⟩
  have h:u<128:=YF
  rw[qV h]at j ⊢;show Y7 (aQ Y7 m) b (u:Int)=_;simp only[Y7,show decide ((u:Int)>=128)=false from by simp;omega,BR];rw[show IntKind.u8.wrap (u:Int)=(u:Int)from by rw[jr];omega,OX AL j];rfl
 |succ n J=>
  intro u q m b hm j;obtain⟨m,rfl⟩:∃z,m=z+1:=⟨m-1,AL⟩
  show Y7 (aQ Y7 m) b (u:Int)=_;by_cases h:u<128
  ·rw[qV h]at j ⊢;simp only[Y7,show decide ((u:Int)>=128)=false from by simp;omega,BR];rw[show IntKind.u8.wrap (u:Int)=(u:Int)from by rw[jr];omega,OX AL j];rfl
  rw[aHt h]at j ⊢;have e:(b++((u % 128+128:Nat):Int)::PK (u/128))=(b++[((u % 128+128:Nat):Int)])++PK (u/128):=Bf
  have I:(b++[((u % 128+128:Nat):Int)]).length<=1099511627776:=by simp only[Ei,GK,Q7]at j ⊢;omega
  simp only[Y7,show decide ((u:Int)>=128)=true from by simp;omega,Bl,al9,OX (show 1<=100 by omega) I,akP,Ad];rw[e];exact J (u/128) (aOL q) m _ AL (by rw[←e];exact j)
def alv :∀(n u:Nat),u<128^(n+1)->u<18446744073709551616->∀m b,n<m->(b++PK u).length<=1099511627776->aQ Xy m (u:Int) b=some (b++PK u):=by
 intro n
 induction n with
 |zero=>
  intro u q _ m b hm j;obtain⟨m,rfl⟩:∃z,m=z+1:=⟨m-1,AL⟩
  have h:u<128:=YF
  rw[qV h]at j ⊢;show Xy (aQ Xy m) (u:Int) b=_;simp only[Xy,show decide ((u:Int)>=128)=false from by simp;omega,BR];rw[show IntKind.u8.wrap (u:Int)=(u:Int)from by rw[jr];omega,OX AL j];rfl
 |succ n J=>
  intro u q L m b hm j;obtain⟨m,rfl⟩:∃z,m=z+1:=⟨m-1,AL⟩
  show Xy (aQ Xy m) (u:Int) b=_;by_cases h:u<128
  ·rw[qV h]at j ⊢;simp only[Xy,show decide ((u:Int)>=128)=false from by simp;omega,BR];rw[show IntKind.u8.wrap (u:Int)=(u:Int)from by rw[jr];omega,OX AL j];rfl
  rw[aHt h]at j ⊢;have e:(b++((u % 128+128:Nat):Int)::PK (u/128))=(b++[((u % 128+128:Nat):Int)])++PK (u/128):=Bf
  have I:(b++[((u % 128+128:Nat):Int)]).length<=1099511627776:=by simp only[Ei,GK,Q7]at j ⊢;omega
  have M:X4 (u:Int) 128=some ((u % 128:Nat):Int):=by unfold X4;rw[Eh AL,aT0 AL];congr 1
  have O:xO .u64 (u:Int) 128=some ((u/128:Nat):Int):=by
   unfold xO;rw[Eh AL,Int.tdiv_eq_ediv_of_nonneg AL];congr 1;rw[pI];omega
  have U:IntKind.u8.wrap (IntKind.u64.wrap (((u % 128:Nat):Int)+128))=((u % 128+128:Nat):Int):=by rw[pI,jr];omega
  simp only[Xy,show decide ((u:Int)>=128)=true from by simp;omega,Bl,M,U,O,OX (show 1<=100 by omega) I,Ad];rw[e];exact J (u/128) (aOL q) AL m _ AL (by rw[←e];exact j)
def aPs (x:Int):QO .shl .u64 x 1=some (IntKind.u64.wrap (x*2)):=rfl
def aT1 (x:Int):gU .u64 x=bits .xor .u64 IntKind.u64.max x:=rfl
def aRW (n:Int):(UN n).toNat<128^(9+1):=by
 have j:=uy n
 grind
def aPb :9<Ar:=kN
def number_eq {n:Int}(h:(b++enc n).length<=1099511627776):Zv b n=some (b++enc n):=by
 have u:=uy n
 have j:aWF b (UN n)=some (b++enc n):=by
  have :=afD 9 (UN n).toNat (aRW n) Ar b aPb h
  rwa [Int.toNat_of_nonneg u.1]at this
 unfold Zv;rw[aPs,Ad];unfold a4J;unfold UN at j;by_cases q:n<0
 ·rw[Ea q]at j;rw[show decide (n<0)=true by simpa using q,Bl,aT1];exact j
 grind
def aeC (n:Int):([]++enc n).length<=1099511627776:=by have :=Qu n;simp only[JQ];omega
def aNW (n:Int):vW n=some (enc n):=by
 have u:=uy n
 have j:aTo (UN n) []=some (enc n):=by
  have :=alv 9 (UN n).toNat (aRW n) AL Ar [] aPb (aeC n)
  rwa [Int.toNat_of_nonneg u.1]at this
 unfold vW;rw[aPs,Ad];unfold a6L;unfold UN at j;by_cases q:n<0
 ·rw[Ea q]at j;rw[show decide (n<0)=true by simpa using q,Bl,aT1];exact j
 grind
def a0J {m:Nat}(h:b.length+m<=1099511627776):Zt b (m:Int)=some b:=by
 unfold Zt;rw[OY AL AL];unfold Jj;rw[Ea ⟨AL,AL,AL⟩];simp[gCopy]
def aBU {a:A8 Int}(h:(a++b).length<=1099511627776):a.length<=1099511627776:=by rw[Ei]at h;omega
def JK (s:BO):A8 Int:=enc s.size++DR s
def text_eq (h:(b++JK s).length<=1099511627776):a0L b s=some (b++JK s):=by
 unfold JK at h ⊢;rw[←JU]at h ⊢;unfold a0L;rw[number_eq (aBU h),Ad,OX AL h];rfl
def a0w {n:Int}(h:b.length+10<=1099511627776):Ou b n=some (b++enc n):=by
 have :=Qu n;unfold Ou;rw[show(10:Int)=((10:Nat):Int)from rfl,a0J AL,Ad,number_eq Ln];rfl
def ZC {n:Int}(h:b.length+10<=1099511627776):MQ b n=some (b++enc n):=by
 have :=Qu n;unfold MQ;rw[OX AL aA7,Ad,aNW,Ad,JQ,OX AL Ln];rfl
def vJ (s:BO):(JK s).length<=s.size+10:=by
 have :=Qu s.size;unfold JK;rw[Ei,JD];omega
def ahf (h:b.length+s.size+10<=1099511627776):Tv b s=some (b++JK s):=by
 have :=vJ s;unfold Tv;rw[OY AL AL,show(s.size:Int)+10=((s.size+10:Nat):Int) by omega,a0J AL,Ad,text_eq Ln];rfl
def aSD (h:b.length+s.size+10<=1099511627776):Rz b s=some (b++JK s):=by
 have :=vJ s;unfold Rz;rw[ZC AL,Ad,OX AL (by unfold JK at this;rw[Ei]at this;rw[Ei,Ei];omega)];simp[JK]
def aZ1 (h:b.length+10<=1099511627776):Za b j=some (b++[bif j then 1 else 0]):=by
 unfold Za;rw[show(1:Int)=((1:Nat):Int)from rfl,a0J AL,Ad];cases j<;>simp only[Bl,BR]<;>rw[OX AL aIq]<;>rfl
def ahV (h:b.length+10<=1099511627776):mQ b j=some (b++[bif j then 1 else 0]):=by
 unfold mQ;rw[OX AL aA7,Ad,JQ];cases j<;>simp only[Bl,BR]<;>rw[OX AL aIq]<;>rfl
def aCG {body:(A8 Int->Int->AB (A8 Int))->A8 Int->Int->AB (A8 Int)}(l:A8 α)(hl:l.length<Ar)(g:α->A8 Int)(z:∀k b (i:Nat) (h:i<l.length),(b++g l[i]).length<=1099511627776->body k b (i:Int)=k (b++g l[i]) (Aw ((i:Int)+1)))(I:∀k b,body k b (l.length:Int)=some b)(b:A8 Int)(j:(b++l.flatMap g).length<=1099511627776):
 aQ body Ar b 0=some (b++l.flatMap g):=by
 have L:Ar=9223372036854775808:=rfl
 have key:∀n (i:Nat) b,i+n=l.length->(b++(l.drop i).flatMap g).length<=1099511627776->∀m,n<m->aQ body m b (i:Int)=some (b++(l.drop i).flatMap g):=by
  intro n
  induction n with
  |zero=>
   intro i b hi j m hm;obtain⟨m,rfl⟩:∃u,m=u+1:=⟨m-1,AL⟩
   have :i=l.length:=AL
   subst this;show body (aQ body m) _ _=_;rw[I,PL];simp
  |succ n J=>
   intro i b hi j m hm;obtain⟨m,rfl⟩:∃u,m=u+1:=⟨m-1,AL⟩
   have q:i<l.length:=AL
   rw[NW q,Ov,←JU]at j ⊢;show body (aQ body m) _ _=_;rw[z _ _ i q (aBU j),wrap_succ i AL];exact J (i+1) _ AL j m AL
 exact key l.length 0 b AL j Ar hl
def RD (l:A8 Int):A8 Int:=enc l.length++l.flatMap enc
def Rl (l:A8 BO):A8 Int:=enc l.length++l.flatMap JK
def ad4 (h:(b++RD l).length<=1099511627776)(hl:l.length<=1000):a6H b l=some (b++RD l):=by
 have q:Ar=9223372036854775808:=rfl;unfold RD at h ⊢;rw[←JU]at h ⊢;unfold a6H;rw[number_eq (aBU h),Ad];unfold aRY;refine aCG l AL enc (λk b i hi j=>?_) (λk b=>?_) _ h
 ·simp only[aJu,dec_lt hi,Bl,CY hi,number_eq j,Ad]
 simp only[aJu,Di,BR]
def abP {l:A8 BO}(h:(b++Rl l).length<=1099511627776)(hl:l.length<=1000000000):a1u b l=some (b++Rl l):=by
 have q:Ar=9223372036854775808:=rfl;unfold Rl at h ⊢;rw[←JU]at h ⊢;unfold a1u;rw[number_eq (aBU h),Ad];unfold aXH;refine aCG l AL JK (λk b i hi j=>?_) (λk b=>?_) _ h
 ·simp only[aF7,dec_lt hi,Bl,CY hi,text_eq j,Ad]
 simp only[aF7,Di,BR]
def a5V {α:Type}{g:α->A8 Int}{m:Nat}:∀{l:A8 α},(∀x∈l,(g x).length<=m)->(l.flatMap g).length<=l.length*m
 | [],_=>Bf
 |x::l,h=>by
  rw[Ov,Ei,GK,dR];have :=h x Gt;have :=a5V (l:=l) (λy j=>h y (IZ _ j));omega
def aC0 (l:A8 Int):(RD l).length<=l.length*10+10:=by
 have h1:=Qu l.length;have h2:=a5V (g:=enc) (m:=10) (l:=l) (λx _=>Qu x);unfold RD;rw[Ei];omega
def akX (j:b.length+20000<=1099511627776)(hl:l.length<=1000):Zf b l=some (b++RD l):=by
 have h1:=aC0 l;unfold Zf;rw[OY (x:=2*(l.length:Int)) AL AL,OY AL AL,show 2*(l.length:Int)+10=((2*l.length+10:Nat):Int) by omega,a0J AL,Ad,ad4 Ln hl];rfl
def aco (q:b.length+20000<=1099511627776)(hl:l.length<=1000):mY b l=some (b++RD l):=by
 have u:Ar=9223372036854775808:=rfl;have h1:=aC0 l;have h:(b++RD l).length<=1099511627776:=Ln
 unfold RD at h ⊢;rw[←JU]at h ⊢;unfold mY;rw[ZC AL,Ad];unfold aS9;refine aCG l AL enc (λk b i hi j=>?_) (λk b=>?_) _ h
 ·simp only[aGq,dec_lt hi,Bl,CY hi,aNW,OX (show 1<=100 by omega) j,Ad]
 simp only[aGq,Di,BR]
def SK (l:A8 BO):Nat:=(l.map λs=>s.size).sum+l.length
def Vw (l:A8 IQ):Nat:=(l.map λu=>u.User.size).sum+l.length
def U1 (c:D8):Nat:=c.Text.size+c.Via.size+SK c.Allow+SK c.iK+Vw c.Levels.Users+c.Levels.Kinds.length
def aal (l:A8 BO):(Rl l).length<=10*SK l+10:=by
 have h1:=Qu l.length
 have key:∀l:A8 BO,(l.flatMap JK).length<=10*SK l:=by
  intro l
  induction l with
  |nil=>exact F7 _
  |cons s l j=>
   have h2:=vJ s;unfold SK at j ⊢;rw[Ov,Ei,Gs,uh,GK];omega
 have :=key l;unfold Rl;rw[Ei];omega
structure QT (c:D8):Prop where
 allow:c.Allow.length<=100
 deny:c.iK.length<=100
 users:c.Levels.Users.length<=100
 kinds:c.Levels.Kinds.length<=100
 text:c.Text.size<=2000
 via:c.Via.size<=2000
 allows:∀x∈c.Allow,x.size<=2000
 denies:∀x∈c.iK,x.size<=2000
 names:∀x∈c.Levels.Users,x.User.size<=2000
def FH.content (h:FH e):QT e.Content:=⟨h.allow,h.deny,h.users,h.kinds,h.text,h.via,h.allows,h.denies,h.names⟩
section
variable {b:A8 Int} {k:Nat}
def VF (h:b.length<=k)(j:k<=1000000000)(n:Int):Ou b n=some (b++enc n)/\MQ b n=some (b++enc n)/\(b++enc n).length<=k+10:=by
 have :=Qu n;exact⟨a0w AL,ZC AL,Ln⟩
def aMw (h:b.length<=k)(q:k<=1000000000)(j:AX):Za b j=some (b++[bif j then 1 else 0])/\mQ b j=some (b++[bif j then 1 else 0])/\(b++[bif j then(1:Int)else 0]).length<=k+10:=
 ⟨aZ1 AL,ahV AL,aIq⟩
def Xv (h:b.length<=k)(j:k<=1000000000)(m:Nat)(hs:s.size<=m)(hm:m<=1000000000):Tv b s=some (b++JK s)/\Rz b s=some (b++JK s)/\(b++JK s).length<=k+m+10:=by
 have :=vJ s;exact⟨ahf AL,aSD AL,Ln⟩
def aMA (h:b.length<=k)(j:k<=1000000000)(hl:l.length<=100):Zf b l=some (b++RD l)/\mY b l=some (b++RD l)/\(b++RD l).length<=k+1010:=by
 have :=aC0 l;exact⟨akX AL AL,aco AL AL,Ln⟩
end
def a0G {R:Type}{body:(A8 Int->Int->AB R)->A8 Int->Int->AB R}(l:A8 α)(hl:l.length<Ar)(g:α->A8 Int)(C:Nat)(j:A8 Int->AB R)(b:A8 Int)(I:(b++l.flatMap g).length<=C)(J:∀k a (i:Nat) (h:i<l.length),(a++g l[i]).length<=C->body k a (i:Int)=k (a++g l[i]) (Aw ((i:Int)+1)))(L:∀k a,a.length<=C->body k a (l.length:Int)=j a):
 aQ body Ar b 0=j (b++l.flatMap g):=by
 have O:Ar=9223372036854775808:=rfl
 have key:∀n (i:Nat) b,i+n=l.length->(b++(l.drop i).flatMap g).length<=C->∀m,n<m->aQ body m b (i:Int)=j (b++(l.drop i).flatMap g):=by
  intro n
  induction n with
  |zero=>
   intro i b hi q m hm;obtain⟨m,rfl⟩:∃z,m=z+1:=⟨m-1,AL⟩
   have :i=l.length:=AL
   subst this;show body (aQ body m) _ _=_;rw[PL,List.flatMap_nil,RZ]at q ⊢;exact L _ _ q
  |succ n M=>
   intro i b hi q m hm;obtain⟨m,rfl⟩:∃z,m=z+1:=⟨m-1,AL⟩
   have u:i<l.length:=AL
   rw[NW u,Ov,←JU]at q ⊢;show body (aQ body m) _ _=_;rw[J _ _ i u (by rw[Ei]at q;omega),wrap_succ i AL];exact M (i+1) _ AL q m AL
 exact key l.length 0 b AL I Ar hl
def aDr (s:BO):s.size<=(JK s).length:=by
 unfold JK;rw[Ei,JD];omega
section
variable {b:A8 Int} {k:Nat}
def aSd (h:b.length<=k)(u:k<=1000000000){l:A8 BO}(m:Nat)(hl:SK l<=m)(hm:m<=10000000):xC b l=some (b++Rl l)/\wu b l=some (b++Rl l)/\(b++Rl l).length<=k+10*m+10:=by
 have z:Ar=9223372036854775808:=rfl;have h1:=aal l;have h2:l.length<=SK l:=Nat.le_add_left ..;have h3:(b++Rl l).length<=k+10*m+10:=Ln
 refine⟨?_,?_,h3⟩
 ·unfold xC;rw[OY (x:=8*(l.length:Int)) AL AL,OY AL AL,show 8*(l.length:Int)+10=((8*l.length+10:Nat):Int) by omega,a0J AL,Ad,abP AL AL];rfl
 have j:(b++Rl l).length<=2000000000:=AL
 unfold Rl at j ⊢;rw[←JU]at j ⊢;unfold wu aOm;rw[ZC AL,Ad];refine a0G (body:=a3z l) l AL JK 2000000000 some _ j (λk a i hi q=>?_) λk a _=>?_
 ·have :=aDr l[i];rw[Ei]at q;unfold a3z;rw[DI hi,aSD AL,Ad]
 unfold a3z
 grind
end
def UA (u:IQ):A8 Int:=JK u.User++enc u.N
def RF (u:Jr):A8 Int:=enc u.Kind++enc u.N
def Kv (l:Cx):A8 Int:=[l.User,l.Message,l.State,l.gW,l.kS,l.oN,l.iq]
def ajF (b:A8 Int)(l:Cx):A8 Int:=b++enc l.Users.length++l.Users.flatMap UA++enc l.Kinds.length++l.Kinds.flatMap RF++(Kv l).flatMap enc
def Xc (c:D8):A8 Int:=ajF ([]++JK c.Text++enc c.N++enc c.Target++[bif c.Thread then 1 else 0]++JK c.Via++Rl c.Allow++Rl c.iK) c.Levels
def agb (u:Jr):(RF u).length<=20:=by
 have :=Qu u.Kind;have :=Qu u.N;unfold RF;rw[Ei];omega
def aRf {R:Type}{body:(A8 Int->Int->AB R)->A8 Int->Int->AB R}(l:A8 α)(hl:l.length<=1000)(g:α->A8 Int)(m:Nat)(hm:∀x∈l,(g x).length<=m)(j:A8 Int->AB R)(b:A8 Int)(q:∀k a (i:Nat) (h:i<l.length),a.length<=b.length+i*m->body k a (i:Int)=k (a++g l[i]) (Aw ((i:Int)+1)))(u:∀k a,a.length<=b.length+l.length*m->body k a (l.length:Int)=j a):aQ body Ar b 0=j (b++l.flatMap g)/\(b++l.flatMap g).length<=b.length+l.length*m:=by
 constructor
 ·rw[Ip l AL (λa x=>a++g x) (λi a=>a.length<=b.length+i*m) j AL (λk a i h z=>⟨?_,q k a i h z⟩) u,foldl_append g]
  grind
 have :=a5V hm;rw[Ei];omega
set_option maxRecDepth 20000
set_option maxHeartbeats 1000000
def acy (l:A8 IQ):(l.flatMap UA).length<=20*Vw l:=by
 induction l with
 |nil=>exact F7 _
 |cons s l j=>
  have h1:=vJ s.User;have h2:=Qu s.N;have h3:(UA s).length=(JK s.User).length+(enc s.N).length:=Ei ..;unfold Vw at j ⊢;rw[Ov,Ei,Gs,uh,GK];omega
def acS (c:D8)(b:A8 Int)(z:b.length<=90000000):(aEy c b 0=some (b++(Kv c.Levels).flatMap enc)/\aFp (Kv c.Levels) b 0=some (b++(Kv c.Levels).flatMap enc))/\(b++(Kv c.Levels).flatMap enc).length<=b.length+70:=by
 have q:∀i:Nat,(h:i<(Kv c.Levels).length)->Aq ([c.Levels.User,c.Levels.Message,c.Levels.State,c.Levels.gW,c.Levels.kS,c.Levels.oN,c.Levels.iq]:A8 Int) (i:Int)=some (Kv c.Levels)[i]:=λi h=>CY h
 have h1:=aRf (body:=aEl c) (Kv c.Levels) (by simp[Kv]) enc 10 (λx _=>Qu x) some b (λk a i h j=>by
  have u:i<7:=h;unfold aEl
  rw[KL (show(i:Int)<7 by omega),Bl,q i h,Ad,a0w AL,Ad]) λk a j=>rfl
 have h2:=aRf (body:=a6f (Kv c.Levels)) (Kv c.Levels) (by simp[Kv]) enc 10 (λx _=>Qu x) some b (λk a i h j=>by
  have u:i<7:=h;unfold a6f
  rw[DI h,ZC AL,Ad]) λk a j=>by unfold a6f;rw[Di];rfl
 exact⟨⟨h1.1,h2.1⟩,h1.2⟩
def alq (c:D8)(b:A8 Int)(z:b.length<=60000000)(I:c.Levels.Kinds.length<=1048576):(aEb c b 0=some (b++c.Levels.Kinds.flatMap RF++(Kv c.Levels).flatMap enc)/\aKM c b 0=some (b++c.Levels.Kinds.flatMap RF++(Kv c.Levels).flatMap enc))/\(b++c.Levels.Kinds.flatMap RF++(Kv c.Levels).flatMap enc).length<=b.length+c.Levels.Kinds.length*20+70:=by
 have J:Ar=9223372036854775808:=rfl
 have hl:(b++c.Levels.Kinds.flatMap RF).length<=b.length+c.Levels.Kinds.length*20:=by
  have :=a5V (g:=RF) (m:=20) (l:=c.Levels.Kinds) λx _=>agb x
  grind
 have h1:=a0G (body:=a8a c) c.Levels.Kinds AL RF 90000000 (λa=>aEy c a 0) b AL (λk a i h j=>by
  have ha:a.length<=90000000:=by rw[Ei]at j;omega
  obtain⟨q,_,u⟩:=VF ha AL c.Levels.Kinds[i].Kind;unfold a8a
  rw[DI h,q,Ad,a0w AL,Ad,JU];rfl) λk a j=>by unfold a8a;rw[Di];rfl
 have h2:=a0G (body:=aAS c) c.Levels.Kinds AL RF 90000000 (λa=>aFp (Kv c.Levels) a 0) b AL (λk a i h j=>by
  have ha:a.length<=90000000:=by rw[Ei]at j;omega
  obtain⟨_,q,u⟩:=VF ha AL c.Levels.Kinds[i].Kind;unfold aAS
  rw[DI h,q,Ad,CY h,Ad,ZC AL,Ad,JU];rfl) λk a j=>by unfold aAS aI0;rw[Di,BR,Ad];rfl
 have h3:=acS c (b++c.Levels.Kinds.flatMap RF) AL;exact⟨⟨h1.trans h3.1.1,h2.trans h3.1.2⟩,EK h3.2 AL⟩
def amr (c:D8)(b:A8 Int)(M:b.length<=30000000)(O:Vw c.Levels.Users<=1048576)(u:c.Levels.Kinds.length<=1048576):(aO9 c b 0=some (b++c.Levels.Users.flatMap UA++enc c.Levels.Kinds.length++c.Levels.Kinds.flatMap RF++(Kv c.Levels).flatMap enc)/\aWr c b 0=some (b++c.Levels.Users.flatMap UA++enc c.Levels.Kinds.length++c.Levels.Kinds.flatMap RF++(Kv c.Levels).flatMap enc))/\(b++c.Levels.Users.flatMap UA++enc c.Levels.Kinds.length++c.Levels.Kinds.flatMap RF++(Kv c.Levels).flatMap enc).length<=90000000:=by
 have U:Ar=9223372036854775808:=rfl;have Y:=acy c.Levels.Users;have z:c.Levels.Users.length<=Vw c.Levels.Users:=Nat.le_add_left ..;have hl:(b++c.Levels.Users.flatMap UA).length<=b.length+20*Vw c.Levels.Users:=Ln
 have h1:=a0G (body:=a6R c) c.Levels.Users AL UA 90000000 (λa=>aEb c (a++enc c.Levels.Kinds.length) 0) b AL (λk a i h j=>by
  have I:=aDr c.Levels.Users[i].User;have ha:a.length+(JK c.Levels.Users[i].User).length<=90000000:=aVg
  obtain⟨q,_,J⟩:=Xv (b:=a) (k:=90000000) AL AL (s:=c.Levels.Users[i].User) 90000000 AL AL;unfold a6R
  rw[DI h,q,Ad,a0w AL,Ad,JU];rfl) λk a j=>by unfold a6R;rw[Di,BR,a0w AL,Ad]
 have h2:=a0G (body:=aBM c) c.Levels.Users AL UA 90000000 (λa=>aKM c (a++enc c.Levels.Kinds.length) 0) b AL (λk a i h j=>by
  have I:=aDr c.Levels.Users[i].User;have ha:a.length+(JK c.Levels.Users[i].User).length<=90000000:=aVg
  obtain⟨_,q,J⟩:=Xv (b:=a) (k:=90000000) AL AL (s:=c.Levels.Users[i].User) 90000000 AL AL;unfold aBM
  rw[DI h,q,Ad,CY h,Ad,ZC AL,Ad,JU];rfl) λk a j=>by unfold aBM;rw[Di,BR,ZC AL,Ad]
 have Z:=Qu (c.Levels.Kinds.length:Int);have L:(b++c.Levels.Users.flatMap UA++enc c.Levels.Kinds.length).length<=60000000:=Ln
 have h3:=alq c (b++c.Levels.Users.flatMap UA++enc c.Levels.Kinds.length) L u;exact⟨⟨h1.trans h3.1.1,h2.trans h3.1.2⟩,EK h3.2 AL⟩
def aUV {c:D8}(h:U1 c<=1048576):qc c=some (Xc c)/\lU c=some (Xc c)/\(Xc c).length<=90000000:=by
 unfold U1 at h;obtain⟨j,q,h1⟩:=Xv (b:=[]) (k:=0) (Eb _) AL (s:=c.Text) 1048576 AL AL;obtain⟨u,z,h2⟩:=VF h1 AL c.N;obtain⟨I,J,h3⟩:=VF h2 AL c.Target;obtain⟨L,M,O⟩:=aMw h3 AL c.Thread;obtain⟨U,Y,Z⟩:=Xv O AL (s:=c.Via) 1048576 AL AL;obtain⟨a6,b6,h6⟩:=aSd Z AL (l:=c.Allow) 1048576 AL AL;obtain⟨a7,b7,h7⟩:=aSd h6 AL (l:=c.iK) 1048576 AL AL;obtain⟨a8,b8,h8⟩:=VF h7 AL (c.Levels.Users.length:Int);obtain⟨⟨a9,b9⟩,h9⟩:=amr c _ (EK h8 AL) AL AL;refine⟨?_,?_,h9⟩
 ·unfold qc;rw[j,Ad,u,Ad,I,Ad,L,Ad,U,Ad,a6,Ad,a7,Ad,a8,Ad];exact a9
 unfold lU;rw[q,Ad,z,Ad,J,Ad,M,Ad,Y,Ad,b6,Ad,b7,Ad,b8,Ad];exact b9
def aH7 {l:A8 BO}(h:∀s∈l,s.size<=2000)(k:l.length<=100):SK l<=200100:=by
 have key:∀l:A8 BO,(∀s∈l,s.size<=2000)->(l.map λs=>s.size).sum<=2000*l.length:=by
  intro l
  induction l with
  |nil=>exact λ_=>F7 _
  |cons s l j=>
   intro h;have h1:=h s (Gt ..);have h2:=j λs hs=>h s (IZ _ hs);rw[Gs,uh,GK];omega
 have :=key l h;unfold SK;omega
def QT.asr {c:D8}(h:QT c):U1 c<=1048576:=by
 have h1:=aH7 h.allows h.allow;have h2:=aH7 h.denies h.deny;have h3:=aH7 (l:=c.Levels.Users.map (·.User)) (by simpa using h.names) (by rw[Df];exact h.users);have j:Vw c.Levels.Users=SK (c.Levels.Users.map (·.User)):=by unfold Vw SK;rw[jP,Df];rfl
 have :=h.kinds;have :=h.text;have :=h.via;unfold U1;omega
def anM {c:D8}(j:QT c):qc c=some (Xc c)/\lU c=some (Xc c)/\(Xc c).length<=90000000:=aUV j.asr
def a7S (e:AQ):A8 Int:=
 []++enc e.Id++JK e.Room++JK e.bQ++enc e.Kind++[bif e.State then 1 else 0]++JK e.Key++enc e.Time++enc e.Depth++RD e.bH++RD e.bJ++JK (TM (Xc e.Content))++enc e.Hash++JK e.rV.Server++enc e.rV.Sum
def aiW (l:A8 Int):(TM l).size=l.length:=by
 have key:∀(l:A8 Int) (r:BO),(l.foldl (λr n=>r.push (UInt8.ofNat n.toNat)) r).size=r.size+l.length:=by
  intro l
  induction l with
  |nil=>intro r;rfl
  |cons x l j=>intro r;rw[Fv,j,ByteArray.size_push,GK];omega
 unfold TM;rw[key];simp
def a5G {body:(Int->S->AB S)->Int->S->AB S}(l:A8 α)(hl:l.length<1000)(f:S->α->AB S)(u:∀k (i:Nat) (h:i<l.length) s,body k (i:Int) s=(f s l[i]).bind λx=>k (Aw ((i:Int)+1)) x)(z:∀k s,body k (l.length:Int) s=some s)(s:S):aQ body Ar 0 s=l.foldlM f s:=by
 have J:Ar=9223372036854775808:=rfl
 have key:∀n (i:Nat) s,i+n=l.length->∀m,n<m->aQ body m (i:Int) s=(l.drop i).foldlM f s:=by
  intro n
  induction n with
  |zero=>
   intro i s hi m hm;obtain⟨m,rfl⟩:∃q,m=q+1:=⟨m-1,AL⟩
   have :i=l.length:=AL
   subst this;rw[PL];exact z _ _
  |succ n I=>
   intro i s hi m hm;obtain⟨m,rfl⟩:∃q,m=q+1:=⟨m-1,AL⟩
   have j:i<l.length:=AL
   rw[NW j,VK];show body (aQ body m) _ _=(f s l[i]).bind _;rw[u _ i j,wrap_succ i AL];congr 1;funext x;exact I (i+1) x AL m AL
 exact key l.length 0 s AL Ar AL
def aSW (w:G5)(l:A8 Int)(hl:l.length<1000):Ul w l=l.foldlM kY w:=by
 unfold Ul aUj;exact a5G l hl _ (λk i h s=>by simp only[aEx,dec_lt h,Bl,CY h,Ad]) (λk s=>by simp only[aEx,Di,BR]) w
def aVk (w:G5)(l:A8 BO)(hl:l.length<1000):Wx w l=l.foldlM pR w:=by
 unfold Wx aWV;exact a5G l hl _ (λk i h s=>by simp only[aCr,dec_lt h,Bl,CY h,Ad]) (λk s=>by simp only[aCr,Di,BR]) w
def ah6 (w:G5)(l:A8 AX)(hl:l.length<1000):a0Y w l=l.foldlM wL w:=by
 unfold a0Y aTl;exact a5G l hl _ (λk i h s=>by simp only[aIo,dec_lt h,Bl,CY h,Ad]) (λk s=>by simp only[aIo,Di,BR]) w
def aYX (w:G5)(l:A8 (A8 Int))(hl:l.length<1000):qw w l=l.foldlM kT w:=by
 unfold qw aUv;exact a5G l hl _ (λk i h s=>by simp only[aI1,dec_lt h,Bl,CY h,Ad]) (λk s=>by simp only[aI1,Di,BR]) w
def aCC {n:Int}(h:Ou b n=some c):kY ⟨b⟩ n=some ⟨c⟩:=by unfold kY;rw[h];rfl
def aIa (h:Tv b n=some c):pR ⟨b⟩ n=some ⟨c⟩:=by unfold pR;rw[h];rfl
def adk {n:AX}(h:Za b n=some c):wL ⟨b⟩ n=some ⟨c⟩:=by unfold wL;rw[h];rfl
def aTx {n:A8 Int}(h:Zf b n=some c):kT ⟨b⟩ n=some ⟨c⟩:=by unfold kT;rw[h];rfl
def aB0 {n:Int}(h:Ou b n=some c):Ul ⟨b⟩ [n]=some ⟨c⟩:=by
 rw[aSW _ _ Bf,VK,aCC h];rfl
def ajA {n:Int}(h:Ou b n=some c)(k:Ou c m=some d):Ul ⟨b⟩ [n,m]=some ⟨d⟩:=by
 rw[aSW _ _ Bf,VK,aCC h];show(kY ⟨c⟩ m).bind _=_;rw[aCC k];rfl
def aKv (h:Tv b n=some c):Wx ⟨b⟩ [n]=some ⟨c⟩:=by
 rw[aVk _ _ Bf,VK,aIa h];rfl
def aXy {m:BO}(h:Tv b n=some c)(k:Tv c m=some d):Wx ⟨b⟩ [n,m]=some ⟨d⟩:=by
 rw[aVk _ _ Bf,VK,aIa h];show(pR ⟨c⟩ m).bind _=_;rw[aIa k];rfl
def aha {n:AX}(h:Za b n=some c):a0Y ⟨b⟩ [n]=some ⟨c⟩:=by
 rw[ah6 _ _ Bf,VK,adk h];rfl
def afH {n m:A8 Int}(h:Zf b n=some c)(k:Zf c m=some d):qw ⟨b⟩ [n,m]=some ⟨d⟩:=by
 rw[aYX _ _ Bf,VK,aTx h];show(kT ⟨c⟩ m).bind _=_;rw[aTx k];rfl
def ajs (j:FH e):rG e=some (a7S e)/\vH e=some (a7S e)/\(a7S e).length<=200000000:=by
 obtain⟨ac,bc,hc⟩:=anM j.content;obtain⟨a1,b1,h1⟩:=VF (b:=[]) (k:=0) (Eb _) AL e.Id;obtain⟨a2,b2,h2⟩:=Xv h1 AL 2000 j.room AL;obtain⟨a3,b3,h3⟩:=Xv h2 AL 2000 j.sender AL;obtain⟨a4,b4,h4⟩:=VF h3 AL e.Kind;obtain⟨a5,b5,h5⟩:=aMw h4 AL e.State;obtain⟨a6,b6,h6⟩:=Xv h5 AL 2000 j.key AL;obtain⟨a7,b7,h7⟩:=VF h6 AL e.Time;obtain⟨a8,b8,h8⟩:=VF h7 AL e.Depth;obtain⟨a9,b9,h9⟩:=aMA h8 AL (EK j.prev AL);obtain⟨q,u,z⟩:=aMA h9 AL (EK j.auth AL);obtain⟨I,J,L⟩:=Xv z AL (s:=TM (Xc e.Content)) 90000000 (by rw[aiW];exact hc) AL;obtain⟨M,O,U⟩:=VF L AL e.Hash;obtain⟨Y,Z,h13⟩:=Xv U AL 2000 j.server AL;obtain⟨a14,b14,h14⟩:=VF h13 AL e.rV.Sum;refine⟨?_,?_,EK h14 AL⟩
 ·unfold rG
  rw[show Ul aJc [e.Id]=_ from aB0 a1,Ad,aXy a2 a3,Ad,aB0 a4,Ad,aha a5,Ad,aKv a6,Ad,ajA a7 a8,Ad,afH a9 q,Ad,
   ac,Ad,aKv I,Ad,aB0 M,Ad,aKv Y,Ad,aB0 a14,Ad]
  rfl
 unfold vH;rw[b1,Ad,b2,Ad,b3,Ad,b4,Ad,b5,Ad,b6,Ad,b7,Ad,b8,Ad,b9,Ad,u,Ad,bc,Ad,J,Ad,O,Ad,Z,Ad,b14,Ad];rfl
end
def a6k (l:A8 Int):Int:=Aw (l.foldl a0q ((IntKind.u64.wrap 860922984064492325).tmod 4611686018427387904))
def aQ6 (hl:l.length<=1000000000):a05 l=some (a6k l):=by
 unfold a05 aJV;rw[Ad];unfold aIc aPY
 rw[aBR _ _ _ _ (.inl rfl),aWa,Ip l AL a0q (λ_ _=>True) (λs=>some (Aw s)) trivial (λk s i h _=>⟨trivial,by
  simp only[aHa,dec_lt h,Bl,CY h,Ad,aBR _ _ _ _ (.inl rfl),aBR _ _ _ _ (.inr (.inr rfl)),alu]⟩) λk s _=>by
  simp only[aHa,Di,BR]]
 rfl
def aMI (hl:l.length<=1000000000):wW l=some (a6k l):=by
 unfold wW;rw[show aBy=some 860922984064492325 from rfl,Ad];unfold aGg aM4
 rw[show X4 (IntKind.u64.wrap 860922984064492325) 4611686018427387904=some ((IntKind.u64.wrap 860922984064492325).tmod 4611686018427387904)from rfl,Ad,Ip l AL a0q (λ_ _=>True) (λs=>some (Aw s)) trivial (λk s i h _=>⟨trivial,by
  have e:X4 (IntKind.u64.wrap ((F8 .xor .u64 s (IntKind.u64.wrap l[i]))*1099511628211)) 4611686018427387904=some (a0q s l[i]):=rfl
  simp only[aE4,dec_lt h,Bl,CY h,Ad,e]⟩) λk s _=>by
  simp only[aE4,Di,BR]]
 rfl
def Oa (k:Int)(c:D8):D8:=
 if k=1 then c else if k=2 then{ Eu with N:=c.N,Via:=c.Via }else if k=3 then{ Eu with Levels:=c.Levels }else if k=4 then{ Eu with N:=c.N,Allow:=c.Allow }else
 if k=5 then{ Eu with N:=c.N }else if k=6 then{ Eu with Allow:=c.Allow,iK:=c.iK }else if k=14 then{ Eu with Target:=c.Target }else Eu
def aUZ {R:Type}(a b:Int)(x y:R):(bif a==b then x else y)=if a=b then x else y:=by
 by_cases h:a=b
 ·subst h;simp
 have :(a==b)=false:=OG
 rw[this,Eh h];rfl
def aTB {R:Type}(p:Prop)[Decidable p](x y:R):(if p then some x else some y)=some (if p then x else y):=by split<;>rfl
def aEA (k:Int)(c:D8):xE k c=some (Oa k c):=by
 unfold xE Oa;simp only[aUZ,aTB]
def a07 {l:A8 BO}(h:l.length<=1048576):UC l=some l:=by
 unfold UC;rw[OX AL aA7];rfl
def aRL {l:Cx}(h1:l.Users.length<=1048576)(h2:l.Kinds.length<=1048576):jA l=some l:=by
 unfold jA;rw[OX AL aA7,Ad,OX AL (by rw[JQ];exact EK h2 AL)];rfl
def aAr (k:Int):Int:=if k=2 then 18 else if k=3 then 128 else if k=4 then 34 else if k=5 then 2 else if k=6 then 96 else if k=14 then 4 else 0
def acw (k:Int):oU k=some (aAr k):=by
 by_cases h2:k=2
 ·subst h2;rfl
 by_cases h3:k=3
 ·subst h3;rfl
 by_cases q:k=4
 ·subst q;rfl
 by_cases u:k=5
 ·subst u;rfl
 by_cases j:k=6
 ·subst j;rfl
 unfold oU l7 aAr;simp only[aUZ,h2,h3,q,u,j,LP,show(k==6)=false from by simpa using j,BR,aTB]
variable {c:D8}
def aXJ (k:Int)(h:U1 c<=1048576):nN k c=some (Oa k c):=by
 unfold U1 SK Vw at h;have q:c.Allow.length<=1048576:=AL
 have J:c.iK.length<=1048576:=AL
 have L:c.Levels.Users.length<=1048576:=AL
 have M:c.Levels.Kinds.length<=1048576:=AL
 by_cases h1:k=1
 ·subst h1;show(UC c.Allow).bind (λO=>(UC c.iK).bind λU=>(jA c.Levels).bind λY=>some ({ { { c with Allow:=O }with iK:=U }with Levels:=Y }))=_;rw[a07 q,Ad,a07 J,Ad,aRL L M];rfl
 unfold nN;rw[show(k==1)=false from by simpa using h1,BR,acw,Ad];by_cases h2:k=2
 ·subst h2;rfl
 by_cases h3:k=3
 ·subst h3;show(jA c.Levels).bind (λx=>some { Eu with Levels:=x })=_;rw[aRL L M];rfl
 by_cases u:k=4
 ·subst u;show(UC c.Allow).bind (λx=>some { Eu with N:=c.N,Allow:=x })=_;rw[a07 q];rfl
 by_cases z:k=5
 ·subst z;rfl
 by_cases I:k=6
 ·subst I;show(UC c.Allow).bind (λx=>(UC c.iK).bind λy=>some { Eu with Allow:=x,iK:=y })=_;rw[a07 q,Ad,a07 J];rfl
 by_cases j:k=14
 ·subst j;rfl
 have Z:aAr k=0:=by unfold aAr;simp only[h2,h3,u,z,I,j,LP]
 have e2:Oa k c=Eu:=by unfold Oa;simp only[h1,h2,h3,u,z,I,j,LP]
 rw[Z,e2];rfl
def aRj (k:Int)(j:QT c):nN k c=some (Oa k c):=aXJ k j.asr
def QT.strip (h:QT c)(k:Int):QT (Oa k c):=by
 have j:(0:Nat)<=2000:=AL
 unfold Oa
 repeat' split
 all_goals first|exact h|exact⟨by simp[Eu,KU,h.allow],by simp[Eu,KU,h.deny],by simp[Eu,KU,h.users],by simp[Eu,KU,h.kinds],by first|exact h.text|exact j,by first|exact h.via|exact j,by first|exact h.allows|simp[Eu],by first|exact h.denies|simp[Eu],by first|exact h.names|simp[Eu,KU]⟩
def SE (e:AQ):AQ:={ e with Content:=Oa e.Kind e.Content }
def Wh (e:AQ):Prop:=FH { e with rV:=iM }
def Wh.content {e:AQ}(h:Wh e):QT e.Content:=FH.content (e:={ e with rV:=iM }) h
def FH.x (h:FH e):Wh e:=⟨h.prev,h.auth,h.allow,h.deny,h.users,h.kinds,h.room,h.sender,h.key,h.text,h.via,F7 _,h.allows,h.denies,h.names⟩
def af4 (j:Wh e):fM e=some (SE e)/\XJ e=some (SE e):=by
 unfold fM XJ;rw[aRj _ j.content,aEA];exact⟨rfl,rfl⟩
def XL (e:AQ):Int:=a6k (Xc e.Content)
def aAY (e:AQ):AQ:={ { SE e with Id:=0 }with rV:=iM }
def aUW (e:AQ):Int:=a6k (a7S (aAY e))
def Wh.bare (h:Wh e):FH (aAY e):=by
 have j:=h.content.strip e.Kind;exact⟨h.prev,h.auth,j.allow,j.deny,j.users,j.kinds,h.room,h.sender,h.key,j.text,j.via,by show(0:Nat)<=2000;omega,j.allows,j.denies,j.names⟩
def aa9 (h:U1 e.Content<=1048576):xH e=some (XL e)/\a2W e=some (XL e):=by
 obtain⟨a,b,hl⟩:=aUV h;unfold xH a2W;rw[a,b,Ad,Ad,aQ6 AL,aMI AL];exact⟨rfl,rfl⟩
def a3p (h:U1 e.Content<=1048576):TB e=some (XL e==e.Hash)/\UW e=some (XL e==e.Hash):=by
 obtain⟨a,b⟩:=aa9 h;unfold TB UW;rw[a,b];exact⟨rfl,rfl⟩
def aOK (j:Wh e):zy e=some (aUW e)/\a1I e=some (aUW e):=by
 obtain⟨a,b⟩:=af4 j;obtain⟨c,d,h⟩:=ajs j.bare;unfold zy a1I;rw[a,b,Ad,Ad];show(rG (aAY e)).bind _=_/\(vH (aAY e)).bind _=_;rw[c,d,Ad,Ad,aQ6 AL,aMI AL];exact⟨rfl,rfl⟩
def Sm (s:BO):Int:=bif IG s 64 then 0 else 3
def SS (s:BO):Int:=bif IG s 33 then 0 else 3
def YT (hs:s.size<=9223372036854775807):iY s=some (Sm s)/\YO s=some (Sm s):=by
 unfold iY yA YO Sm;rw[aCw hs (marks:=a7P) (by rw[show DR a7P=[64]from rfl];intro m hm;simp only[FP,G7,or_false]at hm;omega),aBe hs Bj,show((DR a7P).any λm=>IG s m)=(IG s 64||false)from rfl];cases IG s 64<;>exact⟨rfl,rfl⟩
def qU (hs:s.size<=9223372036854775807):eP s=some (SS s)/\iJ s=some (SS s):=by
 unfold eP yA iJ SS;rw[aCw hs (marks:=a5q) (by rw[show DR a5q=[33]from rfl];intro m hm;simp only[FP,G7,or_false]at hm;omega),aBe hs Bj,show((DR a5q).any λm=>IG s m)=(IG s 33||false)from rfl];cases IG s 33<;>exact⟨rfl,rfl⟩
def aXn (h:XK l=true):(58:Int)∉l:=by
 intro hm;unfold XK Sj at h;simp only[Dj,FQ]at h;have :=h.2 58 hm;exact absurd this Bj
def aki (s:BO)(hs:s.size<=2000):(splitB s (LU s)).1.size<=2000/\(58:Int)∉DR (splitB s (LU s)).1/\(splitB s (LU s)).2.1.size<=2000:=by
 have q:Ce.size<=2000:=Bj
 cases h:LU s with
 |false=>exact⟨q,by show(58:Int)∉DR Ce;decide,q⟩
 |true=>
  have j:Vm s=true:=by
   unfold LU IG at h;cases j:Vm s with
   |true=>rfl
   |false=>rw[j]at h;simp at h
  refine⟨EK (extract_size _ _ _) hs,aXn ?_,EK (extract_size _ _ _) hs⟩;unfold Vm at j;simp only[Dj]at j;exact j.1.2
def any_false (l:A8 α):(l.any λ_=>false)=false:=Bf
def aEn {body:(Int->AB AX)->Int->AB AX}(l:A8 α)(hl:l.length<=1000)(rest:AB AX)(j:∀k (i:Nat) (h:i<l.length),body k (i:Int)=k (Aw ((i:Int)+1)))(q:∀k,body k (l.length:Int)=rest):bC body Ar 0=rest:=by
 rw[Hq l (aF4 AL) (λ_=>false) false rest (λk i h=>by rw[j k i h];rfl) q,any_false];rfl
def agx {l:A8 BO}(h:l.length<=1000):XW l l=some true:=by
 unfold XW aIu;rw[show((l.length:Int) != (l.length:Int))=false from by simp,BR];exact aEn l h _ (λk i h=>by simp only[a0Z,dec_lt h,Bl,CY h,Ad,VJ,FU,BR]) (λk=>by simp only[a0Z,Di,BR])
structure KQ (c:D8):Prop where
 allow:c.Allow.length<=9223372036854775807
 deny:c.iK.length<=9223372036854775807
 users:c.Levels.Users.length<=9223372036854775807
 kinds:c.Levels.Kinds.length<=9223372036854775807
 text:c.Text.size<=9223372036854775807
 via:c.Via.size<=9223372036854775807
 allows:∀x∈c.Allow,x.size<=9223372036854775807
 denies:∀x∈c.iK,x.size<=9223372036854775807
 names:∀x∈c.Levels.Users,x.User.size<=9223372036854775807
structure LM (e:AQ):Prop where
 prev:e.bH.length<=9223372036854775807
 auth:e.bJ.length<=9223372036854775807
 room:e.Room.size<=9223372036854775807
 sender:e.bQ.size<=9223372036854775807
 key:e.Key.size<=9223372036854775807
 server:e.rV.Server.size<=9223372036854775807
 content:KQ e.Content
def QT.wide (h:QT c):KQ c:=by
 obtain⟨I,J,L,M,O,U,q,u,z⟩:=h;exact⟨AL,AL,AL,AL,AL,AL,λx j=>by have :=q x j;omega,λx j=>by have :=u x j;omega,λx j=>by have :=z x j;omega⟩
def FH.wide {e:AQ}(h:FH e):LM e:=by
 have h1:=h.prev;have h2:=h.auth;have h3:=h.room;have j:=h.sender;have q:=h.key;have u:=h.server;exact⟨AL,AL,AL,AL,AL,AL,h.content.wide⟩
def a5e (k:Int):xg k=some (decide (k>=1)&&(k<=14))/\qp k=some (decide (k>=1)&&(k<=14)):=by
 unfold xg qp
 grind
def TT (n:Int):AX:=decide (n< -1000)||(n>1000)
def a3K (n:Int):oh n=some (TT n)/\TR n=some (TT n):=by
 unfold oh TR TT
 grind
def RS (c:Int):AX:=decide (c<33)||(c>126)
def a4U (s:BO):(s.toList==Ce.toList)=((s.size:Int)==0):=by
 rw[Ja];by_cases h:s=Ce
 ·subst h;rfl
 have :¬s.size=0:=λj=>h (bytes_inj (by
  have h1:DR s=[]:=Ho (by rw[JD];exact j)
  rw[h1];rfl))
 grind
def aBm (s:BO):Int:=if s.size=0 then 9 else if s.size>64 then 7 else bif (DR s).any RS then 3 else 0
def aFQ (hs:s.size<=9223372036854775807):vS s=some (aBm s)/\mM s=some (aBm s):=by
 have j:aED s 0=some (bif (DR s).any RS then 3 else 0):=by
  unfold aED;rw[Hq (DR s) Yx RS 3 (some 0) (λk i h=>?_) (λk=>?_),Lr]
  ·have h':i<s.size:=XT
   simp only[aKw,dec_lt h',Bl,Vu h,Ad,RS]
   grind
  simp only[aKw,JD,Di,BR]
 have q:aFA s 0=some (bif (DR s).any RS then 3 else 0):=by
  unfold aFA;rw[Hq (DR s) Yx RS 3 (some 0) (λk i h=>?_) (λk=>?_),Lr]
  ·have h':i<s.size:=XT
   simp only[aJO,dec_lt h',Bl,Vu h,Ad,RS]
   grind
  simp only[aJO,JD,Di,BR]
 unfold vS mM aBm;rw[a4U,j,q]
 grind
def a0j (s:BO):AX:=decide ((s.size:Int)>=1)&&((s.size:Int)<=32)&& !(DR s).any RS
def aj1 (hs:s.size<=9223372036854775807):a5F s=some (a0j s):=by
 unfold a5F aQJ;rw[Hq (DR s) Yx RS false (some (decide ((s.size:Int)>=1)&&((s.size:Int)<=32))) (λk i h=>?_) (λk=>?_)]
 ·unfold a0j
  grind
 ·have h':i<s.size:=XT
  simp only[aJ4,dec_lt h',Bl,Vu h,Ad,RS]
  grind
 simp only[aJ4,JD,Di,BR]
 grind
def Vf (k:Int)(s:BO):AX:=if k=2 then Sm s==0 else if k=9 then a0j s else true
variable {k:Int}
def aTf (hs:s.size<=9223372036854775807):a2c k s=some (Vf k s):=by
 have q:aJX s 0=some (bif (DR s).any RS then false else true):=by
  unfold aJX;rw[Hq (DR s) Yx RS false (some true) (λk i h=>?_) (λk=>?_),Lr]
  ·have h':i<s.size:=XT
   simp only[aCx,dec_lt h',Bl,Vu h,Ad,RS]
   grind
  simp only[aCx,JD,Di,BR]
 unfold a2c Vf;rw[(YT hs).2,q];by_cases h2:k=2
 ·subst h2;rfl
 rw[show(k==2)=false from by simpa using h2,Eh h2,BR];by_cases j:k=9
 ·subst j;unfold a0j
  grind
 rw[show(k != 9)=true from by simpa using j,Eh j];rfl
def adq (j:LM e):a2H e=some (SS e.Room==0&&Sm e.bQ==0&&Vf e.Kind e.Key):=by
 have h1:=j.room;have h2:=j.sender;have h3:=j.key;unfold a2H Vf;rw[(qU AL).1,(YT (s:=e.bQ) AL).1,(YT (s:=e.Key) AL).1,aj1 AL];simp only[Ad,bne];cases SS e.Room==0 with
 |false=>rfl
 |true=>
  cases Sm e.bQ==0 with
  |false=>rfl
  |true=>
   by_cases k2:e.Kind=2
   ·rw[k2];rfl
   by_cases q:e.Kind=9
   ·rw[q];rfl
   rw[show(e.Kind==2)=false from by simpa using k2,show(e.Kind==9)=false from by simpa using q,Eh k2,Eh q];rfl
def EJ {R:Type}(x y:AB R):Prop:=∃r,x=some r/\y=some r
section
variable {A R:Type}
def EJ.ret (r:R):EJ (some r) (some r):=⟨r,rfl,rfl⟩
def EJ.bind {a b:AB A}{f g:A->AB R}(h:EJ a b)(k:∀x,EJ (f x) (g x)):EJ (a.bind f) (b.bind g):=by
 obtain⟨x,rfl,rfl⟩:=h;exact k x
def EJ.bif {c:AX}{x y j q:AB R}(h1:c=true->EJ x j)(h2:c=false->EJ y q):EJ (bif c then x else y) (bif c then j else q):=by
 grind
def Ih:=@EJ.bif
def EJ.loop {f g:(Int->AB R)->Int->AB R}(n:Nat)(u:n<=9223372036854775807)(hs:∀k k' (i:Nat),i<n->EJ (k ((i+1:Nat):Int)) (k' ((i+1:Nat):Int))->EJ (f k (i:Int)) (g k' (i:Int)))(j:∀k k',EJ (f k (n:Int)) (g k' (n:Int))):EJ (bC f Ar 0) (bC g Ar 0):=by
 have z:Ar=9223372036854775808:=rfl
 have key:∀m (i:Nat),i+m=n->∀a,m<a->EJ (bC f a (i:Int)) (bC g a (i:Int)):=by
  intro m
  induction m with
  |zero=>
   intro i hi a ha;obtain⟨a,rfl⟩:∃a',a=a'+1:=⟨a-1,AL⟩
   have :i=n:=AL
   subst this;exact j _ _
  |succ m q=>
   intro i hi a ha;obtain⟨a,rfl⟩:∃a',a=a'+1:=⟨a-1,AL⟩
   exact hs _ _ i AL (q (i+1) AL a AL)
 exact key n 0 AL Ar AL
end
def a0O (h:i<=9223372036854775806):Aw ((i:Int)+1)=((i+1:Nat):Int):=wrap_succ i AL
def sW {l:A8 α}(h:i<l.length)(hl:l.length<=9223372036854775807)(j:decide ((i:Int)>0)=true):Aq l (Aw ((i:Int)-1))=some (l[i-1]' AL):=by
 have j:0<i:=Vp
 rw[OY AL AL,show(i:Int)-1=((i-1:Nat):Int) by omega];exact CY AL
def aUC (hl:l.length<=9223372036854775807):EJ (tZ l) (eL l):=by
 unfold tZ aVG eL aDv;refine EJ.loop l.length hl (λk k' i h j=>?_) (λk k'=>?_)
 ·simp only[aCl,aAP,gB,dec_lt h,Bl,CY h,Ad,a0O (show i<=9223372036854775806 by omega)];cases decide (l[i]<0)with
  |true=>exact .ret _
  |false=>
   simp only[BR];cases q:decide ((i:Int)>0)with
   |true=>
    simp only[Bl,sW h hl q,Ad,ge_iff_le];cases decide (l[i]<=l[i-1])with
    |true=>exact .ret _
    |false=>exact j
   |false=>exact j
 simp only[aCl,aAP,Di,BR];exact .ret _
def aNJ {l:A8 BO}(hl:l.length<=9223372036854775807)(hs:∀s∈l,s.size<=9223372036854775807):EJ (XA l) (U6 l):=by
 unfold XA U6;refine Ih (λ_=>.ret _) λ_=>?_;unfold aTT aCL;refine EJ.loop l.length hl (λk k' i h j=>?_) (λk k'=>?_)
 ·obtain⟨q,u⟩:=aFQ (s:=l[i]) (by have :=hs _ (EY h);omega);simp only[aCb,a0h,dec_lt h,Bl,CY h,Ad,q,u,a0O (show i<=9223372036854775806 by omega)];exact Ih (λ_=>.ret _) λ_=>j
 simp only[aCb,a0h,Di,BR];exact .ret _
def acL (j:KQ c):EJ (Y0 4 c) (eY c):=by
 have hl:=j.allow;unfold Y0 eY;rw[show((4:Int)==6)=false from rfl,BR];refine EJ.bind (Ih (λ_=>.ret _) λ_=>.ret _) λx=>Ih (λ_=>.ret _) λ_=>Ih (λ_=>.ret _) λ_=>?_;unfold aWM aUG;refine EJ.loop c.Allow.length AL (λk k' i h q=>?_) (λk k'=>?_)
 ·obtain⟨u,z⟩:=qU (s:=c.Allow[i]) (by have :=j.allows _ (EY h);omega);simp only[aHF,a6B,Src,dec_lt h,Bl,CY h,Ad,u,z,a0O (show i<=9223372036854775806 by omega)];refine Ih (λ_=>.ret _) λ_=>?_;cases I:decide ((i:Int)>0)with
  |true=>
   simp only[Bl,sW h (show c.Allow.length<=9223372036854775807 by omega) I,Ad];exact Ih (λ_=>.ret _) λ_=>q
  |false=>exact q
 simp only[aHF,a6B,Di,BR];exact .ret _
def abg {l:A8 IQ}(hl:l.length<=9223372036854775807)(hs:∀u∈l,u.User.size<=9223372036854775807):EJ (a6c l) (ZR l):=by
 unfold a6c ZR;refine Ih (λ_=>.ret _) λ_=>?_;unfold aPv aLU;refine EJ.loop l.length hl (λk k' i h j=>?_) (λk k'=>?_)
 ·obtain⟨q,z⟩:=YT (s:=l[i].User) (by have :=hs _ (EY h);omega);obtain⟨I,J⟩:=a3K l[i].N;simp only[aGU,a0d,aB2,oQ,dec_lt h,Bl,CY h,Ad,q,z,I,J,a0O (show i<=9223372036854775806 by omega)];refine Ih (λ_=>.ret _) λ_=>?_;cases L:decide ((i:Int)>0)with
  |true=>
   simp only[Bl,sW h hl L,Ad];exact Ih (λ_=>.ret _) λ_=>Ih (λ_=>.ret _) λ_=>j
  |false=>
   simp only[BR];exact Ih (λ_=>.ret _) λ_=>j
 simp only[aGU,a0d,Di,BR];exact .ret _
def amW {l:A8 Jr}(hl:l.length<=9223372036854775807):EJ (a4z l) (ZB l):=by
 unfold a4z ZB;refine Ih (λ_=>.ret _) λ_=>?_;unfold aTG aCm;refine EJ.loop l.length hl (λk k' i h j=>?_) (λk k'=>?_)
 ·obtain⟨q,u⟩:=a5e l[i].Kind;obtain⟨z,I⟩:=a3K l[i].N;simp only[aDO,a6e,a6O,a3B,dec_lt h,Bl,CY h,Ad,q,u,z,I,a0O (show i<=9223372036854775806 by omega)];refine Ih (λ_=>.ret _) λ_=>?_;cases J:decide ((i:Int)>0)with
  |true=>
   simp only[Bl,sW h hl J,Ad];exact Ih (λ_=>.ret _) λ_=>Ih (λ_=>.ret _) λ_=>j
  |false=>
   simp only[BR];exact Ih (λ_=>.ret _) λ_=>j
 simp only[aDO,a6e,Di,BR];exact .ret _
def agO {l:Cx}(h1:l.Users.length<=9223372036854775807)(h2:l.Kinds.length<=9223372036854775807)(h3:∀u∈l.Users,u.User.size<=9223372036854775807):EJ (jM l) (aK l):=by
 have j:aKC l 0=some (bif (Kv l).any TT then 2 else 0):=by
  unfold aKC;rw[Hq (Kv l) (by have :Ar=9223372036854775808:=rfl;simp[Kv,this]) TT 2 (some 0) (λk i h=>?_) (λk=>rfl),Lr];have z:i<7:=h;have q:Aq ([l.User,l.Message,l.State,l.gW,l.kS,l.oN,l.iq]:A8 Int) (i:Int)=some ((Kv l)[i]'(h)):=CY h;simp only[aS6,show decide ((i:Int)<7)=true from by simp;omega,Bl,q,Ad,(a3K _).1]
 unfold jM aK;refine EJ.bind (abg AL h3) λx=>Ih (λ_=>.ret _) λ_=>EJ.bind (amW AL) λy=>Ih (λ_=>.ret _) λ_=>?_;rw[j];simp only[(a3K _).2,Ad,Kv,List.any_cons,List.any_nil];cases TT l.User<;>cases TT l.Message<;>cases TT l.State<;>cases TT l.gW<;>cases TT l.kS<;>cases TT l.oN<;>cases TT l.iq<;>exact .ret _
def Ud {l:A8 α}(h:((l.length:Int)==0)=true):l=[]:=Ho aLA
def Ob (l:Cx):AX:=((l.Users.length:Int)==0)&&((l.Kinds.length:Int)==0)&&(l.User==0)&&(l.Message==0)&&(l.State==0)&&(l.gW==0)&&(l.kS==0)&&(l.oN==0)&&(l.iq==0)
def bare_eq (l:Cx):a3A l=some (Ob l):=by
 unfold a3A Ob
 grind
def aQ9 (l:Cx):dD l KU=some (Ob l):=by
 unfold dD Ob;show(bif ((l.Users.length:Int) != 0)then some true else some ((l.Kinds.length:Int) != 0)).bind _=_;simp only[bne];cases u:((l.Users.length:Int)==0)with
 |false=>rfl
 |true=>
  cases z:((l.Kinds.length:Int)==0)with
  |false=>rfl
  |true=>
   have j:=Ud u;have q:=Ud z
   have h3:qE l KU 0=some ((l.User==0)&&(l.Message==0)&&(l.State==0)&&(l.gW==0)&&(l.kS==0)&&(l.oN==0)&&(l.iq==0)):=by
    unfold qE;refine aEn l.Kinds (by rw[q];simp) _ (λk i h=>by rw[q]at h;simp at h) (λk=>?_);simp only[a8c,Di,BR,Lr,Ad,SV];rfl
   have h1:aAU l KU 0=some ((l.User==0)&&(l.Message==0)&&(l.State==0)&&(l.gW==0)&&(l.kS==0)&&(l.oN==0)&&(l.iq==0)):=by
    unfold aAU;refine aEn l.Users (by rw[j];simp) _ (λk i h=>by rw[j]at h;simp at h) (λk=>?_);simp only[a6W,Di,BR];exact h3
   simp only[FU,BR,Ad,h1,GX]
def aez (l:Cx):a5D l=some (Ob l):=by
 unfold a5D;rw[aQ9];rfl
def akj (l:A8 BO):XW l []=some ((l.length:Int)==0):=by
 cases h:((l.length:Int)==0)with
 |true=>rw[Ud h];exact agx (l:=[]) Bf
 |false=>
  unfold XW;show(bif ((l.length:Int) != 0)then some false else _)=_;simp only[bne,h,Jl,Bl]
def kM (a0 j q u z I J L:AX):AX:=a0&&j&&q&&u&&z&&I&&J&&L
def aN4 (c:D8):XO c Eu=some (kM (c.Text.toList==Ce.toList) (c.N==0) (c.Target==0) (!c.Thread) (c.Via.toList==Ce.toList) ((c.Allow.length:Int)==0) ((c.iK.length:Int)==0) (Ob c.Levels)):=by
 unfold XO kM;show(bif c.Text.toList==Ce.toList then some (c.N==0)else some false).bind _=_;simp only[show Eu.Allow=[]from rfl,show Eu.iK=[]from rfl,show Eu.Levels=KU from rfl,show Eu.Target=0 from rfl,show Eu.Thread=false from rfl,show Eu.Via=Ce from rfl,akj,aQ9,Lr,Ad,SV];congr 1
 grind
def a1Y (a0 j q u z I J L:AX):Int:=
 let v:=bif !a0 then F8 .or .i64 0 1 else 0
 let v:=bif !j then F8 .or .i64 v 2 else v
 let v:=bif !q then F8 .or .i64 v 4 else v
 let v:=bif !u then F8 .or .i64 v 8 else v
 let v:=bif !z then F8 .or .i64 v 16 else v
 let v:=bif !I then F8 .or .i64 v 32 else v
 let v:=bif !J then F8 .or .i64 v 64 else v
 bif !L then F8 .or .i64 v 128 else v
def pos_eq (l:A8 α):decide ((l.length:Int)>0)= !((l.length:Int)==0):=by
 grind
def aee (c:D8):zH c=some (a1Y (c.Text.toList==Ce.toList) (c.N==0) (c.Target==0) (!c.Thread) (c.Via.toList==Ce.toList) ((c.Allow.length:Int)==0) ((c.iK.length:Int)==0) (Ob c.Levels)):=by
 unfold zH a5z a7K a3f a7f a4H a0z a3F a5x a1Y;rw[bare_eq,pos_eq,pos_eq];simp only[Ad,bne,yj];generalize(c.Text.toList==Ce.toList)=j;generalize(c.N==0)=q;generalize(c.Target==0)=u;generalize c.Thread=z;generalize(c.Via.toList==Ce.toList)=I;generalize((c.Allow.length:Int)==0)=J;generalize((c.iK.length:Int)==0)=L;generalize Ob c.Levels=M;cases j<;>cases q<;>cases u<;>cases z<;>cases I<;>cases J<;>cases L<;>cases M<;>rfl
def aYG :∀a0 j q u z I J L:AX,(a1Y a0 j q u z I J L==0)=kM a0 j q u z I J L:=OB
def N8 (j q u z I J L M a0 O U Y Z a5 a6 a7:AX):AX:=(a0||j)&&(O||q)&&(U||u)&&(Y||z)&&(Z||I)&&(a5||J)&&(a6||L)&&(a7||M)
variable {I J L q u z:AX}{K:Int}
def aM2 {M:AX}(O:D5 K Jg=some j)(h1:D5 K KO=some q)(h2:D5 K KG=some u)(h3:D5 K Nk=some z)(U:D5 K NS=some I)(Y:D5 K ML=some J)(Z:D5 K Nr=some L)(h7:D5 K NY=some M):gJ K c=some (N8 j q u z I J L M (c.Text.toList==Ce.toList) (c.N==0) (c.Target==0) (!c.Thread) (c.Via.toList==Ce.toList) ((c.Allow.length:Int)==0) ((c.iK.length:Int)==0) (Ob c.Levels)):=by
 unfold gJ N8;simp only[O,h1,h2,h3,U,Y,Z,h7,aez,Lr,Ad,oW,SV]
def IE (x r:AB Int):AB Int:=x.bind λv=>bif v != 0 then some v else r
variable {r:AB Int}
def Ey {x:AB Int}(h:x=some 0):IE x r=r:=by rw[h];rfl
def Nu {x y s:AB Int}(h:EJ x y)(k:EJ r s):EJ (IE x r) (IE y s):=EJ.bind h λ_=>Ih (λ_=>.ret _) λ_=>k
def a5E (x:AB Int):IE x (some 0)=x:=by
 cases x with
 |none=>rfl
 |some v=>
  show(bif v != 0 then some v else some 0)=some v;by_cases h:v=0
  ·subst h;rfl
  rw[show(v != 0)=true from by simpa using h];rfl
def aFG (x:AB A):(x.bind λv=>some v)=x:=by cases x<;>rfl
def Ot (K:Int)(c:D8):AB Int:=IE (ZX K c) (IE (Oq K c.N) (IE (Xi K c) (IE (aA c) (bif K==4 then eY c else IE (U6 c.Allow) (IE (U6 c.iK) (aK c.Levels))))))
def frame {M kp:Int}{br:AX}{O U:AX}(hU:lJ K=some M)(hk:(decide (K>=1)&&(K<=14))=true)(Y:oU K=some kp)(hb:a4b K=some br)(h0:D5 K Jg=some q)(h1:D5 K KO=some u)(h2:D5 K KG=some z)(h3:D5 K Nk=some I)(h4:D5 K NS=some J)(h5:D5 K ML=some L)(h6:D5 K Nr=some O)(h7:D5 K NY=some U)(hM:∀a0 a1 a2 a3 a4 a5 a6 a7:AX,(F8 .andNot .i64 (a1Y a0 a1 a2 a3 a4 a5 a6 a7) M != 0)= !N8 q u z I J L O U a0 a1 a2 a3 a4 a5 a6 a7)(hbr:(br=true->kp=0))(hA:kp=0->br=false->Na M K 0 c=some 0)(j:N8 q u z I J L O U (c.Text.toList==Ce.toList) (c.N==0) (c.Target==0) (!c.Thread) (c.Via.toList==Ce.toList) ((c.Allow.length:Int)==0) ((c.iK.length:Int)==0) (Ob c.Levels)=true->EJ (Na M K 0 c) (Ot K c)):EJ (Md K c) (KI K c):=by
 have ht:KI K c=(qp K).bind λx1=>(bif (!x1)then some true else(gJ K c).bind λx4=>some (!x4)).bind λx2=>(bif x2 then some 1 else(a4b K).bind λx6=>(bif x6 then(XO c Eu).bind λx9=>some x9 else some false).bind λx7=>(bif x7 then some 0 else Ot K c)):=by
  unfold KI Ot IE;simp only[aFG]
 rw[ht];unfold Md;obtain⟨Z,k2⟩:=a5e K;rw[hk]at Z k2;rw[hU,Z,k2,aee,Y,hb,aM2 h0 h1 h2 h3 h4 h5 h6 h7,aN4];simp only[Ad,FU,BR,hM,aYG];cases ho:N8 q u z I J L O U (c.Text.toList==Ce.toList) (c.N==0) (c.Target==0) (!c.Thread) (c.Via.toList==Ce.toList) ((c.Allow.length:Int)==0) ((c.iK.length:Int)==0) (Ob c.Levels)with
 |false=>
  exact .ret _
 |true=>
  simp only[FU,BR];have j:=j ho;cases ha:kM (c.Text.toList==Ce.toList) (c.N==0) (c.Target==0) (!c.Thread) (c.Via.toList==Ce.toList) ((c.Allow.length:Int)==0) ((c.iK.length:Int)==0) (Ob c.Levels)with
  |false=>
   simp only[BR,Ad];cases br<;>exact j
  |true=>
   simp only[Bl,Ad];cases hz:kp==0 with
   |false=>
    cases br with
    |false=>
     exact j
    |true=>
     grind
   |true=>
    cases br with
    |true=>
     exact .ret _
    |false=>
     have e:=hA (eq_of_beq hz) rfl;rw[e]at j;exact j
def U8 (M b:Int)(x r:AB Int):AB Int:=bif F8 .and .i64 M b==0 then r else IE x r
def dZ {B R:Type}(body:(S->B->AB R)->S->B->AB R)(n:Nat)(a:S)(b:B):aQ body (n+1) a b=body (aQ body n) a b:=rfl
def ahP (M K:Int)(c:D8):Na M K 0 c=U8 M 1 (Ry K c) (U8 M 2 (PZ K c) (U8 M 4 (TJ K c) (U8 M 8 (jI K c) (U8 M 16 (iE K c) (U8 M 32 (Y0 K c)
 (bif F8 .and .i64 M 64 != 0 then XA c.iK else bif F8 .and .i64 M 128 != 0 then jM c.Levels else some 0)))))):=by
 have j:Ar=9223372036854775801+1+1+1+1+1+1+1:=rfl;have q:∀k,ZO M K k 0 c=U8 M 1 (Ry K c) (k 1 c):=λk=>rfl;have u:∀k,ZO M K k 1 c=U8 M 2 (PZ K c) (k 2 c):=λk=>rfl;have z:∀k,ZO M K k 2 c=U8 M 4 (TJ K c) (k 3 c):=λk=>rfl;have I:∀k,ZO M K k 3 c=U8 M 8 (jI K c) (k 4 c):=λk=>rfl;have J:∀k,ZO M K k 4 c=U8 M 16 (iE K c) (k 5 c):=λk=>rfl;have L:∀k,ZO M K k 5 c=U8 M 32 (Y0 K c) (k 6 c):=λk=>rfl;have O:∀k,ZO M K k 6 c=(bif F8 .and .i64 M 64 != 0 then(XA c.iK).bind λx=>some x else bif F8 .and .i64 M 128 != 0 then(jM c.Levels).bind λx=>some x else some 0):=λk=>rfl;unfold Na;rw[j,dZ,q,dZ,u,dZ,z,dZ,I,dZ,J,dZ,L,dZ,O,aFG,aFG]
section
variable {c:D8} {K:Int}
def text0 (h:(c.Text.toList==Ce.toList)=true)(j:K≠12):ZX K c=some 0:=by
 have q:(c.Text.size:Int)=0:=by rw[a4U]at h;exact eq_of_beq h
 unfold ZX
 grind
def Vt (h:D5 K KG=some false)(h3:(!c.Thread)=true):Xi K c=some 0:=by
 unfold Xi
 grind
def Rw (h:(c.Via.toList==Ce.toList)=true):aA c=some 0:=by unfold aA;rw[h];rfl
def Kq {l:A8 BO}(h:((l.length:Int)==0)=true):U6 l=some 0:=by
 rw[Ud h];unfold U6 aCL;show bC (a0h []) Ar 0=some 0;rw[Hq ([]:A8 BO) Bj (λ_=>false) 0 (some 0) (λk i h=>JB) (λk=>rfl)];rfl
def TN {l:Cx}(h:Ob l=true):aK l=some 0:=by
 unfold Ob at h;simp only[Dj]at h;obtain⟨⟨⟨⟨⟨⟨⟨⟨h1,h2⟩,h3⟩,j⟩,q⟩,u⟩,z⟩,I⟩,J⟩:=h
 have L:ZR []=some 0:=by
  unfold ZR aLU;show bC (a0d []) Ar 0=some 0;rw[Hq ([]:A8 BO) Bj (λ_=>false) 0 (some 0) (λk i h=>JB) (λk=>rfl)];rfl
 have M:ZB []=some 0:=by
  unfold ZB aCm;show bC (a6e []) Ar 0=some 0;rw[Hq ([]:A8 BO) Bj (λ_=>false) 0 (some 0) (λk i h=>JB) (λk=>rfl)];rfl
 unfold aK;rw[Ud h1,Ud h2,L,M,eq_of_beq h3,eq_of_beq j,eq_of_beq q,eq_of_beq u,eq_of_beq z,eq_of_beq I,eq_of_beq J];rfl
def dz (q:KQ c):EJ (Ry K c) (ZX K c):=by
 have h1:=q.text;obtain⟨u,z⟩:=aFQ (s:=c.Text) AL;unfold Ry a4E ZX;rw[u,z];have e:=a4U c.Text;by_cases j:K=9
 ·subst j;cases h:(c.Text.toList==Ce.toList)with
  |false=>exact .ret _
  |true=>
   have I:(c.Text.size:Int)=0:=by rw[e]at h;exact eq_of_beq h
   rw[I];exact .ret _
 rw[show(K==9)=false from by simpa using j];cases K==12<;>cases(c.Text.toList==Ce.toList)<;>cases decide ((c.Text.size:Int)>32)<;>cases decide ((c.Text.size:Int)>400)<;>exact .ret _
def amw (j:KQ c):EJ (iE K c) (aA c):=by
 have h1:=j.via;obtain⟨q,u⟩:=YT (s:=c.Via) AL;unfold iE aA;rw[q,u];exact Ih (λ_=>.ret _) λ_=>Ih (λ_=>.ret _) λ_=>.ret _
def aFz (h:D5 K KG=some true)(h3:(!c.Thread)=true):EJ (TJ K c) (Xi K c):=by
 unfold TJ Xi;rw[h,show c.Thread=false from by simpa using h3];cases decide (c.Target<0)<;>cases c.Target==0<;>cases K != 11<;>exact .ret _
def amO (h:D5 K KG=some true):EJ (IE (TJ K c) (jI K c)) (Xi K c):=by
 unfold TJ jI Xi IE;rw[h];cases decide (c.Target<0)<;>cases c.Target==0<;>cases K != 11<;>cases c.Thread<;>exact .ret _
def ahY (j:KQ c):EJ (Y0 6 c) (U6 c.Allow):=by
 have h1:=j.allow;have :=aNJ (l:=c.Allow) AL j.allows;show EJ ((XA c.Allow).bind λx=>some x) _
 grind
end
def uF (a b:Int):decide (a>=b)= !decide (a<b):=by by_cases h:a<b<;>simp[h]<;>omega
def Mid (a b:Int):decide (a<=b)= !decide (a>b):=by by_cases h:a>b<;>simp[h]<;>omega
def afn (hc:KQ c):EJ (Md 1 c) (KI 1 c):=by
 have q:D5 1 Jg=some false:=AA
 have h1:D5 1 KO=some false:=AA
 have h2:D5 1 KG=some false:=AA
 have h3:D5 1 Nk=some false:=AA
 have u:D5 1 NS=some false:=AA
 have z:D5 1 ML=some false:=AA
 have I:D5 1 Nr=some false:=AA
 have J:D5 1 NY=some false:=AA
 refine frame (M:=0) (kp:=0) (br:=false) rfl rfl rfl rfl q h1 h2 h3 u z I J OB (λh=>Gv) (λh h'=>rfl) λj=>?_;unfold N8 at j;simp only[Qk,NV,Ny,GX,Dj]at j;obtain⟨⟨⟨⟨⟨⟨⟨L,e1⟩,e2⟩,O⟩,U⟩,Y⟩,Z⟩,e7⟩:=j;have hL:Na 0 1 0 c=(some 0):=Qh
 rw[hL];unfold Ot;rw[Ey (text0 L Bj),Ey (show Oq 1 c.N=some 0 from rfl),Ey (Vt h2 O),Ey (Rw U),show((1:Int)==4)=false from rfl,BR,Ey (Kq Y),Ey (Kq Z),TN e7];exact .ret _
def akR (c:D8):EJ (PZ 2 c) (Oq 2 c.N):=by
 show EJ ((bif c.N<0 then some true else some (decide (c.N>4))).bind λj=>(bif j then some 2 else some 0)) ((bif c.N>=0 then some (decide (c.N<=4))else some false).bind λq=>(bif (!q)then some 2 else some 0));rw[uF,Mid];cases decide (c.N<0)<;>cases decide (c.N>4)<;>exact .ret _
def anT (q:KQ c):EJ (Md 2 c) (KI 2 c):=by
 have u:D5 2 Jg=some true:=AA
 have h1:D5 2 KO=some true:=AA
 have h2:D5 2 KG=some false:=AA
 have h3:D5 2 Nk=some false:=AA
 have z:D5 2 NS=some true:=AA
 have I:D5 2 ML=some false:=AA
 have J:D5 2 Nr=some false:=AA
 have L:D5 2 NY=some false:=AA
 refine frame (M:=19) (kp:=18) (br:=false) rfl rfl rfl rfl u h1 h2 h3 z I J L OB (λh=>Gv) (λh h'=>Gv) λj=>?_;unfold N8 at j;simp only[Qk,NV,Ny,GX,Dj]at j;obtain⟨⟨⟨⟨e2,O⟩,U⟩,Y⟩,Z⟩:=j;have hL:Na 19 2 0 c=(IE (Ry 2 c) (IE (PZ 2 c) (IE (iE 2 c) (some 0)))):=Qh
 rw[hL];unfold Ot;rw[Ey (Vt h2 O),show((2:Int)==4)=false from rfl,BR,Ey (Kq U),Ey (Kq Y),TN Z];exact Nu (dz q) (Nu (akR c) (Nu (amw q) (.ret _)))
def abp (j:KQ c):EJ (Md 3 c) (KI 3 c):=by
 have u:D5 3 Jg=some false:=AA
 have h1:D5 3 KO=some false:=AA
 have h2:D5 3 KG=some false:=AA
 have h3:D5 3 Nk=some false:=AA
 have z:D5 3 NS=some false:=AA
 have I:D5 3 ML=some false:=AA
 have J:D5 3 Nr=some false:=AA
 have L:D5 3 NY=some true:=AA
 refine frame (M:=128) (kp:=128) (br:=false) rfl rfl rfl rfl u h1 h2 h3 z I J L OB (λh=>Gv) (λh h'=>Gv) λq=>?_;unfold N8 at q;simp only[Qk,NV,Ny,GX,Dj]at q;obtain⟨⟨⟨⟨⟨⟨O,e1⟩,e2⟩,U⟩,Y⟩,Z⟩,e6⟩:=q;have hL:Na 128 3 0 c=(jM c.Levels):=Qh
 rw[hL];unfold Ot;rw[Ey (text0 O Bj),Ey (show Oq 3 c.N=some 0 from rfl),Ey (Vt h2 U),Ey (Rw Y),show((3:Int)==4)=false from rfl,BR,Ey (Kq Z),Ey (Kq e6)];exact agO j.users j.kinds j.names
def al4 (c:D8):EJ (PZ 4 c) (Oq 4 c.N):=by
 show EJ ((bif c.N<0 then some true else some (decide (c.N>3))).bind λj=>(bif j then some 2 else some 0)) ((bif c.N>=0 then some (decide (c.N<=3))else some false).bind λq=>(bif (!q)then some 2 else some 0));rw[uF,Mid];cases decide (c.N<0)<;>cases decide (c.N>3)<;>exact .ret _
def anD (q:KQ c):EJ (Md 4 c) (KI 4 c):=by
 have u:D5 4 Jg=some false:=AA
 have h1:D5 4 KO=some true:=AA
 have h2:D5 4 KG=some false:=AA
 have h3:D5 4 Nk=some false:=AA
 have z:D5 4 NS=some false:=AA
 have I:D5 4 ML=some true:=AA
 have J:D5 4 Nr=some false:=AA
 have L:D5 4 NY=some false:=AA
 refine frame (M:=34) (kp:=34) (br:=false) rfl rfl rfl rfl u h1 h2 h3 z I J L OB (λh=>Gv) (λh h'=>Gv) λj=>?_;unfold N8 at j;simp only[Qk,NV,Ny,GX,Dj]at j;obtain⟨⟨⟨⟨⟨O,e2⟩,U⟩,Y⟩,e6⟩,e7⟩:=j;have Z:Na 34 4 0 c=(IE (PZ 4 c) (IE (Y0 4 c) (some 0))):=Qh
 rw[Z];unfold Ot;rw[Ey (text0 O Bj),Ey (Vt h2 U),Ey (Rw Y),show((4:Int)==4)=true from rfl,Bl];rw[a5E];exact Nu (al4 c) (acL q)
def aYW (c:D8):EJ (PZ 5 c) (Oq 5 c.N):=by
 show EJ ((bif c.N<0 then some true else some (decide (c.N>3))).bind λj=>(bif j then some 2 else some 0)) ((bif c.N>=0 then some (decide (c.N<=3))else some false).bind λq=>(bif (!q)then some 2 else some 0));rw[uF,Mid];cases decide (c.N<0)<;>cases decide (c.N>3)<;>exact .ret _
def aYq (hc:KQ c):EJ (Md 5 c) (KI 5 c):=by
 have q:D5 5 Jg=some false:=AA
 have h1:D5 5 KO=some true:=AA
 have h2:D5 5 KG=some false:=AA
 have h3:D5 5 Nk=some false:=AA
 have u:D5 5 NS=some false:=AA
 have z:D5 5 ML=some false:=AA
 have I:D5 5 Nr=some false:=AA
 have J:D5 5 NY=some false:=AA
 refine frame (M:=2) (kp:=2) (br:=false) rfl rfl rfl rfl q h1 h2 h3 u z I J OB (λh=>Gv) (λh h'=>Gv) λj=>?_;unfold N8 at j;simp only[Qk,NV,Ny,GX,Dj]at j;obtain⟨⟨⟨⟨⟨⟨L,e2⟩,O⟩,U⟩,Y⟩,Z⟩,e7⟩:=j;have hL:Na 2 5 0 c=(IE (PZ 5 c) (some 0)):=Qh
 rw[hL];unfold Ot;rw[Ey (text0 L Bj),Ey (Vt h2 O),Ey (Rw U),show((5:Int)==4)=false from rfl,BR,Ey (Kq Y),Ey (Kq Z),TN e7];exact Nu (aYW c) (.ret _)
def aYL (j:KQ c):EJ (Md 6 c) (KI 6 c):=by
 have u:D5 6 Jg=some false:=AA
 have h1:D5 6 KO=some false:=AA
 have h2:D5 6 KG=some false:=AA
 have h3:D5 6 Nk=some false:=AA
 have z:D5 6 NS=some false:=AA
 have I:D5 6 ML=some true:=AA
 have J:D5 6 Nr=some true:=AA
 have L:D5 6 NY=some false:=AA
 refine frame (M:=96) (kp:=96) (br:=false) rfl rfl rfl rfl u h1 h2 h3 z I J L OB (λh=>Gv) (λh h'=>Gv) λq=>?_;unfold N8 at q;simp only[Qk,NV,Ny,GX,Dj]at q;obtain⟨⟨⟨⟨⟨O,e1⟩,e2⟩,U⟩,Y⟩,Z⟩:=q;have hL:Na 96 6 0 c=(IE (Y0 6 c) (XA c.iK)):=Qh
 rw[hL];unfold Ot;rw[Ey (text0 O Bj),Ey (show Oq 6 c.N=some 0 from rfl),Ey (Vt h2 U),Ey (Rw Y),show((6:Int)==4)=false from rfl,BR,TN Z];have h1:=j.deny;rw[a5E];exact Nu (ahY j) (aNJ AL j.denies)
def ajL (q:KQ c):EJ (Md 7 c) (KI 7 c):=by
 have u:D5 7 Jg=some true:=AA
 have h1:D5 7 KO=some false:=AA
 have h2:D5 7 KG=some false:=AA
 have h3:D5 7 Nk=some false:=AA
 have z:D5 7 NS=some false:=AA
 have I:D5 7 ML=some false:=AA
 have J:D5 7 Nr=some false:=AA
 have L:D5 7 NY=some false:=AA
 refine frame (M:=1) (kp:=0) (br:=true) rfl rfl rfl rfl u h1 h2 h3 z I J L OB (λh=>rfl) (λh h'=>dc) λj=>?_;unfold N8 at j;simp only[Qk,NV,Ny,GX,Dj]at j;obtain⟨⟨⟨⟨⟨⟨e1,e2⟩,O⟩,U⟩,Y⟩,Z⟩,e7⟩:=j;have hL:Na 1 7 0 c=(IE (Ry 7 c) (some 0)):=Qh
 rw[hL];unfold Ot;rw[Ey (show Oq 7 c.N=some 0 from rfl),Ey (Vt h2 O),Ey (Rw U),show((7:Int)==4)=false from rfl,BR,Ey (Kq Y),Ey (Kq Z),TN e7];exact Nu (dz q) (.ret _)
def ach (c:D8):EJ (PZ 8 c) (Oq 8 c.N):=by
 show EJ ((bif c.N<0 then some true else some (decide (c.N>1000000000))).bind λj=>(bif j then some 2 else some 0)) ((bif c.N>=0 then some (decide (c.N<=1000000000))else some false).bind λq=>(bif (!q)then some 2 else some 0));rw[uF,Mid];cases decide (c.N<0)<;>cases decide (c.N>1000000000)<;>exact .ret _
def aj0 (hc:KQ c):EJ (Md 8 c) (KI 8 c):=by
 have q:D5 8 Jg=some false:=AA
 have h1:D5 8 KO=some true:=AA
 have h2:D5 8 KG=some false:=AA
 have h3:D5 8 Nk=some false:=AA
 have u:D5 8 NS=some false:=AA
 have z:D5 8 ML=some false:=AA
 have I:D5 8 Nr=some false:=AA
 have J:D5 8 NY=some false:=AA
 refine frame (M:=2) (kp:=0) (br:=true) rfl rfl rfl rfl q h1 h2 h3 u z I J OB (λh=>rfl) (λh h'=>dc) λj=>?_;unfold N8 at j;simp only[Qk,NV,Ny,GX,Dj]at j;obtain⟨⟨⟨⟨⟨⟨L,e2⟩,O⟩,U⟩,Y⟩,Z⟩,e7⟩:=j;have hL:Na 2 8 0 c=(IE (PZ 8 c) (some 0)):=Qh
 rw[hL];unfold Ot;rw[Ey (text0 L Bj),Ey (Vt h2 O),Ey (Rw U),show((8:Int)==4)=false from rfl,BR,Ey (Kq Y),Ey (Kq Z),TN e7];exact Nu (ach c) (.ret _)
def ahL (c:D8):EJ (PZ 9 c) (Oq 9 c.N):=by
 show EJ ((bif (c.N==1)then some true else some (c.N==2)).bind λj=>(bif j then some true else some (c.N==6)).bind λq=>(bif q then some 0 else some 2)) ((bif (c.N==1)then some true else some (c.N==2)).bind λu=>(bif u then some true else some (c.N==6)).bind λz=>(bif (!z)then some 2 else some 0));cases c.N==1<;>cases c.N==2<;>cases c.N==6<;>exact .ret _
def ak1 (q:KQ c):EJ (Md 9 c) (KI 9 c):=by
 have u:D5 9 Jg=some true:=AA
 have h1:D5 9 KO=some true:=AA
 have h2:D5 9 KG=some false:=AA
 have h3:D5 9 Nk=some false:=AA
 have z:D5 9 NS=some false:=AA
 have I:D5 9 ML=some false:=AA
 have J:D5 9 Nr=some false:=AA
 have L:D5 9 NY=some false:=AA
 refine frame (M:=3) (kp:=0) (br:=true) rfl rfl rfl rfl u h1 h2 h3 z I J L OB (λh=>rfl) (λh h'=>dc) λj=>?_;unfold N8 at j;simp only[Qk,NV,Ny,GX,Dj]at j;obtain⟨⟨⟨⟨⟨e2,O⟩,U⟩,Y⟩,Z⟩,e7⟩:=j;have hL:Na 3 9 0 c=(IE (Ry 9 c) (IE (PZ 9 c) (some 0))):=Qh
 rw[hL];unfold Ot;rw[Ey (Vt h2 O),Ey (Rw U),show((9:Int)==4)=false from rfl,BR,Ey (Kq Y),Ey (Kq Z),TN e7];exact Nu (dz q) (Nu (ahL c) (.ret _))
def afQ (c:D8):EJ (PZ 10 c) (Oq 10 c.N):=by
 show EJ ((bif c.N<1 then some true else some (decide (c.N>10000))).bind λj=>(bif j then some 2 else some 0)) ((bif c.N>=1 then some (decide (c.N<=10000))else some false).bind λq=>(bif (!q)then some 2 else some 0));rw[uF,Mid];cases decide (c.N<1)<;>cases decide (c.N>10000)<;>exact .ret _
def aj9 (hc:KQ c):EJ (Md 10 c) (KI 10 c):=by
 have q:D5 10 Jg=some false:=AA
 have h1:D5 10 KO=some true:=AA
 have h2:D5 10 KG=some false:=AA
 have h3:D5 10 Nk=some false:=AA
 have u:D5 10 NS=some false:=AA
 have z:D5 10 ML=some false:=AA
 have I:D5 10 Nr=some false:=AA
 have J:D5 10 NY=some false:=AA
 refine frame (M:=2) (kp:=0) (br:=true) rfl rfl rfl rfl q h1 h2 h3 u z I J OB (λh=>rfl) (λh h'=>dc) λj=>?_;unfold N8 at j;simp only[Qk,NV,Ny,GX,Dj]at j;obtain⟨⟨⟨⟨⟨⟨L,e2⟩,O⟩,U⟩,Y⟩,Z⟩,e7⟩:=j;have hL:Na 2 10 0 c=(IE (PZ 10 c) (some 0)):=Qh
 rw[hL];unfold Ot;rw[Ey (text0 L Bj),Ey (Vt h2 O),Ey (Rw U),show((10:Int)==4)=false from rfl,BR,Ey (Kq Y),Ey (Kq Z),TN e7];exact Nu (afQ c) (.ret _)
def afg (q:KQ c):EJ (Md 11 c) (KI 11 c):=by
 have u:D5 11 Jg=some true:=AA
 have h1:D5 11 KO=some false:=AA
 have h2:D5 11 KG=some true:=AA
 have h3:D5 11 Nk=some true:=AA
 have z:D5 11 NS=some false:=AA
 have I:D5 11 ML=some false:=AA
 have J:D5 11 Nr=some false:=AA
 have L:D5 11 NY=some false:=AA
 refine frame (M:=13) (kp:=0) (br:=true) rfl rfl rfl rfl u h1 h2 h3 z I J L OB (λh=>rfl) (λh h'=>dc) λj=>?_;unfold N8 at j;simp only[Qk,NV,Ny,GX,Dj]at j;obtain⟨⟨⟨⟨e1,O⟩,U⟩,Y⟩,Z⟩:=j;have hL:Na 13 11 0 c=(IE (Ry 11 c) (IE (TJ 11 c) (IE (jI 11 c) (some 0)))):=Qh
 rw[hL];unfold Ot;rw[Ey (show Oq 11 c.N=some 0 from rfl),Ey (Rw O),show((11:Int)==4)=false from rfl,BR,Ey (Kq U),Ey (Kq Y),TN Z];rw[a5E,a5E];exact Nu (dz q) (amO h2)
def aaB (q:KQ c):EJ (Md 12 c) (KI 12 c):=by
 have u:D5 12 Jg=some true:=AA
 have h1:D5 12 KO=some false:=AA
 have h2:D5 12 KG=some true:=AA
 have h3:D5 12 Nk=some false:=AA
 have z:D5 12 NS=some false:=AA
 have I:D5 12 ML=some false:=AA
 have J:D5 12 Nr=some false:=AA
 have L:D5 12 NY=some false:=AA
 refine frame (M:=5) (kp:=0) (br:=true) rfl rfl rfl rfl u h1 h2 h3 z I J L OB (λh=>rfl) (λh h'=>dc) λj=>?_;unfold N8 at j;simp only[Qk,NV,Ny,GX,Dj]at j;obtain⟨⟨⟨⟨⟨e1,O⟩,U⟩,Y⟩,Z⟩,e7⟩:=j;have hL:Na 5 12 0 c=(IE (Ry 12 c) (IE (TJ 12 c) (some 0))):=Qh
 rw[hL];unfold Ot;rw[Ey (show Oq 12 c.N=some 0 from rfl),Ey (Rw U),show((12:Int)==4)=false from rfl,BR,Ey (Kq Y),Ey (Kq Z),TN e7];exact Nu (dz q) (Nu (aFz h2 O) (.ret _))
def ajr (q:KQ c):EJ (Md 13 c) (KI 13 c):=by
 have u:D5 13 Jg=some true:=AA
 have h1:D5 13 KO=some false:=AA
 have h2:D5 13 KG=some true:=AA
 have h3:D5 13 Nk=some false:=AA
 have z:D5 13 NS=some false:=AA
 have I:D5 13 ML=some false:=AA
 have J:D5 13 Nr=some false:=AA
 have L:D5 13 NY=some false:=AA
 refine frame (M:=5) (kp:=0) (br:=true) rfl rfl rfl rfl u h1 h2 h3 z I J L OB (λh=>rfl) (λh h'=>dc) λj=>?_;unfold N8 at j;simp only[Qk,NV,Ny,GX,Dj]at j;obtain⟨⟨⟨⟨⟨e1,O⟩,U⟩,Y⟩,Z⟩,e7⟩:=j;have hL:Na 5 13 0 c=(IE (Ry 13 c) (IE (TJ 13 c) (some 0))):=Qh
 rw[hL];unfold Ot;rw[Ey (show Oq 13 c.N=some 0 from rfl),Ey (Rw U),show((13:Int)==4)=false from rfl,BR,Ey (Kq Y),Ey (Kq Z),TN e7];exact Nu (dz q) (Nu (aFz h2 O) (.ret _))
def ahy (q:KQ c):EJ (Md 14 c) (KI 14 c):=by
 have u:D5 14 Jg=some true:=AA
 have h1:D5 14 KO=some false:=AA
 have h2:D5 14 KG=some true:=AA
 have h3:D5 14 Nk=some false:=AA
 have z:D5 14 NS=some false:=AA
 have I:D5 14 ML=some false:=AA
 have J:D5 14 Nr=some false:=AA
 have L:D5 14 NY=some false:=AA
 refine frame (M:=5) (kp:=4) (br:=false) rfl rfl rfl rfl u h1 h2 h3 z I J L OB (λh=>Gv) (λh h'=>Gv) λj=>?_;unfold N8 at j;simp only[Qk,NV,Ny,GX,Dj]at j;obtain⟨⟨⟨⟨⟨e1,O⟩,U⟩,Y⟩,Z⟩,e7⟩:=j;have hL:Na 5 14 0 c=(IE (Ry 14 c) (IE (TJ 14 c) (some 0))):=Qh
 rw[hL];unfold Ot;rw[Ey (show Oq 14 c.N=some 0 from rfl),Ey (Rw U),show((14:Int)==4)=false from rfl,BR,Ey (Kq Y),Ey (Kq Z),TN e7];exact Nu (dz q) (Nu (aFz h2 O) (.ret _))
def aln (k:Int)(j:KQ c):EJ (Md k c) (KI k c):=by
 cases q:decide (k>=1)&&decide (k<=14)with
 |false=>
  obtain⟨u,k2⟩:=a5e k;rw[q]at u k2
  have f:∀n:Int,1<=n->n<=14->(k==n)=false:=λn h1 h2=>by
   grind
  have hm:lJ k=some 0:=by
   unfold lJ yt zQ;rw[f 2 Bj Bj,f 3 Bj Bj,f 4 Bj Bj,f 5 Bj Bj,f 8 Bj Bj,f 10 Bj Bj,f 6 Bj Bj,f 7 Bj Bj,f 9 Bj Bj,f 11 Bj Bj,f 12 Bj Bj,f 13 Bj Bj,f 14 Bj Bj];rfl
  unfold Md KI;rw[hm,u,k2];exact .ret _
 |true=>
  simp only[Dj,Iz]at q;have :k=1\/k=2\/k=3\/k=4\/k=5\/k=6\/k=7\/k=8\/k=9\/k=10\/k=11\/k=12\/k=13\/k=14:=AL
  rcases this with rfl|rfl|rfl|rfl|rfl|rfl|rfl|rfl|rfl|rfl|rfl|rfl|rfl|rfl
  ·exact afn j
  ·exact anT j
  ·exact abp j
  ·exact anD j
  ·exact aYq j
  ·exact aYL j
  ·exact ajL j
  ·exact aj0 j
  ·exact ak1 j
  ·exact aj9 j
  ·exact afg j
  ·exact aaB j
  ·exact ajr j
  exact ahy j
def ND (p:α->α->AX)(a b:A8 α):AX:=((a.length:Int)==(b.length:Int))&& !((a.zip b).any λx=> !p x.1 x.2)
def Yy {R:Type}{body:(Int->AB R)->Int->AB R}(p:α->α->AX)(a b:A8 α)(ha:a.length<=1000)(j:a.length=b.length)(bad:R)(rest:AB R)(u:∀k (i:Nat) (h:i<a.length) (h':i<b.length),body k (i:Int)=bif !p a[i] b[i]then some bad else k (Aw ((i:Int)+1)))(q:∀k,body k (a.length:Int)=rest):bC body Ar 0=bif (a.zip b).any λx=> !p x.1 x.2 then some bad else rest:=by
 have hl:(a.zip b).length=a.length:=Ej
 refine Hq (a.zip b) (by rw[hl];exact aF4 AL) (λx=> !p x.1 x.2) bad rest (λk i h=>?_) (λk=>by rw[hl];exact q k)
 grind
def len_eq {a b:A8 α}(h:((a.length:Int)==(b.length:Int))=true):a.length=b.length:=aLA
def Xg (x y:BO):AX:=x.toList==y.toList
def VL (x y:IQ):AX:=x.User.toList==y.User.toList&&x.N==y.N
def TL (x y:Jr):AX:=x.Kind==y.Kind&&x.N==y.N
def a1K {a b:A8 BO}(ha:a.length<=1000):yJ a b=some (ND Xg a b)/\XW a b=some (ND Xg a b):=by
 unfold yJ XW ND;simp only[bne];cases h:((a.length:Int)==(b.length:Int))with
 |false=>exact⟨rfl,rfl⟩
 |true=>
  have j:=len_eq h;simp only[FU,BR,GX];unfold aPq aIu
  rw[Yy Xg a b ha j false (some true) (λk i h h'=>by simp only[aHI,dec_lt h,Bl,CY h,CY h',Ad];rfl) (λk=>by simp only[aHI,Di,BR]),
   Yy Xg a b ha j false (some true) (λk i h h'=>by simp only[a0Z,dec_lt h,Bl,CY h,CY h',Ad];rfl) (λk=>by simp only[a0Z,Di,BR])]
  cases(a.zip b).any λx=> !Xg x.1 x.2<;>exact⟨rfl,rfl⟩
def an3 {a b:A8 IQ}(ha:a.length<=1000):a2K a b=some (ND VL a b):=by
 unfold a2K ND;simp only[bne];cases h:((a.length:Int)==(b.length:Int))with
 |false=>rfl
 |true=>
  have j:=len_eq h;simp only[FU,BR,GX];unfold aRR;rw[Yy VL a b ha j false (some true) (λk i h h'=>by simp only[aHE,dec_lt h,Bl,CY h,CY h',Ad,a4x,VL,Ny]) (λk=>by simp only[aHE,Di,BR])];cases(a.zip b).any λx=> !VL x.1 x.2<;>rfl
def adv {a b:A8 Jr}(ha:a.length<=1000):aBT a b=some (ND TL a b):=by
 unfold aBT ND;simp only[bne];cases h:((a.length:Int)==(b.length:Int))with
 |false=>rfl
 |true=>
  have j:=len_eq h;simp only[FU,BR,GX];unfold aSE;rw[Yy TL a b ha j false (some true) (λk i h h'=>by simp only[aCD,dec_lt h,Bl,CY h,CY h',Ad,aBd,TL,Ny]) (λk=>by simp only[aCD,Di,BR])];cases(a.zip b).any λx=> !TL x.1 x.2<;>rfl
def a0k (a b:Cx):AX:=(a.User==b.User)&&(a.Message==b.Message)&&(a.State==b.State)&&(a.gW==b.gW)&&(a.kS==b.kS)&&(a.oN==b.oN)&&(a.iq==b.iq)
def lT (a b:Cx):AX:=ND VL a.Users b.Users&&(ND TL a.Kinds b.Kinds&&a0k a b)
def ahp {a b:Cx}(h1:a.Users.length<=1000)(h2:a.Kinds.length<=1000):dD a b=some (lT a b):=by
 unfold dD lT ND;simp only[bne];cases j:((a.Users.length:Int)==(b.Users.length:Int))with
 |false=>
  rfl
 |true=>
  cases q:((a.Kinds.length:Int)==(b.Kinds.length:Int))with
  |false=>
   simp
  |true=>
   have u:=len_eq j;have ek:=len_eq q
   have h3:qE a b 0=bif (a.Kinds.zip b.Kinds).any λx=> !TL x.1 x.2 then some false else some (a0k a b):=by
    unfold qE;refine Yy TL a.Kinds b.Kinds h2 ek false (some (a0k a b)) (λk i h h'=>?_) (λk=>?_)
    ·simp only[a8c,dec_lt h,Bl,CY h,CY h',Ad,a1g,TL,bne]
     grind
    simp only[a8c,Di,BR,Lr,Ad,SV];rfl
   simp only[FU,BR,Ad,GX];unfold aAU
   rw[Yy VL a.Users b.Users h1 u false (qE a b 0) (λk i h h'=>by
    simp only[a6W,dec_lt h,Bl,CY h,CY h',Ad,a2d,VL,bne]
    cases a.Users[i].User.toList==b.Users[i].User.toList<;>cases a.Users[i].N==b.Users[i].N<;>rfl) (λk=>by simp only[a6W,Di,BR]),h3]
   cases(a.Users.zip b.Users).any λx=> !VL x.1 x.2<;>cases(a.Kinds.zip b.Kinds).any λx=> !TL x.1 x.2<;>rfl
def a0M (a b:D8):AX:=(a.Text.toList==b.Text.toList)&&(a.N==b.N)&&(a.Target==b.Target)&&(a.Thread==b.Thread)&&(a.Via.toList==b.Via.toList)&&ND Xg a.Allow b.Allow&&ND Xg a.iK b.iK&&lT a.Levels b.Levels
variable {a:D8}
def aG3 (b:D8)(ha:QT a):XO a b=some (a0M a b):=by
 have h1:=ha.allow;have h2:=ha.deny;have h3:=ha.users;have j:=ha.kinds;unfold XO a0M;rw[(a1K (a:=a.Allow) AL).2,(a1K (a:=a.iK) AL).2,ahp (a:=a.Levels) AL AL];simp only[Lr,Ad,SV]
def adO (b:D8)(ha:QT a):a4f a b=some (a0M a b):=by
 have h1:=ha.allow;have h2:=ha.deny;have h3:=ha.users;have M:=ha.kinds;unfold a4f a0M lT a0k;rw[(a1K (a:=a.Allow) AL).1,(a1K (a:=a.iK) AL).1,an3 (a:=a.Levels.Users) AL,adv (a:=a.Levels.Kinds) AL];simp only[Lr,Ad,SV,oW,bne];generalize(a.Text.toList==b.Text.toList)=j;generalize(a.N==b.N)=q;generalize(a.Target==b.Target)=u;generalize(a.Thread==b.Thread)=z;generalize(a.Via.toList==b.Via.toList)=I;generalize ND Xg a.Allow b.Allow=J;generalize ND Xg a.iK b.iK=L;generalize ND VL a.Levels.Users b.Levels.Users=O;generalize ND TL a.Levels.Kinds b.Levels.Kinds=U;cases j<;>cases q<;>cases u<;>cases z<;>cases I<;>cases J<;>cases L<;>first|rfl|(simp only[FU,Bool.or_self,BR,GX,Bool.and_self,Bool.and_assoc])
def ah9 (j:LM e)(v:AX):EJ (ZJ e v) ((UD e v).bind λu=>(bif (u != 0)then some u else(KI e.Kind e.Content).bind λz=>some z)):=by
 have h1:=j.room;have h2:=j.sender;have h3:=j.key;have Z:=j.prev;have h5:=j.auth;unfold ZJ UD;rw[adq j,(qU (s:=e.Room) AL).2,(YT (s:=e.bQ) AL).2,aTf AL];cases v with
 |true=>
  exact .ret _
 |false=>
  simp only[BR,Ad,bne,Lr,oW];generalize(SS e.Room==0)=a;generalize(Sm e.bQ==0)=b;generalize Vf e.Kind e.Key=I;cases a with
  |false=>
   exact .ret _
  |true=>
   cases b with
   |false=>
    exact .ret _
   |true=>
    cases I with
    |false=>
     exact .ret _
    |true=>
     simp only[FU,Bool.or_self,Bool.and_self,BR,aB3];refine Ih (λ_=>.ret _) λ_=>Ih (λ_=>.ret _) λhlen=>?_;simp only[a4Y,jw]at hlen;obtain⟨J,L,M⟩:=aUC (l:=e.bH) AL;obtain⟨O,U,Y⟩:=aUC (l:=e.bJ) AL;rw[L,U,M,Y];simp only[Ad,Lr,oW,aB3];cases J with
     |false=>
      exact .ret _
     |true=>
     cases O with
     |false=>
      exact .ret _
     |true=>
     simp only[FU,BR]
     have hs:decide ((Aw ((e.bH.length:Int)+(e.bJ.length:Int)))>0)=(decide ((e.bH.length:Int)>0)||((e.bJ.length:Int)>0)):=by
      rw[OY AL AL]
      grind
     rw[hs];generalize(bif ((e.bH.length:Int)==0)then !e.Kind==1 else false)=p;generalize(bif (e.Kind==1)then(decide ((e.bH.length:Int)>0)||((e.bJ.length:Int)>0))else false)=q;cases p with
     |true=>
      exact .ret _
     |false=>
      cases q with
      |true=>
       exact .ret _
      |false=>
       exact EJ.bind (aln e.Kind j.content) λx=>.ret _
def aeZ (q:LM e):EJ (aBS e) (mJ e):=by
 have j:=ah9 q;unfold aBS mJ a3e;rw[show dA e.Kind=Uw e.Kind from rfl];simp only[aB3,bne,Lr,Ad];refine Ih (λ_=>j _) λ_=>Ih (λ_=>j _) λ_=>?_;have hs:∃b,Uw e.Kind=some b:=by unfold Uw;cases decide (e.Kind>=1)<;>cases decide (e.Kind<=10)<;>exact⟨_,rfl⟩
 obtain⟨b,u⟩:=hs;rw[u];simp only[Ad,aB3];refine Ih (λ_=>j _) λ_=>Ih (λ_=>?_) λ_=>j _;cases e.Kind==2 with
 |true=>exact j _
 |false=>exact j _
def lq (j:Wh e):TB e=some (XL e==e.Hash)/\UW e=some (XL e==e.Hash):=a3p j.content.asr
def akA (j:Wh e)(v:AX):EJ (dI e v) (oH e v):=by
 have h2:e.bQ.size<=2000:=j.sender;unfold dI oH;obtain⟨q,u⟩:=aOK j;obtain⟨z,I⟩:=jo (s:=e.bQ) AL;rw[q,u,z,I];refine Ih (λ_=>.ret _) λ_=>?_;simp only[Ad];refine Ih (λ_=>.ret _) λ_=>?_;unfold a2J a2v;show EJ (bif !((e.rV.Server.toList==(splitB e.bQ (LU e.bQ)).2.1.toList)&&((e.rV.Sum==e.Id)&&true))then some 12 else some 0) _;simp only[bne];cases(e.rV.Server.toList==(splitB e.bQ (LU e.bQ)).2.1.toList)<;>cases(e.rV.Sum==e.Id)<;>exact .ret _
variable {a:Int}
def KZ {c:AX}{X:AB Int}(h:(bif c then some a else X)=some 0)(ha:a≠0):c=false/\X=some 0:=by
 grind
def UE {x:AB Int}(h:(bif a != 0 then some a else x)=some 0):a=0/\x=some 0:=by
 grind
def firsts {R:Type}{body:(Int->AB R)->Int->AB R}{ok:R}(l:A8 α)(hl:l.length<=9223372036854775807)(P:Nat->Prop)(u:∀k (i:Nat),i<l.length->body k (i:Int)=some ok->P i/\k ((i+1:Nat):Int)=some ok)(q:Nat)(h:bC body Ar (q:Int)=some ok):∀i,q<=i->i<l.length->P i:=by
 have key:∀n (i:Nat) m,i+n=l.length->n<m->bC body m (i:Int)=some ok->∀j,i<=j->j<l.length->P j:=by
  intro n
  induction n with
  |zero=>
   grind
  |succ n z=>
   intro i m hi hm I j h1 h2;obtain⟨m,rfl⟩:∃J,m=J+1:=⟨m-1,AL⟩
   obtain⟨a,b⟩:=u (bC body m) i AL I;rcases aIM h1 with rfl|h1
   ·exact a
   exact z (i+1) m AL AL b j h1 h2
 intro i h1 h2;have L:Ar=9223372036854775808:=rfl;exact key (l.length-q) q Ar AL AL h i h1 h2
def lC {l:A8 α}{Q:α->Prop}(h:∀i,0<=i->i<l.length->∀x,l[i]? =some x->Q x):∀x∈l,Q x:=λx j=>by
 obtain⟨i,hi,rfl⟩:=G8 j;exact h i (F7 _) hi _ (ES hi)
def alA (s:BO)(a b:Nat)(j:b<=s.size):(s.extract a b).size=b-a:=by rw[aFB];omega
def aSM {p:Int->AX}(h:Sj l p=true):l.length<=32:=(aQd h).2
def zq (h:IG s m=true):s.size<=100:=by
 unfold IG Vm at h;simp only[Dj,Iz]at h;have h1:=h.2.1.1;have h2:=aSM h.2.1.2
 have h3:(DR (TS s)).length<=32:=by
  have :=h.2.2;unfold YL at this;simp only[Dj]at this;exact aSM this.1.1
 rw[JD]at h2 h3;unfold WG at h2;unfold TS at h3;rw[alA _ _ _ AL]at h2 h3;omega
def aVj (hs:s.size<=9223372036854775807)(h:YO s=some 0):s.size<=100/\IG s 64=true:=by
 rw[(YT hs).2]at h;have h:=E5 h;unfold Sm at h;cases hm:IG s 64 with
 |true=>
  exact⟨zq hm,rfl⟩
 |false=>
  grind
def aeH (hs:s.size<=9223372036854775807)(h:iJ s=some 0):s.size<=100/\IG s 33=true:=by
 rw[(qU hs).2]at h;have h:=E5 h;unfold SS at h;cases hm:IG s 33 with
 |true=>
  exact⟨zq hm,rfl⟩
 |false=>
  grind
def aUH (hs:s.size<=9223372036854775807)(h:mM s=some 0):s.size<=100:=by
 rw[(aFQ hs).2]at h;have h:=E5 h;unfold aBm at h
 grind
def aWK {l:A8 BO}(hl:l.length<=9223372036854775807)(hs:∀s∈l,s.size<=9223372036854775807)(h:U6 l=some 0):l.length<=100/\∀s∈l,s.size<=100:=by
 unfold U6 at h;obtain⟨h1,h⟩:=KZ h Bj;refine⟨aGS,lC (firsts l hl (λi=>∀x,l[i]? =some x->x.size<=100) (λk i hi j=>?_) 0 h)⟩;unfold a0h at j;rw[DI hi]at j;obtain⟨x,u,j⟩:=Dl j;obtain⟨e,j⟩:=UE j;subst e;rw[wrap_succ i AL]at j;exact⟨λy q=>by rw[ES hi]at q;obtain rfl:=E5 q;exact aUH (hs _ (EY hi)) u,j⟩
def aiM (hl:c.Allow.length<=9223372036854775807)(hs:∀s∈c.Allow,s.size<=9223372036854775807)(h:eY c=some 0):c.Allow.length<=100/\∀s∈c.Allow,s.size<=100:=by
 unfold eY at h;obtain⟨x,_,h⟩:=Dl h;obtain⟨_,h⟩:=KZ h Bj;obtain⟨h1,h⟩:=KZ h Bj;refine⟨aGS,lC (firsts c.Allow hl (λi=>∀x,c.Allow[i]? =some x->x.size<=100) (λk i hi j=>?_) 0 h)⟩;unfold a6B Src at j;rw[DI hi]at j;obtain⟨x,I,j⟩:=Dl j;obtain⟨e,j⟩:=KZ j Bj;have q:x=0:=Tz
 subst q;refine⟨λy u=>by rw[ES hi]at u;obtain rfl:=E5 u;exact(aeH (hs _ (EY hi)) I).1,?_⟩;cases hp:decide ((i:Int)>0)with
 |true=>
  rw[hp,Bl]at j;obtain⟨y,_,j⟩:=Dl j;obtain⟨z,_,j⟩:=Dl j;obtain⟨_,j⟩:=KZ j Bj
  rwa [wrap_succ i AL]at j
 |false=>
  rw[hp,BR,BR]at j
  rwa [wrap_succ i AL]at j
def aY1 {l:A8 IQ}(hl:l.length<=9223372036854775807)(hs:∀u∈l,u.User.size<=9223372036854775807)(h:ZR l=some 0):l.length<=100/\∀u∈l,u.User.size<=100:=by
 unfold ZR at h;obtain⟨h1,h⟩:=KZ h Bj;refine⟨aGS,lC (firsts l hl (λi=>∀x,l[i]? =some x->x.User.size<=100) (λk i hi q=>?_) 0 h)⟩
 have J:∀v,oQ l (i:Int) k v=some 0->k ((i+1:Nat):Int)=some 0:=λv j=>by
  unfold oQ at j;obtain⟨_,j⟩:=KZ j Bj;obtain⟨y,_,j⟩:=Dl j;obtain⟨z,_,j⟩:=Dl j;obtain⟨_,j⟩:=KZ j Bj
  rwa [wrap_succ i AL]at j
 unfold a0d at q;rw[DI hi]at q;obtain⟨x,L,O⟩:=Dl q;obtain⟨e,hd⟩:=KZ O Bj;have I:x=0:=Tz
 rw[I]at L;refine⟨λy M=>by rw[ES hi]at M;obtain rfl:=E5 M;exact(aVj (hs _ (EY hi)) L).1,?_⟩;cases hp:decide ((i:Int)>0)with
 |true=>
  rw[hp,Bl]at hd;obtain⟨y,_,U⟩:=Dl hd;obtain⟨z,_,Y⟩:=Dl U;exact J _ Y
 |false=>
  rw[hp,BR]at hd;exact J _ hd
def aaZ {l:A8 Jr}(h:ZB l=some 0):l.length<=100:=by
 unfold ZB at h
 grind
def empty_of (h:(s.toList==Ce.toList)=true):s.size<=100:=by rw[a4U]at h;have :=eq_of_beq h;omega
def aMn {l:Cx}(h:Ob l=true):l.Users=[]/\l.Kinds=[]:=by
 unfold Ob at h;simp only[Dj]at h;exact⟨Ud h.1.1.1.1.1.1.1.1,Ud h.1.1.1.1.1.1.1.2⟩
def ac4 (L:KQ c)(h:KI k c=some 0):QT c:=by
 unfold KI at h;rw[(a5e k).2,Ad]at h;obtain⟨x2,Z,h⟩:=Dl h;obtain⟨e2,h⟩:=KZ h Bj;subst e2
 have J:gJ k c=some true:=by
  cases hk:(decide (k>=1)&&(k<=14))with
  |false=>
   grind
  |true=>
   rw[hk]at Z;obtain⟨y,O,M⟩:=Dl (show(gJ k c).bind (λx4=>some (!x4))=some false from Z);have M:=E5 M;cases y with
   |true=>
    exact O
   |false=>
    cases M
 obtain⟨x6,_,h⟩:=Dl h;obtain⟨x7,U,h⟩:=Dl h;cases x7 with
 |true=>
  have M:kM (c.Text.toList==Ce.toList) (c.N==0) (c.Target==0) (!c.Thread) (c.Via.toList==Ce.toList) ((c.Allow.length:Int)==0) ((c.iK.length:Int)==0) (Ob c.Levels)=true:=by
   cases x6 with
   |false=>
    cases U
   |true=>
    rw[aN4]at U;exact E5 U
  unfold kM at M;simp only[Dj]at M;obtain⟨⟨⟨⟨⟨⟨⟨t1,_⟩,_⟩,_⟩,t5⟩,t6⟩,t7⟩,t8⟩:=M;have p:=aMn t8;have q1:=empty_of t1;have q2:=empty_of t5;have a1:=Ud t6;have a2:=Ud t7;refine⟨?_,?_,?_,?_,AL,AL,?_,?_,?_⟩<;>first|rw[a1]|rw[a2]|rw[p.1]|rw[p.2]
  all_goals first|exact F7 _|exact λx hx=>absurd hx G7
 |false=>
  rw[BR]at h;obtain⟨x11,j,h⟩:=Dl h;obtain⟨e,h⟩:=UE h;subst e;obtain⟨x13,_,h⟩:=Dl h;obtain⟨_,h⟩:=UE h;obtain⟨x15,_,h⟩:=Dl h;obtain⟨_,h⟩:=UE h;obtain⟨x17,I,h⟩:=Dl h;obtain⟨e,h⟩:=UE h;subst e
  have ht:c.Text.size<=2000:=by
   unfold ZX at j;cases h9:k==9 with
   |true=>
    rw[h9,Bl]at j;cases h0:(c.Text.toList==Ce.toList)with
    |true=>
     have :=empty_of h0;omega
    |false=>
     rw[h0,BR]at j;obtain⟨y,O,j⟩:=Dl j;obtain rfl:=E5 j;have :=aUH L.text O;omega
   |false=>
    rw[h9,BR]at j;obtain⟨y,_,j⟩:=Dl j;obtain⟨_,j⟩:=KZ j Bj;obtain⟨z,M,j⟩:=Dl j;obtain⟨e,_⟩:=KZ j Bj;subst e;cases hd:decide ((c.Text.size:Int)>400)with
    |true=>
     rw[hd]at M;cases M
    |false=>
     have :=Nc hd;omega
  have hv:c.Via.size<=2000:=by
   unfold aA at I;cases h0:(c.Via.toList==Ce.toList)with
   |true=>
    have :=empty_of h0;omega
   |false=>
    rw[h0,BR]at I;obtain⟨_,I⟩:=KZ I Bj;obtain⟨y,O,I⟩:=Dl I;obtain rfl:=E5 I;have :=(aVj L.via O).1;omega
  have Y:∀{l:A8 BO},(∀s∈l,s.size<=100)->∀s∈l,s.size<=2000:=λh s hs=>EK (h s hs) AL;cases h4:k==4 with
  |true=>
   have e4:=eq_of_beq h4;subst e4;rw[VJ,Bl]at h;obtain⟨y,O,h⟩:=Dl h;obtain rfl:=E5 h;obtain⟨r1,r2⟩:=aiM L.allow L.allows O;rw[aM2 (K:=4) (c:=c) (show _=some false by kernel_rfl) (show _=some true by kernel_rfl) (show _=some false by kernel_rfl) (show _=some false by kernel_rfl) (show _=some false by kernel_rfl) (show _=some true by kernel_rfl) (show _=some false by kernel_rfl) (show _=some false by kernel_rfl)]at J;have ho:=E5 J;unfold N8 at ho;simp only[Dj,NV]at ho;have d:=Ud ho.1.2;have p:=aMn ho.2;refine⟨r1,?_,?_,?_,ht,hv,Y r2,?_,?_⟩<;>first|rw[d]|rw[p.1]|rw[p.2]
   all_goals first|exact F7 _|exact λx hx=>absurd hx G7
  |false=>
   rw[h4,BR]at h;obtain⟨y1,hy1,h⟩:=Dl h;obtain⟨e,h⟩:=UE h;subst e;obtain⟨y2,hy2,h⟩:=Dl h;obtain⟨e,h⟩:=UE h;subst e;obtain⟨y3,q,h⟩:=Dl h;obtain rfl:=E5 h;unfold aK at q;obtain⟨z1,hz1,q⟩:=Dl q;obtain⟨e,q⟩:=UE q;subst e;obtain⟨z2,hz2,q⟩:=Dl q;obtain⟨e,q⟩:=UE q;subst e;obtain⟨a1,a2⟩:=aWK L.allow L.allows hy1;obtain⟨d1,d2⟩:=aWK L.deny L.denies hy2;obtain⟨u1,u2⟩:=aY1 L.users L.names hz1;exact⟨a1,d1,u1,aaZ hz2,ht,hv,Y a2,Y d2,λu hu=>EK (u2 u hu) AL⟩
structure gI (e:AQ):Prop where
 kind:1<=e.Kind/\e.Kind<=14
 state:e.State=Ic e.Kind
 keyed:e.Key=Ce\/e.Kind=2\/e.Kind=9
 room:IG e.Room 33=true
 sender:IG e.bQ 64=true
 key:Vf e.Kind e.Key=true
 time:0<=e.Time/\e.Time<=1000000000
 depth:1<=e.Depth/\e.Depth<=100000
 prev:e.bH.length<=10/\Inc e.bH/\∀x∈e.bH,0<=x
 auth:e.bJ.length<=8/\Inc e.bJ/\∀x∈e.bJ,0<=x
 short:e.bH=[]->e.Kind=1
 form:e.Kind=1->e.bH=[]/\e.bJ=[]
 content:KI e.Kind e.Content=some 0
 small:Wh e
def aSX (hl:l.length<=9223372036854775807)(h:eL l=some true):Inc l/\∀x∈l,0<=x:=by
 unfold eL aDv at h
 have u:=firsts l hl (λi=>∀x,l[i]? =some x->0<=x/\∀y,0<i->l[i-1]? =some y->y<x) (λk i hi q=>by
  have J:∀v,gB k (i:Int) v=some true->v=false/\k ((i+1:Nat):Int)=some true:=λv L=>by
   unfold gB at L;cases v with
   |true=>cases L
   |false=>rw[BR,wrap_succ i AL]at L;exact⟨rfl,L⟩
  unfold aAP at q;rw[DI hi]at q;cases M:decide (l[i]<0)with
  |true=>rw[M,Bl]at q;cases(J _ q).1
  |false=>
   have Y:=Nc M;rw[M,BR]at q;cases hp:decide ((i:Int)>0)with
   |false=>
    have Z:=Nc hp;rw[hp,BR]at q;refine⟨λx z=>?_,(J _ q).2⟩;rw[ES hi]at z;obtain rfl:=E5 z;exact⟨AL,λy Y O=>AL⟩
   |true=>
    rw[hp,Bl,CY hi,Ad,sW hi hl hp,Ad]at q;obtain⟨h1,h2⟩:=J _ q;refine⟨λx z=>?_,h2⟩;rw[ES hi]at z;obtain rfl:=E5 z;refine⟨AL,λy Y O=>?_⟩;rw[ES AL]at O;obtain rfl:=E5 O
    have :=Nc h1;omega) 0 h
 have I:∀i,(hi:i+1<l.length)->l[i]<l[i+1]:=λi hi=>(u (i+1) AL hi _ (ES hi)).2 _ AL (ES AL);refine⟨?_,λx z=>?_⟩
 ·rw[Inc,J9];intro i j hi J U
  induction j with
  |zero=>omega
  |succ j ih=>
   have h1:=I j J;rcases aIM (Nat.le_of_lt_succ U)with rfl|h2
   ·exact h1
   have :=ih AL h2;omega
 obtain⟨i,hi,rfl⟩:=G8 z;exact(u i (F7 _) hi _ (ES hi)).1
def wP {c:AX}{X:AB AX}{f:AX->AB Int}{v:Int}(j:f true≠some v)(h:((bif c then some true else X).bind f)=some v):c=false/\X.bind f=some v:=by
 grind
def aaH (L:LM e)(h:mJ e=some 0):gI e:=by
 unfold mJ at h;obtain⟨x1,h1,h⟩:=Dl h;obtain⟨e1,h⟩:=UE h;subst e1;obtain⟨x3,h3,h⟩:=Dl h;obtain rfl:=E5 h;have J:=ac4 L.content h3
 have M:∀v,UD e v=some 0->v=false:=λv hv=>by
  cases v with
  |true=>cases hv
  |false=>rfl
 have Z:UD e false=some 0/\(1<=e.Kind/\e.Kind<=14)/\e.State=Ic e.Kind/\(e.Key=Ce\/e.Kind=2\/e.Kind=9):=by
  unfold a3e at h1;cases Y:decide (e.Kind<1)with
  |true=>rw[Y,Bl]at h1;cases M _ h1
  |false=>
   cases c2:decide (e.Kind>14)with
   |true=>rw[Y,c2,BR,Bl]at h1;cases M _ h1
   |false=>
    rw[Y,c2,BR,BR,aBZ,Ad]at h1;have k1:=Nc Y;have k2:=Nc c2;cases c3:(e.State==Ic e.Kind)with
    |false=>rw[c3,Jl,Bl]at h1;cases M _ h1
    |true=>
     rw[c3,FU,BR]at h1;refine⟨?_,⟨AL,AL⟩,eq_of_beq c3,?_⟩
     all_goals cases c4:(e.Key.toList==Ce.toList)with
     |true=>rw[c4,FU,BR]at h1;first|exact h1|exact .inl (toList_inj (eq_of_beq c4))
     |false=>
      rw[c4,Jl,Bl]at h1;cases c5:(e.Kind != 2)with
      |false=>rw[c5,BR]at h1;first|exact h1|exact .inr (.inl (by simpa using c5))
      |true=>
       rw[c5,Bl]at h1;have :=M _ h1;rw[this]at h1
       first|exact h1|exact .inr (.inr a5p)
 clear h1 M;obtain⟨h1,hk,hst,O⟩:=Z;unfold UD at h1;rw[BR,(qU (s:=e.Room) L.room).2,(YT (s:=e.bQ) L.sender).2,aTf L.key]at h1;simp only[Ad]at h1
 have u:IG e.Room 33=true:=by
  cases hm:IG e.Room 33 with
  |true=>rfl
  |false=>unfold SS at h1;rw[hm]at h1;cases h1
 have r0:SS e.Room=0:=by unfold SS;rw[u];rfl
 rw[r0,Y6,BR,Ad]at h1
 have z:IG e.bQ 64=true:=by
  cases hm:IG e.bQ 64 with
  |true=>rfl
  |false=>unfold Sm at h1;rw[hm]at h1;cases h1
 have u0:Sm e.bQ=0:=by unfold Sm;rw[z];rfl
 rw[u0,Y6,BR,Ad]at h1
 have j:Vf e.Kind e.Key=true:=by
  cases hm:Vf e.Kind e.Key with
  |true=>rfl
  |false=>rw[hm]at h1;cases h1
 rw[j,FU,BR]at h1;obtain⟨t1,h1⟩:=wP Mem h1;rw[Ad]at h1;obtain⟨t2,h1⟩:=wP Mem h1;rw[Ad]at h1;obtain⟨t3,h1⟩:=wP Mem h1;rw[Ad]at h1;obtain⟨t4,h1⟩:=KZ h1 Bj;obtain⟨t5,h1⟩:=wP Mem h1;rw[Ad]at h1;obtain⟨t6,h1⟩:=KZ h1 Bj;obtain⟨x21,h21,h1⟩:=Dl h1;obtain⟨t7,h1⟩:=wP Mem h1;rw[Option.bind_assoc]at h1;obtain⟨x24,h24,h1⟩:=Dl h1;rw[Ad]at h1;obtain⟨t8,h1⟩:=KZ h1 Bj;obtain⟨x26,U,h1⟩:=Dl h1;obtain⟨t9,h1⟩:=KZ h1 Bj;obtain⟨x29,I,h1⟩:=Dl h1;obtain⟨t10,_⟩:=KZ h1 Bj;have e21:x21=true:=by simpa using t7
 have e24:x24=true:=by simpa using t8
 subst e21 e24 t9 t10;have p1:=Nc t5;have p2:=Nc t6;have r1:=aSX L.prev h21;have r2:=aSX L.auth h24;have d1:=Nc t1;have d2:=Nc t2;have d3:=Nc t3;have d4:=Nc t4
 have hkz:e.Key.size<=2000:=by
  rcases O with h|h|h
  ·rw[h];exact F7 _
  ·unfold Vf at j;rw[Ea h]at j;have :Sm e.Key=0:=Vp
   unfold Sm at this;cases hm:IG e.Key 64 with
   |true=>have :=zq hm;omega
   |false=>rw[hm]at this;cases this
  unfold Vf at j;rw[Eh AL,Ea h]at j;unfold a0j at j;simp only[Dj,Iz]at j;have :=j.1.2;omega
 have z1:=zq u;have z2:=zq z;refine⟨hk,hst,O,u,z,j,⟨AL,AL⟩,⟨AL,AL⟩,⟨AL,r1⟩,⟨AL,r2⟩,λhp=>?_,λhk1=>?_,h3,⟨?_,?_,J.allow,J.deny,J.users,J.kinds,?_,?_,hkz,J.text,J.via,F7 _,J.allows,J.denies,J.names⟩⟩
 ·rw[hp]at U;have :=E5 U;simpa using this
 ·rw[hk1]at I;have I:((bif (e.bH.length:Int)>0 then some true else some (decide ((e.bJ.length:Int)>0))).bind λx31=>some x31)=some false:=I;cases q:decide ((e.bH.length:Int)>0)with
  |true=>rw[q]at I;cases I
  |false=>
   rw[q]at I;have q2:=E5 I;have :=Nc q;have :=Nc q2;exact⟨Ho AL,Ho AL⟩
 ·show e.bH.length<=40;omega
 ·show e.bJ.length<=40;omega
 ·show e.Room.size<=2000;omega
 show e.bQ.size<=2000;omega
def a3N (L:LM e):∃c,zk e=some c/\Ko e=some c/\(c=0->gI e/\FH e):=by
 obtain⟨x,z,u⟩:=aeZ L;unfold zk Ko;rw[z,u,Ad,Ad];cases I:x != 0 with
 |true=>
  grind
 |false=>
  obtain rfl:x=0:=jf
  have M:=aaH L u;have hs:=M.small;have J:e.bQ.size<=2000:=hs.sender;rw[BR,BR,(lq hs).1,(lq hs).2,aRj _ hs.content,aEA];simp only[Ad];rw[adO _ hs.content,aG3 _ hs.content];simp only[Ad]
  have key:∀v,∃c,dI e v=some c/\oH e v=some c/\(c=0->gI e/\FH e):=λv=>by
   obtain⟨c,j,U⟩:=akA hs v;refine⟨c,j,U,λY=>⟨M,?_⟩⟩;subst Y;unfold dI at j;obtain⟨_,j⟩:=KZ j Bj;rw[(aOK hs).1,Ad]at j;obtain⟨_,j⟩:=KZ j Bj;rw[(jo (s:=e.bQ) AL).1,Ad]at j;obtain⟨O,_⟩:=KZ (show(bif !((e.rV.Server.toList==(splitB e.bQ (LU e.bQ)).2.1.toList)&&((e.rV.Sum==e.Id)&&true))then some 12 else some 0)=some (0:Int)from j) Bj
   have Z:e.rV.Server=(splitB e.bQ (LU e.bQ)).2.1:=by
    cases q:(e.rV.Server.toList==(splitB e.bQ (LU e.bQ)).2.1.toList)with
    |true=>
     exact toList_inj (eq_of_beq q)
    |false=>
     rw[q]at O;cases O
   have hz:=(aki e.bQ J).2.2;exact⟨hs.prev,hs.auth,hs.allow,hs.deny,hs.users,hs.kinds,hs.room,hs.sender,hs.key,hs.text,hs.via,by rw[Z];exact hz,hs.allows,hs.denies,hs.names⟩
  cases(!(XL e==e.Hash))with
  |true=>
   rw[Bl,Bl];exact key _
  |false=>
   rw[BR,BR];exact key _
def aGQ {f g:(Int->AB Int)->Int->AB Int}(N lo:Nat)(hs:∀k k' (i:Nat),lo<=i->i<N->EJ (k ((i+1:Nat):Int)) (k' ((i+1:Nat):Int))->EJ (f k (i:Int)) (g k' (i:Int)))(z:∀k k',EJ (f k (N:Int)) (g k' (N:Int))):
 ∀n (i:Nat),lo<=i->i+n=N->∀m j,n<m->n<j->EJ (bC f m (i:Int)) (bC g j (i:Int)):=by
 intro n
 induction n with
 |zero=>
  intro i u hi m j h1 h2;obtain⟨m,rfl⟩:∃q,m=q+1:=⟨m-1,AL⟩
  obtain⟨j,rfl⟩:∃q,j=q+1:=⟨j-1,AL⟩
  have :i=N:=AL
  subst this;exact z _ _
 |succ n I=>
  intro i u hi m j h1 h2;obtain⟨m,rfl⟩:∃q,m=q+1:=⟨m-1,AL⟩
  obtain⟨j,rfl⟩:∃q,j=q+1:=⟨j-1,AL⟩
  exact hs _ _ i u AL (I (i+1) AL AL m j AL AL)
def lasts {R:Type}{body:(Int->AB R)->Int->AB R}{ok:R}(N:Nat)(L:N<=9223372036854775807)(P:Nat->Prop)(I:∀k (i:Nat),i<N->body k (i:Int)=some ok->P i/\k ((i+1:Nat):Int)=some ok)(q:Nat)(M:q<=N)(h:bC body Ar (q:Int)=some ok):(∀i,q<=i->i<N->P i)/\∃k,body k (N:Int)=some ok:=by
 have key:∀n (i:Nat) m,i+n=N->n<m->bC body m (i:Int)=some ok->(∀j,i<=j->j<N->P j)/\∃k,body k (N:Int)=some ok:=by
  intro n
  induction n with
  |zero=>
   intro i m hi hm u;obtain⟨m,rfl⟩:∃z,m=z+1:=⟨m-1,AL⟩
   have :i=N:=AL
   subst this;exact⟨λj h1 h2=>AL,_,u⟩
  |succ n J=>
   intro i m hi hm u;obtain⟨m,rfl⟩:∃z,m=z+1:=⟨m-1,AL⟩
   obtain⟨a,b⟩:=I (bC body m) i AL u;obtain⟨c,d⟩:=J (i+1) m AL AL b;refine⟨λj h1 h2=>?_,d⟩;rcases aIM h1 with rfl|h1
   ·exact a
   exact c j h1 h2
 have O:Ar=9223372036854775808:=rfl;exact key (N-q) q Ar AL AL h
def aTV {l:A8 α}(h:i+1<l.length)(hl:l.length<=1000000):Aq l (Aw (((i+1:Nat):Int)-1))=some l[i]:=by
 rw[show Aw (((i+1:Nat):Int)-1)=(i:Int) by rw[bP];omega,CY AL]
variable {l:A8 AQ}
def aa4 (L:∀e∈l,LM e)(hl:l.length<=1000):EJ (Mc l) (Kr l):=by
 by_cases I:l=[]
 ·subst I;exact⟨0,AA,AA⟩
 have q:0<l.length:=lN.2 I;have M:Ar=9223372036854775807+1:=rfl
 have h3:EJ (a6J l 1) (a4Q l 1):=by
  unfold a6J a4Q;refine aGQ l.length 1 (λk k' i z hi u=>?_) (λk k'=>?_) (l.length-1) 1 (Eb _) AL Ar Ar AL AL
  ·obtain⟨i,rfl⟩:∃j,i=j+1:=⟨i-1,AL⟩
   unfold a7A vF;rw[DI hi,dec_lt hi,Bl,aTV hi AL,Ad,Ad,CY hi,Ad,wrap_succ (i+1) AL];show EJ (bif l[i+1].Id<=l[i].Id then some 8 else k _) (bif l[i].Id>=l[i+1].Id then some 8 else k' _);exact Ih (λ_=>.ret _) λ_=>u
  unfold a7A vF;rw[Di];exact .ret _
 have J:Aq l 0=some l[0]:=CY (i:=0) q
 have h2:EJ (wU l 0) (aAi l 1):=by
  have O:∀k,Zg l k 0=k 1:=λk=>by
   unfold Zg;rw[show decide ((0:Int)<(l.length:Int))=true by simpa using q,Bl,J,Ad,Ad,VJ];rfl
  have U:wU l 0=bC (Zg l) 9223372036854775807 1:=by
   unfold wU;rw[M];exact O _
  rw[U];unfold aAi;refine aGQ l.length 1 (λk k' i z hi u=>?_) (λk k'=>?_) (l.length-1) 1 (Eb _) AL _ Ar AL AL
  ·unfold Zg a0X;rw[DI hi,DI hi,J,Ad,Ad,wrap_succ i AL];exact Ih (λ_=>.ret _) λ_=>u
  unfold Zg a0X
  grind
 unfold Mc Kr;rw[IC (show ¬(l.length:Int)>2000 by omega),BR,BR];unfold aDZ a3L;refine aGQ l.length 0 (λk k' i _ hi u=>?_) (λk k'=>?_) l.length 0 (Eb _) AL Ar Ar AL AL
 ·unfold tJ jq;obtain⟨c,Y,Z,_⟩:=a3N (L _ (EY hi));rw[DI hi,DI hi,Y,Z,Ad,Ad,wrap_succ i AL];exact Ih (λ_=>.ret _) λ_=>u
 unfold tJ jq
 grind
structure MX (l:List AQ):Prop where
 ev:∀e∈l,gI e/\FH e
 room:∀x∈l,∀y∈l,x.Room=y.Room
 inc:Inc (l.map (·.Id))
def ajW {f:Nat->Int}:∀(n i j:Nat),(∀k,i<=k->k<j->f k<f (k+1))->i+n=j->0<n->f i<f j:=by
 intro n
 induction n with
 |zero=>
  grind
 |succ n z=>
  intro i j h q _;rcases Ux n with u|u
  ·subst u;rw[←q];exact h i (Eb _) AL
  have a:=h i (Eb _) AL;have b:=z (i+1) j (λk h1 h2=>h k AL h2) AL u;omega
def afX (hw:∀e∈l,LM e)(hl:l.length<=1000)(h:Mc l=some 0):MX l:=by
 unfold Mc at h;rw[IC (show ¬(l.length:Int)>2000 by omega),BR]at h;unfold aDZ at h
 obtain⟨p1,k1,h⟩:=lasts l.length AL (λi=>∀x,l[i]? =some x->gI x/\FH x) (λk i hi u=>by
  unfold tJ at u;obtain⟨c,c1,_,c3⟩:=a3N (hw _ (EY hi));rw[DI hi,c1,Ad,wrap_succ i AL]at u;obtain⟨e,u⟩:=UE u
  exact⟨λx I=>by rw[ES hi]at I;obtain rfl:=E5 I;exact c3 e,u⟩) 0 (F7 _) h
 unfold tJ at h;rw[Di,BR]at h;unfold wU at h
 obtain⟨p2,k2,h⟩:=lasts l.length AL (λi=>∀x y,l[i]? =some x->l[0]? =some y->x.Room=y.Room) (λk i hi u=>by
  unfold Zg at u;have g0:Aq l 0=some l[0]:=CY (i:=0) AL;rw[DI hi,g0,Ad,wrap_succ i AL]at u;obtain⟨e,u⟩:=KZ u Bj;refine⟨λx y I J=>?_,u⟩;rw[ES hi]at I;rw[ES AL]at J;obtain rfl:=E5 I;obtain rfl:=E5 J
  exact toList_inj Tz) 0 (F7 _) h
 unfold Zg at h;rw[Di,BR]at h;refine⟨lC p1,λx I y J=>?_,?_⟩
 ·have key:∀x∈l,∀y,l[0]? =some y->x.Room=y.Room:=lC λi hi M x I y J=>p2 i hi M x y I J;have h0:0<l.length:=List.length_pos_of_mem I;have e0:l[0]? =some l[0]:=ES h0
  grind
 by_cases U:l=[]
 ·subst U;exact .nil
 have L:0<l.length:=lN.2 U;unfold a6J at h
 obtain⟨p3,_⟩:=lasts l.length AL (λi=>∀j x y,i=j+1->l[i]? =some x->l[j]? =some y->y.Id<x.Id) (λk i hi u=>by
  unfold a7A at u;rw[DI hi]at u;obtain⟨z,Y,u⟩:=Dl u;obtain⟨e,u⟩:=KZ u Bj;rw[wrap_succ i AL]at u;refine⟨λj x y Z I J=>?_,u⟩;subst Z;rw[aTV hi AL]at Y;rw[ES hi]at I;rw[ES AL]at J;obtain rfl:=E5 I;obtain rfl:=E5 J;obtain rfl:=E5 Y
  have :=Nc e;omega) 1 L h
 rw[Inc,Zn,J9];intro i j hi Z hij
 have :=ajW (f:=λq=>(l.getD q Fj).Id) (j-i) i j (λk h1 h2=>by
  have O:k+1<l.length:=AL
  have :=p3 (k+1) AL O k l[k+1] l[k] rfl (ES O) (ES AL)
  simpa[List.getD,ES O,ES (show k<l.length by omega)]using this) AL AL
 grind
def MX.ok (h:MX l)(hl:l.length<=100):JL l:=⟨hl,λe j=>(h.ev e j).2,TK h.inc,λe j=>(h.ev e j).1.depth⟩
def aO4 (j:∀e∈l,LM e)(hl:l.length<=100):∃c,Mc l=some c/\Kr l=some c/\(c=0->MX l):=by
 obtain⟨c,q,u⟩:=aa4 j AL;exact⟨c,q,u,λh=>afX j AL (by rw[q,h])⟩
def aaJ (e:AQ):H7 e (SE e):=by
 refine⟨rfl,rfl,rfl,rfl,rfl,rfl,rfl,rfl,rfl,λh=>?_,λh=>?_⟩
 ·show(Oa e.Kind e.Content).N=_;rcases h with h|h<;>rw[h]<;>rfl
 show(Oa e.Kind e.Content).Levels=_;rw[h];rfl
def ah2 (h:FH e):FH (SE e):=by
 have j:=h.content.strip e.Kind;exact⟨h.prev,h.auth,j.allow,j.deny,j.users,j.kinds,h.room,h.sender,h.key,j.text,j.via,h.server,j.allows,j.denies,j.names⟩
def pz (q:Kr l=some 0)(hl:l.length<=100):∀x∈l,Ko x=some 0:=by
 unfold Kr at q;obtain⟨_,h⟩:=KZ q Bj;unfold a3L at h
 obtain⟨z,_⟩:=lasts l.length AL (λi=>∀x,l[i]? =some x->Ko x=some 0) (λk i hi j=>by
  unfold jq at j;rw[DI hi]at j;obtain⟨y,I,j⟩:=Dl j;obtain⟨e,j⟩:=UE j;subst e;rw[wrap_succ i AL]at j
  exact⟨λx u=>by rw[ES hi]at u;obtain rfl:=E5 u;exact I,j⟩) 0 (F7 _) h
 exact lC z
structure aSN (l k:List AQ):Prop where
 ref:Kr k=some 0
 prog:Mc k=some 0
 facts:MX k
 deep:HY k=0
 ids:k.map (·.Id)=l.map (·.Id)
 agr:Hl l k (l.map (·.Id))
def aas {k:A8 AQ}(h:aSN l k)(J:MX l)(hl:l.length<=100)(u:k.length<=100)(hd:HY l=0):(∀x,En (DT k) x=En (DT l) x)/\NZ k (DT k)=NZ l (DT l)/\Gn k (DT k)=Gn l (DT l):=by
 have I:=J.ok hl;have q:=h.facts.ok u;have L:=aHn h.agr I hd q h.deep
 have h1:∀x,En (DT k) x=En (DT l) x:=λx=>by
  by_cases j:x∈l.map (·.Id)
  ·exact(L x j).1
  have z:∀{m:A8 AQ},x∉m.map (·.Id)->En (DT m) x=none:=λ{m} hm=>by
   rw[cV,aEN];exact λM=>hm (IU.1 (ZP.1 M))
  rw[z j,z (by rw[h.ids];exact j)]
 have h2:Gn k (DT k)=Gn l (DT l):=by
  rw[a1J,a1J,h.ids];exact Zp λx _=>by unfold Fg;rw[h1]
 exact⟨h1,aXZ h.agr I hd q h.deep (λx j=>by rw[a1J]at j;exact(Gx.1 j).1) h2,h2⟩
end Go.Proofs.YtfmoknlmaldmlaaGreat
