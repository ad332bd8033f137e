/- Part 6 of what the laws' proofs lean on: states of the walk, typed functions of the program and their laws (short forms written by wip/shrink.py; no condition). -/
import Derived.Test.YtldfpencimjjlaaGreatRu5
set_option linter.defProp false
set_option linter.unnecessarySimpa false
set_option linter.unusedVariables false
set_option linter.unusedSimpArgs false
section
namespace Go.Proofs.YtldfpencimjjlaaGreat
open Go.RowKit
def aOB {R A α:Type} {body:(Int→A→Option R)→Int→A→Option R} (l:List α) (hl:l.length<Af) (p:α→Bool) (g:Nat→Option R) (rest:Option R) (a0:A)
 (u:∀k (i:Nat) (h:i<l.length),body k (i:Int) a0=bif p l[i]then g i else k (Ag ((i:Int)+1)) a0) (z:∀k,body k (l.length:Int) a0=rest):
 aQ body Af 0 a0=if l.findIdx p<l.length then g (l.findIdx p)else rest:=by
 have L:Af=9223372036854775808:=rfl
 have key:∀n (i:Nat),i+n=l.length→∀m,n<m→aQ body m (i:Int) a0=if(l.drop i).findIdx p+i<l.length then g ((l.drop i).findIdx p+i)else rest:=by
  intro n
  induction n with
  |zero=>
   intro i hi m I;obtain⟨m,rfl⟩:∃q,m=q+1:=⟨m-1,AA⟩
   have :i=l.length:=AA
   subst this;show body (aQ body m) _ _=_;rw[z,Om,Cc Ap]
  |succ n J=>
   intro i hi m I;obtain⟨m,rfl⟩:∃q,m=q+1:=⟨m-1,AA⟩
   have j:i<l.length:=AA
   show body (aQ body m) _ _=_;rw[u _ i j,wrap_succ i AA,J (i+1) AA m AA,LG j,Tm];cases p l[i]with
   |true=>simp only[Au,JI];rw[CV j]
   |false=>
    simp only[Aj];rw[show(l.drop (i+1)).findIdx p+(i+1)=(l.drop (i+1)).findIdx p+1+i by omega]
 have :=key l.length 0 AA Af hl;simpa using this
def IX (l:List AB):AB×Bool:=match l.find? fun x=>x.Kind==1 with |some x=>(x,true)|none=>(F6,false)
def aJS (l:List AB) (p:AB→Bool):(if l.findIdx p<l.length then(some (match l[l.findIdx p]? with |some x=>(x,true)|none=>(F6,false)))else some (F6,false))=some (match l.find? p with |some x=>(x,true)|none=>(F6,false)):=by
 rw[JG];by_cases h:l.findIdx p<l.length
 ·rw[CV h]
 rw[Cc h,I7 AA]
def aan (l:List AB) (hl:l.length≤1000):wY l=some (IX l):=by
 unfold wY aRz;rw[aOB l (fuel_lt AA) (fun x=>x.Kind==1) (fun i=>some (match l[i]? with |some x=>(x,true)|none=>(F6,false))) (some (F6,false))]
 ·exact aJS l _
 ·intro k i h;unfold aI6;rw[Bv h,D9 h]
 intro k;unfold aI6;rw[DC]
def aRl (l:List AB) (hl:l.length≤1000):aDJ l=some (IX l):=by
 unfold aDJ aeA;rw[aOB l (fuel_lt AA) (fun x=>x.Kind==1) (fun i=>some (match l[i]? with |some x=>(x,true)|none=>(F6,false))) (some (F6,false))]
 ·exact aJS l _
 ·intro k i h;unfold aNA;rw[Bv h,Ba h,D9 h];rfl
 intro k;unfold aNA;rw[DC]
def Ir (u:ByteArray) (x:AB):Bool:=x.Kind==2&&decide (x.Key=u)
def I5 (l:List AB) (u:ByteArray):Int:=match l.find? (Ir u)with |some x=>x.Content.N|none=>0
def vV (u:ByteArray) (x:AB):(bif (x.Kind==2)then some (x.Key.toList==u.toList)else some false)=some (Ir u x):=by
 unfold Ir;rw[IQ];cases x.Kind==2<;>rfl
def aKG (l:List AB) (u:ByteArray) (hl:l.length≤1000):jk l u=some (I5 l u):=by
 unfold jk aSV I5;rw[JD l (fuel_lt AA) (Ir u) (fun i=>some (match l[i]? with |some x=>x.Content.N|none=>0)) (some 0)]
 ·rw[JG];by_cases h:l.findIdx (Ir u)<l.length
  ·rw[CV h]
  rw[Cc h,I7 AA]
 ·intro k i h;unfold aMX;rw[Bv h,Ba h,D9 h];simp only[AQ];rw[vV];rfl
 intro k;unfold aMX;rw[DC]
def aJX (l:List AB) (u:ByteArray) (hl:l.length≤1000):rP l u=some (I5 l u):=by
 unfold rP aeB I5;rw[JD l (fuel_lt AA) (Ir u) (fun i=>some (match l[i]? with |some x=>x.Content.N|none=>0)) (some 0)]
 ·rw[JG];by_cases h:l.findIdx (Ir u)<l.length
  ·rw[CV h]
  rw[Cc h,I7 AA]
 ·intro k i h;unfold aM3;rw[Bv h,Ba h,D9 h];simp only[AQ];rw[vV];rfl
 intro k;unfold aM3;rw[DC]
def Vr (e:AB) (l:List AB):Bool:=
 (IX l).2&&(e.bC.length==1&&(e.bC.getD 0 0==(IX l).1.Id&&(decide (e.aP=(IX l).1.aP)&&(decide (e.Key=(IX l).1.aP)&&(e.Content.N==3&& !l.any (Ir e.Key))))))
def akK (e:AB) (l:List AB) (hl:l.length≤1000):aFw e l=some (Vr e l):=by
 have z:aKK l e 0=some (!l.any (Ir e.Key)):=by
  unfold aKK;rw[Gs l (fuel_lt AA) (Ir e.Key) false (some true)]
  ·cases l.any (Ir e.Key)<;>rfl
  ·intro k i h;unfold aIo;rw[Bv h,vV];rfl
  intro k;unfold aIo;rw[DC]
 unfold aFw Vr XF;rw[aan l hl];simp only[AQ];rw[z,IQ,IQ];cases(IX l).2 with
 |false=>rfl
 |true=>
  by_cases j:e.bC.length=1
  ·have u:0<e.bC.length:=AA
   have m:((e.bC.length:Int) != 1)=false:=uI
   have q:(e.bC.length==1)=true:=O7
   have I:Ae e.bC 0=some (e.bC.getD 0 0):=by
    have :Ae e.bC ((0:Nat):Int)=some e.bC[0]:=Ba u;rw[show((0:Nat):Int)=0 from rfl]at this;rw[this];simp[List.getD,u]
   rw[m,q,I];simp only[AQ,bne];cases e.bC.getD 0 0==(IX l).1.Id<;>cases decide (e.aP=(IX l).1.aP)<;>cases decide (e.Key=(IX l).1.aP)<;>cases e.Content.N==3<;>rfl
  have m:((e.bC.length:Int) != 1)=true:=DU
  have q:(e.bC.length==1)=false:=O7
  rw[m,q];rfl
def agj (e:AB) (l:List AB) (hl:l.length≤1000):aNa e l=some (Vr e l):=by
 have z:aKF l e.Key=some (l.any (Ir e.Key)):=by
  unfold aKF aTT;rw[Gs l (fuel_lt AA) (Ir e.Key) true (some false)]
  ·cases l.any (Ir e.Key)<;>rfl
  ·intro k i h;unfold aHF;rw[Bv h,Ba h];simp only[AQ];rw[vV];rfl
  intro k;unfold aHF;rw[DC]
 unfold aNa Vr XW;rw[aRl l hl];simp only[AQ];rw[z,IQ,IQ];cases(IX l).2 with
 |false=>rfl
 |true=>
  by_cases j:e.bC.length=1
  ·have u:0<e.bC.length:=AA
   have m:((e.bC.length:Int)==1)=true:=uI
   have q:(e.bC.length==1)=true:=O7
   have I:Ae e.bC 0=some (e.bC.getD 0 0):=by
    have :Ae e.bC ((0:Nat):Int)=some e.bC[0]:=Ba u;rw[show((0:Nat):Int)=0 from rfl]at this;rw[this];simp[List.getD,u]
   rw[m,q,I];simp only[AQ];cases e.bC.getD 0 0==(IX l).1.Id<;>cases decide (e.aP=(IX l).1.aP)<;>cases decide (e.Key=(IX l).1.aP)<;>cases e.Content.N==3<;>rfl
  have m:((e.bC.length:Int)==1)=false:=DU
  have q:(e.bC.length==1)=false:=O7
  rw[m,q];rfl
def moveB (f t:Int) (s:Bool):Bool:=
 bif decide (f<0)||decide (f>4)then false else bif t==3 then s&&f != 4 else bif t==0 then f==1||f==2||f==3||(f==4&& !s)else bif t==2 then s&&(f==0||f==2)else bif t==1 then !s&&(f==0||f==2||f==1)else bif t==4 then !s else false
def aaO (f t:Int) (s:Bool):ZF f t s=some (moveB f t s):=by
 unfold ZF moveB;simp only[JW,AQ,ZA,Tv]
def akb (f t:Int) (s:Bool):dQ f t s=some (moveB f t s):=by
 rw[←aaO];by_cases j:f<0
 ·unfold dQ ZF;rw[IJ j];rfl
 by_cases m:f>4
 ·unfold dQ ZF;rw[IJ m];cases decide (f<0)<;>rfl
 by_cases q:t<0
 ·unfold dQ ZF;rw[IJ q,IC j,IC m,show(t==3)=false by simp;omega,show(t==0)=false by simp;omega,show(t==2)=false by simp;omega,show(t==1)=false by simp;omega,show(t==4)=false by simp;omega];rfl
 by_cases u:t>4
 ·unfold dQ ZF;rw[IJ u,IC q,IC j,IC m,show(t==3)=false by simp;omega,show(t==0)=false by simp;omega,show(t==2)=false by simp;omega,show(t==1)=false by simp;omega,show(t==4)=false by simp;omega];rfl
 have z:f=0∨f=1∨f=2∨f=3∨f=4:=AA
 have I:t=0∨t=1∨t=2∨t=3∨t=4:=AA
 rcases z with rfl|rfl|rfl|rfl|rfl<;>rcases I with rfl|rfl|rfl|rfl|rfl<;>cases s<;>decide
def Ws (l:List AB):Int×List ByteArray:=match l.find? fun x=>x.Kind==4 with |some x=>(x.Content.N,x.Content.Allow)|none=>(0,[])
def afb (l:List AB) (hl:l.length≤1000) (hs:DF l):aCH l=some (Ws l):=by
 unfold aCH aSF Ws;rw[JD l (fuel_lt AA) (fun x=>x.Kind==4) (fun i=>some (match l[i]? with |some x=>(x.Content.N,x.Content.Allow)|none=>(0,[]))) (some (0,[]))]
 ·rw[JG];by_cases h:l.findIdx (fun x=>x.Kind==4)<l.length
  ·rw[CV h]
  rw[Cc h,I7 AA]
 ·intro k i h;have ha:=(hs _ (Df h)).allow;unfold aH1;rw[Bv h,D9 h,D7 TQ];rfl
 intro k;unfold aH1;rw[DC]
def agK (l:List AB) (hl:l.length≤1000) (hs:DF l):aKx l=some (Ws l):=by
 unfold aKx abu Ws;rw[JD l (fuel_lt AA) (fun x=>x.Kind==4) (fun i=>some (match l[i]? with |some x=>(x.Content.N,x.Content.Allow)|none=>(0,[]))) (some (0,[]))]
 ·rw[JG];by_cases h:l.findIdx (fun x=>x.Kind==4)<l.length
  ·rw[CV h]
  rw[Cc h,I7 AA]
 ·intro k i h;have ha:=(hs _ (Df h)).allow;unfold aKb;rw[Bv h,Ba h,D9 h];simp only[AQ];rw[D7 TQ];rfl
 intro k;unfold aKb;rw[DC]
def uY (j now:Int):Int:=bif now==3||j==1 then 0 else bif now==1&&(j==0||j==2||j==3)then 0 else 21
def wE (j now:Int):Int:=bif j==2&&(now==0||now==2)then 0 else 21
def an7 (r n:Int):aCT r n=some (uY r n):=by
 unfold aCT uZ Mid uY;cases n==3<;>cases r==1<;>cases r==2<;>cases r==3<;>cases r==0<;>cases n==1<;>rfl
def amm (r n:Int):aNu r n=some (uY r n):=by
 unfold aNu uY;cases n==3<;>cases r==1<;>cases r==2<;>cases r==3<;>cases r==0<;>cases n==1<;>rfl
def akD (r n:Int):aEA r n=some (wE r n):=by
 unfold aEA aEI wE bne;cases r==2<;>cases n==0<;>cases n==2<;>rfl
def apV (r n:Int):aGd r n=some (wE r n):=by
 unfold aGd wE;cases r==2<;>cases n==0<;>cases n==2<;>rfl
def Xt (m now:Int) (l:List AB):Int:=bif m==3 then uY (Ws l).1 now else bif m==2 then wE (Ws l).1 now else 0
def afy (m now:Int) (l:List AB) (hl:l.length≤1000) (hs:DF l):aC2 m now l=some (Xt m now l):=by
 unfold aC2 Xt;rw[afb l hl hs];simp only[AQ];rw[an7,akD];cases m==3<;>cases m==2<;>rfl
def afg (e:AB) (now:Int) (l:List AB) (hl:l.length≤1000) (hs:DF l):aM1 e l now=some (Xt e.Content.N now l):=by
 unfold aM1 Xt;rw[agK l hl hs];simp only[AQ];rw[amm,apV];cases e.Content.N==3<;>cases e.Content.N==2<;>rfl
def Gv (k:Int):Bool:=decide (k≥1)&&decide (k≤10)
def aeZ (k:Int):ZW k=some (Gv k):=by
 unfold ZW Gv;cases decide (k≥1)<;>rfl
def aCb (k:Int):Ui k=some (Gv k):=by
 unfold Ui Gv;cases decide (k≥1)<;>rfl
def Wx (v:Bd) (k:Int):Int:=match v.Kinds.find? fun x=>x.Kind==k with |some x=>x.N|none=>bif Gv k then v.State else v.Message
def aKU (v:Bd) (k:Int) (h:v.Kinds.length≤1000):jh v k=some (Wx v k):=by
 unfold jh aSJ Wx;rw[JD v.Kinds (fuel_lt AA) (fun x=>x.Kind==k) (fun i=>some (match v.Kinds[i]? with |some x=>x.N|none=>0)) (some (bif Gv k then v.State else v.Message))]
 ·rw[JG];by_cases h:v.Kinds.findIdx (fun x=>x.Kind==k)<v.Kinds.length
  ·rw[CV h,D9 h]
  rw[Cc h,I7 AA]
 ·intro k2 i h;unfold aJF;rw[Bv h,D9 h]
 intro k2;unfold aJF;rw[DC,aeZ];cases Gv k<;>rfl
def xP (v:Bd) (k:Int) (h:v.Kinds.length≤1000):uo v k=some (Wx v k):=by
 unfold uo acz Wx;rw[JD v.Kinds (fuel_lt AA) (fun x=>x.Kind==k) (fun i=>some (match v.Kinds[i]? with |some x=>x.N|none=>0)) (some (bif Gv k then v.State else v.Message))]
 ·rw[JG];by_cases h:v.Kinds.findIdx (fun x=>x.Kind==k)<v.Kinds.length
  ·rw[CV h,D9 h]
  rw[Cc h,I7 AA]
 ·intro k2 i h;unfold aLT;rw[Bv h,Ba h,D9 h];rfl
 intro k2;unfold aLT;rw[DC,aCb];cases Gv k<;>rfl
def Uf (j m q:Int):Bool:=m==q||(decide (m≤j)&&decide (q≤j))
def numsOf (v:Bd):List Int:=[v.User,v.Message,v.State,v.fQ,v.jK,v.mY,v.fC]
def tV (j:Int) (p:Int×Int):Bool:= !Uf j p.1 p.2
def Ut (j:Int) (m q:Bd) (x:Ii):Bool:= !Uf j (Wx m x.Kind) (Wx q x.Kind)
def Iq (m:Int) (j q:Bd) (u:ByteArray) (x:Ht):Bool:= !(Uf m (Dw j x.User) (Dw q x.User)&&(Dw j x.User==Dw q x.User||decide (x.User=u)||decide (Dw j x.User<m)))
def qh (j q:Bd) (m:ByteArray):Int:=
 bif ((numsOf j).zip (numsOf q)).any (tV (Dw j m))then 20 else bif (j.Kinds++q.Kinds).any (Ut (Dw j m) j q)then 20 else bif (j.Users++q.Users).any (Iq (Dw j m) j q m)then 20 else 0
def aGf (j m q:Int):Wp m q j=some (!Uf j m q):=by
 unfold Wp Uf;have u:(m != q)= !(m==q):=rfl;have z:decide (m>j)= !decide (m≤j):=by by_cases h:m≤j<;>simp[h]<;>omega
 have I:decide (q>j)= !decide (q≤j):=by by_cases h:q≤j<;>simp[h]<;>omega
 rw[u,z,I];cases m==q<;>cases decide (m≤j)<;>cases decide (q≤j)<;>rfl
def Mem (m j q:Int):tZ j q m=some (Uf m j q):=by
 unfold tZ Uf;cases j==q<;>cases decide (j≤m)<;>rfl
structure Ye (v:Bd):Prop where
 users:v.Users.length≤100
 kinds:v.Kinds.length≤100
def pO (a b:Bd):((numsOf a).zip (numsOf b)).length=7:=rfl
def arD (m q:Bd) (u:ByteArray) (Z:Ye m) (hn:Ye q):xQ m q u=some (qh m q u):=by
 have o1:=Z.users;have o2:=Z.kinds;have n1:=hn.users;have n2:=hn.kinds;unfold xQ;rw[WU m u AA];unfold aBn;simp only[AQ];unfold qh;generalize hown:Dw m u=z
 have hU:aEB m q z u false 0=some (bif (m.Users++q.Users).any (Iq z m q u)then 20 else 0):=by
  unfold aEB;rw[aN2 ([m.Users,q.Users]:List (List Ht)) (fuel_lt Ap) (fun us=>us.any (Iq z m q u)) (fun _=>some 20) (some 0) false]
  ·have e:(m.Users++q.Users).any (Iq z m q u)=([m.Users,q.Users]:List (List Ht)).any (fun us=>us.any (Iq z m q u)):=Ap
   rw[e]
   have hf:∀L:List (List Ht),(if L.findIdx (fun us=>us.any (Iq z m q u))<L.length then some (20:Int)else some 0)=some (bif L.any (fun us=>us.any (Iq z m q u))then 20 else 0):=fun L=>by
    by_cases h:L.findIdx (fun us=>us.any (Iq z m q u))<L.length
    ·rw[CV h];have :L.any (fun us=>us.any (Iq z m q u))=true:=Fv.2 ((uG).1 h);rw[this];rfl
    rw[Cc h]
    have :L.any (fun us=>us.any (Iq z m q u))=false:=by
     rw[Bool.eq_false_iff];exact fun k=>h (uG.2 (Fv.1 k))
    rw[this];rfl
   exact hf _
  ·intro k i h
   have O:([m.Users,q.Users]:List (List Ht))[i].length≤100:=by
    have :([m.Users,q.Users]:List (List Ht))[i]∈[m.Users,q.Users]:=Df h;simp only[Ei,Ez,kV]at this;rcases this with e|e<;>rw[e]<;>assumption
   unfold aD0;rw[show decide ((i:Int)<2)=true by simp only[Fa,Md]at h;simp;omega,Ba h];simp only[Au,AQ];generalize([m.Users,q.Users]:List (List Ht))[i]=us at O;unfold af5;rw[aN2 us (fuel_lt AA) (Iq z m q u) (fun _=>some 20) (k false (Ag ((i:Int)+1))) false]
   ·by_cases J:us.findIdx (Iq z m q u)<us.length
    ·rw[CV J];have :us.any (Iq z m q u)=true:=Fv.2 ((uG).1 J);rw[this];rfl
    rw[Cc J]
    have :us.any (Iq z m q u)=false:=by
     rw[Bool.eq_false_iff];exact fun k=>J (uG.2 (Fv.1 k))
    rw[this];rfl
   ·intro k2 j U;unfold aDk jG;rw[Bv U,WU m _ AA,WU q _ AA];simp only[AQ];rw[aGf,IQ];unfold Iq;have J:decide (Dw m us[j].User≥z)= !decide (Dw m us[j].User<z):=by by_cases h:Dw m us[j].User<z<;>simp[h]<;>omega
    have h3:(Dw m us[j].User != Dw q us[j].User)= !(Dw m us[j].User==Dw q us[j].User):=rfl;simp only[AQ];rw[J,h3];cases Uf z (Dw m us[j].User) (Dw q us[j].User)<;>cases Dw m us[j].User==Dw q us[j].User<;>cases decide (us[j].User=u)<;>cases decide (Dw m us[j].User<z)<;>rfl
   intro k2;unfold aDk;rw[DC]
  intro k;unfold aD0 jG;rw[show decide (((([m.Users,q.Users]:List (List Ht)).length:Nat):Int)<2)=false from rfl];rfl
 have hK:aEw m q z u 0=some (bif (m.Kinds++q.Kinds).any (Ut z m q)then 20 else bif (m.Users++q.Users).any (Iq z m q u)then 20 else 0):=by
  unfold aEw;rw[Gs ([m.Kinds,q.Kinds]:List (List Ii)) (fuel_lt Ap) (fun I=>I.any (Ut z m q)) 20 (aEB m q z u false 0)]
  ·rw[hU];have e:(m.Kinds++q.Kinds).any (Ut z m q)=([m.Kinds,q.Kinds]:List (List Ii)).any (fun I=>I.any (Ut z m q)):=Ap
   rw[e];cases([m.Kinds,q.Kinds]:List (List Ii)).any (fun I=>I.any (Ut z m q))<;>rfl
  ·intro k i h
   have Y:([m.Kinds,q.Kinds]:List (List Ii))[i].length≤100:=by
    have :([m.Kinds,q.Kinds]:List (List Ii))[i]∈[m.Kinds,q.Kinds]:=Df h;simp only[Ei,Ez,kV]at this;rcases this with e|e<;>rw[e]<;>assumption
   unfold aCE;rw[show decide ((i:Int)<2)=true by simp only[Fa,Md]at h;simp;omega,Ba h];simp only[Au,AQ];generalize([m.Kinds,q.Kinds]:List (List Ii))[i]=I at Y;unfold aeY;rw[Gs I (fuel_lt AA) (Ut z m q) 20 (k (Ag ((i:Int)+1)))]
   ·intro k2 j U;unfold zk;rw[Bv U,aKU m _ AA,aKU q _ AA];simp only[AQ];rw[aGf];rfl
   intro k2;unfold zk;rw[DC]
  intro k;unfold aCE;rw[show decide (((([m.Kinds,q.Kinds]:List (List Ii)).length:Nat):Int)<2)=false from rfl];rfl
 unfold aci;rw[Gs ((numsOf m).zip (numsOf q)) aRj (tV z) 20 (aEw m q z u 0)]
 ·rw[hK];cases((numsOf m).zip (numsOf q)).any (tV z)<;>rfl
 ·intro k i h;have M:i<7:=by rw[pO]at h;exact h
  have e1:Ae [m.User,m.Message,m.State,m.fQ,m.jK,m.mY,m.fC] (i:Int)=some ((numsOf m)[i]'(M)):=Ba (l:=numsOf m) M;have e2:Ae [q.User,q.Message,q.State,q.fQ,q.jK,q.mY,q.fC] (i:Int)=some ((numsOf q)[i]'(M)):=Ba (l:=numsOf q) M;unfold aB0;rw[show decide ((i:Int)<7)=true by simp;omega,e1,e2];simp only[Au,AQ];rw[aGf,aGN];rfl
 intro k;unfold aB0;rw[pO,show decide (((7:Nat):Int)<7)=false from rfl];rfl
def aoI (j q:Bd) (u m:ByteArray) (z:Ye j) (I:Ye q):rG j q u m=some (Uf (Dw j m) (Dw j u) (Dw q u)&&(Dw j u==Dw q u||decide (u=m)||decide (Dw j u<Dw j m))):=by
 have J:=z.users;have L:=I.users;unfold rG;rw[YS j m AA,YS j u AA,YS q u AA];simp only[AQ];rw[Mem,IQ];simp only[AQ];cases Uf (Dw j m) (Dw j u) (Dw q u)<;>cases Dw j u==Dw q u<;>cases decide (u=m)<;>cases decide (Dw j u<Dw j m)<;>rfl
def afl (j m:Bd) (q:ByteArray) (J:Ye j) (L:Ye m):aJm j m q=some (qh j m q):=by
 have o1:=J.users;have o2:=J.kinds;have n1:=L.users;have n2:=L.kinds;unfold aJm;rw[YS j q AA];unfold aMP;simp only[AQ];unfold qh
 have z:∀x:Ht,(rG j m x.User q)=some (!Iq (Dw j q) j m q x):=fun x=>by
  rw[aoI j m _ _ J L];unfold Iq;rw[xg]
 generalize O:Dw j q=u at z
 have M:aMu m j q 0=some (bif m.Users.any (Iq u j m q)then 20 else 0):=by
  unfold aMu;rw[Gs m.Users (fuel_lt AA) (Iq u j m q) 20 (some 0)]
  ·cases m.Users.any (Iq u j m q)<;>rfl
  ·intro k i h;unfold aNP;rw[Bv h,z];simp only[AQ,xg]
  intro k;unfold aNP;rw[DC]
 have Y:aL7 j m q 0=some (bif (j.Users++m.Users).any (Iq u j m q)then 20 else 0):=by
  unfold aL7;rw[Gs j.Users (fuel_lt AA) (Iq u j m q) 20 (some (bif m.Users.any (Iq u j m q)then 20 else 0))]
  ·rw[aHW];cases j.Users.any (Iq u j m q)<;>rfl
  ·intro k i h;unfold aHv;rw[Bv h,z];simp only[AQ,xg]
  intro k;unfold aHv;rw[DC,M]
 have Z:aFE j m u q 0=some (bif (j.Kinds++m.Kinds).any (Ut u j m)then 20 else bif (j.Users++m.Users).any (Iq u j m q)then 20 else 0):=by
  unfold aFE;have U:Ag ((j.Kinds.length:Int)+(m.Kinds.length:Int))=(((j.Kinds++m.Kinds).length:Nat):Int):=by rw[EG,aA];omega
  rw[Gs (j.Kinds++m.Kinds) (fuel_lt Jw) (Ut u j m) 20 (some (bif (j.Users++m.Users).any (Iq u j m q)then 20 else 0))]
  ·cases(j.Kinds++m.Kinds).any (Ut u j m)<;>rfl
  ·intro k i h;unfold aOn aIS;rw[U,dec_lt h];simp only[Au];by_cases hi:i<j.Kinds.length
   ·rw[dec_lt hi,Ba hi];simp only[Au,AQ];rw[xP j _ AA,xP m _ AA];simp only[AQ];rw[Mem,aKm hi];rfl
   have hj:i-j.Kinds.length<m.Kinds.length:=by rw[EG]at h;omega
   have w:Ag ((i:Int)-(j.Kinds.length:Int))=((i-j.Kinds.length:Nat):Int):=by rw[EG]at h;rw[aA];omega
   rw[show decide ((i:Int)<(j.Kinds.length:Int))=false by simp;omega,w,Ba hj];simp only[Aj,AQ];rw[xP j _ AA,xP m _ AA];simp only[AQ];rw[Mem,aUx AA];rfl
  intro k;unfold aOn;rw[U,CX,Y];rfl
 unfold aSS;rw[Gs ((numsOf j).zip (numsOf m)) aRj (tV u) 20 (aFE j m u q 0)]
 ·rw[Z];cases((numsOf j).zip (numsOf m)).any (tV u)<;>rfl
 ·intro k i h;have I:i<7:=by rw[pO]at h;exact h
  have e1:Ae [j.User,j.Message,j.State,j.fQ,j.jK,j.mY,j.fC] (i:Int)=some ((numsOf j)[i]'(I)):=Ba (l:=numsOf j) I;have e2:Ae [m.User,m.Message,m.State,m.fQ,m.jK,m.mY,m.fC] (i:Int)=some ((numsOf m)[i]'(I)):=Ba (l:=numsOf m) I;unfold aNb;rw[show decide ((i:Int)<(([j.User,j.Message,j.State,j.fQ,j.jK,j.mY,j.fC]:List Int).length:Int))=true from dec_lt (n:=7) I,e1,e2];simp only[Au,AQ];rw[Mem,aGN];rfl
 intro k;unfold aNb;rw[pO];rfl
def Y8 (e:AB) (l:List AB) (now:Int):Int:=
 bif !(I5 l e.aP==3)then 18 else
 bif e.Content.N==1&&decide (Dw (EX l) e.aP<(EX l).fQ)then 20 else
 bif e.Content.N==0&&((now==4&&decide (Dw (EX l) e.aP<(EX l).mY))||decide (Dw (EX l) e.aP<(EX l).jK)||decide (Dw (EX l) e.Key≥Dw (EX l) e.aP))then 20 else
 bif e.Content.N==4&&(decide (Dw (EX l) e.aP<(EX l).mY)||decide (Dw (EX l) e.Key≥Dw (EX l) e.aP))then 20 else 0
def jH (e:AB) (l:List AB):Int:=
 bif Vr e l then 0 else
 bif decide (e.Key=e.aP)&&I5 l e.Key==4 then 19 else
 bif !moveB (I5 l e.Key) e.Content.N (decide (e.Key=e.aP))then 18 else
 bif decide (e.Key=e.aP)then Xt e.Content.N (I5 l e.Key) l else Y8 e l (I5 l e.Key)
def Yr (e:AB) (l:List AB):Int:=
 bif decide (Dw (EX l) e.aP<Wx (EX l) e.Kind)then 20 else bif e.Kind==3 then qh (EX l) e.Content.Levels e.aP else 0
def aSR (s:ByteArray):ByteArray:=(splitB s (Jc s)).2.1
def NG (e:AB) (l:List AB):Int:=
 bif e.Kind==1 then(bif !(IX l).2&&(aSR e.aP).toList==(aSR e.Room).toList then 0 else 17)else
 bif !(IX l).2 then 17 else bif e.Kind==2 then jH e l else bif !(I5 l e.aP==3)then 18 else Yr e l
def aEF {l:List AB} (h:DF l):Ye (EX l):=⟨(gI h).1,(gI h).2⟩
def Fl.levels {e:AB} (h:Fl e):Ye e.Content.Levels:=⟨h.users,h.kinds⟩
def anG (e:AB) (l:List AB) (hl:l.length≤1000) (hs:DF l) (m:Fl e):Src e l=some (Yr e l):=by
 have j:=aEF hs;have q:=j.users;have u:=j.kinds;unfold Src Yr;rw[sG l hl hs];simp only[AQ];rw[WU _ _ AA,aKU _ _ AA];simp only[AQ];rw[arD _ _ _ j m.levels];cases decide (Dw (EX l) e.aP<Wx (EX l) e.Kind)<;>cases e.Kind==3<;>rfl
def arE (e:AB) (l:List AB) (hl:l.length≤1000) (hs:DF l) (m:Fl e):aJY e l=some (Yr e l):=by
 have j:=aEF hs;have q:=j.users;have u:=j.kinds;unfold aJY Yr;rw[aHN l hl];simp only[AQ];rw[YS _ _ AA,xP _ _ AA];simp only[AQ];rw[afl _ _ _ j m.levels];cases decide (Dw (EX l) e.aP<Wx (EX l) e.Kind)<;>cases e.Kind==3<;>rfl
def jZ (x:Int):Except Value Unit:=.error (.iface 258 (.agg #[.int .i64 x]))
def acE (x:Int):aJ x=some (jZ x):=rfl
def aJk (b:Bool) (x:Int):Qx b x=some (bif b then .ok ()else jZ x):=by cases b<;>rfl
def aJG (b:Bool) (x:Int) (f:Unit→Option (Except Value Unit)):Kt (bif b then .ok ()else jZ x) f=bif b then f ()else some (jZ x):=by cases b<;>rfl
def aed (x:Int) (f:Unit→Option (Except Value Unit)):Kt (jZ x) f=some (jZ x):=rfl
def apB (a b:Int):decide (a≥b)= !decide (a<b):=by by_cases h:a<b<;>simp[h]<;>omega
def aik (e:AB) (l:List AB) (now:Int) (hl:l.length≤1000) (hs:DF l):(eG l e now).bind Tf=some (Y8 e l now):=by
 have u:=(gI hs).1;unfold eG Y8;rw[aKG l _ hl,sG l hl hs];simp only[AQ];rw[WU _ _ AA,WU _ _ AA];simp only[aJk,AQ,aJG,apB]
 have z:decide (Dw (EX l) e.Key<Dw (EX l) e.aP)= !decide (Dw (EX l) e.aP≤Dw (EX l) e.Key):=by
  by_cases h:Dw (EX l) e.Key<Dw (EX l) e.aP<;>simp[h]<;>omega
 have q:(now != 4)= !(now==4):=rfl;rw[q];generalize decide (Dw (EX l) e.Key<Dw (EX l) e.aP)=t;generalize decide (Dw (EX l) e.aP<(EX l).fQ)=i;generalize decide (Dw (EX l) e.aP<(EX l).mY)=b;generalize decide (Dw (EX l) e.aP<(EX l).jK)=k;generalize(now==4)=n;cases I5 l e.aP==3 with
 |false=>rfl
 |true=>
  by_cases j:e.Content.N=1
  ·rw[j];cases i<;>rfl
  rw[show(e.Content.N==1)=false by simpa using j];by_cases m:e.Content.N=0
  ·rw[m];cases n<;>cases b<;>cases k<;>cases t<;>rfl
  rw[show(e.Content.N==0)=false by simpa using m];cases e.Content.N==4<;>cases b<;>cases t<;>rfl
def aoN (e:AB) (l:List AB) (now:Int) (hl:l.length≤1000) (hs:DF l):aOa e l now=some (Y8 e l now):=by
 have j:=(gI hs).1;unfold aOa Y8;rw[aJX l _ hl,aHN l hl];simp only[AQ];rw[YS _ _ AA,YS _ _ AA];simp only[AQ,JW,ZA,Tv,bne]
def ag6 (e:AB) (l:List AB) (hl:l.length≤1000) (hs:DF l):Rch e l=some (jH e l):=by
 unfold Rch jH;rw[akK e l hl];simp only[AQ];cases Vr e l with
 |true=>rfl
 |false=>
  simp only[Aj]
  have m:∀o:Option (Except Value Unit),(o.bind fun q=>(Tf q).bind fun u=>some u)=o.bind Tf:=fun o=>by
   cases o with
   |none=>rfl
   |some x=>cases h:Tf x<;>simp[h]
  rw[m];have j:=aik e l (I5 l e.Key) hl hs;unfold aJI;rw[aKG l _ hl,IQ];simp only[AQ];rw[akb,afy _ _ _ hl hs];simp only[AQ,aJk,acE,aJG,aed,JW];have z:(I5 l e.Key != 4)= !(I5 l e.Key==4):=rfl;rw[z];generalize eG l e (I5 l e.Key)=J at j;generalize decide (e.Key=e.aP)=s;cases s with
  |true=>
   cases I5 l e.Key==4 with
   |true=>rfl
   |false=>cases moveB (I5 l e.Key) e.Content.N true<;>rfl
  |false=>
   cases moveB (I5 l e.Key) e.Content.N false with
   |false=>rfl
   |true=>exact j
def apF (e:AB) (l:List AB) (hl:l.length≤1000) (hs:DF l):aHq e l=some (jH e l):=by
 unfold aHq jH;rw[agj e l hl,aJX l _ hl];simp only[AQ];rw[aaO,afg e _ l hl hs,aoN e l _ hl hs,IQ];simp only[AQ,JW,Tv]
def aK3 (e:AB) (l:List AB) (hl:l.length≤1000) (hs:DF l) (j:Fl e):kn e l=some (NG e l):=by
 have z:=j.sender;have I:=j.room;unfold kn NG
 have m:∀o:Option (Except Value Unit),(o.bind fun q=>(Tf q).bind fun u=>some u)=o.bind Tf:=fun o=>by
  cases o with
  |none=>rfl
  |some x=>cases h:Tf x<;>simp[h]
 rw[m];unfold aIT zL zS aEP;rw[aan l hl,(gu (s:=e.aP) AA).1,(gu (s:=e.Room) AA).1,aKG l _ hl,anG e l hl hs j,ag6 e l hl hs];simp only[AQ,aJk,acE,aJG,aed];show _=some (bif e.Kind==1 then(bif !(IX l).2&&(splitB e.aP (Jc e.aP)).2.1.toList==(splitB e.Room (Jc e.Room)).2.1.toList then 0 else 17)else _);cases e.Kind==1 with
 |true=>
  cases(IX l).2 with
  |true=>rfl
  |false=>cases(splitB e.aP (Jc e.aP)).2.1.toList==(splitB e.Room (Jc e.Room)).2.1.toList<;>rfl
 |false=>
  cases(IX l).2 with
  |false=>rfl
  |true=>
   cases e.Kind==2 with
   |true=>rfl
   |false=>cases I5 l e.aP==3<;>rfl
def aMc (e:AB) (l:List AB) (hl:l.length≤1000) (hs:DF l) (j:Fl e):xG e l=some (NG e l):=by
 have m:=j.sender;have q:=j.room;unfold xG aLl NG;rw[aRl l hl,(gu (s:=e.aP) AA).2,(gu (s:=e.Room) AA).2,aJX l _ hl,arE e l hl hs j,apF e l hl hs];simp only[AQ];show _=some (bif e.Kind==1 then(bif !(IX l).2&&(splitB e.aP (Jc e.aP)).2.1.toList==(splitB e.Room (Jc e.Room)).2.1.toList then 0 else 17)else _);cases e.Kind==1 with
 |true=>
  cases(IX l).2 with
  |true=>rfl
  |false=>cases(splitB e.aP (Jc e.aP)).2.1.toList==(splitB e.Room (Jc e.Room)).2.1.toList<;>rfl
 |false=>
  cases(IX l).2 with
  |false=>rfl
  |true=>
   cases e.Kind==2 with
   |true=>rfl
   |false=>unfold bne;cases I5 l e.aP==3<;>rfl
def ZU (named:List AB) (k:Ah):AB×Bool:=match named.find? (EM k)with |some x=>(x,true)|none=>(F6,false)
def Zl (l:List AB) (s:List Ah) (e:AB) (k:Ah):AB×Bool:=bif (Fj s k.Kind k.Key).2 then Gq l (Fj s k.Kind k.Key).1 else ZU (ofIds l e.bD) k
def RI (l:List AB) (s:List Ah) (e:AB) (k:Ah):List AB:=bif (Zl l s e k).2 then[(Zl l s e k).1]else[]
def SH (l:List AB) (s:List Ah) (e:AB):List AB:=(keysOf e).flatMap (RI l s e)
def aHf (l:List AB) (s:List Ah) (e:AB) (k:Ah):(RI l s e k).length≤1:=by
 unfold RI;cases(Zl l s e k).2<;>simp
def aQ5 (l:List AB) (s:List Ah) (e:AB):(SH l s e).length≤5:=by
 have j:=flat_length (f:=RI l s e) (n:=1) (aHf l s e) (keysOf e);have m:=WY e;unfold SH;omega
def atf {l:List AB} {s:List Ah} {e x:AB} (h:x∈SH l s e):x∈l:=by
 obtain⟨k,_,h⟩:=TW.1 h;unfold RI Zl ZU at h;cases q:(Fj s k.Kind k.Key).2 with
 |true=>
  rw[q]at h;simp only[Au]at h;cases j:Dh l (Fj s k.Kind k.Key).1 with
  |none=>rw[QH j]at h;exact absurd h Ez
  |some y=>rw[La j]at h;rw[Gu.1 h];exact KL j
 |false=>
  rw[q]at h;simp only[Aj]at h;cases m:(ofIds l e.bD).find? (EM k)with
  |none=>rw[m]at h;exact absurd h Ez
  |some y=>rw[m]at h;rw[Gu.1 h];exact aPN (SV m)
def DF.base {l:List AB} (h:DF l) (s:List Ah) (e:AB):DF (SH l s e):=fun x j=>h x (atf j)
def aol (named:List AB) (k:Ah) (j:named.length≤1000):aCp named k=some (ZU named k):=by
 unfold aCp;rw[aMw named AA (fun a0=>sQ a0 k) (EM k) fun e=>by unfold sQ EM;rw[IQ];cases e.Kind==k.Kind<;>rfl];exact found_eq named (EM k) rfl
def apU (named:List AB) (k:Ah) (j:named.length≤1000):aLj named k.Kind k.Key=some (ZU named k):=by
 unfold aLj aSd;rw[aOB named (fuel_lt AA) (EM k) (fun i=>some (match named[i]? with |some x=>(x,true)|none=>(F6,false))) (some (F6,false))]
 ·exact aJS named _
 ·intro k2 i h;unfold aLC;rw[Bv h,Ba h,D9 h];simp only[AQ];rw[IQ];unfold EM;cases named[i].Kind==k.Kind<;>cases decide (named[i].Key=k.Key)<;>rfl
 intro k2;unfold aLC;rw[DC]
def ajp (l:List AB) (s:List Ah) (e:AB) (hl:l.length≤1000) (q:e.bD.length≤40) (hs:J6 s) (j:s.length≤1000000):aBz l s e=some (SH l s e):=by
 unfold aBz;have u:=Zq l e.bD;have z:=WY e;have m:Il 376 F6 0 5=some []:=by unfold Il;rw[CV aCC];rfl
 rw[aQm l _ hl AA,m,aQ0];simp only[AQ];unfold aRq;rw[H6 (keysOf e) AA (fun r k=>r++RI l s e k) (fun i r=>r.length≤i) (fun r=>some r) (Dk _)]
 ·rw[foldl_append (RI l s e),IV];rfl
 ·intro k r i h I;have J:=aHf l s e (keysOf e)[i];refine⟨Jw,?_⟩;unfold aIh aAh aB4;rw[Bv h,aol _ _ AA,aGz s _ _ j hs];simp only[AQ];rw[MK l _ AA,D7 FM];simp only[AQ];rw[D7 FM];unfold RI Zl;cases(Fj s (keysOf e)[i].Kind (keysOf e)[i].Key).2 with
  |true=>
   simp only[Au];cases(Gq l (Fj s (keysOf e)[i].Kind (keysOf e)[i].Key).1).2 with
   |true=>rfl
   |false=>simp
  |false=>
   simp only[Aj];cases(ZU (ofIds l e.bD) (keysOf e)[i]).2 with
   |true=>rfl
   |false=>simp
 intro k r _;unfold aIh;rw[DC]
def ai6 (l:List AB) (s:List Ah) (e:AB) (hl:l.length≤1000) (m:e.bD.length≤40) (j:s.length≤1000000):aHh l s e=some (SH l s e):=by
 unfold aHh;have q:=Zq l e.bD;have u:=WY e;rw[aIc,aNd l _ hl AA];simp only[AQ];unfold aUC;rw[H6 (a0:=[]) (keysOf e) AA (fun r k=>r++RI l s e k) (fun i r=>r.length≤i) (fun r=>some r) (Dk _)]
 ·rw[foldl_append (RI l s e),IV];rfl
 ·intro k r i h z;have I:=aHf l s e (keysOf e)[i];refine⟨Jw,?_⟩;unfold aMk aLv aKS;rw[dec_lt h,Ba h];simp only[Au,AQ];rw[apU _ _ AA,aGl s _ _ j];simp only[AQ];rw[NQ l _ AA,D7 FM];simp only[AQ];rw[D7 FM];unfold RI Zl;cases(Fj s (keysOf e)[i].Kind (keysOf e)[i].Key).2 with
  |true=>
   simp only[Au];cases(Gq l (Fj s (keysOf e)[i].Kind (keysOf e)[i].Key).1).2 with
   |true=>rfl
   |false=>simp
  |false=>
   simp only[Aj];cases(ZU (ofIds l e.bD) (keysOf e)[i]).2 with
   |true=>rfl
   |false=>simp
 intro k r _;unfold aMk;rw[CX];rfl
def Rt (l:List AB) (s:List Ah) (id:Int):Bool:=bY l id&&(Gv (ev l id).Kind&&NG (ev l id) (SH l s (ev l id))==0)
def OM (l:List AB) (s:List Ah) (id:Int):List Ah:=bif Rt l s id then FQ s (ev l id).Kind (ev l id).Key (ev l id).Id else s
def OI (l:List AB) (s:List Ah) (ids:List Int):List Ah:=ids.foldl (OM l) s
def ado {l:List AB} {s:List Ah} (h:J6 s) (id:Int):J6 (OM l s id):=by
 unfold OM;cases Rt l s id with
 |true=>exact Wj h _ _ _
 |false=>exact h
def aOm {l:List AB}:∀{ids:List Int} {s:List Ah},J6 s→J6 (OI l s ids)
 | [],_,h=>h
 |id::ids,s,h=>aOm (ids:=ids) (ado h id)
def aNO (l:List AB) (s:List Ah) (id:Int):(OM l s id).length≤s.length+1:=by
 unfold OM;cases Rt l s id with
 |true=>exact Pe _ _ _ _
 |false=>exact Nat.le_succ _
def aAp (l:List AB):∀(ids:List Int) (s:List Ah),(OI l s ids).length≤s.length+ids.length
 | [],s=>Dk _
 |id::ids,s=>by
  have j:=aAp l ids (OM l s id);have m:=aNO l s id;show(OI l (OM l s id) ids).length≤_;rw[Fa];omega
def aaB {l:List AB} (hs:DF l) {id:Int} (h:bY l id=true):Fl (ev l id):=hs _ (KL (Ib h).1)
def amu (l:List AB) (s:List Ah) (id:Int) (hl:l.length≤1000) (hs:DF l) (u:J6 s) (m:s.length≤1000000):aDo l s id=some (OM l s id):=by
 unfold aDo aJp yV OM Rt;have j:aFm s (.error (.iface 266 (.agg #[])):Except Value (List Ah))=some s:=rfl;rw[MK l _ AA];simp only[AQ];rw[Oo];cases I:(Dh l id).isSome with
 |false=>rw[show bY l id=false from I];exact j
 |true=>
  have q:bY l id=true:=I;have J:=aaB hs q;have z:(Gq l id).1=ev l id:=rfl;rw[q,z,aeZ];simp only[AQ,Dz,Aj,Fe];cases Gv (ev l id).Kind with
  |false=>exact j
  |true=>
   have L:=aQ5 l s (ev l id);rw[ajp l s _ hl J.auth u m];simp only[AQ,Dz,Aj,Fe];rw[aK3 _ _ AA (hs.base s _) J];simp only[AQ];rw[Xy s _ _ _ m];unfold bne;cases NG (ev l id) (SH l s (ev l id))==0 with
   |true=>rfl
   |false=>exact j
def aTR (l:List AB) (s:List Ah) (ids:List Int) (hl:l.length≤1000) (hs:DF l) (j:J6 s) (q:s.length+ids.length≤1000000):ZJ l s ids=some (OI l s ids):=by
 unfold ZJ aAd;rw[D7 TQ];simp only[AQ,IV];unfold abq;rw[H6 ids AA (OM l) (fun i r=>J6 r∧r.length≤s.length+i) (fun r=>some r) ⟨j,Dk _⟩]
 ·rfl
 ·intro k r i h m;have u:=aNO l r ids[i];refine⟨⟨ado m.1 _,AA⟩,?_⟩;unfold aNR;rw[Bv h,amu l r _ hl hs m.1 AA];rfl
 intro k r _;unfold aNR;rw[DC]
def abt (l:List AB) (s:List Ah) (ids:List Int) (hl:l.length≤1000) (hs:DF l) (z:s.length+ids.length≤1000000):jl l s ids=some (OI l s ids):=by
 unfold jl;rw[D7 TQ];simp only[AQ,IV];unfold aay;rw[H6 ids AA (OM l) (fun i r=>r.length≤s.length+i) (fun r=>some r) (Dk _)]
 ·rfl
 ·intro k r i h I;have J:=aNO l r ids[i];refine⟨AA,?_⟩;unfold aGm aE7 aK2 OM Rt;rw[Bv h,NQ l _ AA];simp only[AQ];rw[Oo];cases q:(Dh l ids[i]).isSome with
  |false=>rw[show bY l ids[i]=false from q];rfl
  |true=>
   have j:bY l ids[i]=true:=q;have u:=aaB hs j;have m:(Gq l ids[i]).1=ev l ids[i]:=rfl;rw[j,m,aCb];simp only[AQ,Au,Fe];cases Gv (ev l ids[i]).Kind with
   |false=>rfl
   |true=>
    have L:=aQ5 l r (ev l ids[i]);rw[ai6 l r _ hl u.auth AA];simp only[AQ,Au,Fe];rw[aMc _ _ AA (hs.base r _) u];simp only[AQ];rw[aOH r _ _ _ AA];cases NG (ev l ids[i]) (SH l r (ev l ids[i]))==0<;>rfl
 intro k r _;unfold aGm;rw[DC]
def Jl (l:List AB) (j:List (List Ah)):List Int:=Ur l (Io l j)
def KA (l:List AB) (j:List (List Ah)):List Int:=rV l (gG l (Jl l j)).length (gG l (Jl l j))
def H7 (l:List AB) (j:List (List Ah)):List Ah:=OI l (Hq j) (KA l j)
def Tq (l:List AB) (j:List (List Ah)):List Int:=bif (Fj (H7 l j) 3 Bc).2 then Xd l (Fj (H7 l j) 3 Bc).1 else[]
def JY (l:List AB) (j:List (List Ah)):List Int:=zT l (Tq l j) (Nv (Io l j) (Jl l j))
def pX (s a:List Ah):List Ah:=a.foldl (fun s x=>FQ s x.Kind x.Key x.Id) s
def lastOf (l:List AB) (j:List (List Ah)):List Ah:=pX (OI l (H7 l j) (JY l j)) (Hq j)
structure KW (l:List AB) (sts:List (List Ah)):Prop where
 len:l.length≤100
 small:DF l
 states:O5 sts
def jv {l:List AB} {j:List (List Ah)} (h:KW l j):(Io l j).length≤40000:=by
 have z:=h.len;have I:=aE4 h.states;have J:=ND (QA j);have m:=aDB l j [] fun s hs=>(h.states.2 s hs).1;have q:=h.states.1;have u:=Ic (fun x=>decide (Ih l j x<j.length)) (allOf l j);have L:j.length*(100+l.length)≤100*200:=aCJ q AA;have M:=aLM (Ed (QA j)) (OH l j)
 have O:(OH l j).length≤20000:=by
  unfold OH;unfold allOf at u ⊢;simp only[Md]at m;omega
 unfold Io;omega
def ar1 {l:List AB} {j:List (List Ah)} (h:KW l j):(Dy l (Io l j)).length≤40000:=Eh (Ic _ _) (jv h)
def aPG {l:List AB} {j:List (List Ah)} (h:KW l j):(KA l j).length≤100:=by
 have q:=aQB l (gG l (Jl l j)).length (gG l (Jl l j));have u:(gG l (Jl l j)).length≤l.length:=lC (bK _ _) fun x m=>(LX.1 m).2;have z:=h.len;unfold KA;omega
def aAm {l:List AB} {j:List (List Ah)} (h:KW l j):(H7 l j).length≤200:=by
 have m:=aAp l (KA l j) (Hq j);have q:=aPG h;have u:=dJ h.states;unfold H7;omega
def aO1 {l:List AB} {j:List (List Ah)} (h:KW l j):J6 (H7 l j):=aOm (ad3 h.states)
def abD {l:List AB} {j:List (List Ah)} (h:KW l j):(Tq l j).length≤100:=by
 have m:=af9 l (Fj (H7 l j) 3 Bc).1;have q:=h.len;unfold Tq;cases(Fj (H7 l j) 3 Bc).2 with
 |true=>simp only[Au];omega
 |false=>exact EZ _
def adu {l:List AB} {j:List (List Ah)} (h:KW l j):(JY l j).length≤40000:=by
 have m:=anC l (Tq l j) (Nv (Io l j) (Jl l j));have q:=aJ0 (Io l j) (Jl l j);have u:=jv h;unfold JY;omega
def ajl {l:List AB} {j:List (List Ah)} (h:KW l j):yc (Io l j) (Jl l j) l (H7 l j,KA l j) (Hq j,Ed (QA j)) (Tq l j)=some ⟨lastOf l j,KA l j,JY l j⟩:=by
 have u:=h.len;have z:=jv h;have I:=zX l (Io l j);have J:=abD h;have L:=aJ0 (Io l j) (Jl l j);have M:=aAm h;have O:=adu h;have U:=dJ h.states;unfold yc aGi aNQ;rw[akV _ _ AA (by unfold Jl;omega)];simp only[AQ];rw[atJ l _ _ AA h.small AA AA (Rq (aIJ _ _))];simp only[AQ];show((ZJ l (H7 l j) (JY l j)).bind _).bind _=_;rw[aTR l _ _ AA h.small (aO1 h) AA];simp only[AQ];unfold aam;have Y:=aAp l (JY l j) (H7 l j);show aQ _ Af 0 (⟨OI l (H7 l j) (JY l j),KA l j,JY l j⟩:OB)=_;rw[lZ (Hq j) AA (fun v x=>({ v with Eb:=FQ v.Eb x.Kind x.Key x.Id }:OB)) (fun i v=>v.Eb.length≤(OI l (H7 l j) (JY l j)).length+i) (fun v=>some v) (Dk _)]
 ·congr 1;unfold lastOf pX
  have key:∀(a:List Ah) (v:OB),a.foldl (fun v x=>({ v with Eb:=FQ v.Eb x.Kind x.Key x.Id }:OB)) v=⟨a.foldl (fun s x=>FQ s x.Kind x.Key x.Id) v.Eb,v.ajR,v.asB⟩:=by
   intro a
   induction a with
   |nil=>intro v;rfl
   |cons x a m=>intro v;rw[Et,m];rfl
  rw[key]
 ·intro k v i hi Z;have q:=Pe v.Eb (Hq j)[i].Kind (Hq j)[i].Key (Hq j)[i].Id;refine⟨by show(FQ _ _ _ _).length≤_;omega,?_⟩;unfold aHR;rw[Bv hi,Xy _ _ _ _ AA];rfl
 intro k v _;unfold aHR;rw[DC]
def asV {l:List AB} {j:List (List Ah)} (h:KW l j):aA7 l j=some ⟨lastOf l j,KA l j,JY l j⟩:=by
 have u:=h.len;have z:=jv h;have I:=zX l (Io l j);have J:=ar1 h;have L:=aAm h;have M:=aPG h;have O:=dJ h.states;have m:=ajl h;unfold aA7;rw[adp j h.states,aok l j AA h.small.aj0 h.states];simp only[AQ];rw[anL l _ AA h.small AA AA];simp only[AQ];unfold aOP aM9;rw[asA l _ AA h.small AA];simp only[AQ];have ha:ZJ l (Hq j) (KA l j)=some (H7 l j):=aTR l _ _ AA h.small (ad3 h.states) AA;unfold KA Jl at ha;rw[ha];simp only[AQ];rw[aGz _ _ _ AA (aO1 h)];simp only[AQ];rw[apn l _ AA h.small];unfold Tq at m;cases q:(Fj (H7 l j) 3 Bc).2 with
 |true=>rw[q]at m;exact m
 |false=>rw[q]at m;exact m
def afv {l:List AB} {j:List (List Ah)} (h:KW l j):aBF (Io l j) (Jl l j) l (Hq j,Ed (QA j)) (KA l j) (H7 l j) (Tq l j)=some ⟨Hq j,KA l j,H7 l j,JY l j,lastOf l j⟩:=by
 have z:=h.len;have I:=jv h;have J:=zX l (Io l j);have L:=abD h;have M:=aJ0 (Io l j) (Jl l j);have O:=aAm h;have U:=adu h;have Y:=dJ h.states;unfold aBF;rw[aAX _ _ AA (by unfold Jl;omega)];simp only[AQ];rw[akz l _ _ AA h.small AA AA (Rq (aIJ _ _))];simp only[AQ];show(jl l (H7 l j) (JY l j)).bind _=_;rw[abt l _ _ AA h.small AA];simp only[AQ];unfold acy;have Z:=aAp l (JY l j) (H7 l j);show aQ _ Af 0 (⟨Hq j,KA l j,H7 l j,JY l j,OI l (H7 l j) (JY l j)⟩:Oy)=_;rw[lZ (Hq j) AA (fun v x=>({ v with Last:=FQ v.Last x.Kind x.Key x.Id }:Oy)) (fun i v=>v.Same=Hq j∧v.Last.length≤(OI l (H7 l j) (JY l j)).length+i) (fun v=>some v) ⟨rfl,Dk _⟩]
 ·congr 1;unfold lastOf pX
  have key:∀(a:List Ah) (v:Oy),a.foldl (fun v x=>({ v with Last:=FQ v.Last x.Kind x.Key x.Id }:Oy)) v=⟨v.Same,v.Power,v.First,v.Others,a.foldl (fun s x=>FQ s x.Kind x.Key x.Id) v.Last⟩:=by
   intro a
   induction a with
   |nil=>intro v;rfl
   |cons x a q=>intro v;rw[Et,q];rfl
  rw[key]
 ·intro k v i hi m;have u:=Pe v.Last (Hq j)[i].Kind (Hq j)[i].Key (Hq j)[i].Id;refine⟨⟨m.1,by show(FQ _ _ _ _).length≤_;omega⟩,?_⟩;unfold aOx;rw[m.1,dec_lt hi,Ba hi];simp only[Au,AQ];rw[aOH _ _ _ _ AA];rfl
 intro k v m;unfold aOx;rw[m.1,CX];rfl
def ap4 {l:List AB} {j:List (List Ah)} (h:KW l j):aKw l j=some ⟨Hq j,KA l j,H7 l j,JY l j,lastOf l j⟩:=by
 have u:=h.len;have z:=jv h;have I:=zX l (Io l j);have J:=aAm h;have L:=aPG h;have M:=dJ h.states;have m:=afv h;unfold aKw;rw[aSz j h.states,ah9 l j AA h.small.aj0 h.states];simp only[AQ];rw[ag2 l _ AA h.small AA];simp only[AQ];rw[anq l _ AA h.small AA];simp only[AQ];have ha:jl l (Hq j) (KA l j)=some (H7 l j):=abt l _ _ AA h.small AA;unfold KA Jl at ha;rw[ha];simp only[AQ];rw[aGl _ _ _ AA];simp only[AQ];rw[ae9 l _ AA h.small];unfold Tq at m;cases q:(Fj (H7 l j) 3 Bc).2 with
 |true=>rw[q]at m;exact m
 |false=>rw[q]at m;exact m
def Vl (l:List AB) (j:List (List Ah)):List Ah:=match j with
 | []=>[]
 | [s]=>s
 |_=>lastOf l j
def aej {l:List AB} {j:List (List Ah)} (h:KW l j):dz l j=some (Vl l j):=by
 match j,h with
 | [],_=>rfl
 | [s],h=>
   have hs:=(h.states.2 s (Ep ..)).1;have m:Ae [s] 0=some s:=rfl;show((Ae [s] 0).bind fun q=>(Bz 32 [] q).bind fun u=>some u)=some s;rw[m];simp only[AQ];rw[D7 TQ];rfl
 |s::t::j,h=>
  unfold dz;have m:(((s::t::j).length:Int)==0)=false:=aFb
  have z:(((s::t::j).length:Int)==1)=false:=aFb
  rw[m,z,asV h];rfl
def amB {l:List AB} {j:List (List Ah)} (h:KW l j):aLt l j=some (Vl l j):=by
 match j,h with
 | [],_=>rfl
 | [s],_=>rfl
 |s::t::j,h=>
  unfold aLt;have m:(((s::t::j).length:Int)==0)=false:=aFb
  have q:(((s::t::j).length:Int)==1)=false:=aFb
  rw[m,q,ap4 h];rfl
def aPQ (l:List AB):dP (aU l 14) (fun b=>b=false→l.length≤14∧DF l):=by
 unfold aU;refine dP.bif (fun _=>.ret fun h=>GL) fun e=>?_;have hl:l.length≤14:=by have :=Jg e;omega
 unfold aTz;refine Xv l.length (fuel_lt AA) (fun i=>∀j,(q:j<i)→(u:j<l.length)→Fl l[j]) (fun j q=>AA) ?_ ?_
 ·intro i k hi m z;unfold aHJ;rw[Bv hi,wrap_succ i AA];refine(ahQ l[i]).bind fun b I=>dP.bif (fun _=>.ret fun h=>GL) fun J=>z fun j q u=>?_;by_cases L:j=i
  ·subst L;exact I J
  exact m j AA u
 intro k m;unfold aHJ;rw[DC];exact .ret fun _=>⟨hl,aHH fun j h=>m j h h⟩
def KW.of {l:List AB} {j:List (List Ah)} (q:l.length≤14∧DF l) (m:j.length≤100∧∀s∈j,s.length≤20∧J6 s):KW l j:=
 ⟨by have :=q.1;omega,q.2,⟨m.1,fun s hs=>⟨by have :=(m.2 s hs).1;omega,(m.2 s hs).2⟩⟩⟩
def aMM {x:Ah}:∀(a s:List Ah),x∈pX s a→x∈a∨x∈s
 | [],_,h=>.inr h
 |y::a,s,h=>by
  rcases aMM a _ h with h|h
  ·exact .inl (FW _ h)
  rcases Qc h with h|h
  ·left;rw[h];cases y;exact Ep ..
  exact .inr h
def aPm (l:List AB) (ids:List Int) (x:Ah):Prop:=∃id∈ids,bY l id=true∧Gv (ev l id).Kind=true∧x=⟨(ev l id).Kind,(ev l id).Key,(ev l id).Id⟩
def aPP {l:List AB} {x:Ah}:∀(ids:List Int) (s:List Ah),x∈OI l s ids→x∈s∨aPm l ids x
 | [],_,h=>.inl h
 |id::ids,s,h=>by
  rcases aPP ids _ h with h|⟨j,u,h⟩
  ·have m:x∈bif Rt l s id then FQ s (ev l id).Kind (ev l id).Key (ev l id).Id else s:=h
   cases q:Rt l s id with
   |false=>rw[q]at m;exact .inl m
   |true=>
    rw[q]at m;rcases Qc m with m|m
    ·unfold Rt at q;simp only[CW]at q;exact .inr ⟨id,Ep ..,q.1,q.2.1,m⟩
    exact .inl m
  exact .inr ⟨j,FW _ u,h⟩
def am5 {l:List AB} {j:List (List Ah)} {x:Int} (h:x∈Jl l j):x∈Io l j:=(aCL.1 h).1
def aQa {l:List AB} {m:List (List Ah)} {x:Ah} (h:x∈lastOf l m):x∈Hq m∨aPm l (Io l m) x:=by
 unfold lastOf at h;rcases aMM _ _ h with h|h
 ·exact .inl h
 rcases aPP _ _ h with h|⟨j,q,h⟩
 ·unfold H7 at h;rcases aPP _ _ h with h|⟨j,q,h⟩
  ·exact .inl h
  exact .inr ⟨j,am5 (LX.1 (aHC _ _ _ q)).1,h⟩
 exact .inr ⟨j,(aN7.1 (asg.1 q).1).1,h⟩
def aUm :∀(a s:List Ah),J6 s→J6 (pX s a)
 | [],_,h=>h
 |x::a,s,h=>aUm a _ (Wj h x.Kind x.Key x.Id)
def amg {l:List AB} {j:List (List Ah)} (h:KW l j):J6 (lastOf l j):=aUm _ _ (aOm (aO1 h))
structure I9 (l:List AB) (s:List Ah):Prop where
 sorted:J6 s
 named:∀x∈s,bY l x.Id=true∧Gv x.Kind=true∧(ev l x.Id).Kind=x.Kind∧(ev l x.Id).Key=x.Key
def I9.nil (l:List AB):I9 l []:=⟨List.Pairwise.nil,fun _ h=>absurd h Ez⟩
def I9.nodup {l:List AB} {s:List Ah} (h:I9 l s):(s.map (·.Id)).Nodup:=by
 rw[aDR,aIK];refine List.Pairwise.imp_of_mem ?_ h.sorted;intro a b ha m j e;obtain⟨_,_,q,k2⟩:=h.named a ha;obtain⟨_,_,u,z⟩:=h.named b m;have I:a.Kind=b.Kind:=by rw[←q,←u,e]
 have J:a.Key=b.Key:=by rw[←k2,←z,e]
 rw[tu (X6.2 ⟨I,J⟩)]at j;cases j
def I9.length {l:List AB} {s:List Ah} (h:I9 l s):s.length≤l.length:=by
 have :UN l (s.map (·.Id)):=⟨h.nodup,fun x j=>by
  obtain⟨y,m,rfl⟩:=Ee.1 j
  exact(h.named y m).1⟩
 have :=this.length
 rwa [CM]at this
def I9.okay {l:List AB} {j:List (List Ah)} (hl:l.length≤100) (hs:DF l) (q:j.length≤100) (h:∀s∈j,I9 l s):KW l j:=
 ⟨hl,hs,q,fun s m=>⟨Eh (h s m).length hl,(h s m).sorted⟩⟩
def I9.resolve {l:List AB} {j:List (List Ah)} (m:KW l j) (h:∀s∈j,I9 l s):I9 l (Vl l j):=by
 match j,m,h with
 | [],_,_=>exact .nil l
 | [s],_,h=>exact h s (Ep ..)
 |s::t::j,m,h=>
  refine⟨amg m,fun x I=>?_⟩;rcases aQa I with J|⟨id,_,z,hst,q⟩
  ·exact(h s (Ep ..)).named x ((adO m.states (List.cons_ne_nil _ _)).1 J s (Ep ..))
  have u:=Ib z;have L:x.Id=id:=by rw[q];exact u.2
  rw[L];exact⟨z,by rw[q];exact hst,by rw[q],by rw[q]⟩
def I9.set {l:List AB} {s:List Ah} (h:I9 l s) {e:AB} (q:bY l e.Id=true) (m:ev l e.Id=e) (hst:Gv e.Kind=true):I9 l (FQ s e.Kind e.Key e.Id):=
 ⟨Wj h.sorted _ _ _,fun x j=>by
  rcases Qc j with rfl|j
  ·exact⟨q,hst,by rw[m],by rw[m]⟩
  exact h.named x j⟩
def RN (l:List AB) (e:AB):Bool:=e.bC.all (bY l)&&e.bD.all (bY l)
def Oz (l:List AB):Bool:=l.all (RN l)
def Zj {α:Type} {l:List α} {p:α→Bool} {x:α} (h:x∈l) (j:p x=false):l.all p=false:=by
 rw[←KX,DT];exact fun m=>by rw[m x h]at j;cases j
def all_good {α:Type} {l:List α} {p:α→Bool} (h:∀j,(hj:j<l.length)→p l[j]=true):l.all p=true:=DT.2 (aHH h)
def aRT (j:List Int) (l:List AB) (m:List (Int×Int)) (h:Xo l m) (q:j.length≤1000):uH j m=some (j.all (bY l)):=by
 unfold uH aav;rw[Gs j (fuel_lt AA) (fun x=> !bY l x) false (some true)]
 ·rw[List.all_eq_not_any_not];cases(j.any fun x=> !bY l x)<;>rfl
 ·intro k i hi;unfold aKi;rw[Bv hi,h.isSome]
 intro k;unfold aKi;rw[DC]
def ak6 (l:List AB) (hl:l.length≤100) (hs:DF l):aDY l=some (Oz l):=by
 refine dP.eq ?_;unfold aDY;refine(qM l AA).bind fun m I=>?_;unfold aRZ;refine Xi (body:=aPc l) (Q:=fun b=>b=Oz l) (fun n a b=>∃i:Nat,a=i∧i+n=l.length∧b=m∧∀j,(q:j<i)→(hl:j<l.length)→RN l l[j]=true) ?_ Af l.length 0 m (fuel_lt AA) ⟨0,rfl,AA,rfl,fun j q=>AA⟩;rintro n a b k ⟨i,rfl,O,rfl,J⟩ M;unfold aPc;by_cases hi:i<l.length
 ·have L:=hs l[i] (Df hi);have U:=L.prev;have Y:=L.auth;rw[Bv hi,aRT _ l b I AA,AQ,Ba hi,AQ,aRT _ l b I AA];cases u:l[i].bC.all (bY l)with
  |false=>exact .ret (Zj (Df hi) (by unfold RN;rw[u];rfl)).symm
  |true=>
   cases ha:l[i].bD.all (bY l)with
   |false=>exact .ret (Zj (Df hi) (by unfold RN;rw[u,ha];rfl)).symm
   |true=>
    refine M (n-1) _ _ AA ⟨i+1,wrap_succ i AA,AA,rfl,fun j q z=>?_⟩;by_cases e:j=i
    ·subst e;unfold RN;rw[u,ha];rfl
    exact J j AA z
 have :i=l.length:=AA
 subst this;rw[DC];exact .ret (all_good fun j q=>J j q q).symm
def bT (l:List AB):List Int:=l.foldl (fun r e=>e.bD.foldl put (e.bC.foldl put r)) []
def ak0 {l:List AB} {i:Nat} (hi:i<l.length) (m:List Int→Int→Option (List Int)) (v:List Int) (z:Inc v) (hl:v.length≤900000) (ha:l[i].bD.length≤40):
 aBU l (i:Int) m v 0=m (l[i].bD.foldl put v) (Ag ((i:Int)+1)):=by
 unfold aBU;rw[H6 l[i].bD AA put (fun j a=>Inc a∧a.length≤v.length+j) (fun a=>m a (Ag ((i:Int)+1))) ⟨z,AA⟩]
 ·intro k a j q u;have I:=dh a l[i].bD[j];refine⟨⟨SL u.1,AA⟩,?_⟩;unfold aH9;rw[Ba hi,AQ,dec_lt q,Au,AQ,Ba q,AQ,aMn a _ u.1 AA,AQ]
 intro k a _;unfold aH9;rw[Ba hi,AQ,CX];rfl
def ahA {l:List AB} {i:Nat} (hi:i<l.length) (m:List Int→Int→Option (List Int)) (v:List Int) (q:Inc v) (hl:v.length≤800000) (I:l[i].bC.length≤40) (ha:l[i].bD.length≤40):
 aIO l (i:Int) m v 0=m (l[i].bD.foldl put (l[i].bC.foldl put v)) (Ag ((i:Int)+1)):=by
 unfold aIO;rw[H6 l[i].bC AA put (fun j a=>Inc a∧a.length≤v.length+j) (fun a=>aBU l (i:Int) m a 0) ⟨q,AA⟩]
 ·have h:=fK l[i].bC v;exact ak0 hi m _ (aD8 q) AA ha
 ·intro k a j u z;have I:=dh a l[i].bC[j];refine⟨⟨SL z.1,AA⟩,?_⟩;unfold aM7;rw[Ba hi,AQ,dec_lt u,Au,AQ,Ba u,AQ,aMn a _ z.1 AA,AQ]
 intro k a _;unfold aM7;rw[Ba hi,AQ,CX];rfl
def zN :∀(l:List AB) (r:List Int),Inc r→(∀e∈l,e.bC.length≤40∧e.bD.length≤40)→
 Inc (l.foldl (fun r e=>e.bD.foldl put (e.bC.foldl put r)) r)∧(l.foldl (fun r e=>e.bD.foldl put (e.bC.foldl put r)) r).length≤r.length+l.length*80∧
 ∀x,x∈l.foldl (fun r e=>e.bD.foldl put (e.bC.foldl put r)) r↔x∈r∨∃e∈l,x∈e.bC∨x∈e.bD
 | [],r,h,_=>⟨h,Ap,fun x=>Ap⟩
 |e::l,r,h,hs=>by
  have z:=hs e (Ep ..);obtain⟨m,I,q⟩:=zN l (e.bD.foldl put (e.bC.foldl put r)) (aD8 (aD8 h)) fun x u=>hs x (FW _ u);have J:=fK e.bC r;have L:=fK e.bD (e.bC.foldl put r);rw[Et];refine⟨m,by rw[Fa];omega,fun x=>(q x).trans ?_⟩;rw[aI0,aI0];constructor
  ·rintro(((h|h)|h)|⟨y,j,h⟩)
   ·exact .inl h
   ·exact .inr ⟨e,Ep ..,.inl h⟩
   ·exact .inr ⟨e,Ep ..,.inr h⟩
   exact .inr ⟨y,FW _ j,h⟩
  rintro(h|⟨y,j,h⟩)
  ·exact .inl (.inl (.inl h))
  rcases Ei.1 j with rfl|j
  ·exact h.elim (fun h=>.inl (.inl (.inr h))) fun h=>.inl (.inr h)
  exact .inr ⟨y,j,h⟩
def DF.lists {l:List AB} (hs:DF l):∀e∈l,e.bC.length≤40∧e.bD.length≤40:=fun e j=>⟨(hs e j).prev,(hs e j).auth⟩
def am0 {l:List AB} {i:Nat} (h:i<l.length):(l.take (i+1)).foldl (fun r e=>e.bD.foldl put (e.bC.foldl put r)) ([]:List Int)=l[i].bD.foldl put (l[i].bC.foldl put ((l.take i).foldl (fun r e=>e.bD.foldl put (e.bC.foldl put r)) [])):=by
 rw[Tc,D9 h,QL,V7];rfl
def apX (l:List AB) (hl:l.length≤1000) (hs:DF l):aHO l=some (bT l):=by
 unfold aHO acG;refine dP.eq (Jf l.length (fuel_lt AA) (fun i a=>a=(l.take i).foldl (fun r e=>e.bD.foldl put (e.bC.foldl put r)) []) rfl (fun i a k hi ha q=>?_) fun a k ha=>?_)
 ·subst ha;obtain⟨u,j,_⟩:=zN (l.take i) [] .nil fun e z=>hs.lists e (ig z);have m:=hs.lists l[i] (Df hi);unfold aMy;rw[dec_lt hi,Au,ahA hi k _ u (by rw[FY]at j;simp only[Md]at j;omega) m.1 m.2,wrap_succ i AA];exact q _ (am0 hi).symm
 unfold aMy;rw[CX];refine .ret ?_;rw[ha,GI];rfl
def ajk {l:List AB} (hs:DF l):(bT l).length≤l.length*80:=by
 have :=(zN l [] .nil hs.lists).2.1;unfold bT;simpa using this
def aUA {l:List AB} (hs:DF l) {x:Int}:x∈bT l↔∃e∈l,x∈e.bC∨x∈e.bD:=by
 have :=(zN l [] .nil hs.lists).2.2 x;unfold bT;rw[this];simp
def apr {l:List AB}:Oz l=true↔∀e∈l,(∀x∈e.bC,bY l x=true)∧∀x∈e.bD,bY l x=true:=by
 unfold Oz RN;simp only[DT,CW]
def aqH (l:List AB) (hl:l.length≤1000) (hs:DF l):aHj l=some (Oz l):=by
 have L:=ajk hs;unfold aHj;rw[apX l hl hs,AQ,aGw l _ hl AA,AQ];refine BI some ?_;rw[KG,apr];constructor
 ·intro h e m;have q:Xm l (bT l)=[]:=Gg aNf
  have key:∀x,x∈e.bC∨x∈e.bD→bY l x=true:=fun x j=>by
   cases z:bY l x with
   |true=>rfl
   |false=>have :=aHp.2 ⟨(aUA hs).2 ⟨e,m,j⟩,z⟩;rw[q]at this;cases this
  exact⟨fun x j=>key x (.inl j),fun x j=>key x (.inr j)⟩
 intro h
 have q:Xm l (bT l)=[]:=List.eq_nil_iff_forall_not_mem.2 fun x j=>by
  obtain⟨I,u⟩:=aHp.1 j;obtain⟨e,m,J⟩:=(aUA hs).1 I;rw[J.elim ((h e m).1 x) ((h e m).2 x)]at u;cases u
 rw[q];rfl
def jS (l:List AB):Prop:=∀e∈l,1≤e.Depth∧e.Depth≤100000
def Ey (l:List AB) (x:Int):Int:=(Gq l x).1.Depth
def Lc (l:List AB) (e:AB):Bool:=e.bD.all (fun x=>decide (Ey l x<e.Depth))&&bif (e.bC.length:Int)==0 then e.Depth==1 else e.bC.all (fun x=>decide (Ey l x<e.Depth))&&e.bC.any fun x=>Ey l x==e.Depth-1
def IB (l:List AB):Int:=bif Oz l then bif l.all (Lc l)then 0 else 15 else 14
def ac1 {l:List AB} (h:jS l) (x:Int):0≤Ey l x∧Ey l x≤100000:=by
 unfold Ey Gq;cases j:Dh l x with
 |none=>exact⟨aOK 0,BJ⟩
 |some e=>have :=h e (KL j);exact⟨by show 0≤e.Depth;omega,this.2⟩
def aHP (a b:Int):decide (a≥b)= !decide (a<b):=by by_cases h:a<b<;>simp[h];omega
def nV {α:Type} (l:List α) (p:α→Bool):l.any (fun x=> !p x)= !l.all p:=by rw[List.all_eq_not_any_not,xg]
def asO (l:List AB) (e:AB) (hl:l.length≤1000) (L:Fl e) (hd:jS l) (M:1≤e.Depth∧e.Depth≤100000):aKv l e=some (Lc l e):=by
 have h1:=L.prev;have h2:=L.auth;have w:Ag (e.Depth-1)=e.Depth-1:=P8 AA AA
 have u:aFy e l ((e.bC.length:Int)==0) 0=some (bif (e.bC.length:Int)==0 then true else e.bC.all (fun x=>decide (Ey l x<e.Depth))&&e.bC.any fun x=>Ey l x==e.Depth-1):=by
  unfold aFy;refine dP.eq (Jf e.bC.length (fuel_lt AA) (fun i a=>(∀j,(q:j<i)→(hl:j<e.bC.length)→decide (Ey l e.bC[j]<e.Depth)=true)∧a=(((e.bC.length:Int)==0)||(e.bC.take i).any fun x=>Ey l x==e.Depth-1)) ⟨fun j q=>AA,Ap⟩ (fun i a k hi ha O=>?_) fun a k ha=>?_)
  ·have U:((e.bC.length:Int)==0)=false:=by simp;intro Y;rw[Y]at hi;simp at hi
   unfold aLq;rw[Bv hi,NQ l _ AA,AQ,aHP];refine dP.bif (fun m=>.ret ?_) fun m=>?_
   ·have m:decide (Ey l e.bC[i]<e.Depth)=false:=by unfold Ey;simpa using m
    rw[U,Zj (Df hi) m];rfl
   have m:decide (Ey l e.bC[i]<e.Depth)=true:=by unfold Ey;simpa using m
   rw[show(bif a then some true else some ((Gq l e.bC[i]).1.Depth==Ag (e.Depth-1)))=some (a||(Ey l e.bC[i]==e.Depth-1)) by rw[w];cases a<;>rfl,AQ,wrap_succ i AA];refine O _ ⟨fun j q z=>?_,?_⟩
   ·by_cases Z:j=i
    ·subst Z;exact m
    exact ha.1 j AA z
   rw[ha.2,Tc,D9 hi,QL,aHW,Bool.or_assoc];simp
  unfold aLq;rw[DC];refine .ret ?_;rw[ha.2,GI,all_good fun j q=>ha.1 j q q];cases((e.bC.length:Int)==0)<;>simp
 unfold aKv
 have I:aIX e l 0=some (e.bD.all (fun x=>decide (Ey l x<e.Depth))&&(bif (e.bC.length:Int)==0 then true else e.bC.all (fun x=>decide (Ey l x<e.Depth))&&e.bC.any fun x=>Ey l x==e.Depth-1)):=by
  unfold aIX;rw[Gs e.bD (fuel_lt AA) (fun x=> !decide (Ey l x<e.Depth)) false (aFy e l ((e.bC.length:Int)==0) 0)]
  ·rw[u,nV];cases e.bD.all (fun x=>decide (Ey l x<e.Depth))<;>rfl
  ·intro k i hi;unfold aP9;rw[Bv hi,NQ l _ AA,AQ,aHP];rfl
  intro k;unfold aP9;rw[DC]
 rw[I];unfold Lc;have J:(e.Depth != 1)= !(e.Depth==1):=rfl;rw[J];cases((e.bC.length:Int)==0)<;>cases(e.Depth==1)<;>cases e.bD.all (fun x=>decide (Ey l x<e.Depth))<;>rfl
def aPh {l:List AB} {m:List (Int×Int)} (h:Xo l m) {x:Int} (j:bY l x=true):∃e,Ae l ((C9 m x).getD 0)=some e∧e.Depth=Ey l x:=⟨_,h.get (Ib j).1,rfl⟩
def anp (p:List Int) (f:Int→Int) (d a:Int) (j:∃y∈p,f y=a) (ha:∀y∈p,f y≤a):(p.all (fun x=>decide (f x<d))&&p.any fun x=>f x==d-1)=bif decide (d>a)then d-a==1 else false:=by
 obtain⟨y,j,e⟩:=j;by_cases h:d>a
 ·have u:p.all (fun x=>decide (f x<d))=true:=DT.2 fun x m=>by have :=ha x m;simp;omega
  rw[u,Fe,IJ h,Au,KG,Fv];constructor
  ·rintro⟨x,m,q⟩;have :=ha x m;have :=eq_of_beq q;simp;omega
  intro q;have :=eq_of_beq q;exact⟨y,j,DU⟩
 rw[IC h,Aj,Zj j DU];rfl
def ai9 (l:List AB) (m:List (Int×Int)) (e:AB) (O:Xo l m) (Z:Fl e) (J:RN l e=true) (hd:jS l) (hde:1≤e.Depth∧e.Depth≤100000):aED l m e=some (Lc l e,m):=by
 have h1:=Z.prev;have h2:=Z.auth;unfold RN at J;simp only[CW,DT]at J;unfold aED adt;rw[Gs e.bD (fuel_lt AA) (fun x=> !decide (Ey l x<e.Depth)) (false,m) (some ((bif (e.bC.length:Int)==0 then e.Depth==1 else e.bC.all (fun x=>decide (Ey l x<e.Depth))&&e.bC.any fun x=>Ey l x==e.Depth-1),m))]
 ·rw[nV];unfold Lc;cases e.bD.all (fun x=>decide (Ey l x<e.Depth))<;>rfl
 ·intro k i hi;unfold aO5;obtain⟨x,U,q⟩:=aPh O (J.2 _ (Df hi));rw[Bv hi,U,AQ,aHP,q]
 intro k;unfold aO5;rw[DC];cases u:((e.bC.length:Int)==0)with
 |true=>rfl
 |false=>
  have Y:0<e.bC.length:=by
   rcases YB e.bC.length with h|h
   ·rw[h]at u;cases u
   exact h
  obtain⟨x,U,q⟩:=aPh O (J.1 _ (Df Y));have g0:Ae e.bC 0=some e.bC[0]:=Ba (i:=0) Y;rw[Aj,Aj,g0,AQ,U,AQ,q];unfold aae;refine dP.eq (Jf e.bC.length (fuel_lt AA) (fun i a=>(0≤a∧a≤100000)∧(∃y∈e.bC,Ey l y=a)∧∀y∈e.bC.take i,Ey l y≤a) ⟨ac1 hd _,⟨_,Df Y,rfl⟩,fun y L=>by simp at L⟩ (fun i a k2 hi ha hk=>?_) fun a k2 ha=>?_)
  ·unfold aHZ;obtain⟨y,L,I⟩:=aPh O (J.1 _ (Df hi));have hb:=ac1 hd e.bC[i];rw[Bv hi,L,AQ,wrap_succ i AA,I]
   have M:Qd a (Ey l e.bC[i])=a∧Ey l e.bC[i]≤a∨Qd a (Ey l e.bC[i])=Ey l e.bC[i]∧a≤Ey l e.bC[i]:=by
    unfold Qd;by_cases h:Ey l e.bC[i]>a
    ·rw[IJ h];exact .inr ⟨rfl,AA⟩
    rw[IC h];exact .inl ⟨rfl,AA⟩
   refine hk _ ⟨AA,?_,fun z u=>?_⟩
   ·rcases M with h|h
    ·rw[h.1];exact ha.2.1
    rw[h.1];exact⟨_,Df hi,rfl⟩
   rw[Tc,D9 hi,QL,GU,Gu]at u;rcases u with u|rfl
   ·have :=ha.2.2 z u;omega
   omega
  obtain⟨hb,⟨y,L,I⟩,j⟩:=ha;rw[GI]at j;unfold aHZ;rw[DC,P8 AA AA,anp e.bC (Ey l) e.Depth a ⟨y,L,I⟩ j];cases decide (e.Depth>a)<;>exact .ret rfl
def alb (l:List AB) (hl:l.length≤100) (hs:DF l) (hd:jS l):aG0 l=some (IB l):=by
 unfold aG0 IB;rw[ak6 l hl hs,AQ];cases L:Oz l with
 |false=>rfl
 |true=>
  have M:∀e∈l,RN l e=true:=DT.1 L;refine dP.eq ((qM l AA).bind fun m O=>?_);unfold aei;refine Xi (body:=aPB l) (Q:=fun b=>b=bif l.all (Lc l)then 0 else 15) (fun n a b=>∃i:Nat,a=i∧i+n=l.length∧b=m∧∀j,(u:j<i)→(hl:j<l.length)→Lc l l[j]=true) ?_ Af l.length 0 m (fuel_lt AA) ⟨0,rfl,AA,rfl,fun j u=>AA⟩;rintro n a b k ⟨i,rfl,Y,rfl,I⟩ U;unfold aPB;by_cases hi:i<l.length
  ·have q:=Df hi;rw[Bv hi,ai9 l b l[i] O (hs _ q) (M _ q) hd (hd _ q),AQ];cases J:Lc l l[i]with
   |false=>exact .ret (by rw[Zj q J];rfl)
   |true=>
    refine U (n-1) _ _ AA ⟨i+1,wrap_succ i AA,AA,rfl,fun j u z=>?_⟩;by_cases e:j=i
    ·subst e;exact J
    exact I j AA z
  have :i=l.length:=AA
  subst this;rw[DC];exact .ret (by rw[all_good fun j u=>I j u u];rfl)
def ars (l:List AB) (hl:l.length≤100) (hs:DF l) (hd:jS l):aOG l=some (IB l):=by
 unfold aOG IB;rw[aqH l AA hs,AQ];cases L:Oz l with
 |false=>rfl
 |true=>
  show aMo l 0=_;unfold aMo;refine dP.eq (Xv l.length (fuel_lt AA) (fun i=>∀j,(q:j<i)→(hl:j<l.length)→Lc l l[j]=true) (fun j q=>AA) (fun i k hi u J=>?_) fun k u=>?_)
  ·have m:=Df hi;unfold aIz;rw[Bv hi,asO l l[i] AA (hs _ m) hd (hd _ m),AQ,wrap_succ i AA];cases I:Lc l l[i]with
   |false=>exact .ret (by rw[Zj m I];rfl)
   |true=>
    refine J fun j q z=>?_;by_cases e:j=i
    ·subst e;exact I
    exact u j AA z
  unfold aIz;rw[CX];exact .ret (by rw[all_good fun j q=>u j q q];rfl)
section
variable {α β R : Type} {lt : α → α → Bool}
def Ja (lt:α→α→Bool) (A:List α) (x:α):List α:=(A.reverse.dropWhile (lt x)).reverse++x::(A.reverse.takeWhile (lt x)).reverse
def aR8 {A:List α} {a x:α} (h:lt x a=true):Ja lt (A++[a]) x=Ja lt A x++[a]:=by
 unfold Ja;rw[aJ7,List.reverse_singleton,List.singleton_append,aar h,List.takeWhile_cons_of_pos h,List.reverse_cons,Hr];rfl
def aTW {A:List α} {a x:α} (h:lt x a=false):Ja lt (A++[a]) x=A++a::[x]:=by
 have h':¬lt x a=true:=by rw[h];simp
 unfold Ja;rw[aJ7,List.reverse_singleton,List.singleton_append,aez h',List.takeWhile_cons_of_neg h'];simp
def aoK (A:List α) (x:α):(Ja lt A x).length=A.length+1:=by
 unfold Ja;have :=BI List.length (rO (p:=lt x) (l:=A.reverse));simp only[EG,List.length_reverse,Fa]at this ⊢;omega
def aRO (A:List α) (x:α):(Ja lt A x).Perm (x::A):=by
 unfold Ja;refine aBs.trans (List.Perm.cons x ?_);rw[←aJ7,rO,List.reverse_reverse]
def aq7 {lt':β→β→Bool} {f:α→β} (h:∀x a,lt x a=lt' (f x) (f a)) (A:List α) (x:α):(Ja lt A x).map f=Ja lt' (A.map f) (f x):=by
 have e:lt x=lt' (f x)∘f:=funext fun a=>h x a;unfold Ja;have j:(A.map f).reverse=A.reverse.map f:=aKB.symm;rw[j,List.dropWhile_map,List.takeWhile_map,JU,Ig,aKB,aKB,e]
def aaH {lt':β→β→Bool} {f:α→β} (h:∀x a,lt x a=lt' (f x) (f a)):∀(l A:List α),(l.foldl (Ja lt) A).map f=(l.map f).foldl (Ja lt') (A.map f)
 | [],A=>rfl
 |x::l,A=>by rw[Et,aaH h l,Ig,Et,aq7 h]
def aEu :∀(l A:List α),(l.foldl (Ja lt) A).length=A.length+l.length
 | [],A=>rfl
 |x::l,A=>by rw[Et,aEu l,aoK,Fa];omega
def aSQ :∀(l A:List α),(l.foldl (Ja lt) A).Perm (A++l)
 | [],A=>by rw[P6];exact .refl _
 |x::l,A=>by
  rw[Et];exact(aSQ l (Ja lt A x)).trans (((aRO A x).append_right l).trans (aBs (l₁:=A) (l₂:=l) (a:=x)).symm)
def zA (A:List α) (x:α) (B:List α):Ae (A++x::B) (A.length:Int)=some x:=by rw[nE];simp
def aLd (A:List α) (a x:α) (B:List α):Ae (A++a::x::B) ((A.length+1:Nat):Int)=some x:=by rw[nE];simp
def set_mid (A:List α) (x y:α) (B:List α):(A++x::B).set A.length y=A++y::B:=Ap
def adI (A:List α) (a x y:α) (B:List α):(A++a::x::B).set (A.length+1) y=A++a::y::B:=by
 have :=set_mid (A++[a]) x y B;simpa using this
def bubble {body:(Int→List α→Option R)→Int→List α→Option R} (j:List α→Option R) (N:Nat) (U:∀k x B,(x::B).length=N→body k 0 (x::B)=j (x::B))
 (hs:∀k A a x B,(A++a::x::B).length=N→body k ((A.length+1:Nat):Int) (A++a::x::B)=bif lt x a then k (A.length:Int) (A++x::a::B)else j (A++a::x::B)):
 ∀n (A:List α) (x:α) (B:List α),A.length=n→(A++x::B).length=N→∀m,n<m→aQ body m (A.length:Int) (A++x::B)=j (Ja lt A x++B):=by
 intro n
 induction n with
 |zero=>
  intro A x B I J m Y;obtain⟨m,rfl⟩:∃L,m=L+1:=⟨m-1,AA⟩
  obtain rfl:=Gg I;exact U _ x B J
 |succ n Z=>
  intro A x B I J m Y;obtain⟨m,rfl⟩:∃L,m=L+1:=⟨m-1,AA⟩
  have q:A≠[]:=fun e=>by subst e;cases I
  obtain⟨A',a,rfl⟩:∃A' a,A=A'++[a]:=⟨A.dropLast,A.getLast q,(List.dropLast_concat_getLast q).symm⟩
  have M:A'.length=n:=Qq
  have O:A'++[a]++x::B=A'++a::x::B:=Ap
  have u:(A'++a::x::B).length=N:=by rw[←O];exact J
  have e2:(A'++[a]).length=A'.length+1:=Ap
  rw[O,e2];show body (aQ body m) _ _=_;rw[hs _ A' a x B u];cases z:lt x a with
  |true=>
   rw[Au,Z A' x (a::B) M (by simp at u ⊢;omega) m AA,aR8 z];simp
  |false=>rw[Aj,aTW z];simp
end
def Hl (a b:AB):Bool:=decide (a.Depth<b.Depth)||((a.Depth==b.Depth)&&decide (a.Id<b.Id))
def Rx (l:List AB):List AB:=l.foldl (Ja Hl) []
def Hy (l:List AB):List Int:=(Rx l).map (·.Id)
def aO7 (l:List AB):(Rx l).length=l.length:=by unfold Rx;rw[aEu];simp
def aC (l:List AB):(Rx l).Perm l:=by have :=aSQ (lt:=Hl) l [];rwa [IV]at this
def alW (a b:AB):aKj a b=some (Hl a b):=by
 unfold aKj Hl;cases decide (a.Depth<b.Depth)<;>cases(a.Depth==b.Depth)<;>rfl
def aGq {α β:Type} {f:β→α→β} {b:β} {l:List α} {i:Nat} (h:i<l.length):(l.take (i+1)).foldl f b=f ((l.take i).foldl f b) l[i]:=by
 rw[Tc,D9 h,QL,V7];rfl
def map_take {α β:Type} {f:α→β} {l:List α} {i:Nat} (h:i<l.length):(l.take (i+1)).map f=(l.take i).map f++[f l[i]]:=by
 rw[Tc,D9 h,QL,JU];rfl
def apI (l:List AB) (hl:l.length≤1000000):aJo l=some (l.map (·.Id)):=by
 unfold aJo aSK;refine dP.eq (Jf l.length (fuel_lt AA) (fun i a=>a=(l.take i).map (·.Id)) rfl (fun i a k hi ha j=>?_) fun a k ha=>?_)
 ·unfold aKL;have hlen:a.length≤i:=kX
  rw[Bv hi,D7 FM,AQ,wrap_succ i AA];exact j _ aCm
 unfold aKL;rw[DC];exact .ret lg
def apR (l:List AB) (hl:l.length≤1000):aMl l=some (Hy l):=by
 unfold aMl aRc;refine dP.eq (Jf l.length (fuel_lt AA) (fun i a=>a=(l.take i).foldl (Ja Hl) []) rfl (fun i a k hi ha q=>?_) fun a k ha=>?_)
 ·have hlen:a.length=i:=by rw[ha,aEu,FY];simp;omega
  unfold aPO;rw[Bv hi,D7 FM,AQ];unfold acd;have j:=bubble (lt:=Hl) (body:=aE6 k (i:Int)) (fun v=>k v ((i+1:Nat):Int)) (i+1) (fun k2 x B m=>?_) (fun k2 A b x B m=>?_) i a l[i] [] hlen DU Af (fuel_lt AA)
  ·rw[hlen]at j;rw[j,P6];exact q _ (by rw[aGq hi,ha])
  ·unfold aE6 aFX;rw[wrap_succ i AA];rfl
  have z:A.length+2≤i+1:=by rw[←m];simp
  have u:Ag (((A.length+1:Nat):Int)-1)=(A.length:Int):=QX
  unfold aE6 aFX;rw[IJ (show((A.length+1:Nat):Int)>0 by omega),Au,aLd,AQ,u,zA,AQ,alW,AQ,wrap_succ i AA];cases Hl x b with
  |false=>rfl
  |true=>
   simp only[Au,AQ,Z9];rw[adI,zA,AQ,set_mid]
 unfold aPO;rw[CX,Aj];have e:a=Rx l:=by rw[ha,GI];rfl
 rw[e,apI _ (by rw[aO7];omega)];exact .ret rfl
def vX (e:AB):SK:=⟨e.Depth,e.Id⟩
def jI (a b:SK):Bool:=decide (a.oN<b.oN)||((a.oN==b.oN)&&decide (a.nJ<b.nJ))
def apY (a x:SK):(bif decide (a.oN<x.oN)then some true else(bif (a.oN==x.oN)then some (decide (a.nJ≤x.nJ))else some false).bind fun j=>some j)=some (!jI x a):=by
 unfold jI;by_cases m:a.oN<x.oN
 ·rw[IJ m,Au,IC AA,show(x.oN==a.oN)=false by simp;omega];rfl
 rw[IC m,Aj];by_cases q:a.oN=x.oN
 ·rw[q,IC (show ¬x.oN<x.oN by omega)];simp only[KE,Au,AQ,ML,Fe];by_cases u:a.nJ≤x.nJ
  ·rw[IJ u,IC AA];rfl
  rw[IC u,IJ AA];rfl
 rw[show(a.oN==x.oN)=false by simpa using q,IJ (show x.oN<a.oN by omega)];rfl
def ajG (l:List AB) (hl:l.length≤1000):aCD l=some (Hy l):=by
 have J:Il 16 aAb 0 (l.length:Int)=some []:=abZ
 unfold aCD;rw[J,AQ];unfold acU;refine dP.eq (Jf l.length (fuel_lt AA) (fun i a=>a=((l.take i).map vX).foldl (Ja jI) []) rfl (fun i a k hi ha L=>?_) fun a k ha=>?_)
 ·have hlen:a.length=i:=by rw[ha,aEu,CM,FY];simp;omega
  unfold aI5;rw[Bv hi,Ba hi,AQ,D7 FM,AQ];unfold aUB;have M:Ag (((a++[(⟨l[i].Depth,l[i].Id⟩:SK)]).length:Int)-1)=(a.length:Int):=aOc
  rw[M];have O:=bubble (lt:=jI) (body:=yP k (i:Int)) (fun v=>k v ((i+1:Nat):Int)) (i+1) (fun k2 x B q=>?_) (fun k2 A b x B q=>?_) i a (vX l[i]) [] hlen DU Af (fuel_lt AA)
  ·show dP (aQ (yP k (i:Int)) Af (a.length:Int) (a++[vX l[i]])) _;rw[O,P6];exact L _ (by rw[map_take hi,V7,ha];rfl)
  ·unfold yP wU;rw[wrap_succ i AA];rfl
  have hA:A.length+2≤i+1:=by rw[←q];simp
  have U:Ag (((A.length+1:Nat):Int)-1)=(A.length:Int):=QX
  unfold yP wU;rw[IJ (show((A.length+1:Nat):Int)>0 by omega),Au,U,zA,AQ,aLd,AQ,apY,AQ,wrap_succ i AA];cases jI x b with
  |false=>rfl
  |true=>
   simp only[Dz,Aj,Au,AQ,Z9];rw[set_mid,aLd,AQ,adI]
 unfold aI5;rw[DC];have e:a=(Rx l).map vX:=by rw[ha,GI];exact(aaH (lt:=Hl) (lt':=jI) (f:=vX) (fun _ _=>rfl) l []).symm
 have Y:a.length=l.length:=by rw[e,CM,aO7]
 have Z:Il 8 0 (a.length:Int) (a.length:Int)=some (List.replicate a.length (0:Int)):=by unfold Il;rw[CV ⟨AA,aOK _,AA⟩];simp
 have e2:Hy l=a.map (·.nJ):=by rw[e,aI];rfl
 rw[Z,AQ,e2];unfold aT9;refine TR (body:=aNC a) (Q:=fun r=>r=a.map (·.nJ)) (fun n (x:Int) (o:List Int) (p:List SK)=>∃i:Nat,x=i∧i+n=a.length∧o=(a.take i).map (·.nJ)++List.replicate (a.length-i) 0∧p=a) ?_ Af a.length 0 (List.replicate a.length 0) a (fuel_lt AA) ⟨0,rfl,AA,Ap,rfl⟩;rintro n x o p k2 ⟨i,rfl,hn,u,rfl⟩ m;unfold aNC;by_cases hi:i<p.length
 ·have I:((p.take i).map (·.nJ)).length=i:=by rw[CM,FY];omega
  obtain⟨z,hz⟩:∃z,p.length-i=z+1:=⟨p.length-i-1,AA⟩
  have j:o=(p.take i).map (·.nJ)++0::List.replicate z 0:=by rw[u,hz,List.replicate_succ]
  have g2:Ae o (i:Int)=some 0:=by have :=zA ((p.take i).map (·.nJ)) 0 (List.replicate z 0);rw[I]at this;rw[j];exact this
  have s2:o.set i p[i].nJ=(p.take i).map (·.nJ)++p[i].nJ::List.replicate z 0:=by have :=set_mid ((p.take i).map (·.nJ)) 0 p[i].nJ (List.replicate z 0);rw[I]at this;rw[j];exact this
  rw[Bv hi,g2,AQ];refine m (n-1) _ _ _ AA ⟨i+1,wrap_succ i AA,AA,?_,rfl⟩;rw[Z9,s2,map_take hi,show p.length-(i+1)=z by omega];simp
 have :i=p.length:=AA
 subst this;rw[DC];exact .ret (by rw[u];simp)
def QJ (l:List AB) (x y:Int):Bool:=bY l y&&(y != x&&CZ (ev l y).bC x)
def QM (l:List AB) (ids:List Int):List Int:=(Ed ids).filter fun x=> !ids.any (QJ l x)
def arP (ids:List Int) (p:Int→Bool):Ed (ids.filter p)=(Ed ids).filter p:=
 BK (Jt _) ((Jt ids).sublist QB) fun x=>by rw[JV,EY,EY,JV]
def aRu (l:List AB) (ids:List Int):(QM l ids).length≤ids.length:=Eh (Ic _ _) (ND ids)
def xq {α:Type} {p:α→Bool} {l:List α} {i:Nat} (h:i<l.length):(l.take (i+1)).filter p=(l.take i).filter p++bif p l[i]then[l[i]]else[]:=by
 rw[Tc,D9 h,QL,Pj];cases j:p l[i]<;>simp[j]
def aDQ {α:Type} {p:α→Bool} {l:List α} {i:Nat} (h:i<l.length):(l.take (i+1)).any p=((l.take i).any p||p l[i]):=by
 rw[Tc,D9 h,QL,aHW];simp
def amo (l:List AB) (ids:List Int) (hl:l.length≤100) (hs:DF l) (hi0:ids.length≤1000):aEX l ids=some (QM l ids):=by
 unfold aEX;refine dP.eq ((qM l AA).bind fun m hm=>?_);unfold aUQ;refine TR (body:=aH0 ids l) (Q:=fun r=>r=QM l ids) (fun n a b c=>∃i:Nat,a=i∧i+n=ids.length∧b=m∧∀x,(C9 c x).getD false=(ids.take i).any (QJ l x)) ?_ Af ids.length 0 m [] (fuel_lt AA) ⟨0,rfl,AA,rfl,fun x=>rfl⟩;rintro n a b c k ⟨i,rfl,hn,rfl,M⟩ O;unfold aH0;by_cases hi:i<ids.length
 ·have hj:∀Y,(∀x,(C9 Y x).getD false=((ids.take i).any (QJ l x)||QJ l x ids[i]))→dP (aA8 k (i:Int) b Y) (fun r=>r=QM l ids):=fun Y h8=>O (n-1) _ _ _ AA ⟨i+1,wrap_succ i AA,AA,rfl,fun x=>by rw[h8,aDQ hi]⟩;rw[Bv hi,hm.isSome];cases q:bY l ids[i]with
  |false=>exact hj c fun x=>by rw[M];unfold QJ;rw[q];simp
  |true=>
   obtain⟨hg,_⟩:=Ib q;rw[hm.get hg,AQ];have hp:=(hs _ (KL hg)).prev;simp only[Dz,Aj];unfold aR5;refine TR (body:=aKE (ev l ids[i]) ids[i] k (i:Int)) (Q:=fun r=>r=QM l ids) (fun U a2 b2 c2=>∃j:Nat,a2=j∧j+U=(ev l ids[i]).bC.length∧b2=b∧∀x,(C9 c2 x).getD false=((ids.take i).any (QJ l x)||(ids[i] != x&&CZ ((ev l ids[i]).bC.take j) x))) ?_ Af (ev l ids[i]).bC.length 0 b c (fuel_lt AA) ⟨0,rfl,AA,rfl,fun x=>by rw[M,aAn];unfold CZ;simp⟩;rintro U a2 b2 c2 k2 ⟨j,rfl,hn2,rfl,u⟩ z;unfold aKE;by_cases I:j<(ev l ids[i]).bC.length
   ·have J:∀x,CZ ((ev l ids[i]).bC.take (j+1)) x=(CZ ((ev l ids[i]).bC.take j) x||(x==(ev l ids[i]).bC[j])):=fun x=>by
     rw[KG,XT,J3,J3,Tc,D9 I,QL,GU,Gu,Q5]
    rw[Bv I];cases L:(ev l ids[i]).bC[j] != ids[i]with
    |true=>
     refine z (U-1) _ _ _ AA ⟨j+1,wrap_succ j AA,AA,rfl,fun x=>?_⟩;rw[Qe,J];cases Z:x==(ev l ids[i]).bC[j]with
     |true=>
      have e:=eq_of_beq Z;subst e;rw[show(ids[i] != (ev l ids[i]).bC[j])=true by rw[bne_comm];exact L];simp
     |false=>rw[Aj,u,Kr]
    |false=>
     refine z (U-1) _ _ _ AA ⟨j+1,wrap_succ j AA,AA,rfl,fun x=>?_⟩;rw[J,u];have e:(ev l ids[i]).bC[j]=ids[i]:=eK
     rw[e];cases Z:x==ids[i]with
     |false=>simp
     |true=>have e2:=eq_of_beq Z;subst e2;simp
   have :j=(ev l ids[i]).bC.length:=AA
   subst this;rw[DC];exact hj _ fun x=>by rw[u,GI];unfold QJ;rw[q];rfl
 have :i=ids.length:=AA
 subst this;rw[DC];unfold aTB;rw[GI]at M;refine Jf ids.length (fuel_lt AA) (fun i a=>a=(ids.take i).filter fun x=> !ids.any (QJ l x)) rfl (fun i a k2 hi ha O=>?_) fun a k2 ha=>?_
 ·have hal:a.length≤i:=abr
  unfold aH7 aBo;rw[Bv hi,wrap_succ i AA,M];have hf:=xq (p:=fun x=> !ids.any (QJ l x)) hi;cases hb:ids.any (QJ l ids[i])with
  |true=>exact O _ (by rw[hf,ha,hb];simp)
  |false=>
   simp only[IU,Au];rw[D7 FM,AQ];exact O _ (by rw[hf,ha,hb];rfl)
 have hal:a.length≤ids.length:=abr
 unfold aH7;rw[DC,dU _ AA];exact .ret (by rw[ha,GI,arP];rfl)
def SS (x y:AB):Bool:=y.Kind==x.Kind&&decide (y.Key=x.Key)
def JX (m:List Ah):List AB→List AB→Bool
 |_,[]=>true
 |j,x::xs=>(m.any fun k=>EM k x)&& !j.any (SS x)&&JX m (j++[x]) xs
def Py (x:AB):Bool:=x.Kind==1&&decide (x.Key=Bc)
def Pm (l:List AB) (e:AB):Int:=
 bif !e.bD.all (bY l)then 14 else bif !(ofIds l e.bD).all (fun x=>decide (x.Room=e.Room))then 13
 else bif JX (keysOf e) [] (ofIds l e.bD)&&(e.Kind==1||(ofIds l e.bD).any Py)then 0 else 16
def Zf {k:Ah} {x:AB}:EM k x=true↔x.Kind=k.Kind∧x.Key=k.Key:=by unfold EM;simp
def aaR {x y:AB}:SS x y=true↔y.Kind=x.Kind∧y.Key=x.Key:=by unfold SS;simp
def aQj {j:List Ah} {X:List AB} {i:Nat} (h:i<X.length):JX j (X.take i) (X.drop i)=((j.any fun k=>EM k X[i])&& !(X.take i).any (SS X[i])&&JX j (X.take (i+1)) (X.drop (i+1))):=by
 rw[LG h,Tc,D9 h];rfl
def aPt {j:List Ah} (X:List AB):JX j (X.take X.length) (X.drop X.length)=true:=by rw[Om];rfl
def ach (X:List AB) (k:Int) (key:ByteArray) (h:X.length≤1000):dO (X.map fun x=>(⟨x.Kind,x.Key,0⟩:Ah)) k key=some (X.any fun y=>y.Kind==k&&decide (y.Key=key)):=by
 unfold dO aNK;rw[Gs (X.map fun x=>(⟨x.Kind,x.Key,0⟩:Ah)) (fuel_lt U2) (fun y=>y.Kind==k&&decide (y.Key=key)) true (some false)]
 ·rw[List.any_map];show(bif X.any (fun y=>y.Kind==k&&decide (y.Key=key))then some true else some false)=_;cases X.any (fun y=>y.Kind==k&&decide (y.Key=key))<;>rfl
 ·intro q i hi;unfold sO;rw[Bv hi,Ba hi,AQ,IQ];cases((X.map fun x=>(⟨x.Kind,x.Key,0⟩:Ah))[i].Kind==k)<;>rfl
 intro q;unfold sO;rw[CX];rfl
def apm (j:List Ah) (x:AB) (h:j.length≤1000):dO j x.Kind x.Key=some (j.any fun k=>EM k x):=by
 unfold dO aNK;rw[Gs j (fuel_lt AA) (fun k=>EM k x) true (some false)]
 ·cases j.any (fun k=>EM k x)<;>rfl
 ·intro q i hi;unfold sO;rw[Bv hi,Ba hi,AQ,IQ];have m:(j[i].Kind==x.Kind)=(x.Kind==j[i].Kind):=by rw[KG,Q5,Q5];exact eq_comm
  have u:decide (j[i].Key=x.Key)=decide (x.Key=j[i].Key):=oL.2 eq_comm;unfold EM;rw[m,u];cases(x.Kind==j[i].Kind)<;>rfl
 intro q;unfold sO;rw[CX];rfl
def al4 (X:List AB) (e:AB) (O:X.length≤40):aHd X (keysOf e) e [] 0=some (bif JX (keysOf e) [] X&&(e.Kind==1||X.any Py)then 0 else 16):=by
 have I:=WY e;unfold aHd;refine dP.eq (Jf X.length (fuel_lt AA) (fun i a=>a=(X.take i).map (fun x=>(⟨x.Kind,x.Key,0⟩:Ah))∧JX (keysOf e) [] X=JX (keysOf e) (X.take i) (X.drop i)) ⟨rfl,rfl⟩ (fun i a k hi ha J=>?_) fun a k ha=>?_)
 ·obtain⟨rfl,j⟩:=ha;unfold aIp;rw[Bv hi,Ba hi,AQ,apm _ _ AA,AQ];rw[aQj hi]at j
  have q:∀b,JX (keysOf e) [] X=(!b&&JX (keysOf e) (X.take (i+1)) (X.drop (i+1)))→dP (aEM X (i:Int) ((X.take i).map fun x=>(⟨x.Kind,x.Key,0⟩:Ah)) k b) (· =bif JX (keysOf e) [] X&&(e.Kind==1||X.any Py)then 0 else 16):=fun b u=>by
   unfold aEM;cases b with
   |true=>exact .ret o9
   |false=>
    simp only[Aj];rw[Ba hi,AQ,AQ,D7 (by simp only[Nq,CM,FY];omega),AQ,wrap_succ i AA];exact J _ ⟨by rw[map_take hi],o9⟩
  cases z:(keysOf e).any fun k=>EM k X[i]with
  |false=>
   rw[IU,Au];exact q true (by rw[j,z];rfl)
  |true=>
   rw[Dz,Aj];have L:(fun y:AB=>y.Kind==X[i].Kind&&decide (y.Key=X[i].Key))=SS X[i]:=rfl;rw[AQ,AQ,ach _ _ _ aBe,AQ,L];exact q _ (by rw[j,z,Fe])
 obtain⟨rfl,j⟩:=ha;rw[aPt]at j;unfold aIp;rw[CX,Aj,GI,j,ach _ _ _ AA];have M:(X.any fun y=>y.Kind==1&&decide (y.Key=Bc))=X.any Py:=rfl;rw[M];have m:(e.Kind != 1)= !(e.Kind==1):=rfl;rw[m];cases e.Kind==1<;>cases X.any Py<;>exact .ret rfl
def atE (X:List AB) (e:AB) (j:X.length≤40):aKI X e 0=some (bif !X.all (fun x=>decide (x.Room=e.Room))then 13 else bif JX (keysOf e) [] X&&(e.Kind==1||X.any Py)then 0 else 16):=by
 unfold aKI;rw[Gs X (fuel_lt AA) (fun x=> !decide (x.Room=e.Room)) 13 (some (bif JX (keysOf e) [] X&&(e.Kind==1||X.any Py)then 0 else 16))]
 ·rw[nV];cases X.all (fun x=>decide (x.Room=e.Room))<;>rfl
 ·intro k i hi;unfold aIV;rw[Bv hi,IQ]
 intro k;unfold aIV;rw[DC,aIc,AQ,al4 X e j]
def ar9 (l:List AB) (e:AB) (hl:l.length≤100) (j:Fl e):aOg l e=some (Pm l e):=by
 have m:=j.auth;have q:=Zq l e.bD;unfold aOg acX Pm;rw[Gs e.bD (fuel_lt AA) (fun x=> !bY l x) 14 (some (bif !(ofIds l e.bD).all (fun x=>decide (x.Room=e.Room))then 13 else bif JX (keysOf e) [] (ofIds l e.bD)&&(e.Kind==1||(ofIds l e.bD).any Py)then 0 else 16))]
 ·rw[nV];cases e.bD.all (bY l)<;>rfl
 ·intro k i hi;unfold aJH;rw[Bv hi,NQ l _ AA,AQ,Oo];rfl
 intro k;unfold aJH;rw[CX,Aj,aNd l _ AA AA,AQ,atE _ e AA]
def aiS (k:Ah) (e:AB):Vp (J5 k) e=some (EM k e):=by
 unfold Vp EM J5;cases h:(e.Kind==k.Kind)with
 |false=>rfl
 |true=>show some (e.Key.toList==k.Key.toList)=_;rw[IQ,Fe]
def arS (j:List Ah) (x:AB) (h:j.length≤100):aGF (j.map J5) x=some (if j.findIdx (fun k=>EM k x)<j.length then((j.findIdx (fun k=>EM k x):Nat):Int)else -1):=by
 unfold aGF aea
 have q:∀k (i:Nat),i<j.length→aCa (j.map J5) x k (i:Int)=bif EM (j.getD i ⟨0,Bc,0⟩) x then some (i:Int)else k (Ag ((i:Int)+1)):=fun k i hi=>by
  unfold aCa;have m:i<(j.map J5).length:=aNJ
  rw[Bv m,MW];show((Vp (J5 j[i]) x).bind _)=_;rw[aiS,AQ];simp[List.getD,hi]
 rw[JD j (fuel_lt AA) (fun k=>EM k x) (fun i=>some (i:Int)) (some (-1))]
 ·split<;>rfl
 ·intro k i hi;rw[q k i hi];simp[List.getD,hi]
 intro k;unfold aCa;rw[show((j.map J5).length:Int)=(j.length:Int) by rw[CM],CX];rfl
def aUu {α:Type} {p:α→Bool}:∀l:List α,l.Pairwise (fun a b=>¬(p a=true∧p b=true))→l.findIdx p<l.length→l.filter (fun x=> !p x)=l.take (l.findIdx p)++l.drop (l.findIdx p+1)
 | [],_,h=>absurd h (Nat.not_lt_zero _)
 |a::l,j,h=>by
  obtain⟨m,q⟩:=OU.1 j;rw[Tm]at h ⊢;cases ha:p a with
  |true=>
   rw[List.filter_cons_of_neg (by simp[ha]),ug.2 fun b u=>by
    cases z:p b with
    |false=>rfl
    |true=>exact absurd ⟨ha,z⟩ (m b u)]
   rfl
  |false=>
   rw[ha]at h;rw[List.filter_cons_of_pos (by simp[ha]),aUu l q Jz];rfl
def aQ8 {α:Type} {p:α→Bool}:∀l:List α,decide (l.findIdx p<l.length)=l.any p
 | []=>rfl
 |a::l=>by
  have j:=aQ8 (p:=p) l;rw[Tm,Yn,←j];cases p a<;>simp
def ahH (e:AB):J6 (keysOf e):=by
 have z:J6 (LJ e):=Wj (Wj (Wj List.Pairwise.nil _ _ _) _ _ _) _ _ _;unfold keysOf;cases e.Kind==1<;>cases e.Kind==2<;>cases(e.Content.N==3||e.Content.N==1||e.Content.N==2)<;>simp only[Au,Aj]
 ·exact z
 ·exact z
 ·exact Wj z _ _ _
 ·exact Wj (Wj z _ _ _) _ _ _
 all_goals exact List.Pairwise.nil
def ani {e:AB} {k:Ah} (h:k∈keysOf e) (m:k.Kind=1):k.Key=Bc:=by
 have z:∀x∈LJ e,x.Kind=1→x.Key=Bc:=fun x j u=>by
  unfold LJ at j;rcases Qc j with rfl|j
  ·cases u
  rcases Qc j with rfl|j
  ·cases u
  rcases Qc j with rfl|j
  ·rfl
  cases j
 unfold keysOf at h;cases q:e.Kind==1 with
 |true=>rw[q]at h;cases h
 |false=>
  cases I:e.Kind==2 with
  |false=>rw[q,I]at h;exact z k h m
  |true=>
   rw[q,I]at h;cases J:(e.Content.N==3||e.Content.N==1||e.Content.N==2)with
   |true=>
    rw[J]at h;rcases Qc h with rfl|h
    ·cases m
    rcases Qc h with rfl|h
    ·cases m
    exact z k h m
   |false=>
    rw[J]at h;rcases Qc h with rfl|h
    ·cases m
    exact z k h m
def aTA {q:List Ah}:∀(X j:List AB),JX q j X=true→∀x∈X,∃k∈q,EM k x=true
 | [],_,_,_,h=>absurd h Ez
 |y::X,j,h,x,m=>by
  unfold JX at h;simp only[CW]at h;rcases Ei.1 m with rfl|m
  ·obtain⟨k,u,z⟩:=Fv.1 h.1.1;exact⟨k,u,z⟩
  exact aTA X _ h.2 x m
def any_congr {α:Type} {l:List α} {p q:α→Bool} (h:∀x∈l,p x=q x):l.any p=l.any q:=by
 rw[KG,Fv,Fv];exact⟨fun⟨x,j,k⟩=>⟨x,j,by rw[←h x j];exact k⟩,fun⟨x,j,k⟩=>⟨x,j,by rw[h x j];exact k⟩⟩
def agY (l:List AB) (e:AB) (hl:l.length≤100) (he:Fl e):o8 l e=some (Pm l e):=by
 have h1:=he.auth;have hk5:=WY e;have hsk:=ahH e;unfold o8 aSt;refine dP.eq (Jf e.bD.length (fuel_lt AA) (fun i a=>a=ofIds l (e.bD.take i)∧∀x∈e.bD.take i,bY l x=true) ⟨rfl,fun x U=>by simp at U⟩ (fun i a k hi ha I=>?_) fun a k ha=>?_)
 ·obtain⟨rfl,q⟩:=ha;have hal:=Zq l (e.bD.take i);rw[FY]at hal;unfold aEJ;rw[Bv hi,MK l _ AA,AQ,wrap_succ i AA];cases Y:Dh l e.bD[i]with
  |none=>
   rw[QH Y];refine .ret ?_;unfold Pm;rw[Zj (Df hi) (show bY l e.bD[i]=false by unfold bY;rw[Y];rfl)];rfl
  |some x=>
   rw[La Y];simp only[Dz,Aj];rw[D7 FM,AQ];refine I _ ⟨?_,fun y z=>?_⟩
   ·unfold ofIds;rw[Tc,D9 hi,QL,bG,OV,Y];rfl
   rw[Tc,D9 hi,QL,GU,Gu]at z;rcases z with z|rfl
   ·exact q y z
   unfold bY;rw[Y];rfl
 obtain⟨rfl,q⟩:=ha;rw[GI]at q ⊢;have U:=Zq l e.bD;have Z:e.bD.all (bY l)=true:=DT.2 q;unfold aEJ;rw[DC];unfold Pm;rw[Z];simp only[Dz,Aj];generalize ofIds l e.bD=X at U;unfold aUy;rw[Gs X (fuel_lt AA) (fun x=> !decide (x.Room=e.Room)) 13 (some (bif JX (keysOf e) [] X&&(e.Kind==1||X.any Py)then 0 else 16))]
 ·rw[nV];cases X.all (fun x=>decide (x.Room=e.Room))<;>exact .ret rfl
 ·intro k2 i hi;unfold zK;rw[Bv hi,IQ]
 intro k2;unfold zK;rw[DC,aPw,AQ];unfold ad1;refine dP.eq (TR (body:=aCA X) (Q:=(· =bif JX (keysOf e) [] X&&(e.Kind==1||X.any Py)then 0 else 16)) (fun n b ks x=>∃i:Nat,x=i∧i+n=X.length∧ks=((keysOf e).filter fun k=> !(X.take i).any (EM k)).map J5∧b=(e.Kind==1||(X.take i).any fun x=>x.Kind==1)∧JX (keysOf e) [] X=JX (keysOf e) (X.take i) (X.drop i)) ?_ Af X.length (e.Kind==1) ((keysOf e).map J5) 0 (fuel_lt AA) ⟨0,rfl,AA,by rw[aAn];exact BI (List.map J5) (ug.2 fun _ _=>rfl).symm,Ap,rfl⟩);rintro n b ks x k3 ⟨i,rfl,hn,hks,hb,u⟩ hk3;unfold aCA;by_cases hi:i<X.length
 ·rw[aQj hi]at u;have hlk:((keysOf e).filter fun k=> !(X.take i).any (EM k)).length≤5:=Eh (Ic _ _) hk5;rw[Bv hi,hks,arS _ _ AA,AQ];have J:=aQ8 (p:=fun k=>EM k X[i]) ((keysOf e).filter fun k=> !(X.take i).any (EM k))
  have L:(((keysOf e).filter fun k=> !(X.take i).any (EM k)).any fun k=>EM k X[i])=((keysOf e).any (fun k=>EM k X[i])&& !(X.take i).any (SS X[i])):=by
   rw[KG,Fv,CW,Fv,Sl,←KX,Fv];constructor
   ·rintro⟨k,I,M⟩;obtain⟨hk1,hk2⟩:=EY.1 I;refine⟨⟨k,hk1,M⟩,?_⟩;rintro⟨y,z,hs⟩;obtain⟨m1,m2⟩:=Zf.1 M;obtain⟨s1,s2⟩:=aaR.1 hs;rw[Fv.2 ⟨y,z,Zf.2 ⟨s1.trans m1,s2.trans m2⟩⟩]at hk2;cases hk2
   rintro⟨⟨k,I,M⟩,hno⟩;refine⟨k,EY.2 ⟨I,?_⟩,M⟩;rw[Sl,←KX,Fv];rintro⟨y,z,hs⟩;obtain⟨m1,m2⟩:=Zf.1 M;obtain⟨s1,s2⟩:=Zf.1 hs;exact hno ⟨y,z,aaR.2 ⟨s1.trans m1.symm,s2.trans m2.symm⟩⟩
  rw[←L,←J]at u;by_cases m:((keysOf e).filter fun k=> !(X.take i).any (EM k)).findIdx (fun k=>EM k X[i])<((keysOf e).filter fun k=> !(X.take i).any (EM k)).length
  ·rw[CV m,IC AA,Aj];rw[IJ m,Fe]at u;have hlm:(((keysOf e).filter fun k=> !(X.take i).any (EM k)).map J5).length=((keysOf e).filter fun k=> !(X.take i).any (EM k)).length:=CM ..
   have hpw:((keysOf e).filter fun k=> !(X.take i).any (EM k)).Pairwise (fun a b=>¬(EM a X[i]=true∧EM b X[i]=true)):=by
    refine(List.Pairwise.sublist QB hsk).imp fun{a b} hab h=>?_;obtain⟨a1,a2⟩:=Zf.1 h.1;obtain⟨b1,b2⟩:=Zf.1 h.2;rw[tu (X6.2 ⟨a1.symm.trans b1,a2.symm.trans b2⟩)]at hab;cases hab
   have hd:=aUu _ hpw m
   have O:((keysOf e).filter fun k=> !(X.take i).any (EM k)).filter (fun k=> !EM k X[i])=(keysOf e).filter fun k=> !(X.take (i+1)).any (EM k):=by
    rw[List.filter_filter];refine bn fun k _=>?_;rw[aDQ hi];cases(X.take i).any (EM k)<;>cases EM k X[i]<;>rfl
   rw[O]at hd;generalize((keysOf e).filter fun k=> !(X.take i).any (EM k))=K at m hd hlm hlk;generalize K.findIdx (fun k=>EM k X[i])=j at m hd;have s1:Hg (K.map J5) 0 (j:Int)=some (((K.map J5).drop 0).take (j-0)):=iF (lo:=0) (EZ _) AA;have s2:Hg (K.map J5) (Ag ((j:Int)+1)) ((K.map J5).length:Int)=some (((K.map J5).drop (j+1)).take ((K.map J5).length-(j+1))):=by rw[wrap_succ j AA];exact iF AA (Dk _)
   rw[s1,AQ,s2,AQ,D7 (by simp only[FY,Kw];omega),AQ];have hb3:(bif b then some true else(Ae X (i:Int)).bind fun x28=>some (x28.Kind==1))=some (b||X[i].Kind==1):=by rw[Ba hi];cases b<;>rfl
   rw[hb3,AQ];refine hk3 (n-1) _ _ _ AA ⟨i+1,wrap_succ i AA,AA,?_,?_,u⟩
   ·rw[hd,JU,Ym,cG,Nat.sub_zero,vg,QN (l:=(K.map J5).drop (j+1)) (by rw[Kw];omega)]
   rw[aDQ hi,hb,Bool.or_assoc]
  rw[Cc m];rw[IC m,Bool.false_and]at u;exact .ret o9
 have :i=X.length:=AA
 subst this;rw[aPt]at u;rw[DC,u,hb,GI,Fe]
 have hc:(X.any fun x=>x.Kind==1)=X.any Py:=any_congr fun x U=>by
  obtain⟨k,I,M⟩:=aTA X [] u x U;obtain⟨m1,m2⟩:=Zf.1 M;unfold Py;cases hq:x.Kind==1 with
  |false=>rfl
  |true=>rw[m2,ani I (by rw[←m1];exact eq_of_beq hq)];simp
 rw[hc];cases(e.Kind==1||X.any Py)<;>exact .ret rfl
def FZ (l:List AB) (s:List Ah):List AB:=ofIds l (s.map (·.Id))
def fD (l:List AB) (s:List Ah):(FZ l s).length≤s.length:=by have :=Zq l (s.map (·.Id));rwa [CM]at this
def aEG {l:List AB} (hs:DF l) (ids:List Int):DF (ofIds l ids):=fun x j=>hs x (aPN j)
def zO {l:List AB} {s:List Ah} {i:Nat} (h:i<s.length):FZ l (s.take (i+1))=FZ l (s.take i)++(Dh l s[i].Id).toList:=by
 unfold FZ ofIds;rw[map_take h,bG,OV,List.filterMap_nil];cases Dh l s[i].Id<;>rfl
def aHY (l:List AB) (s:List Ah) (hl:l.length≤100) (h:s.length≤1000):dW l s=some (FZ l s):=by
 unfold dW xB;rw[AQ];unfold aTp;refine dP.eq (aDt (body:=aMq s) (Q:=(· =FZ l s)) (fun n a b c _ _=>∃i:Nat,b=i∧i+n=s.length∧c=l∧a=FZ l (s.take i)) ?_ Af s.length [] 0 l [] [] (fuel_lt AA) ⟨0,rfl,AA,rfl,rfl⟩);rintro n a b c d f k ⟨i,rfl,u,rfl,ha⟩ q;unfold aMq;by_cases hi:i<s.length
 ·have m:=fD c (s.take i);rw[FY]at m;rw[Bv hi,MK c _ AA,AQ,wrap_succ i AA];cases j:Dh c s[i].Id with
  |none=>rw[QH j];exact q (n-1) _ _ _ _ _ AA ⟨i+1,rfl,AA,rfl,by rw[zO hi,j,ha];simp⟩
  |some x=>
   rw[La j];simp only[Au];rw[D7 (by rw[ha];simp only[Nq];omega),AQ];exact q (n-1) _ _ _ _ _ AA ⟨i+1,rfl,AA,rfl,by rw[zO hi,j,ha];rfl⟩
 have :i=s.length:=AA
 subst this;rw[DC];exact .ret lg
def agl (l:List AB) (s:List Ah) (hl:l.length≤100) (h:s.length≤1000):aOM l s=some (FZ l s):=by
 unfold aOM aSw;refine dP.eq (Jf s.length (fuel_lt AA) (fun i a=>a=FZ l (s.take i)) rfl (fun i a k hi ha q=>?_) fun a k ha=>?_)
 ·have m:=fD l (s.take i);rw[FY]at m;unfold aIy aIP;rw[Bv hi,NQ l _ AA,AQ,wrap_succ i AA];cases j:Dh l s[i].Id with
  |none=>rw[QH j];exact q _ (by rw[zO hi,j,ha];simp)
  |some x=>
   rw[La j];simp only[Au];rw[D7 (by rw[ha];simp only[Nq];omega),AQ];exact q _ (by rw[zO hi,j,ha];rfl)
 unfold aIy;rw[CX];exact .ret lg
structure Ci where
 id:Int
 before:List Ah
 after:List Ah
 err:Int
def Du (t:List Ci) (x:Int):Option Ci:=t.find? fun y=>y.id==x
def Ho (t:List Ci) (x:Int):List Ah:=((Du t x).map (·.after)).getD []
def errOf (t:List Ci) (x:Int):Int:=((Du t x).map (·.err)).getD 0
def XV (l:List AB) (e:AB):Int:=bif Pm l e != 0 then Pm l e else NG e (Rf l e)
def KR (l:List AB) (t:List Ci) (e:AB) (s:List Ah):Int:=
 bif XV l e != 0 then XV l e else bif e.bD.any (fun x=>errOf t x != 0)then 16 else NG e (FZ l s)
def stB (l:List AB) (t:List Ci) (e:AB):List Ah:=Vl l (e.bC.map (Ho t))
def Y5 (e:AB) (s:List Ah) (r:Int):Ci:=⟨e.Id,s,bif r==0&&Gv e.Kind then FQ s e.Kind e.Key e.Id else s,r⟩
def Hw (l:List AB) (t:List Ci) (e:AB):Ci:=Y5 e (stB l t e) (KR l t e (stB l t e))
def Gz (l:List AB) (ids:List Int):List Ci:=ids.foldl (fun t id=>t++[Hw l t (ev l id)]) []
def D5 (l:List AB):List Ci:=Gz l (Hy l)
def aOh (l:List AB) {ids:List Int} {i:Nat} (h:i<ids.length):Gz l (ids.take (i+1))=Gz l (ids.take i)++[Hw l (Gz l (ids.take i)) (ev l ids[i])]:=aGq h
def vM {t:List Ci} {x:Int}:Du t x=none↔x∉t.map (·.id):=by
 unfold Du;rw[aB9,Ee];exact⟨fun h ⟨y,j,e⟩=>h y j RZ,fun h y j e=>h ⟨y,j,RZ⟩⟩
def xM {t:List Ci} {y:Ci} (h:Du t y.id=none) (x:Int):Du (t++[y]) x=bif x==y.id then some y else Du t x:=by
 unfold Du at h ⊢;rw[oM];cases j:x==y.id with
 |true=>
  have e:=eq_of_beq j;subst e;rw[h];simp
 |false=>
  have :(y.id==x)=false:=by rw[←j,KG,Q5,Q5];exact eq_comm
  simp[this]
def aha {t:List Ci} {x:Int} {y:Ci} (h:Du t x=some y):y.id=x:=by have :=dn h;simpa using this
def aDp (l:List AB):∀(ids:List Int) (t:List Ci),(∀x∈ids,bY l x=true)→(ids.foldl (fun t id=>t++[Hw l t (ev l id)]) t).map (·.id)=t.map (·.id)++ids
 | [],t,_=>Ap
 |x::ids,t,h=>by
  have j:(Hw l t (ev l x)).id=x:=(Ib (h x (Ep ..))).2;rw[Et,aDp l ids _ fun y m=>h y (FW _ m),JU,Ig,List.map_nil,j,Hr];rfl
def KI (l:List AB) (t:List Ci):Prop:=∀y∈t,I9 l y.before∧I9 l y.after
def KI.after {l:List AB} {t:List Ci} (h:KI l t) (x:Int):I9 l (Ho t x):=by
 unfold Ho;cases hl:Du t x with
 |none=>exact .nil l
 |some y=>exact(h y (SV hl)).2
def KI.states {l:List AB} {t:List Ci} (h:KI l t) (ids:List Int):∀s∈ids.map (Ho t),I9 l s:=fun s hs=>by
 obtain⟨x,_,rfl⟩:=Ee.1 hs;exact h.after x
def KI.okay {l:List AB} {t:List Ci} (h:KI l t) (hl:l.length≤100) (hs:DF l) (ids:List Int) (hi:ids.length≤100):KW l (ids.map (Ho t)):=I9.okay hl hs aNJ (h.states ids)
def KI.stB {l:List AB} {t:List Ci} (h:KI l t) (hl:l.length≤100) (hs:DF l) {e:AB} (j:e.bC.length≤40):I9 l (stB l t e):=I9.resolve (h.okay hl hs _ AA) (h.states _)
def KI.line {l:List AB} {t:List Ci} (h:KI l t) (hl:l.length≤100) (hs:DF l) {e:AB} (u:e.bC.length≤40) (z:Gv e.Kind=true→bY l e.Id=true∧ev l e.Id=e):KI l (t++[Hw l t e]):=fun y j=>by
 rcases GU.1 j with j|j
 ·exact h y j
 rw[Gu.1 j];have m:=h.stB hl hs u;refine⟨m,?_⟩;show I9 l (bif KR l t e (Go.Proofs.YtldfpencimjjlaaGreat.stB l t e)==0&&Gv e.Kind then FQ _ e.Kind e.Key e.Id else _);cases q:(KR l t e (Go.Proofs.YtldfpencimjjlaaGreat.stB l t e)==0&&Gv e.Kind)with
 |false=>exact m
 |true=>
  have hst:Gv e.Kind=true:=by rw[CW]at q;exact q.2
  obtain⟨I,k2⟩:=z hst;exact m.set I k2 hst
def as5 {l:List AB} {id:Int} (h:Gv (ev l id).Kind=true):bY l (ev l id).Id=true∧ev l (ev l id).Id=ev l id:=by
 cases j:Dh l id with
 |none=>unfold ev at h;rw[QH j]at h;exact absurd h BJ
 |some e=>
  have m:bY l id=true:=by unfold bY;rw[j];rfl
  have :=(Ib m).2;rw[this];exact⟨m,rfl⟩
def aj6 :Fl F6:=⟨EZ _,EZ _,EZ _,EZ _,EZ _,EZ _,EZ _,EZ _,EZ _,EZ _,EZ _,EZ _,fun _ h=>absurd h Ez,fun _ h=>absurd h Ez,fun _ h=>absurd h Ez⟩
def aFA {l:List AB} (hs:DF l) (id:Int):Fl (ev l id):=by
 unfold ev Gq;cases h:Dh l id with
 |none=>exact aj6
 |some e=>exact hs e (KL h)
def aDW {l:List AB} (hl:l.length≤100) (hs:DF l):∀(ids:List Int) (t:List Ci),KI l t→KI l (ids.foldl (fun t id=>t++[Hw l t (ev l id)]) t)
 | [],t,h=>h
 |x::ids,t,h=>by rw[Et];exact aDW hl hs ids _ (h.line hl hs (aFA hs x).prev as5)
structure OT (t:List Ci) (m1 m2:List (Int×List Ah)) (m3:List (Int×Int)):Prop where
 b:∀x,C9 m1 x=(Du t x).map (·.before)
 a:∀x,C9 m2 x=(Du t x).map (·.after)
 r:∀x,C9 m3 x=(Du t x).map (·.err)
def OT.after {t:List Ci} {m j:List (Int×List Ah)} {q:List (Int×Int)} (h:OT t m j q) (x:Int):(C9 j x).getD []=Ho t x:=by rw[h.a];rfl
def OT.err {t:List Ci} {m q:List (Int×List Ah)} {j:List (Int×Int)} (h:OT t m q j) (x:Int):(C9 j x).getD 0=errOf t x:=by rw[h.r];rfl
def ajL {t:List Ci} {m q:List (Int×List Ah)} {u:List (Int×Int)} (h:OT t m q u) (l:List AB) (e:AB) (s:List Ah) (hl:l.length≤100) (hs:DF l) (j:Fl e) (z:s.length≤100):
 aFl m q u l e s=some (KR l t e s):=by
 have J:=j.auth;have L:=fD l s;unfold aFl KR XV;rw[agY l e hl j,AQ];cases I:Pm l e != 0 with
 |true=>simp only[Au];rw[I];rfl
 |false=>
  simp only[Aj];rw[adJ l e AA AA,AQ,aK3 e _ (Eh (aCM l e) AA) (hs.from e) j,AQ];cases ha:NG e (Rf l e) != 0 with
  |true=>rfl
  |false=>
   simp only[Aj];unfold aS9;rw[Gs e.bD (fuel_lt AA) (fun x=>errOf t x != 0) 16 (some (NG e (FZ l s)))]
   ·cases e.bD.any (fun x=>errOf t x != 0)<;>rfl
   ·intro k i hi;unfold aJN;rw[Bv hi,h.err]
   intro k;unfold aJN;rw[DC,aHY l s hl AA,AQ,aK3 e (FZ l s) AA (aEG hs _) j];rfl
def OT.snoc {t:List Ci} {z I j m:List (Int×List Ah)} {J q:List (Int×Int)} (h:OT t z I J) {y:Ci} (u:Du t y.id=none)
 (L:∀x,C9 j x=bif x==y.id then some y.before else C9 z x) (M:∀x,C9 m x=bif x==y.id then some y.after else C9 I x) (O:∀x,C9 q x=bif x==y.id then some y.err else C9 J x):OT (t++[y]) j m q:=by
 refine⟨fun x=>?_,fun x=>?_,fun x=>?_⟩
 ·rw[L,xM u,h.b];cases x==y.id<;>rfl
 ·rw[M,xM u,h.a];cases x==y.id<;>rfl
 rw[O,xM u,h.r];cases x==y.id<;>rfl
def add_eq {t:List Ci} {u z:List (Int×List Ah)} {I:List (Int×Int)} (h:OT t u z I) (l:List AB) (e:AB) (hl:l.length≤100) (hs:DF l) (J:Fl e) (L:KI l t) (M:Du t e.Id=none):
 dP (zZ u z I l e) (fun r=>OT (t++[Hw l t e]) r.1 r.2.1 r.2.2):=by
 have O:=J.prev;unfold zZ abC;refine Jf e.bC.length (fuel_lt AA) (fun i a=>a=(e.bC.take i).map (Ho t)) rfl (fun i a k hi ha U=>?_) fun a k ha=>?_
 ·have Y:a.length≤i:=kX
  unfold aH2;rw[Bv hi,D7 FM,AQ,wrap_succ i AA,h.after];exact U _ aCm
 rw[GI]at ha;subst ha;unfold aH2;have Z:I9 l (stB l t e):=L.stB hl hs O;have hpl:=Z.length;have q:dz l (e.bC.map (Ho t))=some (stB l t e):=aej (L.okay hl hs _ AA);rw[DC,q,AQ,ajL h l e _ hl hs J AA,AQ];have j:Hw l t e=Y5 e (stB l t e) (KR l t e (stB l t e)):=rfl;rw[j];generalize KR l t e (stB l t e)=r;have m:∀(c d f:Bool) {R:Type} (g:Bool→Option R),((bif c then some d else some false).bind fun x9=>(bif x9 then some f else some false).bind g)=g (c&&(d&&f)):=fun c d f R g=>by cases c<;>cases d<;>rfl
 rw[m];show dP (bif (r==0&&Gv e.Kind)then _ else _) _;unfold Y5;cases hc:(r==0&&Gv e.Kind)with
 |true=>
  simp only[Au];rw[Xy _ _ _ _ AA,AQ];refine .ret (h.snoc M (fun x=>Qe ..) (fun x=>?_) fun x=>Qe ..);rw[Qe,Qe];cases x==e.Id<;>rfl
 |false=>exact .ret (h.snoc M (fun x=>Qe ..) (fun x=>Qe ..) fun x=>Qe ..)
def run_go (l:List AB) (ids:List Int) (hl:l.length≤100) (hs:DF l) (q:∀x∈ids,bY l x=true) (z:ids.Nodup) (J:ids.length≤1000):dP (aH5 ids l 0 [] [] []) (fun o=>∃T,o=some T∧OT (Gz l ids) T.1 T.2.1 T.2.2):=by
 unfold aH5;refine aOl (body:=aIt ids l) (Q:=fun o=>∃T,o=some T∧OT (Gz l ids) T.1 T.2.1 T.2.2) (fun n a b c d=>∃i:Nat,a=i∧i+n=ids.length∧OT (Gz l (ids.take i)) b c d) ?_ Af ids.length 0 [] [] [] (fuel_lt AA) ⟨0,rfl,AA,⟨fun x=>rfl,fun x=>rfl,fun x=>rfl⟩⟩;rintro n a b c d k ⟨i,rfl,Z,u⟩ L;unfold aIt;by_cases hi:i<ids.length
 ·have I:=q _ (Df hi)
  have m:Du (Gz l (ids.take i)) (ev l ids[i]).Id=none:=by
   rw[vM,(Ib I).2];unfold Gz;rw[aDp l _ _ fun x M=>q x (ig M),List.map_nil,IV];intro u;obtain⟨j,O,e⟩:=GZ u;rw[FY]at O;rw[vZ]at e;have :=Jq.1 (aDR.1 z) j i AA hi AA;exact this e
  rw[Bv hi,MK l _ AA,AQ];refine(add_eq u l _ hl hs (aFA hs ids[i]) (aDW hl hs _ _ fun y U=>absurd U Ez) m).bind fun r Y=>?_;exact L (n-1) _ _ _ _ AA ⟨i+1,wrap_succ i AA,AA,by rw[aOh l hi];exact Y⟩
 have :i=ids.length:=AA
 subst this;rw[DC];exact .ret ⟨_,rfl,by rw[GI]at u;exact u⟩
structure Jo (l:List AB):Prop where
 len:l.length≤100
 small:DF l
 nodup:(l.map (·.Id)).Nodup
 dep:jS l
def Ia {l:List AB} {x:Int}:bY l x=true↔x∈l.map (·.Id):=by
 unfold bY Dh;rw[List.find?_isSome,Ee];exact⟨fun⟨e,j,h⟩=>⟨e,j,Jz⟩,fun⟨e,j,h⟩=>⟨e,j,Jz⟩⟩
def aUh (l:List AB):(Hy l).Perm (l.map (·.Id)):=(aC l).map _
def iO {l:List AB} {x:Int}:x∈Hy l↔bY l x=true:=by rw[(aUh l).mem_iff,Ia]
def aMW (l:List AB):(Hy l).length=l.length:=by unfold Hy;rw[CM,aO7]
def Jo.order {l:List AB} (h:Jo l):(Hy l).Nodup:=(aUh l).nodup_iff.2 h.nodup
def Dp (l:List AB) (c:Int):List Ci:=bif c==0&&IB l==0 then D5 l else[]
def run_eq (l:List AB) {c:Int} (u:Nr l=some c) (h:c=0→Jo l):
 dP (dB l) (fun o=>(Dp l c=[]∧o=none)∨(Dp l c=D5 l∧Jo l∧∃T,o=some T∧OT (D5 l) T.1 T.2.1 T.2.2)):=by
 unfold dB Dp;rw[u,AQ];by_cases q:c=0
 ·subst q;have j:=h rfl;rw[alb l j.len j.small j.dep];cases hd:IB l==0 with
  |false=>
   have m:(IB l != 0)=true:=by unfold bne;rw[hd];rfl
   simp only[Ln,Aj,AQ,m,Au];exact .ret (.inl ⟨rfl,rfl⟩)
  |true=>
   have m:(IB l != 0)=false:=by unfold bne;rw[hd];rfl
   simp only[Ln,Aj,AQ,m];rw[ajG l (by have :=j.len;omega),AQ];exact(run_go l (Hy l) j.len j.small (fun x z=>iO.1 z) j.order (by rw[aMW];have :=j.len;omega)).mono fun o I=>.inr ⟨rfl,j,I⟩
 have J:(c != 0)=true:=Nz
 have L:(c==0)=false:=Nz
 rw[J,L];exact .ret (.inl ⟨rfl,rfl⟩)
def zl {l:List AB} (h:Jo l):KI l (D5 l):=aDW h.len h.small _ _ fun y j=>absurd j Ez
def ac4 (l:List AB):(D5 l).map (·.id)=Hy l:=by
 have :=aDp l (Hy l) [] fun x j=>iO.1 j;simpa[D5,Gz]using this
def aRx {l:List AB} {x:Int} (h:bY l x=true):∃y,Du (D5 l) x=some y:=by
 cases hl:Du (D5 l) x with
 |some y=>exact⟨y,rfl⟩
 |none=>rw[vM,ac4]at hl;exact absurd (iO.2 h) hl
def Gn (t:List Ci) (x:Int):Bool:=match Du t x with
 |some y=>y.err==0
 |none=>false
def Hf (l:List AB) (t:List Ci):List Int:=(l.filter fun e=>Gn t e.Id).map (·.Id)
def TN (l:List AB) (t:List Ci):List Ah:=Vl l ((QM l (Hf l t)).map (Ho t))
def aKq (l:List AB) (t:List Ci):(Hf l t).length≤l.length:=by unfold Hf;rw[CM];exact Ic _ _
def aaC (l:List AB):Hf l []=[]:=by
 unfold Hf;rw[Zb.2 fun e _=>by unfold Gn Du;simp];rfl
def abB (l:List AB):TN l []=[]:=by unfold TN;rw[aaC];rfl
def aQd {l:List AB} {t:List Ci} {i:Nat} (h:i<l.length):Hf (l.take (i+1)) t=Hf (l.take i) t++bif Gn t l[i].Id then[l[i].Id]else[]:=by
 unfold Hf;rw[xq h,JU];cases Gn t l[i].Id<;>rfl
def ahZ {l:List AB} {x:Int} (h:bY l x=true):Gn (D5 l) x=(errOf (D5 l) x==0):=by
 obtain⟨y,j⟩:=aRx h;unfold Gn errOf;rw[j];rfl
def aPo {l:List AB} {j m:List (Int×List Ah)} {q:List (Int×Int)} (h:OT (D5 l) j m q) (hl:l.length≤100):bQ j m q l=some (Hf l (D5 l)):=by
 unfold bQ
 have I:aG1 l j m q=some (Hf l (D5 l)):=by
  unfold aG1 aRr;refine dP.eq (Jf l.length (fuel_lt AA) (fun i a=>a=Hf (l.take i) (D5 l)) rfl (fun i a k hi ha u=>?_) fun a k ha=>?_)
  ·have J:a.length≤i:=by rw[ha];exact Eh (aKq _ _) aBe
   unfold aNL aOL aDq;rw[Bv hi,AQ,h.err,←ahZ (Ia.2 (Ee.2 ⟨_,Df hi,rfl⟩)),wrap_succ i AA];cases z:Gn (D5 l) l[i].Id with
   |true=>
    rw[Au,Ba hi,AQ,D7 FM,AQ];exact u _ (by rw[aQd hi,z,ha];rfl)
   |false=>exact u _ (by rw[aQd hi,z,ha];simp)
  unfold aNL;rw[DC];exact .ret lg
 rw[I];rfl
def aQQ {l:List AB} {c:Int} (u:Nr l=some c) (h:c=0→Jo l):Zd l=some (TN l (Dp l c)):=by
 unfold Zd;refine dP.eq ((run_eq l u h).bind fun o j=>?_);rcases j with⟨m,rfl⟩|⟨m,j,T,rfl,q⟩
 ·rw[m,abB];exact .ret rfl
 rw[m];have hl:=j.len;have ha:=aKq l (D5 l);have z:=aRu l (Hf l (D5 l));show dP ((bQ T.1 T.2.1 T.2.2 l).bind _) _;rw[aPo q hl,AQ,amo l _ hl j.small AA,AQ];unfold TN;generalize QM l (Hf l (D5 l))=H at z;unfold aQo;refine Jf H.length (fuel_lt AA) (fun i a=>a=(H.take i).map (Ho (D5 l))) rfl (fun i a k hi ha I=>?_) fun a k ha=>?_
 ·have J:a.length≤i:=kX
  unfold aLf;rw[Bv hi,D7 FM,AQ,q.after,wrap_succ i AA];exact I _ aCm
 rw[GI]at ha;unfold aLf;rw[DC,ha,aej ((zl j).okay hl j.small _ AA),AQ];exact .ret rfl
def aqR {l:List AB} {c:Int} (h:c=0→Jo l):I9 l (TN l (Dp l c)):=by
 unfold Dp;cases m:(c==0&&IB l==0)with
 |false=>rw[Aj,abB];exact .nil l
 |true=>
  rw[CW]at m;have j:=h (eq_of_beq m.1);have q:=zl j;have ha:=aKq l (D5 l);have u:=aRu l (Hf l (D5 l));have hl:=j.len;rw[Au];exact I9.resolve (q.okay hl j.small _ AA) (q.states _)
def ari {α:Type} {lt:α→α→Bool} (L:∀a b c,lt b a=false→lt c b=false→lt c a=false) (ha:∀a b,lt a b=true→lt b a=false) (x:α):
 ∀n (A:List α),A.length=n→A.Pairwise (fun a b=>lt b a=false)→(Ja lt A x).Pairwise fun a b=>lt b a=false:=by
 intro n
 induction n with
 |zero=>
  intro A m _;obtain rfl:=Gg m;exact aNx ..
 |succ n M=>
  intro A m u;rcases List.eq_nil_or_concat A with rfl|⟨B,a,rfl⟩
  ·cases m
  rw[List.concat_eq_append]at m u ⊢;have m:B.length=n:=Y0
  obtain⟨O,_,J⟩:=aS.1 u;cases q:lt x a with
  |true=>
   rw[aR8 q];refine aS.2 ⟨M B m O,aNx ..,fun y j z I=>?_⟩;rw[Gu.1 I];rcases Ei.1 ((aRO B x).mem_iff.1 j)with rfl|j
   ·exact ha _ _ q
   exact J y j a (Gu.2 rfl)
  |false=>
   rw[aTW q,show B++a::[x]=(B++[a])++[x] by simp];refine aS.2 ⟨u,aNx ..,fun y j z I=>?_⟩;rw[Gu.1 I];rcases GU.1 j with j|j
   ·exact L y a x (J y j a (Gu.2 rfl)) q
   rw[Gu.1 j];exact q
def eL {a b:AB}:Hl b a=false↔a.Depth<b.Depth∨(a.Depth=b.Depth∧a.Id≤b.Id):=by
 unfold Hl;rw[iM,aJ2,XC,XC,Xb];omega
def aQt (l:List AB):(Rx l).Pairwise fun a b=>Hl b a=false:=by
 have key:∀(l A:List AB),A.Pairwise (fun a b=>Hl b a=false)→(l.foldl (Ja Hl) A).Pairwise fun a b=>Hl b a=false:=by
  intro l
  induction l with
  |nil=>exact fun A h=>h
  |cons x l j=>
   intro A h;rw[Et];refine j _ (ari (fun a b c m q=>?_) (fun a b h=>?_) x _ A rfl h)
   ·rw[eL]at *;omega
   rw[eL];unfold Hl at h;rw[XT,CW,G8,G8,Q5]at h;omega
 exact key l [] .nil
def Wi {l:List AB} (M:(l.map (·.Id)).Nodup) {e:AB} (h:e∈l):ev l e.Id=e:=by
 have O:bY l e.Id=true:=Ia.2 (Ee.2 ⟨e,h,rfl⟩);obtain⟨U,z⟩:=Ib O;have Y:=KL U;obtain⟨i,hi,m⟩:=GZ Y;obtain⟨j,I,q⟩:=GZ h;have Z:=Jq.1 (aDR.1 M)
 have J:∀a b (ha:a<l.length) (L:b<l.length),a<b→l[a].Id≠l[b].Id:=fun a b ha L u=>by
  have :=Z a b (by simpa using ha) eK u;simpa using this
 rcases yQ i j with h|h|h
 ·exact absurd (by rw[m,q,z]) (J i j hi I h)
 ·subst h;rw[←m,q]
 exact absurd (by rw[m,q,z]) (J j i I hi h)
def atS {l:List AB} (z:(l.map (·.Id)).Nodup) {i:Nat} (hi:i<(Hy l).length) {a:Int} (I:bY l a=true) (hd:(ev l a).Depth<(ev l (Hy l)[i]).Depth):a∈(Hy l).take i:=by
 obtain⟨J,L⟩:=Ib I;have M:ev l a∈Rx l:=(aC l).mem_iff.2 (KL J);obtain⟨j,O,q⟩:=GZ M;have m:i<(Rx l).length:=by simpa[Hy]using hi
 have U:(Hy l)[i]=(Rx l)[i].Id:=MW (fun x:AB=>x.Id);have u:ev l (Hy l)[i]=(Rx l)[i]:=by rw[U];exact Wi z ((aC l).mem_iff.1 (Df m))
 have Y:j<i:=by
  rcases yQ j i with h|h|h
  ·exact h
  ·subst h;rw[u,←q]at hd;omega
  have :=Jq.1 (aQt l) i j m O h;rw[eL]at this;rw[u,←q]at hd;omega
 refine abz.2 ⟨j,AA,?_⟩;unfold Hy;rw[MW,q,L]
def SX (t:List Ci) (s:List Ah):Prop:=∀x∈s,Gn t x.Id=true
structure Qb (l:List AB) (t:List Ci):Prop where
 st:∀y∈t,SX t y.before∧SX t y.after
 au:∀y∈t,y.err=0→∀a∈iI l y.id,Gn t a=true
def iD {t:List Ci} {x:Int}:Gn t x=true↔∃y,Du t x=some y∧y.err=0:=by
 unfold Gn;cases Du t x with
 |none=>simp
 |some y=>simp
def abm {t:List Ci} {x:Int} {y:Ci} (h:Du t x=some y) (z:Ci):Du (t++[z]) x=some y:=by
 unfold Du at *;rw[oM,h];rfl
def aBk {t:List Ci} {x:Int} (h:Gn t x=true) (z:Ci):Gn (t++[z]) x=true:=by
 obtain⟨y,j,m⟩:=iD.1 h;exact iD.2 ⟨y,abm j z,m⟩
def SX.nil (t:List Ci):SX t []:=fun _ h=>absurd h Ez
def Qb.after {l:List AB} {t:List Ci} (h:Qb l t) (x:Int):SX t (Ho t x):=by
 unfold Ho;cases hl:Du t x with
 |none=>exact .nil t
 |some y=>exact(h.st y (SV hl)).2
def Qb.auth {l:List AB} {t:List Ci} (h:Qb l t) {x:Int} (m:Gn t x=true):∀a∈iI l x,Gn t a=true:=by
 obtain⟨y,j,q⟩:=iD.1 m;have :=h.au y (SV j) q
 rwa [aha j]at this
def Qb.chain {l:List AB} {t:List Ci} (h:Qb l t) {ids:List Int} (hi:∀x∈ids,Gn t x=true) {x:Int} (m:Jp l ids x):Gn t x=true:=by
 induction m with
 |one q j _=>exact h.auth (hi _ q) _ j
 |more _ j _ u=>exact h.auth u _ j
def Qb.full {l:List AB} {t:List Ci} (h:Qb l t) {m:List (List Ah)} (hs:∀s∈m,SX t s) {x:Int} (j:x∈Io l m):Gn t x=true:=by
 have u:∀s∈m,∀y∈RQ s,Gn t y=true:=fun s q y J=>by
  obtain⟨z,I,rfl⟩:=Ee.1 J;exact hs s q z I
 unfold Io at j;rcases U7.1 j with j|j
 ·rw[JV]at j;unfold QA at j;obtain⟨z,I,rfl⟩:=Ee.1 j;obtain⟨s,q,I⟩:=TW.1 I;exact hs s q z (EY.1 I).1
 obtain⟨⟨s,q,j⟩,_⟩:=aSZ.1 j;unfold Ef at j;rcases U7.1 j with j|j
 ·exact u s q x j
 exact h.chain (u s q) (cu.1 j)
def Qb.resolve {l:List AB} {t:List Ci} (h:Qb l t) {j:List (List Ah)} (m:KW l j) (hs:∀s∈j,SX t s):SX t (Vl l j):=by
 match j,m,hs with
 | [],_,_=>exact .nil t
 | [s],_,hs=>exact hs s (Ep ..)
 |s::r::j,m,hs=>
  intro x u;rcases aQa u with z|⟨id,q,I,_,J⟩
  ·exact hs s (Ep ..) x ((adO m.states (List.cons_ne_nil _ _)).1 z s (Ep ..))
  have L:x.Id=id:=by rw[J];exact(Ib I).2
  rw[L];exact h.full hs q
def Qb.line {l:List AB} {t:List Ci} (h:Qb l t) (Y:KI l t) (hl:l.length≤100) (hs:DF l) {id:Int} (Z:bY l id=true) (hn:Du t id=none) (ha:∀a∈iI l id,∃y,Du t a=some y):Qb l (t++[Hw l t (ev l id)]):=by
 have z:(ev l id).Id=id:=(Ib Z).2
 have L:SX t (stB l t (ev l id)):=h.resolve (Y.okay hl hs _ (by have :=(aFA hs id).prev;omega)) fun s u=>by
  obtain⟨x,_,rfl⟩:=Ee.1 u;exact h.after x
 have j:∀{s:List Ah},SX t s→SX (t++[Hw l t (ev l id)]) s:=fun hs x I=>aBk (hs x I) _;refine⟨fun y m=>?_,fun y m q a u=>?_⟩
 ·rcases GU.1 m with m|m
  ·exact⟨j (h.st y m).1,j (h.st y m).2⟩
  rw[Gu.1 m];refine⟨j L,?_⟩;show SX _ (bif KR l t (ev l id) (stB l t (ev l id))==0&&Gv (ev l id).Kind then FQ _ (ev l id).Kind (ev l id).Key (ev l id).Id else _);cases O:(KR l t (ev l id) (stB l t (ev l id))==0&&Gv (ev l id).Kind)with
  |false=>exact j L
  |true=>
   rw[CW]at O;intro x I;rcases Qc I with rfl|I
   ·refine iD.2 ⟨Hw l t (ev l id),?_,eq_of_beq O.1⟩;show Du _ (ev l id).Id=_;have M:Du t (Hw l t (ev l id)).id=none:=by show Du t (ev l id).Id=none;rw[z];exact hn
    rw[xM M,show((ev l id).Id==(Hw l t (ev l id)).id)=true from KE _];rfl
   exact aBk (L x I) _
 rcases GU.1 m with m|m
 ·exact aBk (h.au y m q a u) _
 rw[Gu.1 m]at q u;have u:a∈iI l id:=by rw[←z];exact u
 have q:KR l t (ev l id) (stB l t (ev l id))=0:=q;obtain⟨y,m⟩:=ha a u;refine aBk (iD.2 ⟨y,m,?_⟩) _;unfold KR at q;cases J:XV l (ev l id) != 0 with
 |true=>rw[J,Au]at q;rw[q]at J;cases J
 |false=>
  rw[J,Aj]at q;cases U:(ev l id).bD.any (fun x=>errOf t x != 0)with
  |true=>rw[U,Au]at q;cases q
  |false=>
   have h3:=aI8.1 U a u;have :errOf t a=0:=by simpa using h3
   unfold errOf at this;rw[m]at this;exact this
def Xp {l:List AB} (hd:IB l=0) {e:AB} (u:e∈l):(∀a∈e.bD,bY l a=true∧(ev l a).Depth<e.Depth)∧∀a∈e.bC,bY l a=true∧(ev l a).Depth<e.Depth:=by
 unfold IB at hd;cases q:Oz l with
 |false=>rw[q]at hd;cases hd
 |true=>
  rw[q,Au]at hd;cases z:l.all (Lc l)with
  |false=>rw[z]at hd;cases hd
  |true=>
   have j:=DT.1 q e u;have m:=DT.1 z e u;unfold RN at j;unfold Lc at m;rw[CW,DT,DT]at j;rw[CW,DT]at m;refine⟨fun a ha=>⟨j.2 a ha,QE (m.1 a ha)⟩,fun a ha=>⟨j.1 a ha,?_⟩⟩
   have J:((e.bC.length:Int)==0)=false:=by
    have :0<e.bC.length:=aJC ha;rw[Xb];omega
   have I:=m.2;rw[J,Aj,CW,DT]at I;exact QE (I.1 a ha)
structure Ji (x y:AB):Prop where
 id:y.Id=x.Id
 room:y.Room=x.Room
 sender:y.aP=x.aP
 kind:y.Kind=x.Kind
 key:y.Key=x.Key
 time:y.Time=x.Time
 depth:y.Depth=x.Depth
 prev:y.bC=x.bC
 auth:y.bD=x.bD
 n:x.Kind=2∨x.Kind=4→y.Content.N=x.Content.N
 levels:x.Kind=3→y.Content.Levels=x.Content.Levels
def Ji.refl (x:AB):Ji x x:=⟨rfl,rfl,rfl,rfl,rfl,rfl,rfl,rfl,rfl,fun _=>rfl,fun _=>rfl⟩
inductive Gw :List AB→List AB→Prop
 |nil:Gw [] []
 |cons {x y:AB} {xs ys:List AB} (h:Ji x y) (t:Gw xs ys):Gw (x::xs) (y::ys)
def Gw.append {a b c d:List AB} (h:Gw a b) (k:Gw c d):Gw (a++c) (b++d):=by
 induction h with
 |nil=>exact k
 |cons h _ j=>exact .cons h j
def Gw.flat {α:Type} {f g:α→List AB}:∀(l:List α),(∀x∈l,Gw (f x) (g x))→Gw (l.flatMap f) (l.flatMap g)
 | [],_=>.nil
 |x::l,h=>by
  rw[NJ,NJ];exact(h x (Ep ..)).append (Gw.flat l fun y j=>h y (FW _ j))
def Gw.any {p:AB→Bool} (j:∀x y,Ji x y→p y=p x) {a b:List AB} (h:Gw a b):b.any p=a.any p:=by
 induction h with
 |nil=>rfl
 |cons h _ m=>rw[Yn,Yn,j _ _ h,m]
def Gw.all {p:AB→Bool} (j:∀x y,Ji x y→p y=p x) {a b:List AB} (h:Gw a b):b.all p=a.all p:=by
 induction h with
 |nil=>rfl
 |cons h _ m=>rw[oC,oC,j _ _ h,m]
def Gw.find {p:AB→Bool} (j:∀x y,Ji x y→p y=p x) {a b:List AB} (h:Gw a b):(a.find? p=none∧b.find? p=none)∨∃x y,a.find? p=some x∧b.find? p=some y∧Ji x y∧p x=true:=by
 induction h with
 |nil=>exact .inl ⟨rfl,rfl⟩
 | @cons x y xs ys h _ m=>
   rw[SB,SB,j _ _ h];cases q:p x with
   |true=>exact .inr ⟨x,y,rfl,rfl,h,q⟩
   |false=>exact m
def Gw.one {x y:AB} (h:Ji x y):Gw [x] [y]:=.cons h .nil
def aMT {k:Ah} {x y:AB} (h:Ji x y):EM k y=EM k x:=by unfold EM;rw[h.kind,h.key]
def apG {x y:AB} (h:Ji x y):Oj y=Oj x:=by
 unfold Oj;rw[h.kind,h.key,h.sender];cases j:x.Kind==2 with
 |false=>rfl
 |true=>rw[h.n (.inl (eq_of_beq j))]
def aNG {x y:AB} (h:Ji x y):keysOf y=keysOf x:=by
 unfold keysOf LJ;rw[h.kind,h.key,h.sender];cases j:x.Kind==2 with
 |false=>rfl
 |true=>rw[h.n (.inl (eq_of_beq j))]
section
variable {a b : List AB}
def alI (h:Gw a b):(IX b).2=(IX a).2∧Ji (IX a).1 (IX b).1:=by
 unfold IX;rcases h.find (p:=fun x=>x.Kind==1) (fun x y h=>by rw[h.kind])with⟨j,m⟩|⟨x,y,j,m,q,_⟩
 ·rw[j,m];exact⟨rfl,.refl _⟩
 rw[j,m];exact⟨rfl,q⟩
def aco {u:ByteArray} {x y:AB} (h:Ji x y):Ir u y=Ir u x:=by unfold Ir;rw[h.kind,h.key]
def zJ (h:Gw a b) (u:ByteArray):I5 b u=I5 a u:=by
 unfold I5;rcases h.find (p:=Ir u) (fun x y h=>aco h)with⟨j,m⟩|⟨x,y,j,m,z,q⟩
 ·rw[j,m]
 rw[j,m];unfold Ir at q;rw[CW]at q;exact z.n (.inl (eq_of_beq q.1))
def aoY (h:Gw a b):Rn b=Rn a:=by
 unfold Rn;rcases h.find (p:=fun x=>x.Kind==1) (fun x y h=>by rw[h.kind])with⟨j,m⟩|⟨x,y,j,m,q,_⟩
 ·rw[j,m]
 rw[j,m];exact q.sender
def zI (h:Gw a b):EX b=EX a:=by
 unfold EX;rcases h.find (p:=fun x=>x.Kind==3) (fun x y h=>by rw[h.kind])with⟨j,m⟩|⟨x,y,j,m,q,u⟩
 ·rw[j,m,aoY h]
 rw[j,m];exact q.levels (eq_of_beq u)
def ai2 (h:Gw a b):(Ws b).1=(Ws a).1:=by
 unfold Ws;rcases h.find (p:=fun x=>x.Kind==4) (fun x y h=>by rw[h.kind])with⟨j,m⟩|⟨x,y,j,m,q,u⟩
 ·rw[j,m]
 rw[j,m];exact q.n (.inr (eq_of_beq u))
def aJe {e f:AB} (j:Ji e f) (h:Gw a b):NG f b=NG e a:=by
 unfold NG;obtain⟨J,L⟩:=alI h;rw[j.kind,j.sender,j.room,J];cases e.Kind==1 with
 |true=>rfl
 |false=>
 cases(IX a).2 with
 |false=>rfl
 |true=>
 cases M:e.Kind==2 with
 |true=>
  have I:=j.n (.inl (eq_of_beq M));simp only[Aj,Dz,Au]
  have q:Vr f b=Vr e a:=by
   unfold Vr;rw[J,j.prev,j.sender,j.key,I,L.id,L.sender,h.any fun x y h=>aco h]
  have u:∀m now,Xt m now b=Xt m now a:=fun m now=>by unfold Xt;rw[ai2 h]
  have z:∀now,Y8 f b now=Y8 e a now:=fun now=>by
   unfold Y8;rw[zJ h,j.sender,j.key,I,zI h]
  unfold jH;rw[q,j.key,j.sender,I,zJ h,u,z]
 |false=>
  simp only[Aj,Dz];rw[zJ h]
  have hl:Yr f b=Yr e a:=by
   unfold Yr;rw[zI h,j.sender,j.kind];cases O:e.Kind==3 with
   |false=>rfl
   |true=>rw[j.levels (eq_of_beq O)]
  rw[hl]
end
structure G5 (l l':List AB) (S:List Int):Prop where
 nodup:S.Nodup
 mem:∀x∈S,bY l x=true∧bY l' x=true∧Ji (ev l x) (ev l' x)
 prev:∀x∈S,∀a∈(ev l x).bC,a∈S
 auth:∀x∈S,∀a∈(ev l x).bD,a∈S
section
variable {l l' : List AB} {S : List Int} (h : G5 l l' S)
include h
def G5.ids {ids:List Int} (hi:∀x∈ids,x∈S):Gw (ofIds l ids) (ofIds l' ids):=by
 induction ids with
 |nil=>exact .nil
 |cons x ids j=>
  obtain⟨m,k2,q⟩:=h.mem x (hi x (Ep ..));unfold ofIds at j ⊢;rw[OV,OV,(Ib m).1,(Ib k2).1];exact .cons q (j fun y u=>hi y (FW _ u))
def G5.iI {x:Int} (j:x∈S):iI l' x=iI l x:=(h.mem x j).2.2.auth
def G5.ch {ids:List Int} (hi:∀x∈ids,x∈S) {x:Int} (u:Jp l ids x):x∈S∧Jp l' ids x:=by
 induction u with
 |one m j _=>
  have hs:=h.auth _ (hi _ m) _ j;exact⟨hs,.one m (by rw[h.iI (hi _ m)];exact j) (h.mem _ hs).2.1⟩
 |more _ j _ q=>
  have hs:=h.auth _ q.1 _ j;exact⟨hs,.more q.2 (by rw[h.iI q.1];exact j) (h.mem _ hs).2.1⟩
def G5.ch' {ids:List Int} (hi:∀x∈ids,x∈S) {x:Int} (u:Jp l' ids x):x∈S∧Jp l ids x:=by
 induction u with
 |one m j _=>
  rw[h.iI (hi _ m)]at j;have hs:=h.auth _ (hi _ m) _ j;exact⟨hs,.one m j (h.mem _ hs).1⟩
 |more _ j _ q=>
  rw[h.iI q.1]at j;have hs:=h.auth _ q.1 _ j;exact⟨hs,.more q.2 j (h.mem _ hs).1⟩
def G5.chain {ids:List Int} (hi:∀x∈ids,x∈S):chainOf l' ids=chainOf l ids:=BK (aAN _ _) (aAN _ _) fun x=>by
 rw[cu,cu];exact⟨fun j=>(h.ch' hi j).2,fun j=>(h.ch hi j).2⟩
def G5.azd {ids:List Int} (hi:∀x∈ids,x∈S):∀x∈chainOf l ids,x∈S:=fun _ j=>(h.ch hi (cu.1 j)).1
def G5.from {e f:AB} (q:Ji e f) (hi:∀x∈e.bD,x∈S):Gw (Rf l e) (Rf l' f):=by
 unfold Rf;rw[aNG q,q.auth];refine Gw.flat _ fun k _=>?_;rcases(h.ids hi).find (p:=EM k) (fun x y h=>aMT h)with⟨j,m⟩|⟨x,y,j,m,u,_⟩
 ·rw[j,m];exact .nil
 rw[j,m];exact .one u
def G5.fits {e f:AB} (J:Ji e f) (hi:∀x∈e.bD,x∈S):Pm l' f=Pm l e:=by
 have hs:=h.ids hi
 have O:e.bD.all (bY l')=e.bD.all (bY l):=by
  rw[KG,DT,DT];exact⟨fun _ x q=>(h.mem x (hi x q)).1,fun _ x q=>(h.mem x (hi x q)).2.1⟩
 have U:∀(z:List Ah) {xs ys:List AB},Gw xs ys→∀{m j:List AB},Gw m j→JX z j ys=JX z m xs:=by
  intro z xs ys L
  induction L with
  |nil=>intro m j _;rfl
  | @cons x y xs ys q _ Y=>
    intro m j M;have Z:(z.any fun k=>EM k y)=z.any fun k=>EM k x:=BI (fun p=>z.any p) (funext fun k=>aMT q)
    have hl:j.any (SS y)=m.any (SS x):=by
     rw[show SS y=SS x from funext fun u=>by unfold SS;rw[q.kind,q.key]];exact M.any fun u v I=>by unfold SS;rw[I.kind,I.key]
    unfold JX;rw[Y (M.append (.one q)),Z,hl]
 unfold Pm;rw[J.auth,J.kind,J.room,aNG J,O,hs.all (fun x y h=>by rw[h.room]),U _ hs .nil,hs.any (fun x y h=>by unfold Py;rw[h.kind,h.key])]
omit h in
def find_congr {p q:Int→Bool}:∀(l:List Int),(∀x∈l,p x=q x)→l.find? p=l.find? q
 | [],_=>rfl
 |x::l,h=>by rw[SB,SB,h x (Ep ..),find_congr l fun y j=>h y (FW _ j)]
omit h in
def jO :∀{a b:List Int},a.Nodup→(∀x∈a,x∈b)→a.length≤b.length
 | [],_,_,_=>EZ _
 |x::a,b,q,hs=>by
  have j:=hs x (Ep ..);obtain⟨u,z⟩:=Jy.1 q;have :=jO (b:=b.erase x) z fun y m=>(List.mem_erase_of_ne fun e=>u (by rw[←e];exact m)).2 (hs y (FW _ m));rw[List.length_erase_of_mem j]at this;have I:0<b.length:=aJC j;rw[Fa];omega
def G5.power {x:Int} (j:x∈S):OL l' (ev l' x)=OL l (ev l x):=by
 unfold OL;rw[(h.mem x j).2.2.auth];refine find_congr _ fun a ha=>?_;obtain⟨m,k2,q⟩:=h.mem a (h.auth x j a ha);rw[m,k2,q.kind]
def G5.Bh:∀(n m:Nat) (seen:List Int) (id:Int),id∈S→seen.Nodup→(∀x∈seen,x∈S)→S.length≤seen.length+n→S.length≤seen.length+m→Bh l' m seen id=Bh l n seen id:=by
 have q:∀(seen:List Int) (id:Int),id∈S→seen.Nodup→(∀x∈seen,x∈S)→S.length≤seen.length→id∈seen:=fun seen id j I hs hl=>by
  refine Vq fun z=>?_
  have :=jO (a:=id::seen) (b:=S) (Jy.2 ⟨z,I⟩) fun x J=>by
   rcases Ei.1 J with rfl|J
   ·exact j
   exact hs x J
  rw[Fa]at this;omega
 have u:∀(l:List AB) (n:Nat) (seen:List Int) (id:Int),id∈seen→Go.Proofs.YtldfpencimjjlaaGreat.Bh l n seen id=seen:=fun l n seen id j=>by
  cases n with
  |zero=>rfl
  |succ n=>unfold Go.Proofs.YtldfpencimjjlaaGreat.Bh;rw[J3.2 j];rfl
 intro n
 induction n with
 |zero=>
  intro m seen id j I hs M _;have :=q seen id j I hs AA;rw[u l' m seen id this,u l 0 seen id this]
 |succ n O=>
  intro m seen id j I hs M h2;by_cases z:id∈seen
  ·rw[u l' m seen id z,u l (n+1) seen id z]
  obtain⟨m,rfl⟩:∃U,m=U+1:=by
   cases m with
   |zero=>exact absurd (q seen id j I hs AA) z
   |succ m=>exact⟨m,rfl⟩
  obtain⟨Y,k2,k3⟩:=h.mem id j;unfold Go.Proofs.YtldfpencimjjlaaGreat.Bh;rw[OJ.2 z,Y,k2,h.power j];cases Z:OL l (ev l id)with
  |none=>rfl
  |some x=>
   have J:x∈S:=h.auth id j x (SV Z);refine O m (seen++[id]) x J (lK.2 ⟨I,Ap,fun a ha b hb=>?_⟩) (fun y L=>?_) (by rw[EG,Nq];omega) (by rw[EG,Nq];omega)
   ·rw[Gu.1 hb];exact fun e=>z (e▸ha)
   rcases GU.1 L with L|L
   ·exact hs y L
   rw[Gu.1 L];exact j
def G5.way {x:Int} (j:x∈S):Xd l' x=Xd l x:=by
 have m:S.length≤l.length:=by
  have :=jO (b:=l.map (·.Id)) h.nodup fun x j=>Ia.1 (h.mem x j).1
  rwa [CM]at this
 have q:S.length≤l'.length:=by
  have :=jO (b:=l'.map (·.Id)) h.nodup fun x j=>Ia.1 (h.mem x j).2.1
  rwa [CM]at this
 exact h.Bh _ _ [] x j .nil (fun _ h=>absurd h Ez) Y0 Nz
def G5.item {j:List Int} {x:Int} (m:x∈S):EU l' j x=EU l j x:=by
 unfold EU LQ;rw[h.way m,(h.mem x m).2.2.time]
def G5.zT {j ids:List Int} (hi:∀x∈ids,x∈S):zT l' j ids=zT l j ids:=by
 unfold Go.Proofs.YtldfpencimjjlaaGreat.zT;rw[bn (q:=bY l) fun x m=>by rw[(h.mem x (hi x m)).1,(h.mem x (hi x m)).2.1],WM fun x m=>h.item (hi x (EY.1 m).1)]
def G5.Dy {full:List Int} (hi:∀x∈full,x∈S):Dy l' full=Dy l full:=by
 unfold Go.Proofs.YtldfpencimjjlaaGreat.Dy;refine bn fun x j=>?_;obtain⟨m,k2,q⟩:=h.mem x (hi x j);unfold VU;rw[m,k2,apG q]
def G5.Ur {full:List Int} (hi:∀x∈full,x∈S):Ur l' full=Ur l full:=by
 unfold Go.Proofs.YtldfpencimjjlaaGreat.Ur;rw[h.Dy hi,h.chain (ids:=Go.Proofs.YtldfpencimjjlaaGreat.Dy l full) fun x j=>hi x (EY.1 j).1]
def G5.gG {ids:List Int} (hi:∀x∈ids,x∈S):gG l' ids=gG l ids:=by
 unfold Go.Proofs.YtldfpencimjjlaaGreat.gG;exact bn fun x j=>by rw[(h.mem x (hi x (JV.1 j))).1,(h.mem x (hi x (JV.1 j))).2.1]
def G5.one {x:Int} (j:x∈S):chainOf l' [x]=chainOf l [x]:=h.chain fun y m=>by rw[Gu.1 m];exact j
def G5.node {x:Int} (j:x∈S):Eu l' x=Eu l x:=by
 obtain⟨_,_,m⟩:=h.mem x j;unfold Eu lV;rw[zI (h.from m (h.auth x j)),m.sender,m.time,h.one j]
omit h in
def akp (l:List AB) (left:List Int) (b:Option Int) (x:Int):Gh l left b x=some x∨Gh l left b x=b:=by
 unfold Gh;cases b with
 |none=>cases WA l left x<;>simp
 |some y=>
  simp only[];cases WA l left x<;>cases Yq (Eu l x) (Eu l y)<;>simp
def G5.best {left:List Int}:∀(xs:List Int) (b:Option Int),(∀x∈xs,x∈S)→(∀y,b=some y→y∈S)→xs.foldl (Gh l' left) b=xs.foldl (Gh l left) b
 | [],_,_,_=>rfl
 |x::xs,b,u,z=>by
  have m:=u x (Ep ..)
  have e:Gh l' left b x=Gh l left b x:=by
   unfold Gh WA;rw[h.one m];cases b with
   |none=>rfl
   |some y=>simp only[h.node m,h.node (z y rfl)]
  rw[Et,Et,e];refine G5.best xs _ (fun y j=>u y (FW _ j)) fun y j=>?_;rcases akp l left b x with q|q
  ·rw[q]at j;rw[←CO j];exact m
  rw[q]at j;exact z y j
def G5.rV:∀(n:Nat) (left:List Int),(∀x∈left,x∈S)→rV l' n left=rV l n left
 |0,_,_=>rfl
 |n+1,left,hi=>by
  unfold Go.Proofs.YtldfpencimjjlaaGreat.rV Sr;rw[h.best left none hi fun _ h=>GL];cases left.foldl (Gh l left) none with
  |none=>rfl
  |some b=>exact BI _ (G5.rV n _ fun x j=>hi x (EY.1 j).1)
def JQ (S:List Int) (s:List Ah):Prop:=∀x∈s,x.Id∈S
def G5.pick {s:List Ah} (hs:JQ S s) {e f:AB} (q:Ji e f) (hi:∀x∈e.bD,x∈S):Gw (SH l s e) (SH l' s f):=by
 unfold SH;rw[aNG q];refine Gw.flat _ fun k _=>?_;unfold RI Zl;cases u:(Fj s k.Kind k.Key).2 with
 |true=>
  have z:=aIY (s:=s) (k:=k.Kind) (key:=k.Key) (n:=(Fj s k.Kind k.Key).1) (Prod.ext rfl u);obtain⟨I,k2,J⟩:=h.mem _ (hs _ z)
  have L:Gq l (Fj s k.Kind k.Key).1=(ev l (Fj s k.Kind k.Key).1,true):=by
   have :=(Ib I).1;unfold ev Gq at this ⊢;rw[this]
  have M:Gq l' (Fj s k.Kind k.Key).1=(ev l' (Fj s k.Kind k.Key).1,true):=by
   have :=(Ib k2).1;unfold ev Gq at this ⊢;rw[this]
  simp only[Au];rw[L,M];exact .one J
 |false=>
  simp only[Aj];unfold ZU;rw[q.auth];rcases(h.ids hi).find (p:=EM k) (fun x y h=>aMT h)with⟨j,m⟩|⟨x,y,j,m,O,_⟩
  ·rw[j,m];exact .nil
  rw[j,m];exact .one O
def G5.apply {s:List Ah} (hs:JQ S s) {x:Int} (m:x∈S):OM l' s x=OM l s x∧JQ S (OM l s x):=by
 obtain⟨u,k2,j⟩:=h.mem x m
 have e:Rt l' s x=Rt l s x:=by
  unfold Rt;rw[u,k2,j.kind,aJe j (h.pick hs j (h.auth x m))]
 unfold OM;rw[e,j.kind,j.key,j.id];refine⟨rfl,?_⟩;cases Rt l s x with
 |false=>exact hs
 |true=>
  intro y q;rcases Qc q with rfl|q
  ·show(ev l x).Id∈S;rw[(Ib u).2];exact m
  exact hs y q
def G5.applies:∀(ids:List Int) (s:List Ah),JQ S s→(∀x∈ids,x∈S)→OI l' s ids=OI l s ids∧JQ S (OI l s ids)
 | [],_,hs,_=>⟨rfl,hs⟩
 |x::ids,s,hs,hi=>by
  obtain⟨j,m⟩:=h.apply hs (hi x (Ep ..));unfold OI;rw[Et,Et,j];exact G5.applies ids _ m fun y q=>hi y (FW _ q)
def G5.closure {s:List Ah} (hs:JQ S s):Ef l' s=Ef l s∧∀x∈Ef l s,x∈S:=by
 have hi:∀x∈RQ s,x∈S:=fun x j=>by
  obtain⟨y,m,rfl⟩:=Ee.1 j;exact hs y m
 unfold Ef;refine⟨by rw[h.chain hi],fun x j=>?_⟩;rcases U7.1 j with j|j
 ·exact hi x j
 exact h.azd hi x j
def G5.full {j:List (List Ah)} (hs:∀s∈j,JQ S s):Io l' j=Io l j∧∀x∈Io l j,x∈S:=by
 have I:∀(u:List (List Ah)) (a:List Int),(∀s∈u,JQ S s)→u.foldl (fun a s=>HY a (Ef l' s)) a=u.foldl (fun a s=>HY a (Ef l s)) a:=by
  intro u
  induction u with
  |nil=>exact fun _ _=>rfl
  |cons s u O=>
   intro a M;rw[Et,Et,(h.closure (M s (Ep ..))).1];exact O _ fun s q=>M s (FW _ q)
 have J:∀x,Ih l' j x=Ih l j x:=fun x=>by
  unfold Ih;exact List.countP_congr fun s q=>by rw[(h.closure (hs s q)).1]
 have hd:OH l' j=OH l j:=by
  unfold OH allOf;rw[I j [] hs];exact bn fun x _=>by rw[J]
 unfold Io;rw[hd];refine⟨rfl,fun x m=>?_⟩;rcases U7.1 m with m|m
 ·rw[JV]at m;unfold QA at m;obtain⟨z,L,rfl⟩:=Ee.1 m;obtain⟨s,q,L⟩:=TW.1 L;exact hs s q z (EY.1 L).1
 obtain⟨⟨s,q,m⟩,_⟩:=aSZ.1 m;exact(h.closure (hs s q)).2 x m
omit h in
def ao1 {j:List (List Ah)} (hs:∀s∈j,JQ S s):JQ S (Hq j):=by
 cases j with
 |nil=>exact fun _ h=>absurd h Ez
 |cons s j=>exact fun x m=>hs s (Ep ..) x (EY.1 m).1
def G5.last {j:List (List Ah)} (hs:∀s∈j,JQ S s):lastOf l' j=lastOf l j∧JQ S (lastOf l j):=by
 obtain⟨f1,Z⟩:=h.full hs;have u:=ao1 hs;have J:Jl l' j=Jl l j:=by unfold Jl;rw[f1,h.Ur Z]
 have I:∀x∈Jl l j,x∈S:=fun x m=>Z x (aCL.1 m).1
 have hpo:KA l' j=KA l j:=by
  unfold KA;rw[J,h.gG I];exact h.rV _ _ fun x m=>I x (LX.1 m).1
 have M:∀x∈KA l j,x∈S:=fun x m=>I x (LX.1 (aHC l _ _ m)).1;obtain⟨a1,a2⟩:=h.applies (KA l j) (Hq j) u M;have q:H7 l' j=H7 l j:=by unfold H7;rw[hpo,a1]
 have O:Tq l' j=Tq l j:=by
  unfold Tq;rw[q];cases hg:(Fj (H7 l j) 3 Bc).2 with
  |false=>rfl
  |true=>exact h.way (a2 _ (aIY (n:=(Fj (H7 l j) 3 Bc).1) (Prod.ext rfl hg)))
 have L:∀x∈Nv (Io l j) (Jl l j),x∈S:=fun x m=>Z x (aN7.1 m).1
 have U:JY l' j=JY l j:=by
  unfold JY;rw[O,f1,J,h.zT L]
 have Y:∀x∈JY l j,x∈S:=fun x m=>by
  unfold JY Go.Proofs.YtldfpencimjjlaaGreat.zT at m;obtain⟨y,hy,rfl⟩:=Ee.1 m;obtain⟨z,hz,rfl⟩:=Ee.1 ((Za ..).mem_iff.1 hy);exact L z (EY.1 hz).1
 obtain⟨b1,b2⟩:=h.applies (JY l j) (H7 l j) a2 Y;unfold lastOf;rw[q,U,b1];refine⟨rfl,fun x m=>?_⟩;rcases aMM _ _ m with m|m
 ·exact u x m
 exact b2 x m
def G5.resolve {j:List (List Ah)} (hs:∀s∈j,JQ S s):Vl l' j=Vl l j∧JQ S (Vl l j):=by
 match j,hs with
 | [],_=>exact⟨rfl,fun _ h=>absurd h Ez⟩
 | [s],hs=>exact⟨rfl,hs s (Ep ..)⟩
 |s::r::j,hs=>exact h.last hs
def G5.verdict {t t':List Ci} {x:Int} (q:x∈S) {s:List Ah} (hs:JQ S s) (I:∀a∈(ev l x).bD,errOf t' a=errOf t a):KR l' t' (ev l' x) s=KR l t (ev l x) s:=by
 obtain⟨O,k2,j⟩:=h.mem x q
 have J:XV l' (ev l' x)=XV l (ev l x):=by
  unfold XV;rw[h.fits j (h.auth x q),aJe j (h.from j (h.auth x q))]
 have m:(ev l' x).bD.any (fun x=>errOf t' x != 0)=(ev l x).bD.any (fun x=>errOf t x != 0):=by
  rw[j.auth,KG,Fv,Fv];exact⟨fun⟨a,ha,e⟩=>⟨a,ha,by rw[←I a ha];exact e⟩,fun⟨a,ha,e⟩=>⟨a,ha,by rw[I a ha];exact e⟩⟩
 have u:NG (ev l' x) (FZ l' s)=NG (ev l x) (FZ l s):=aJe j (h.ids fun y L=>by
  obtain⟨z,M,rfl⟩:=Ee.1 L
  exact hs z M)
 unfold KR;rw[J,m,u]
def G5.line {t t':List Ci} {x:Int} (q:x∈S) (z:∀a∈(ev l x).bC,Ho t' a=Ho t a∧JQ S (Ho t a)) (I:∀a∈(ev l x).bD,errOf t' a=errOf t a):
 Hw l' t' (ev l' x)=Hw l t (ev l x)∧JQ S (Hw l t (ev l x)).before∧JQ S (Hw l t (ev l x)).after:=by
 obtain⟨J,k2,m⟩:=h.mem x q
 have j:stB l' t' (ev l' x)=stB l t (ev l x)∧JQ S (stB l t (ev l x)):=by
  have L:(ev l x).bC.map (Ho t')=(ev l x).bC.map (Ho t):=WM fun a ha=>(z a ha).1;unfold stB;rw[m.prev,L]
  exact h.resolve fun s hs=>by
   obtain⟨a,ha,rfl⟩:=Ee.1 hs;exact(z a ha).2
 unfold Hw Y5;rw[j.1,h.verdict q j.2 I,m.id,m.kind,m.key];refine⟨rfl,j.2,?_⟩;show JQ S (bif KR l t (ev l x) (stB l t (ev l x))==0&&Gv (ev l x).Kind then _ else _);cases(KR l t (ev l x) (stB l t (ev l x))==0&&Gv (ev l x).Kind)with
 |false=>exact j.2
 |true=>
  intro y u;rcases Qc u with rfl|u
  ·show(ev l x).Id∈S;rw[(Ib J).2];exact q
  exact j.2 y u
end
def ajo (l:List AB) {t t':List Ci} {e:AB} (q:∀a∈e.bC,Ho t' a=Ho t a) (m:∀a∈e.bD,errOf t' a=errOf t a):Hw l t' e=Hw l t e:=by
 have u:stB l t' e=stB l t e:=by
  unfold stB;rw[show e.bC.map (Ho t')=e.bC.map (Ho t)from WM q]
 have j:e.bD.any (fun x=>errOf t' x != 0)=e.bD.any (fun x=>errOf t x != 0):=by
  rw[KG,Fv,Fv];exact⟨fun⟨a,ha,e⟩=>⟨a,ha,by rw[←m a ha];exact e⟩,fun⟨a,ha,e⟩=>⟨a,ha,by rw[m a ha];exact e⟩⟩
 unfold Hw KR;rw[u,j]
def ab1 (l:List AB):∀(ids:List Int) {t:List Ci} {x:Int} {y:Ci},Du t x=some y→Du (ids.foldl (fun t id=>t++[Hw l t (ev l id)]) t) x=some y
 | [],_,_,_,h=>h
 |id::ids,_,_,_,h=>by rw[Et];exact ab1 l ids (abm h _)
def aUG {l:List AB} {ids:List Int} {i:Nat} {x:Int} {y:Ci} (h:Du (Gz l (ids.take i)) x=some y):Du (Gz l ids) x=some y:=by
 have :Gz l ids=(ids.drop i).foldl (fun t id=>t++[Hw l t (ev l id)]) (Gz l (ids.take i)):=by
  unfold Gz;rw[←V7,Xx]
 rw[this];exact ab1 l _ h
def aGp {l:List AB} (U:Jo l) (hd:IB l=0) {x:Int} (L:bY l x=true):Du (D5 l) x=some (Hw l (D5 l) (ev l x)):=by
 obtain⟨i,hi,I⟩:=GZ (iO.2 L)
 have q:∀j,(Gz l ((Hy l).take j)).map (·.id)=(Hy l).take j:=fun j=>by
  unfold Gz;rw[aDp l _ _ fun x hx=>iO.1 (ig hx)];rfl
 have u:(ev l x).Id=x:=(Ib L).2;have hm:ev l x∈l:=KL (Ib L).1
 have z:∀a,bY l a=true→(ev l a).Depth<(ev l x).Depth→∃y,Du (Gz l ((Hy l).take i)) a=some y∧Du (D5 l) a=some y:=fun a k1 k2=>by
  have :=atS U.nodup hi k1 (by rw[I];exact k2);cases hl:Du (Gz l ((Hy l).take i)) a with
  |some y=>exact⟨y,rfl,aUG hl⟩
  |none=>rw[vM,q]at hl;exact absurd this hl
 have m:Du (Gz l ((Hy l).take i)) (Hw l (Gz l ((Hy l).take i)) (ev l x)).id=none:=by
  show Du _ (ev l x).Id=none;rw[u,vM,q];intro J;obtain⟨j,hj,e⟩:=GZ J;rw[FY]at hj;rw[vZ,←I]at e;exact Jq.1 (aDR.1 U.order) j i AA hi AA e
 have h1:Du (Gz l ((Hy l).take (i+1))) x=some (Hw l (Gz l ((Hy l).take i)) (ev l x)):=by
  rw[aOh l hi,I,xM m];have :(x==(Hw l (Gz l ((Hy l).take i)) (ev l x)).id)=true:=by show(x==(ev l x).Id)=true;rw[u];exact KE _
  rw[this];rfl
 have h2:=aUG h1
 have h3:Hw l (D5 l) (ev l x)=Hw l (Gz l ((Hy l).take i)) (ev l x):=by
  obtain⟨Y,Z⟩:=Xp hd hm;refine ajo l (fun a ha=>?_) fun a ha=>?_
  ·obtain⟨y,M,O⟩:=z a (Z a ha).1 (Z a ha).2;unfold Ho;rw[M,O]
  obtain⟨y,M,O⟩:=z a (Y a ha).1 (Y a ha).2;unfold errOf;rw[M,O]
 rw[h3];exact h2
def aP0 {l l':List AB} {S:List Int} (h:G5 l l' S) (m:Jo l) (hd:IB l=0) (q:Jo l') (u:IB l'=0):∀x∈S,Du (D5 l') x=Du (D5 l) x∧JQ S (Ho (D5 l) x):=by
 have key:∀(n:Nat) (x:Int),x∈S→(ev l x).Depth<(n:Int)→Du (D5 l') x=Du (D5 l) x∧JQ S (Ho (D5 l) x):=by
  intro n
  induction n with
  |zero=>
   intro x j L;have :=(m.dep _ (KL (Ib (h.mem x j).1).1)).1;omega
  |succ n J=>
   intro x j L;obtain⟨z,k2,k3⟩:=h.mem x j;obtain⟨M,O⟩:=Xp hd (KL (Ib z).1)
   obtain⟨U,q2,Y⟩:=h.line j (t:=D5 l) (t':=D5 l') (fun a ha=>by
    obtain⟨I,Z⟩:=J a (h.prev x j a ha) (by have :=(O a ha).2;omega)
    exact⟨by unfold Ho;rw[I],Z⟩) fun a ha=>by
    obtain⟨I,_⟩:=J a (h.auth x j a ha) (by have :=(M a ha).2;omega);unfold errOf;rw[I]
   rw[aGp m hd z,aGp q u k2,U];exact⟨rfl,by unfold Ho;rw[aGp m hd z];exact Y⟩
 intro x j;have :=(m.dep _ (KL (Ib (h.mem x j).1).1)).2;exact key 100001 x j AA
def aqz {l l':List AB} {S:List Int} (h:G5 l l' S) (J:Jo l) (hd:IB l=0) (u:Jo l') (z:IB l'=0) (ha:∀x∈Hf l (D5 l),x∈S) (L:Hf l' (D5 l')=Hf l (D5 l)):TN l' (D5 l')=TN l (D5 l):=by
 have I:=aP0 h J hd u z
 have M:QM l' (Hf l (D5 l))=QM l (Hf l (D5 l)):=by
  unfold QM;refine bn fun x _=>?_;congr 1;rw[KG,Fv,Fv]
  have e:∀y∈Hf l (D5 l),QJ l' x y=QJ l x y:=fun y j=>by
   obtain⟨O,k2,U⟩:=h.mem y (ha y j);unfold QJ;rw[O,k2,U.prev]
  exact⟨fun⟨y,j,k⟩=>⟨y,j,by rw[←e y j];exact k⟩,fun⟨y,j,k⟩=>⟨y,j,by rw[e y j];exact k⟩⟩
 have m:∀x∈QM l (Hf l (D5 l)),x∈S:=fun x q=>ha x (JV.1 (EY.1 q).1)
 have Y:(QM l (Hf l (D5 l))).map (Ho (D5 l'))=(QM l (Hf l (D5 l))).map (Ho (D5 l)):=WM fun x q=>by
  unfold Ho;rw[(I x (m x q)).1]
 unfold TN;rw[L,M,Y]
 exact(h.resolve fun s hs=>by
  obtain⟨x,q,rfl⟩:=Ee.1 hs
  exact(I x (m x q)).2).1
def aLQ (l:List AB) (t:List Ci):Hf l t=(l.map (·.Id)).filter (Gn t):=by
 unfold Hf;rw[List.filter_map];rfl
end Go.Proofs.YtldfpencimjjlaaGreat
end
section
namespace Go.Proofs.YtldfpencimjjlaaGreat
def Ti (n:Int):Int:=if n<0 then bits .xor .u64 IntKind.u64.max (IntKind.u64.wrap (IntKind.u64.wrap n*2))else IntKind.u64.wrap (IntKind.u64.wrap n*2)
def pz (n:Int):0≤Ti n∧Ti n<18446744073709551616:=by
 unfold Ti;have j:∀x:Int,0≤IntKind.u64.wrap x∧IntKind.u64.wrap x<18446744073709551616:=fun x=>by rw[iW];omega
 split
 ·obtain⟨m,u⟩:=j (IntKind.u64.wrap n*2);generalize IntKind.u64.wrap (IntKind.u64.wrap n*2)=y at *;obtain⟨k,rfl⟩:=Int.eq_ofNat_of_zero_le m;have :(IntKind.u64.max:Int)=((18446744073709551615:Nat):Int):=BJ
  rw[this,bits_xor_u64_nat _ _ AA AA];have :18446744073709551615^^^k<2^64:=Nat.xor_lt_two_pow AA AA;constructor
  ·exact aKO _
  have q:(2:Nat)^64=18446744073709551616:=BJ
  omega
 exact j _
def O8 (u:Nat):List Int:=if u<128 then[(u:Int)]else((u % 128+128:Nat):Int)::O8 (u/128)
termination_by u
decreasing_by omega
def iV {u:Nat} (h:u<128):O8 u=[(u:Int)]:=by rw[O8,CV h]
def aKu {u:Nat} (h:¬u<128):O8 u=((u % 128+128:Nat):Int)::O8 (u/128):=by rw[O8,Cc h]
def abL :∀(j u:Nat),u<128^(j+1)→(O8 u).length≤j+1
 |0,u,h=>by rw[iV Jz];simp
 |j+1,u,h=>by
  by_cases m:u<128
  ·rw[iV m];simp
  rw[aKu m]
  have :u/128<128^(j+1):=by
   rw[Nat.div_lt_iff_lt_mul AA];rw[Nat.pow_succ]at h;exact h
  have :=abL j (u/128) this;simp;omega
def enc (n:Int):List Int:=O8 (Ti n).toNat
def OW (n:Int):(enc n).length≤10:=by
 have h:=(pz n).2;refine abL 9 _ ?_;have :(128:Nat)^10=1180591620717411303424:=BJ
 rw[this];have :=(pz n).1;omega
def an9 (k:Nat):bits .or .u8 ((k:Int) % 256) 128=((k % 128+128:Nat):Int):=by
 have h:=u8_or_nat (k % 256) 128 AA AA;rw[show((k:Int) % 256)=((k % 256:Nat):Int)from by omega];have j:(128:Int)=((128:Nat):Int):=rfl;rw[j,h];congr 1;have key:∀x,x<256→x|||128=x % 128+128:=Nu
 rw[key _ AA];omega
def qJ (u c:Int):Int:=(IntKind.u64.wrap (bits .xor .u64 u (IntKind.u64.wrap c)*1099511628211)).tmod 4611686018427387904
def adg (x:Int):bits .and .u64 (IntKind.u64.wrap x) 4611686018427387903=(IntKind.u64.wrap x).tmod 4611686018427387904:=by
 rw[iW];have h:=bits_mask .u64 64 BJ (fun n m q=>by rw[iW];omega) 62 BJ (x % 18446744073709551616) AA AA;have e:((2:Int)^62-1)=4611686018427387903:=BJ
 have j:((2:Int)^62)=4611686018427387904:=BJ
 rw[aRN AA];simpa[e,j]using h
def aox (u c:Int):bits .and .u64 (IntKind.u64.wrap (bits .xor .u64 u (IntKind.u64.wrap c)*1099511628211)) 4611686018427387903=qJ u c:=adg _
def aCI (op:BinOp) (k:IntKind) (x y:Int) (h:op=.and∨op=.or∨op=.xor):EO op k x y=bits op k x y:=by
 rcases h with rfl|rfl|rfl<;>rfl
def NS {α:Type} {b:Nat} {l m:List α} (j:b≤100) (h:(l++m).length≤1099511627776):Bz b l m=some (l++m):=by
 refine D7 ?_;rw[EG]at h;have :(l.length+m.length)*b≤1099511627776*100:=aCJ h j;omega
def ar7 (u:Nat):EO .or .u8 (IntKind.u8.wrap (u:Int)) 128=((u % 128+128:Nat):Int):=by
 rw[aCI _ _ _ _ (.inr (.inl rfl)),show IntKind.u8.wrap (u:Int)=(u:Int) % 256 from by rw[iq],an9]
def ahG (u:Nat):Og .shr .u64 (u:Int) 7=some ((u/128:Nat):Int):=by
 unfold Og;rw[Cc AA];show some ((u:Int).fdiv (2^7))=_;rw[aSP _ BJ];congr 1
def aer {u n:Nat} (h:u<128^(n+1+1)):u/128<128^(n+1):=by
 rw[Nat.div_lt_iff_lt_mul AA];rw[Nat.pow_succ]at h;exact h
def ap5 :∀(n u:Nat),u<128^(n+1)→∀m b,n<m→(b++O8 u).length≤1099511627776→aQ WH m b (u:Int)=some (b++O8 u):=by
 intro n
 induction n with
 |zero=>
  intro u q m b J j;obtain⟨m,rfl⟩:∃z,m=z+1:=⟨m-1,AA⟩
  have h:u<128:=Nz
  rw[iV h]at j ⊢;show WH (aQ WH m) b (u:Int)=_;simp only[WH,show decide ((u:Int)≥128)=false from by simp;omega,Aj];rw[show IntKind.u8.wrap (u:Int)=(u:Int)from by rw[iq];omega,NS AA j];rfl
 |succ n L=>
  intro u q m b J j;obtain⟨m,rfl⟩:∃z,m=z+1:=⟨m-1,AA⟩
  show WH (aQ WH m) b (u:Int)=_;by_cases h:u<128
  ·rw[iV h]at j ⊢;simp only[WH,show decide ((u:Int)≥128)=false from by simp;omega,Aj];rw[show IntKind.u8.wrap (u:Int)=(u:Int)from by rw[iq];omega,NS AA j];rfl
  rw[aKu h]at j ⊢;have e:(b++((u % 128+128:Nat):Int)::O8 (u/128))=(b++[((u % 128+128:Nat):Int)])++O8 (u/128):=Ap
  have I:(b++[((u % 128+128:Nat):Int)]).length≤1099511627776:=by simp only[EG,Fa,Md]at j ⊢;omega
  simp only[WH,show decide ((u:Int)≥128)=true from by simp;omega,Au,ar7,NS (show 1≤100 by omega) I,ahG,AQ];rw[e];exact L (u/128) (aer q) m _ AA (by rw[←e];exact j)
def alk :∀(n u:Nat),u<128^(n+1)→u<18446744073709551616→∀m b,n<m→(b++O8 u).length≤1099511627776→aQ WE m (u:Int) b=some (b++O8 u):=by
 intro n
 induction n with
 |zero=>
  intro u q _ m b J j;obtain⟨m,rfl⟩:∃z,m=z+1:=⟨m-1,AA⟩
  have h:u<128:=Nz
  rw[iV h]at j ⊢;show WE (aQ WE m) (u:Int) b=_;simp only[WE,show decide ((u:Int)≥128)=false from by simp;omega,Aj];rw[show IntKind.u8.wrap (u:Int)=(u:Int)from by rw[iq];omega,NS AA j];rfl
 |succ n L=>
  intro u q M m b J j;obtain⟨m,rfl⟩:∃z,m=z+1:=⟨m-1,AA⟩
  show WE (aQ WE m) (u:Int) b=_;by_cases h:u<128
  ·rw[iV h]at j ⊢;simp only[WE,show decide ((u:Int)≥128)=false from by simp;omega,Aj];rw[show IntKind.u8.wrap (u:Int)=(u:Int)from by rw[iq];omega,NS AA j];rfl
  rw[aKu h]at j ⊢;have e:(b++((u % 128+128:Nat):Int)::O8 (u/128))=(b++[((u % 128+128:Nat):Int)])++O8 (u/128):=Ap
  have I:(b++[((u % 128+128:Nat):Int)]).length≤1099511627776:=by simp only[EG,Fa,Md]at j ⊢;omega
  have O:Zn (u:Int) 128=some ((u % 128:Nat):Int):=by unfold Zn;rw[Cc AA,aRN AA];congr 1
  have U:aMf .u64 (u:Int) 128=some ((u/128:Nat):Int):=by
   unfold aMf;rw[Cc AA,Int.tdiv_eq_ediv_of_nonneg AA];congr 1;rw[iW];omega
  have Y:IntKind.u8.wrap (IntKind.u64.wrap (((u % 128:Nat):Int)+128))=((u % 128+128:Nat):Int):=by rw[iW,iq];omega
  simp only[WE,show decide ((u:Int)≥128)=true from by simp;omega,Au,O,Y,U,NS (show 1≤100 by omega) I,AQ];rw[e];exact L (u/128) (aer q) AA m _ AA (by rw[←e];exact j)
def aS4 (x:Int):Og .shl .u64 x 1=some (IntKind.u64.wrap (x*2)):=rfl
def aTK (x:Int):jY .u64 x=bits .xor .u64 IntKind.u64.max x:=rfl
def aee (n:Int):(Ti n).toNat<128^(9+1):=by
 have j:=pz n;have :(128:Nat)^(9+1)=1180591620717411303424:=BJ
 rw[this];omega
def aTN :9<Af:=jQ
def number_eq {b:List Int} {n:Int} (h:(b++enc n).length≤1099511627776):Y4 b n=some (b++enc n):=by
 have q:=pz n
 have j:aQT b (Ti n)=some (b++enc n):=by
  have :=ap5 9 (Ti n).toNat (aee n) Af b aTN h
  rwa [Int.toNat_of_nonneg q.1]at this
 unfold Y4;rw[aS4,AQ];unfold aCK;unfold Ti at j;by_cases m:n<0
 ·rw[CV m]at j;rw[show decide (n<0)=true by simpa using m,Au,aTK];exact j
 rw[Cc m]at j;rw[show decide (n<0)=false by simpa using m,Aj];exact j
def air (n:Int):([]++enc n).length≤1099511627776:=by have :=OW n;simp only[IV];omega
def aQL (n:Int):yx n=some (enc n):=by
 have q:=pz n
 have j:afM (Ti n) []=some (enc n):=by
  have :=alk 9 (Ti n).toNat (aee n) AA Af [] aTN (air n)
  rwa [Int.toNat_of_nonneg q.1]at this
 unfold yx;rw[aS4,AQ];unfold aP8;unfold Ti at j;by_cases m:n<0
 ·rw[CV m]at j;rw[show decide (n<0)=true by simpa using m,Au,aTK];exact j
 rw[Cc m]at j;rw[show decide (n<0)=false by simpa using m,Aj];exact j
def rQ {b:List Int} {m:Nat} (h:b.length+m≤1099511627776):Ya b (m:Int)=some b:=by
 unfold Ya;rw[P8 AA AA];unfold Il;rw[CV ⟨AA,AA,AA⟩];simp[gCopy]
def aBy {a b:List Int} (h:(a++b).length≤1099511627776):a.length≤1099511627776:=by rw[EG]at h;omega
def JM (s:ByteArray):List Int:=enc s.size++BZ s
def text_eq {b:List Int} {s:ByteArray} (h:(b++JM s).length≤1099511627776):yX b s=some (b++JM s):=by
 unfold JM at h ⊢;rw[←Hr]at h ⊢;unfold yX;rw[number_eq (aBy h),AQ,NS AA h];rfl
def xE {b:List Int} {n:Int} (h:b.length+10≤1099511627776):Nh b n=some (b++enc n):=by
 have :=OW n;unfold Nh;rw[show(10:Int)=((10:Nat):Int)from rfl,rQ AA,AQ,number_eq Jw];rfl
def Xw {b:List Int} {n:Int} (h:b.length+10≤1099511627776):LC b n=some (b++enc n):=by
 have :=OW n;unfold LC;rw[NS AA aES,AQ,aQL,AQ,IV,NS AA Jw];rfl
def jX (s:ByteArray):(JM s).length≤s.size+10:=by
 have :=OW s.size;unfold JM;rw[EG,IK];omega
def arx {b:List Int} {s:ByteArray} (h:b.length+s.size+10≤1099511627776):RD b s=some (b++JM s):=by
 have :=jX s;unfold RD;rw[P8 AA AA,show(s.size:Int)+10=((s.size+10:Nat):Int) by omega,rQ AA,AQ,text_eq Jw];rfl
def aQx {b:List Int} {s:ByteArray} (h:b.length+s.size+10≤1099511627776):RU b s=some (b++JM s):=by
 have :=jX s;unfold RU;rw[Xw AA,AQ,NS AA (by unfold JM at this;rw[EG]at this;rw[EG,EG];omega)];simp[JM]
def aq1 {b:List Int} {j:Bool} (h:b.length+10≤1099511627776):Yi b j=some (b++[bif j then 1 else 0]):=by
 unfold Yi;rw[show(1:Int)=((1:Nat):Int)from rfl,rQ AA,AQ];cases j<;>simp only[Au,Aj]<;>rw[NS AA aIk]<;>rfl
def aga {b:List Int} {j:Bool} (h:b.length+10≤1099511627776):tX b j=some (b++[bif j then 1 else 0]):=by
 unfold tX;rw[NS AA aES,AQ,IV];cases j<;>simp only[Au,Aj]<;>rw[NS AA aIk]<;>rfl
def aHt {α:Type} {body:(List Int→Int→Option (List Int))→List Int→Int→Option (List Int)} (l:List α) (hl:l.length<Af) (g:α→List Int)
 (z:∀k b (i:Nat) (h:i<l.length),(b++g l[i]).length≤1099511627776→body k b (i:Int)=k (b++g l[i]) (Ag ((i:Int)+1))) (I:∀k b,body k b (l.length:Int)=some b) (b:List Int) (j:(b++l.flatMap g).length≤1099511627776):
 aQ body Af b 0=some (b++l.flatMap g):=by
 have M:Af=9223372036854775808:=rfl
 have key:∀n (i:Nat) b,i+n=l.length→(b++(l.drop i).flatMap g).length≤1099511627776→∀m,n<m→aQ body m b (i:Int)=some (b++(l.drop i).flatMap g):=by
  intro n
  induction n with
  |zero=>
   intro i b hi j m J;obtain⟨m,rfl⟩:∃u,m=u+1:=⟨m-1,AA⟩
   have :i=l.length:=AA
   subst this;show body (aQ body m) _ _=_;rw[I,Om];simp
  |succ n L=>
   intro i b hi j m J;obtain⟨m,rfl⟩:∃u,m=u+1:=⟨m-1,AA⟩
   have q:i<l.length:=AA
   rw[LG q,NJ,←Hr]at j ⊢;show body (aQ body m) _ _=_;rw[z _ _ i q (aBy j),wrap_succ i AA];exact L (i+1) _ AA j m AA
 exact key l.length 0 b AA j Af hl
def Pg (l:List Int):List Int:=enc l.length++l.flatMap enc
def PE (l:List ByteArray):List Int:=enc l.length++l.flatMap JM
def ajC {b:List Int} {l:List Int} (h:(b++Pg l).length≤1099511627776) (hl:l.length≤1000):aD1 b l=some (b++Pg l):=by
 have m:Af=9223372036854775808:=rfl;unfold Pg at h ⊢;rw[←Hr]at h ⊢;unfold aD1;rw[number_eq (aBy h),AQ];unfold aTn;refine aHt l AA enc (fun k b i hi j=>?_) (fun k b=>?_) _ h
 ·simp only[aO4,dec_lt hi,Au,Ba hi,number_eq j,AQ]
 simp only[aO4,CX,Aj]
def aiU {b:List Int} {l:List ByteArray} (h:(b++PE l).length≤1099511627776) (hl:l.length≤1000000000):aBp b l=some (b++PE l):=by
 have m:Af=9223372036854775808:=rfl;unfold PE at h ⊢;rw[←Hr]at h ⊢;unfold aBp;rw[number_eq (aBy h),AQ];unfold aR7;refine aHt l AA JM (fun k b i hi j=>?_) (fun k b=>?_) _ h
 ·simp only[aNU,dec_lt hi,Au,Ba hi,text_eq j,AQ]
 simp only[aNU,CX,Aj]
def aBj {α:Type} {g:α→List Int} {m:Nat}:∀{l:List α},(∀x∈l,(g x).length≤m)→(l.flatMap g).length≤l.length*m
 | [],_=>Ap
 |x::l,h=>by
  rw[NJ,EG,Fa,UK];have :=h x Ep;have :=aBj (l:=l) (fun y j=>h y (FW _ j));omega
def aHT (l:List Int):(Pg l).length≤l.length*10+10:=by
 have j:=OW l.length;have q:=aBj (g:=enc) (m:=10) (l:=l) (fun x _=>OW x);unfold Pg;rw[EG];omega
def aHi {l:List ByteArray} {m:Nat} (h:∀s∈l,s.size≤m):(PE l).length≤l.length*(m+10)+10:=by
 have j:=OW l.length;have q:=aBj (g:=JM) (m:=m+10) (l:=l) (fun s hs=>by have :=jX s;have :=h s hs;omega);unfold PE;rw[EG];omega
def afk {b:List Int} {l:List Int} (j:b.length+20000≤1099511627776) (hl:l.length≤1000):Xh b l=some (b++Pg l):=by
 have m:=aHT l;unfold Xh;rw[P8 (x:=2*(l.length:Int)) AA AA,P8 AA AA,show 2*(l.length:Int)+10=((2*l.length+10:Nat):Int) by omega,rQ AA,AQ,ajC Jw hl];rfl
def alN {b:List Int} {l:List Int} (m:b.length+20000≤1099511627776) (hl:l.length≤1000):rU b l=some (b++Pg l):=by
 have q:Af=9223372036854775808:=rfl;have u:=aHT l;have h:(b++Pg l).length≤1099511627776:=Jw
 unfold Pg at h ⊢;rw[←Hr]at h ⊢;unfold rU;rw[Xw AA,AQ];unfold aa8;refine aHt l AA enc (fun k b i hi j=>?_) (fun k b=>?_) _ h
 ·simp only[aLO,dec_lt hi,Au,Ba hi,aQL,NS (show 1≤100 by omega) j,AQ]
 simp only[aLO,CX,Aj]
def aie {b:List Int} {l:List ByteArray} (j:b.length+3000000≤1099511627776) (hl:l.length≤1000) (hs:∀s∈l,s.size≤2000):eu b l=some (b++PE l):=by
 have m:=aHi hs;unfold eu;rw[P8 (x:=8*(l.length:Int)) AA AA,P8 AA AA,show 8*(l.length:Int)+10=((8*l.length+10:Nat):Int) by omega,rQ AA,AQ,aiU Jw AA];rfl
def aiH {b:List Int} {l:List ByteArray} (J:b.length+3000000≤1099511627776) (hl:l.length≤1000) (hs:∀s∈l,s.size≤2000):uz b l=some (b++PE l):=by
 have L:Af=9223372036854775808:=rfl;have M:=aHi hs;have h:(b++PE l).length≤1099511627776:=Jw
 have key:∀n (i:Nat) b,i+n=l.length→b.length+(n*2020)≤1099511620000→∀m,n<m→aQ (Yc l) m b (i:Int)=some (b++(l.drop i).flatMap JM):=by
  intro n
  induction n with
  |zero=>
   intro i b hi u m z;obtain⟨m,rfl⟩:∃q,m=q+1:=⟨m-1,AA⟩
   have :i=l.length:=AA
   subst this;show Yc l (aQ (Yc l) m) _ _=_;simp only[Yc,CX,Aj,Om];simp
  |succ n I=>
   intro i b hi u m z;obtain⟨m,rfl⟩:∃q,m=q+1:=⟨m-1,AA⟩
   have j:i<l.length:=AA
   have O:=hs l[i] (Df j);have U:=jX l[i];rw[LG j,NJ,←Hr];show Yc l (aQ (Yc l) m) _ _=_;simp only[Yc,dec_lt j,Au,Ba j,AQ];rw[aQx AA,AQ,wrap_succ i AA];exact I (i+1) _ AA Jw m AA
 unfold PE;rw[←Hr];unfold uz;rw[Xw AA,AQ];unfold abn;have :=key l.length 0 (b++enc l.length) AA (by have :=OW l.length;rw[EG];omega) Af AA;exact this
structure Qa (c:Bj):Prop where
 allow:c.Allow.length≤100
 deny:c.gy.length≤100
 users:c.Levels.Users.length≤100
 kinds:c.Levels.Kinds.length≤100
 text:c.Text.size≤2000
 via:c.Via.size≤2000
 allows:∀x∈c.Allow,x.size≤2000
 denies:∀x∈c.gy,x.size≤2000
 names:∀x∈c.Levels.Users,x.User.size≤2000
def Fl.content {e:AB} (h:Fl e):Qa e.Content:=⟨h.allow,h.deny,h.users,h.kinds,h.text,h.via,h.allows,h.denies,h.names⟩
section
variable {b : List Int} {k : Nat}
def U9 (h:b.length≤k) (j:k≤1000000000) (n:Int):Nh b n=some (b++enc n)∧LC b n=some (b++enc n)∧(b++enc n).length≤k+10:=by
 have :=OW n;exact⟨xE AA,Xw AA,Jw⟩
def acT (h:b.length≤k) (m:k≤1000000000) (j:Bool):Yi b j=some (b++[bif j then 1 else 0])∧tX b j=some (b++[bif j then 1 else 0])∧(b++[bif j then(1:Int)else 0]).length≤k+10:=
 ⟨aq1 AA,aga AA,aIk⟩
def WZ (h:b.length≤k) (j:k≤1000000000) {s:ByteArray} (m:Nat) (hs:s.size≤m) (q:m≤1000000000):RD b s=some (b++JM s)∧RU b s=some (b++JM s)∧(b++JM s).length≤k+m+10:=by
 have :=jX s;exact⟨arx AA,aQx AA,Jw⟩
def abK (h:b.length≤k) (j:k≤1000000000) {l:List Int} (hl:l.length≤100):Xh b l=some (b++Pg l)∧rU b l=some (b++Pg l)∧(b++Pg l).length≤k+1010:=by
 have :=aHT l;exact⟨afk AA AA,alN AA AA,Jw⟩
def aRL (h:b.length≤k) (j:k≤1000000000) {l:List ByteArray} (hl:l.length≤100) (hs:∀s∈l,s.size≤2000):eu b l=some (b++PE l)∧uz b l=some (b++PE l)∧(b++PE l).length≤k+201010:=by
 have :=aHi hs;exact⟨aie AA AA hs,aiH AA AA hs,Jw⟩
end
def SY (u:Ht):List Int:=JM u.User++enc u.N
def RV (u:Ii):List Int:=enc u.Kind++enc u.N
def JF (l:Bd):List Int:=[l.User,l.Message,l.State,l.fQ,l.jK,l.mY,l.fC]
def alg (b:List Int) (l:Bd):List Int:=b++enc l.Users.length++l.Users.flatMap SY++enc l.Kinds.length++l.Kinds.flatMap RV++(JF l).flatMap enc
def eB (c:Bj):List Int:=alg ([]++JM c.Text++enc c.N++enc c.Target++[bif c.Thread then 1 else 0]++JM c.Via++PE c.Allow++PE c.gy) c.Levels
def anX {u:Ht} (h:u.User.size≤2000):(SY u).length≤2020:=by
 have :=jX u.User;have :=OW u.N;unfold SY;rw[EG];omega
def aex (u:Ii):(RV u).length≤20:=by
 have :=OW u.Kind;have :=OW u.N;unfold RV;rw[EG];omega
def er {R α:Type} {body:(List Int→Int→Option R)→List Int→Int→Option R} (l:List α) (hl:l.length≤1000) (g:α→List Int) (m:Nat) (q:∀x∈l,(g x).length≤m) (j:List Int→Option R) (b:List Int)
 (u:∀k a (i:Nat) (h:i<l.length),a.length≤b.length+i*m→body k a (i:Int)=k (a++g l[i]) (Ag ((i:Int)+1)))
 (z:∀k a,a.length≤b.length+l.length*m→body k a (l.length:Int)=j a):aQ body Af b 0=j (b++l.flatMap g)∧(b++l.flatMap g).length≤b.length+l.length*m:=by
 constructor
 ·rw[H6 l AA (fun a x=>a++g x) (fun i a=>a.length≤b.length+i*m) j AA (fun k a i h I=>⟨?_,u k a i h I⟩) z,foldl_append g];have :=q l[i] (Df h);rw[EG,UK];omega
 have :=aBj q;rw[EG];omega
def atV (c:Bj) (b:List Int) (I:b.length≤900000):(aP5 c b 0=some (b++(JF c.Levels).flatMap enc)∧aP7 (JF c.Levels) b 0=some (b++(JF c.Levels).flatMap enc))∧(b++(JF c.Levels).flatMap enc).length≤b.length+70:=by
 have q:∀i:Nat,(h:i<(JF c.Levels).length)→Ae ([c.Levels.User,c.Levels.Message,c.Levels.State,c.Levels.fQ,c.Levels.jK,c.Levels.mY,c.Levels.fC]:List Int) (i:Int)=some (JF c.Levels)[i]:=fun i h=>Ba h
 have m:=er (body:=aGe c) (JF c.Levels) (by simp[JF]) enc 10 (fun x _=>OW x) some b (fun k a i h j=>by
  have u:i<7:=h;unfold aGe
  rw[IJ (show(i:Int)<7 by omega),Au,q i h,AQ,xE AA,AQ]) fun k a j=>rfl
 have z:=er (body:=Rep (JF c.Levels)) (JF c.Levels) (by simp[JF]) enc 10 (fun x _=>OW x) some b (fun k a i h j=>by
  have u:i<7:=h;unfold Rep
  rw[Bv h,Xw AA,AQ]) fun k a j=>by unfold Rep;rw[CX];rfl
 exact⟨⟨m.1,z.1⟩,m.2⟩
def aoh (c:Bj) (b:List Int) (J:b.length≤800000) (L:c.Levels.Kinds.length≤100):(aII c b 0=some (b++c.Levels.Kinds.flatMap RV++(JF c.Levels).flatMap enc)∧aPH c b 0=some (b++c.Levels.Kinds.flatMap RV++(JF c.Levels).flatMap enc))∧(b++c.Levels.Kinds.flatMap RV++(JF c.Levels).flatMap enc).length≤b.length+2070:=by
 have q:=er (body:=aAQ c) c.Levels.Kinds AA RV 20 (fun x _=>aex x) (fun a=>aP5 c a 0) b (fun k a i h j=>by
  obtain⟨m,_,z⟩:=U9 (b:=a) (k:=900000) AA AA c.Levels.Kinds[i].Kind;unfold aAQ
  rw[Bv h,m,AQ,xE AA,AQ,Hr];rfl) fun k a j=>by unfold aAQ;rw[CX];rfl
 have I:=er (body:=aB2 c) c.Levels.Kinds AA RV 20 (fun x _=>aex x) (fun a=>aP7 (JF c.Levels) a 0) b (fun k a i h j=>by
  obtain⟨_,m,z⟩:=U9 (b:=a) (k:=900000) AA AA c.Levels.Kinds[i].Kind;unfold aB2
  rw[Bv h,m,AQ,Ba h,AQ,Xw AA,AQ,Hr];rfl) fun k a j=>by unfold aB2 aaK;rw[CX,Aj,AQ];rfl
 have hl:=q.2;have u:=atV c (b++c.Levels.Kinds.flatMap RV) AA;exact⟨⟨q.1.trans u.1.1,I.1.trans u.1.2⟩,AA⟩
def aqC (c:Bj) (b:List Int) (Y:b.length≤500000) (j:Qa c):(adF c b 0=some (b++c.Levels.Users.flatMap SY++enc c.Levels.Kinds.length++c.Levels.Kinds.flatMap RV++(JF c.Levels).flatMap enc)∧aQW c b 0=some (b++c.Levels.Users.flatMap SY++enc c.Levels.Kinds.length++c.Levels.Kinds.flatMap RV++(JF c.Levels).flatMap enc))∧(b++c.Levels.Users.flatMap SY++enc c.Levels.Kinds.length++c.Levels.Kinds.flatMap RV++(JF c.Levels).flatMap enc).length≤b.length+204080:=by
 have Z:=j.users;have z:∀x∈c.Levels.Users,(SY x).length≤2020:=fun x J=>anX (j.names x J)
 have I:=er (body:=aAY c) c.Levels.Users AA SY 2020 z (fun a=>aII c (a++enc c.Levels.Kinds.length) 0) b (fun k a i h m=>by
  have hs:=j.names _ (Df h);obtain⟨q,_,L⟩:=WZ (b:=a) (k:=900000) AA AA (s:=c.Levels.Users[i].User) 2000 hs AA;unfold aAY
  rw[Bv h,q,AQ,xE AA,AQ,Hr];rfl) fun k a m=>by unfold aAY;rw[CX,Aj,xE AA,AQ]
 have M:=er (body:=aFt c) c.Levels.Users AA SY 2020 z (fun a=>aPH c (a++enc c.Levels.Kinds.length) 0) b (fun k a i h m=>by
  have hs:=j.names _ (Df h);obtain⟨_,q,L⟩:=WZ (b:=a) (k:=900000) AA AA (s:=c.Levels.Users[i].User) 2000 hs AA;unfold aFt
  rw[Bv h,q,AQ,Ba h,AQ,Xw AA,AQ,Hr];rfl) fun k a m=>by unfold aFt;rw[CX,Aj,Xw AA,AQ]
 have hl:=I.2;have he:=OW (c.Levels.Kinds.length:Int);have O:(b++c.Levels.Users.flatMap SY++enc c.Levels.Kinds.length).length=(b++c.Levels.Users.flatMap SY).length+(enc c.Levels.Kinds.length).length:=EG ..;have u:=aoh c (b++c.Levels.Users.flatMap SY++enc c.Levels.Kinds.length) AA j.kinds;have U:=u.2;rw[O]at U;exact⟨⟨I.1.trans u.1.1,M.1.trans u.1.2⟩,AA⟩
def acp {c:Bj} (j:Qa c):pV c=some (eB c)∧aDm c=some (eB c)∧(eB c).length≤700000:=by
 obtain⟨m,q,u⟩:=WZ (b:=[]) (k:=0) (Dk _) AA 2000 j.text AA;obtain⟨z,I,J⟩:=U9 u AA c.N;obtain⟨L,M,O⟩:=U9 J AA c.Target;obtain⟨U,Y,Z⟩:=acT O AA c.Thread;obtain⟨a5,b5,h5⟩:=WZ Z AA 2000 j.via AA;obtain⟨a6,b6,h6⟩:=aRL h5 AA j.allow j.allows;obtain⟨a7,b7,h7⟩:=aRL h6 AA j.deny j.denies;obtain⟨a8,b8,h8⟩:=U9 h7 AA (c.Levels.Users.length:Int);obtain⟨⟨a9,b9⟩,h9⟩:=aqC c _ (Eh h8 AA) j;refine⟨?_,?_,Eh h9 AA⟩
 ·unfold pV;rw[m,AQ,z,AQ,L,AQ,U,AQ,a5,AQ,a6,AQ,a7,AQ,a8,AQ];exact a9
 unfold aDm;rw[q,AQ,I,AQ,M,AQ,Y,AQ,b5,AQ,b6,AQ,b7,AQ,b8,AQ];exact b9
def aDg (e:AB):List Int:=
 []++enc e.Id++JM e.Room++JM e.aP++enc e.Kind++[bif e.State then 1 else 0]++JM e.Key++enc e.Time++enc e.Depth++Pg e.bC++Pg e.bD++JM (QV (eB e.Content))++enc e.Hash++JM e.qc.Server++enc e.qc.Sum
def akk (l:List Int):(QV l).size=l.length:=by
 have key:∀(l:List Int) (r:ByteArray),(l.foldl (fun r n=>r.push (UInt8.ofNat n.toNat)) r).size=r.size+l.length:=by
  intro l
  induction l with
  |nil=>intro r;rfl
  |cons x l j=>intro r;rw[Et,j,ByteArray.size_push,Fa];omega
 unfold QV;rw[key];simp
def aAR {S α:Type} {body:(Int→S→Option S)→Int→S→Option S} (l:List α) (hl:l.length<1000) (f:S→α→Option S)
 (u:∀k (i:Nat) (h:i<l.length) s,body k (i:Int) s=(f s l[i]).bind fun x=>k (Ag ((i:Int)+1)) x) (z:∀k s,body k (l.length:Int) s=some s) (s:S):aQ body Af 0 s=l.foldlM f s:=by
 have L:Af=9223372036854775808:=rfl
 have key:∀n (i:Nat) s,i+n=l.length→∀m,n<m→aQ body m (i:Int) s=(l.drop i).foldlM f s:=by
  intro n
  induction n with
  |zero=>
   intro i s hi m I;obtain⟨m,rfl⟩:∃q,m=q+1:=⟨m-1,AA⟩
   have :i=l.length:=AA
   subst this;rw[Om];exact z _ _
  |succ n J=>
   intro i s hi m I;obtain⟨m,rfl⟩:∃q,m=q+1:=⟨m-1,AA⟩
   have j:i<l.length:=AA
   rw[LG j,UJ];show body (aQ body m) _ _=(f s l[i]).bind _;rw[u _ i j,wrap_succ i AA];congr 1;funext x;exact J (i+1) x AA m AA
 exact key l.length 0 s AA Af AA
def aak (w:F8) (l:List Int) (hl:l.length<1000):TJ w l=l.foldlM iy w:=by
 unfold TJ aec;exact aAR l hl _ (fun k i h s=>by simp only[aKo,dec_lt h,Au,Ba h,AQ]) (fun k s=>by simp only[aKo,CX,Aj]) w
def aUN (w:F8) (l:List ByteArray) (hl:l.length<1000):X7 w l=l.foldlM eI w:=by
 unfold X7 aa4;exact aAR l hl _ (fun k i h s=>by simp only[aLm,dec_lt h,Au,Ba h,AQ]) (fun k s=>by simp only[aLm,CX,Aj]) w
def ah5 (w:F8) (l:List Bool) (hl:l.length<1000):qU w l=l.foldlM yE w:=by
 unfold qU afE;exact aAR l hl _ (fun k i h s=>by simp only[aKe,dec_lt h,Au,Ba h,AQ]) (fun k s=>by simp only[aKe,CX,Aj]) w
def aj7 (w:F8) (l:List (List Int)) (hl:l.length<1000):qg w l=l.foldlM mO w:=by
 unfold qg aPr;exact aAR l hl _ (fun k i h s=>by simp only[aN5,dec_lt h,Au,Ba h,AQ]) (fun k s=>by simp only[aN5,CX,Aj]) w
def aNX {b c:List Int} {n:Int} (h:Nh b n=some c):iy ⟨b⟩ n=some ⟨c⟩:=by unfold iy;rw[h];rfl
def aJy {b c:List Int} {n:ByteArray} (h:RD b n=some c):eI ⟨b⟩ n=some ⟨c⟩:=by unfold eI;rw[h];rfl
def arA {b c:List Int} {n:Bool} (h:Yi b n=some c):yE ⟨b⟩ n=some ⟨c⟩:=by unfold yE;rw[h];rfl
def aRs {b c:List Int} {n:List Int} (h:Xh b n=some c):mO ⟨b⟩ n=some ⟨c⟩:=by unfold mO;rw[h];rfl
def aDI {b c:List Int} {n:Int} (h:Nh b n=some c):TJ ⟨b⟩ [n]=some ⟨c⟩:=by
 rw[aak _ _ Ap,UJ,aNX h];rfl
def aj3 {b c d:List Int} {n m:Int} (h:Nh b n=some c) (k:Nh c m=some d):TJ ⟨b⟩ [n,m]=some ⟨d⟩:=by
 rw[aak _ _ Ap,UJ,aNX h];show(iy ⟨c⟩ m).bind _=_;rw[aNX k];rfl
def aIw {b c:List Int} {n:ByteArray} (h:RD b n=some c):X7 ⟨b⟩ [n]=some ⟨c⟩:=by
 rw[aUN _ _ Ap,UJ,aJy h];rfl
def aoA {b c d:List Int} {n m:ByteArray} (h:RD b n=some c) (k:RD c m=some d):X7 ⟨b⟩ [n,m]=some ⟨d⟩:=by
 rw[aUN _ _ Ap,UJ,aJy h];show(eI ⟨c⟩ m).bind _=_;rw[aJy k];rfl
def aqn {b c:List Int} {n:Bool} (h:Yi b n=some c):qU ⟨b⟩ [n]=some ⟨c⟩:=by
 rw[ah5 _ _ Ap,UJ,arA h];rfl
def ahr {b c d:List Int} {n m:List Int} (h:Xh b n=some c) (k:Xh c m=some d):qg ⟨b⟩ [n,m]=some ⟨d⟩:=by
 rw[aj7 _ _ Ap,UJ,aRs h];show(mO ⟨c⟩ m).bind _=_;rw[aRs k];rfl
def agU {e:AB} (j:Fl e):yh e=some (aDg e)∧aBL e=some (aDg e)∧(aDg e).length≤1000000:=by
 obtain⟨ac,bc,hc⟩:=acp j.content;obtain⟨a1,b1,h1⟩:=U9 (b:=[]) (k:=0) (Dk _) AA e.Id;obtain⟨a2,b2,h2⟩:=WZ h1 AA 2000 j.room AA;obtain⟨a3,b3,h3⟩:=WZ h2 AA 2000 j.sender AA;obtain⟨a4,b4,h4⟩:=U9 h3 AA e.Kind;obtain⟨a5,b5,h5⟩:=acT h4 AA e.State;obtain⟨a6,b6,h6⟩:=WZ h5 AA 2000 j.key AA;obtain⟨a7,b7,h7⟩:=U9 h6 AA e.Time;obtain⟨a8,b8,h8⟩:=U9 h7 AA e.Depth;obtain⟨a9,b9,h9⟩:=abK h8 AA (Eh j.prev AA);obtain⟨m,q,u⟩:=abK h9 AA (Eh j.auth AA);obtain⟨z,I,J⟩:=WZ u AA (s:=QV (eB e.Content)) 700000 (by rw[akk];exact hc) AA;obtain⟨L,M,O⟩:=U9 J AA e.Hash;obtain⟨U,Y,Z⟩:=WZ O AA 2000 j.server AA;obtain⟨a14,b14,h14⟩:=U9 Z AA e.qc.Sum;refine⟨?_,?_,Eh h14 AA⟩
 ·unfold yh
  rw[show TJ aBP [e.Id]=_ from aDI a1,AQ,aoA a2 a3,AQ,aDI a4,AQ,aqn a5,AQ,aIw a6,AQ,aj3 a7 a8,AQ,ahr a9 m,AQ,
   ac,AQ,aIw z,AQ,aDI L,AQ,aIw U,AQ,aDI a14,AQ]
  rfl
 unfold aBL;rw[b1,AQ,b2,AQ,b3,AQ,b4,AQ,b5,AQ,b6,AQ,b7,AQ,b8,AQ,b9,AQ,q,AQ,bc,AQ,I,AQ,M,AQ,Y,AQ,b14,AQ];rfl
def aDF (l:List Int):Int:=Ag (l.foldl qJ ((IntKind.u64.wrap 860922984064492325).tmod 4611686018427387904))
def abj {l:List Int} (hl:l.length≤1000000):sW l=some (aDF l):=by
 unfold sW aOF;rw[AQ];unfold aLh aRt
 rw[aCI _ _ _ _ (.inl rfl),adg,H6 l AA qJ (fun _ _=>True) (fun s=>some (Ag s)) trivial (fun k s i h _=>⟨trivial,by
  simp only[aPC,dec_lt h,Au,Ba h,AQ,aCI _ _ _ _ (.inl rfl),aCI _ _ _ _ (.inr (.inr rfl)),aox]⟩) fun k s _=>by
  simp only[aPC,CX,Aj]]
 rfl
def aeT {l:List Int} (hl:l.length≤1000000):aCz l=some (aDF l):=by
 unfold aCz;rw[show aUX=some 860922984064492325 from rfl,AQ];unfold adV ad5
 rw[show Zn (IntKind.u64.wrap 860922984064492325) 4611686018427387904=some ((IntKind.u64.wrap 860922984064492325).tmod 4611686018427387904)from rfl,AQ,H6 l AA qJ (fun _ _=>True) (fun s=>some (Ag s)) trivial (fun k s i h _=>⟨trivial,by
  have e:Zn (IntKind.u64.wrap ((EO .xor .u64 s (IntKind.u64.wrap l[i]))*1099511628211)) 4611686018427387904=some (qJ s l[i]):=rfl
  simp only[aJ8,dec_lt h,Au,Ba h,AQ,e]⟩) fun k s _=>by
  simp only[aJ8,CX,Aj]]
 rfl
def IG (k:Int) (c:Bj):Bj:=
 if k=1 then c else if k=2 then{ ET with N:=c.N,Via:=c.Via }else if k=3 then{ ET with Levels:=c.Levels }else if k=4 then{ ET with N:=c.N,Allow:=c.Allow }else
 if k=5 then{ ET with N:=c.N }else if k=6 then{ ET with Allow:=c.Allow,gy:=c.gy }else if k=14 then{ ET with Target:=c.Target }else ET
def aQ1 {R:Type} (a b:Int) (x y:R):(bif a==b then x else y)=if a=b then x else y:=by
 by_cases h:a=b
 ·subst h;simp
 have :(a==b)=false:=Jz
 rw[this,Cc h];rfl
def adU {R:Type} (p:Prop) [Decidable p] (x y:R):(if p then some x else some y)=some (if p then x else y):=by split<;>rfl
def aMS (k:Int) (c:Bj):aDf k c=some (IG k c):=by
 unfold aDf IG;simp only[aQ1,adU]
def texts_eq {l:List ByteArray} (h:l.length≤100):RX l=some l:=by
 unfold RX;rw[NS AA aES];rfl
def adW {l:Bd} (m:l.Users.length≤100) (j:l.Kinds.length≤100):dX l=some l:=by
 unfold dX;rw[NS AA aES,AQ,NS AA (by rw[IV];exact Eh j AA)];rfl
def aAs (k:Int):Int:=if k=2 then 18 else if k=3 then 128 else if k=4 then 34 else if k=5 then 2 else if k=6 then 96 else if k=14 then 4 else 0
def apb (k:Int):lY k=some (aAs k):=by
 by_cases m:k=2
 ·subst m;rfl
 by_cases q:k=3
 ·subst q;rfl
 by_cases u:k=4
 ·subst u;rfl
 by_cases z:k=5
 ·subst z;rfl
 by_cases j:k=6
 ·subst j;rfl
 unfold lY fP aAs;simp only[aQ1,m,q,u,z,j,JE,show(k==6)=false from by simpa using j,Aj,adU]
def ab2 (k:Int) {c:Bj} (j:Qa c):nD k c=some (IG k c):=by
 by_cases q:k=1
 ·subst q;show(RX c.Allow).bind (fun M=>(RX c.gy).bind fun O=>(dX c.Levels).bind fun U=>some ({ { { c with Allow:=M }with gy:=O }with Levels:=U }))=_;rw[texts_eq j.allow,AQ,texts_eq j.deny,AQ,adW j.users j.kinds];rfl
 unfold nD;rw[show(k==1)=false from by simpa using q,Aj,apb,AQ];by_cases u:k=2
 ·subst u;rfl
 by_cases z:k=3
 ·subst z;show(dX c.Levels).bind (fun x=>some { ET with Levels:=x })=_;rw[adW j.users j.kinds];rfl
 by_cases I:k=4
 ·subst I;show(RX c.Allow).bind (fun x=>some { ET with N:=c.N,Allow:=x })=_;rw[texts_eq j.allow];rfl
 by_cases J:k=5
 ·subst J;rfl
 by_cases L:k=6
 ·subst L;show(RX c.Allow).bind (fun x=>(RX c.gy).bind fun y=>some { ET with Allow:=x,gy:=y })=_;rw[texts_eq j.allow,AQ,texts_eq j.deny];rfl
 by_cases m:k=14
 ·subst m;rfl
 have Y:aAs k=0:=by unfold aAs;simp only[u,z,I,J,L,m,JE]
 have Z:IG k c=ET:=by unfold IG;simp only[q,u,z,I,J,L,m,JE]
 rw[Y,Z];rfl
def Qa.strip {c:Bj} (h:Qa c) (k:Int):Qa (IG k c):=by
 have j:(0:Nat)≤2000:=AA
 unfold IG
 repeat' split
 all_goals first|exact h|exact⟨by simp[ET,LD,h.allow],by simp[ET,LD,h.deny],by simp[ET,LD,h.users],by simp[ET,LD,h.kinds],by first|exact h.text|exact j,by first|exact h.via|exact j,by first|exact h.allows|simp[ET],by first|exact h.denies|simp[ET],by first|exact h.names|simp[ET,LD]⟩
def J7 (e:AB):AB:={ e with Content:=IG e.Kind e.Content }
def TB (e:AB):Prop:=Fl { e with qc:=XK }
def TB.content {e:AB} (h:TB e):Qa e.Content:=Fl.content (e:={ e with qc:=XK }) h
def Fl.x {e:AB} (h:Fl e):TB e:=⟨h.prev,h.auth,h.allow,h.deny,h.users,h.kinds,h.room,h.sender,h.key,h.text,h.via,EZ _,h.allows,h.denies,h.names⟩
def acO {e:AB} (j:TB e):yA e=some (J7 e)∧aK8 e=some (J7 e):=by
 unfold yA aK8;rw[ab2 _ j.content,aMS];exact⟨rfl,rfl⟩
def lI (e:AB):Int:=aDF (eB e.Content)
def Zw (e:AB):AB:={ { J7 e with Id:=0 }with qc:=XK }
def vN (e:AB):Int:=aDF (aDg (Zw e))
def TB.bare {e:AB} (h:TB e):Fl (Zw e):=by
 have j:=h.content.strip e.Kind;exact⟨h.prev,h.auth,j.allow,j.deny,j.users,j.kinds,h.room,h.sender,h.key,j.text,j.via,by show(0:Nat)≤2000;omega,j.allows,j.denies,j.names⟩
def acj {e:AB} (j:TB e):rE e=some (lI e)∧aMQ e=some (lI e):=by
 obtain⟨a,b,h⟩:=acp j.content;unfold rE aMQ;rw[a,b,AQ,AQ,abj AA,aeT AA];exact⟨rfl,rfl⟩
def aEL {e:AB} (j:TB e):qA e=some (vN e)∧aPL e=some (vN e):=by
 obtain⟨a,b⟩:=acO j;obtain⟨c,d,h⟩:=agU j.bare;unfold qA aPL;rw[a,b,AQ,AQ];show(yh (Zw e)).bind _=_∧(aBL (Zw e)).bind _=_;rw[c,d,AQ,AQ,abj AA,aeT AA];exact⟨rfl,rfl⟩
def Qs (s:ByteArray):Int:=bif Gi s 64 then 0 else 3
def Uw (s:ByteArray):Int:=bif Gi s 33 then 0 else 3
def YP {s:ByteArray} (hs:s.size≤9223372036854775807):dI s=some (Qs s)∧bH s=some (Qs s):=by
 unfold dI pR bH Qs;rw[aOu hs (marks:=wR) (by rw[show BZ wR=[64]from rfl];intro m j;simp only[Ei,Ez,kV]at j;omega),aGA hs BJ,show((BZ wR).any fun m=>Gi s m)=(Gi s 64||false)from rfl];cases Gi s 64<;>exact⟨rfl,rfl⟩
def vT {s:ByteArray} (hs:s.size≤9223372036854775807):qw s=some (Uw s)∧xI s=some (Uw s):=by
 unfold qw pR xI Uw;rw[aOu hs (marks:=rD) (by rw[show BZ rD=[33]from rfl];intro m j;simp only[Ei,Ez,kV]at j;omega),aGA hs BJ,show((BZ rD).any fun m=>Gi s m)=(Gi s 33||false)from rfl];cases Gi s 33<;>exact⟨rfl,rfl⟩
def asn {l:List Int} (h:VY l=true):(58:Int)∉l:=by
 intro j;unfold VY QI at h;simp only[CW,DT]at h;have :=h.2 58 j;exact absurd this BJ
def akX (s:ByteArray) (hs:s.size≤2000):(splitB s (Jc s)).1.size≤2000∧(58:Int)∉BZ (splitB s (Jc s)).1∧(splitB s (Jc s)).2.1.size≤2000:=by
 have m:Bc.size≤2000:=BJ
 cases h:Jc s with
 |false=>exact⟨m,by show(58:Int)∉BZ Bc;decide,m⟩
 |true=>
  have j:TV s=true:=by
   unfold Jc Gi at h;cases j:TV s with
   |true=>rfl
   |false=>rw[j]at h;simp at h
  refine⟨Eh (extract_size _ _ _) hs,asn ?_,Eh (extract_size _ _ _) hs⟩;unfold TV at j;simp only[CW]at j;exact j.1.2
def any_false {α:Type} (l:List α):(l.any fun _=>false)=false:=Ap
def aGr {α:Type} {body:(Int→Option Bool)→Int→Option Bool} (l:List α) (hl:l.length≤1000) (rest:Option Bool) (j:∀k (i:Nat) (h:i<l.length),body k (i:Int)=k (Ag ((i:Int)+1))) (m:∀k,body k (l.length:Int)=rest):bg body Af 0=rest:=by
 rw[Gs l (aM6 AA) (fun _=>false) false rest (fun k i h=>by rw[j k i h];rfl) m,any_false];rfl
def asI {l:List ByteArray} (h:l.length≤1000):U8 l l=some true:=by
 unfold U8 aCS;rw[show((l.length:Int) != (l.length:Int))=false from by simp,Aj];exact aGr l h _ (fun k i h=>aRA) (fun k=>aL5)
structure Ju (c:Bj):Prop where
 allow:c.Allow.length≤9223372036854775807
 deny:c.gy.length≤9223372036854775807
 users:c.Levels.Users.length≤9223372036854775807
 kinds:c.Levels.Kinds.length≤9223372036854775807
 text:c.Text.size≤9223372036854775807
 via:c.Via.size≤9223372036854775807
 allows:∀x∈c.Allow,x.size≤9223372036854775807
 denies:∀x∈c.gy,x.size≤9223372036854775807
 names:∀x∈c.Levels.Users,x.User.size≤9223372036854775807
structure Vx (e:AB):Prop where
 prev:e.bC.length≤9223372036854775807
 auth:e.bD.length≤9223372036854775807
 room:e.Room.size≤9223372036854775807
 sender:e.aP.size≤9223372036854775807
 key:e.Key.size≤9223372036854775807
 server:e.qc.Server.size≤9223372036854775807
 content:Ju e.Content
def Qa.wide {c:Bj} (h:Qa c):Ju c:=by
 obtain⟨z,I,J,L,M,O,m,q,u⟩:=h;exact⟨AA,AA,AA,AA,AA,AA,fun x j=>by have :=m x j;omega,fun x j=>by have :=q x j;omega,fun x j=>by have :=u x j;omega⟩
def Fl.wide {e:AB} (h:Fl e):Vx e:=by
 have j:=h.prev;have m:=h.auth;have q:=h.room;have u:=h.sender;have z:=h.key;have I:=h.server;exact⟨AA,AA,AA,AA,AA,AA,h.content.wide⟩
def lH (k:Int):rJ k=some (decide (k≥1)&&decide (k≤14))∧sU k=some (decide (k≥1)&&decide (k≤14)):=by
 unfold rJ sU;cases decide (k≥1)<;>cases decide (k≤14)<;>exact⟨rfl,rfl⟩
def SG (n:Int):Bool:=decide (n< -1000)||decide (n>1000)
def aEZ (n:Int):lT n=some (SG n)∧U1 n=some (SG n):=by
 unfold lT U1 SG;cases decide (n< -1000)<;>cases decide (n>1000)<;>exact⟨rfl,rfl⟩
def Oq (c:Int):Bool:=decide (c<33)||decide (c>126)
def Fin (s:ByteArray):(s.toList==Bc.toList)=((s.size:Int)==0):=by
 rw[IQ];by_cases h:s=Bc
 ·subst h;rfl
 have :¬s.size=0:=fun j=>h (bytes_inj (by
  have m:BZ s=[]:=Gg (by rw[IK];exact j)
  rw[m];rfl))
 rw[IC h];symm;rw[Xb];omega
def aAq (s:ByteArray):Int:=if s.size=0 then 9 else if s.size>64 then 7 else bif (BZ s).any Oq then 3 else 0
def aMr {s:ByteArray} (hs:s.size≤9223372036854775807):xk s=some (aAq s)∧qY s=some (aAq s):=by
 have q:aHg s 0=some (bif (BZ s).any Oq then 3 else 0):=by
  unfold aHg;rw[Gs (BZ s) Y1 Oq 3 (some 0) (fun k i h=>?_) (fun k=>?_),JW]
  ·have h':i<s.size:=VW
   simp only[aIR,dec_lt h',Au,VH h,AQ,Oq];cases decide ((BZ s)[i]<33)<;>cases decide ((BZ s)[i]>126)<;>rfl
  simp only[aIR,IK,CX,Aj]
 have u:aNn s 0=some (bif (BZ s).any Oq then 3 else 0):=by
  unfold aNn;rw[Gs (BZ s) Y1 Oq 3 (some 0) (fun k i h=>?_) (fun k=>?_),JW]
  ·have h':i<s.size:=VW
   simp only[aHB,dec_lt h',Au,VH h,AQ,Oq];cases decide ((BZ s)[i]<33)<;>cases decide ((BZ s)[i]>126)<;>rfl
  simp only[aHB,IK,CX,Aj]
 unfold xk qY aAq;rw[Fin,q,u];by_cases j:s.size=0
 ·simp[j]
 have :((s.size:Int)==0)=false:=by rw[Xb];omega
 rw[this,Cc j];by_cases m:s.size>64
 ·have :decide ((s.size:Int)>64)=true:=DU
  rw[this,CV m];exact⟨rfl,rfl⟩
 have :decide ((s.size:Int)>64)=false:=DU
 rw[this,Cc m];exact⟨rfl,rfl⟩
def tC (s:ByteArray):Bool:=decide ((s.size:Int)≥1)&&decide ((s.size:Int)≤32)&& !(BZ s).any Oq
def aln {s:ByteArray} (hs:s.size≤9223372036854775807):aG4 s=some (tC s):=by
 unfold aG4 aSs;rw[Gs (BZ s) Y1 Oq false (some (decide ((s.size:Int)≥1)&&decide ((s.size:Int)≤32))) (fun k i h=>?_) (fun k=>?_)]
 ·unfold tC;cases(BZ s).any Oq<;>cases decide ((s.size:Int)≥1)<;>cases decide ((s.size:Int)≤32)<;>rfl
 ·have h':i<s.size:=VW
  simp only[aGy,dec_lt h',Au,VH h,AQ,Oq];cases decide ((BZ s)[i]<33)<;>cases decide ((BZ s)[i]>126)<;>rfl
 simp only[aGy,IK,CX,Aj];cases decide ((s.size:Int)≥1)<;>cases decide ((s.size:Int)≤32)<;>rfl
def UM (k:Int) (s:ByteArray):Bool:=if k=2 then Qs s==0 else if k=9 then tC s else true
def afF {k:Int} {s:ByteArray} (hs:s.size≤9223372036854775807):aLn k s=some (UM k s):=by
 have q:aPD s 0=some (bif (BZ s).any Oq then false else true):=by
  unfold aPD;rw[Gs (BZ s) Y1 Oq false (some true) (fun k i h=>?_) (fun k=>?_),JW]
  ·have h':i<s.size:=VW
   simp only[aNt,dec_lt h',Au,VH h,AQ,Oq];cases decide ((BZ s)[i]<33)<;>cases decide ((BZ s)[i]>126)<;>rfl
  simp only[aNt,IK,CX,Aj]
 unfold aLn UM;rw[(YP hs).2,q];by_cases j:k=2
 ·subst j;rfl
 rw[show(k==2)=false from by simpa using j,Cc j,Aj];by_cases m:k=9
 ·subst m;unfold tC;have u:decide ((s.size:Int)≥1)= !decide ((s.size:Int)<1):=aJ1
  have z:decide ((s.size:Int)≤32)= !decide ((s.size:Int)>32):=aJ5
  rw[u,z];cases decide ((s.size:Int)<1)<;>cases decide ((s.size:Int)>32)<;>cases(BZ s).any Oq<;>rfl
 rw[show(k != 9)=true from by simpa using m,Cc m];rfl
def aiD {e:AB} (j:Vx e):aAV e=some (Uw e.Room==0&&Qs e.aP==0&&UM e.Kind e.Key):=by
 have q:=j.room;have u:=j.sender;have z:=j.key;unfold aAV UM;rw[(vT AA).1,(YP (s:=e.aP) AA).1,(YP (s:=e.Key) AA).1,aln AA];simp only[AQ,bne];cases Uw e.Room==0 with
 |false=>rfl
 |true=>
  cases Qs e.aP==0 with
  |false=>rfl
  |true=>
   by_cases k2:e.Kind=2
   ·rw[k2];rfl
   by_cases m:e.Kind=9
   ·rw[m];rfl
   rw[show(e.Kind==2)=false from by simpa using k2,show(e.Kind==9)=false from by simpa using m,Cc k2,Cc m];rfl
def CJ {R:Type} (x y:Option R):Prop:=∃r,x=some r∧y=some r
section
variable {A R : Type}
def CJ.ret (r:R):CJ (some r) (some r):=⟨r,rfl,rfl⟩
def CJ.bind {a b:Option A} {f g:A→Option R} (h:CJ a b) (k:∀x,CJ (f x) (g x)):CJ (a.bind f) (b.bind g):=by
 obtain⟨x,rfl,rfl⟩:=h;exact k x
def CJ.bif {c:Bool} {x y j m:Option R} (q:c=true→CJ x j) (u:c=false→CJ y m):CJ (bif c then x else y) (bif c then j else m):=by
 cases c with
 |true=>exact q rfl
 |false=>exact u rfl
def CJ.of {x y:Option R} {r:R} (j:x=some r) (m:y=some r):CJ x y:=⟨r,j,m⟩
def CJ.loop {f g:(Int→Option R)→Int→Option R} (n:Nat) (u:n≤9223372036854775807) (hs:∀k k' (i:Nat),i<n→CJ (k ((i+1:Nat):Int)) (k' ((i+1:Nat):Int))→CJ (f k (i:Int)) (g k' (i:Int))) (j:∀k k',CJ (f k (n:Int)) (g k' (n:Int))):CJ (bg f Af 0) (bg g Af 0):=by
 have z:Af=9223372036854775808:=rfl
 have key:∀m (i:Nat),i+m=n→∀a,m<a→CJ (bg f a (i:Int)) (bg g a (i:Int)):=by
  intro m
  induction m with
  |zero=>
   intro i hi a ha;obtain⟨a,rfl⟩:∃a',a=a'+1:=⟨a-1,AA⟩
   have :i=n:=AA
   subst this;exact j _ _
  |succ m q=>
   intro i hi a ha;obtain⟨a,rfl⟩:∃a',a=a'+1:=⟨a-1,AA⟩
   exact hs _ _ i AA (q (i+1) AA a AA)
 exact key n 0 AA Af AA
end
def wF {i:Nat} (h:i≤9223372036854775806):Ag ((i:Int)+1)=((i+1:Nat):Int):=wrap_succ i AA
def uq {α:Type} {l:List α} {i:Nat} (h:i<l.length) (hl:l.length≤9223372036854775807) (j:decide ((i:Int)>0)=true):Ae l (Ag ((i:Int)-1))=some (l[i-1]' AA):=by
 have j:0<i:=O7
 rw[P8 AA AA,show(i:Int)-1=((i-1:Nat):Int) by omega];exact Ba AA
def aTS {l:List Int} (hl:l.length≤9223372036854775807):CJ (yD l) (lF l):=by
 unfold yD acr lF aP6;refine CJ.loop l.length hl (fun k k' i h j=>?_) (fun k k'=>?_)
 ·simp only[aMA,aEU,mV,dec_lt h,Au,Ba h,AQ,wF (show i≤9223372036854775806 by omega)];cases decide (l[i]<0)with
  |true=>exact .ret _
  |false=>
   simp only[Aj];cases m:decide ((i:Int)>0)with
   |true=>
    simp only[Au,uq h hl m,AQ,ge_iff_le];cases decide (l[i]≤l[i-1])with
    |true=>exact .ret _
    |false=>exact j
   |false=>exact j
 simp only[aMA,aEU,CX,Aj];exact .ret _
def aTt {l:List ByteArray} (hl:l.length≤9223372036854775807) (hs:∀s∈l,s.size≤9223372036854775807):CJ (WC l) (Oa l):=by
 unfold WC Oa;refine CJ.bif (fun _=>.ret _) fun _=>?_;unfold af4 aJn;refine CJ.loop l.length hl (fun k k' i h j=>?_) (fun k k'=>?_)
 ·obtain⟨m,q⟩:=aMr (s:=l[i]) (by have :=hs _ (Df h);omega);simp only[aLc,wP,dec_lt h,Au,Ba h,AQ,m,q,wF (show i≤9223372036854775806 by omega)];exact CJ.bif (fun _=>.ret _) fun _=>j
 simp only[aLc,wP,CX,Aj];exact .ret _
def ahV {c:Bj} (j:Ju c):CJ (Vj 4 c) (TG c):=by
 have hl:=j.allow;unfold Vj TG;rw[show((4:Int)==6)=false from rfl,Aj];refine CJ.bind (CJ.bif (fun _=>.ret _) fun _=>.ret _) fun x=>CJ.bif (fun _=>.ret _) fun _=>CJ.bif (fun _=>.ret _) fun _=>?_;unfold aQk aLo;refine CJ.loop c.Allow.length AA (fun k k' i h m=>?_) (fun k k'=>?_)
 ·obtain⟨q,u⟩:=vT (s:=c.Allow[i]) (by have :=j.allows _ (Df h);omega);simp only[aOr,Zz,aEQ,dec_lt h,Au,Ba h,AQ,q,u,wF (show i≤9223372036854775806 by omega)];refine CJ.bif (fun _=>.ret _) fun _=>?_;cases z:decide ((i:Int)>0)with
  |true=>
   simp only[Au,uq h (show c.Allow.length≤9223372036854775807 by omega) z,AQ];exact CJ.bif (fun _=>.ret _) fun _=>m
  |false=>exact m
 simp only[aOr,Zz,CX,Aj];exact .ret _
def arQ {l:List Ht} (hl:l.length≤9223372036854775807) (hs:∀u∈l,u.User.size≤9223372036854775807):CJ (aDv l) (cD l):=by
 unfold aDv cD;refine CJ.bif (fun _=>.ret _) fun _=>?_;unfold afB aLz;refine CJ.loop l.length hl (fun k k' i h j=>?_) (fun k k'=>?_)
 ·obtain⟨m,q⟩:=YP (s:=l[i].User) (by have :=hs _ (Df h);omega);obtain⟨z,I⟩:=aEZ l[i].N;simp only[aJb,uy,aBA,rC,dec_lt h,Au,Ba h,AQ,m,q,z,I,wF (show i≤9223372036854775806 by omega)];refine CJ.bif (fun _=>.ret _) fun _=>?_;cases J:decide ((i:Int)>0)with
  |true=>
   simp only[Au,uq h hl J,AQ];exact CJ.bif (fun _=>.ret _) fun _=>CJ.bif (fun _=>.ret _) fun _=>j
  |false=>
   simp only[Aj];exact CJ.bif (fun _=>.ret _) fun _=>j
 simp only[aJb,uy,CX,Aj];exact .ret _
def agH {l:List Ii} (hl:l.length≤9223372036854775807):CJ (aE1 l) (ZN l):=by
 unfold aE1 ZN;refine CJ.bif (fun _=>.ret _) fun _=>?_;unfold aSa aOO;refine CJ.loop l.length hl (fun k k' i h j=>?_) (fun k k'=>?_)
 ·obtain⟨m,q⟩:=lH l[i].Kind;obtain⟨u,z⟩:=aEZ l[i].N;simp only[aPS,aAi,aDb,aNv,dec_lt h,Au,Ba h,AQ,m,q,u,z,wF (show i≤9223372036854775806 by omega)];refine CJ.bif (fun _=>.ret _) fun _=>?_;cases I:decide ((i:Int)>0)with
  |true=>
   simp only[Au,uq h hl I,AQ];exact CJ.bif (fun _=>.ret _) fun _=>CJ.bif (fun _=>.ret _) fun _=>j
  |false=>
   simp only[Aj];exact CJ.bif (fun _=>.ret _) fun _=>j
 simp only[aPS,aAi,CX,Aj];exact .ret _
def an2 {l:Bd} (z:l.Users.length≤9223372036854775807) (I:l.Kinds.length≤9223372036854775807) (j:∀u∈l.Users,u.User.size≤9223372036854775807):CJ (dS l) (VL l):=by
 have m:aGs l 0=some (bif (JF l).any SG then 2 else 0):=by
  unfold aGs;rw[Gs (JF l) (by have :Af=9223372036854775808:=rfl;simp[JF,this]) SG 2 (some 0) (fun k i h=>?_) (fun k=>rfl),JW];have J:i<7:=h;have q:Ae ([l.User,l.Message,l.State,l.fQ,l.jK,l.mY,l.fC]:List Int) (i:Int)=some ((JF l)[i]'(h)):=Ba h;simp only[aQw,show decide ((i:Int)<7)=true from by simp;omega,Au,q,AQ,(aEZ _).1]
 unfold dS VL;refine CJ.bind (arQ AA j) fun x=>CJ.bif (fun _=>.ret _) fun _=>CJ.bind (agH AA) fun y=>CJ.bif (fun _=>.ret _) fun _=>?_;rw[m];simp only[(aEZ _).2,AQ,JF,Yn,List.any_nil];cases SG l.User<;>cases SG l.Message<;>cases SG l.State<;>cases SG l.fQ<;>cases SG l.jK<;>cases SG l.mY<;>cases SG l.fC<;>exact .ret _
def U6 {α:Type} {l:List α} (h:((l.length:Int)==0)=true):l=[]:=Gg aNf
def Nc (l:Bd):Bool:=((l.Users.length:Int)==0)&&((l.Kinds.length:Int)==0)&&(l.User==0)&&(l.Message==0)&&(l.State==0)&&(l.fQ==0)&&(l.jK==0)&&(l.mY==0)&&(l.fC==0)
def bare_eq (l:Bd):aAr l=some (Nc l):=by
 unfold aAr Nc;simp only[JW,AQ,Tv]
def aRQ (l:Bd):Wq l LD=some (Nc l):=by
 unfold Wq Nc;show(bif ((l.Users.length:Int) != 0)then some true else some ((l.Kinds.length:Int) != 0)).bind _=_;simp only[bne];cases q:((l.Users.length:Int)==0)with
 |false=>rfl
 |true=>
  cases u:((l.Kinds.length:Int)==0)with
  |false=>rfl
  |true=>
   have j:=U6 q;have m:=U6 u
   have z:YM l LD 0=some ((l.User==0)&&(l.Message==0)&&(l.State==0)&&(l.fQ==0)&&(l.jK==0)&&(l.mY==0)&&(l.fC==0)):=by
    unfold YM;refine aGr l.Kinds (by rw[m];simp) _ (fun k i h=>by rw[m]at h;simp at h) (fun k=>?_);simp only[eA,CX,Aj,JW,AQ,Tv];rfl
   have I:qy l LD 0=some ((l.User==0)&&(l.Message==0)&&(l.State==0)&&(l.fQ==0)&&(l.jK==0)&&(l.mY==0)&&(l.fC==0)):=by
    unfold qy;refine aGr l.Users (by rw[j];simp) _ (fun k i h=>by rw[j]at h;simp at h) (fun k=>?_);simp only[mZ,CX,Aj];exact z
   simp only[Dz,Aj,AQ,I,Fe]
def ahq (l:Bd):aHz l=some (Nc l):=by
 unfold aHz;rw[aRQ];rfl
def ak9 (l:List ByteArray):U8 l []=some ((l.length:Int)==0):=by
 cases h:((l.length:Int)==0)with
 |true=>rw[U6 h];exact asI (l:=[]) Ap
 |false=>
  unfold U8;show(bif ((l.length:Int) != 0)then some false else _)=_;simp only[bne,h,IU,Au]
def eM (a0 j m q u z I J:Bool):Bool:=a0&&j&&m&&q&&u&&z&&I&&J
def aUp (c:Bj):St c ET=some (eM (c.Text.toList==Bc.toList) (c.N==0) (c.Target==0) (!c.Thread) (c.Via.toList==Bc.toList) ((c.Allow.length:Int)==0) ((c.gy.length:Int)==0) (Nc c.Levels)):=by
 unfold St eM;show(bif c.Text.toList==Bc.toList then some (c.N==0)else some false).bind _=_;simp only[show ET.Allow=[]from rfl,show ET.gy=[]from rfl,show ET.Levels=LD from rfl,show ET.Target=0 from rfl,show ET.Thread=false from rfl,show ET.Via=Bc from rfl,ak9,aRQ,JW,AQ,Tv];congr 1;cases c.Thread<;>simp
def aAj (a0 j m q u z I J:Bool):Int:=
 let v:=bif !a0 then EO .or .i64 0 1 else 0
 let v:=bif !j then EO .or .i64 v 2 else v
 let v:=bif !m then EO .or .i64 v 4 else v
 let v:=bif !q then EO .or .i64 v 8 else v
 let v:=bif !u then EO .or .i64 v 16 else v
 let v:=bif !z then EO .or .i64 v 32 else v
 let v:=bif !I then EO .or .i64 v 64 else v
 bif !J then EO .or .i64 v 128 else v
def pos_eq {α:Type} (l:List α):decide ((l.length:Int)>0)= !((l.length:Int)==0):=by
 cases h:((l.length:Int)==0)with
 |true=>have :=eq_of_beq h;rw[Dz,XC];omega
 |false=>have :=ne_of_beq_false h;rw[IU,G8];omega
def al1 (c:Bj):ny c=some (aAj (c.Text.toList==Bc.toList) (c.N==0) (c.Target==0) (!c.Thread) (c.Via.toList==Bc.toList) ((c.Allow.length:Int)==0) ((c.gy.length:Int)==0) (Nc c.Levels)):=by
 unfold ny zi aGG aE2 aG3 aGO aGW aG6 aD9 aAj;rw[bare_eq,pos_eq,pos_eq];simp only[AQ,bne,xg];generalize(c.Text.toList==Bc.toList)=j;generalize(c.N==0)=m;generalize(c.Target==0)=q;generalize c.Thread=u;generalize(c.Via.toList==Bc.toList)=z;generalize((c.Allow.length:Int)==0)=I;generalize((c.gy.length:Int)==0)=J;generalize Nc c.Levels=L;cases j<;>cases m<;>cases q<;>cases u<;>cases z<;>cases I<;>cases J<;>cases L<;>rfl
def arT :∀a0 j m q u z I J:Bool,(aAj a0 j m q u z I J==0)=eM a0 j m q u z I J:=Nu
def J4 (j m q u z I J L a0 M O U Y Z a6 a7:Bool):Bool:=(a0||j)&&(M||m)&&(O||q)&&(U||u)&&(Y||z)&&(Z||I)&&(a6||J)&&(a7||L)
def XQ {K:Int} {c:Bj} {j m q u z I J L:Bool} (M:Bg K Jv=some j) (O:Bg K KU=some m) (U:Bg K Jb=some q) (Y:Bg K Lm=some u) (Z:Bg K Lu=some z) (h5:Bg K Lj=some I) (h6:Bg K MO=some J) (h7:Bg K MJ=some L):Ub K c=some (J4 j m q u z I J L (c.Text.toList==Bc.toList) (c.N==0) (c.Target==0) (!c.Thread) (c.Via.toList==Bc.toList) ((c.Allow.length:Int)==0) ((c.gy.length:Int)==0) (Nc c.Levels)):=by
 unfold Ub J4;simp only[M,O,U,Y,Z,h5,h6,h7,ahq,JW,AQ,ZA,Tv]
def Gl (x r:Option Int):Option Int:=x.bind fun v=>bif v != 0 then some v else r
def EH {x r:Option Int} (h:x=some 0):Gl x r=r:=by rw[h];rfl
def MF {x y r s:Option Int} (h:CJ x y) (k:CJ r s):CJ (Gl x r) (Gl y s):=CJ.bind h fun _=>CJ.bif (fun _=>.ret _) fun _=>k
def aD7 (x:Option Int):Gl x (some 0)=x:=by
 cases x with
 |none=>rfl
 |some v=>
  show(bif v != 0 then some v else some 0)=some v;by_cases h:v=0
  ·subst h;rfl
  rw[show(v != 0)=true from by simpa using h];rfl
def aCV {A:Type} (x:Option A):(x.bind fun v=>some v)=x:=by cases x<;>rfl
def NW (K:Int) (c:Bj):Option Int:=Gl (XB K c) (Gl (Lp K c.N) (Gl (TU K c) (Gl (Vk c) (bif K==4 then TG c else Gl (Oa c.Allow) (Gl (Oa c.gy) (VL c.Levels))))))
def frame {K M kp:Int} {br:Bool} {c:Bj} {m q u z I J L O:Bool} (hU:lU K=some M) (hk:(decide (K≥1)&&decide (K≤14))=true) (U:lY K=some kp) (hb:oO K=some br) (h0:Bg K Jv=some m) (h1:Bg K KU=some q) (h2:Bg K Jb=some u) (h3:Bg K Lm=some z) (h4:Bg K Lu=some I) (h5:Bg K Lj=some J) (h6:Bg K MO=some L) (h7:Bg K MJ=some O)
 (hM:∀a0 a1 a2 a3 a4 a5 a6 a7:Bool,(EO .andNot .i64 (aAj a0 a1 a2 a3 a4 a5 a6 a7) M != 0)= !J4 m q u z I J L O a0 a1 a2 a3 a4 a5 a6 a7) (Y:(br=true→kp=0)) (hA:kp=0→br=false→LK M K 0 c=some 0)
 (j:J4 m q u z I J L O (c.Text.toList==Bc.toList) (c.N==0) (c.Target==0) (!c.Thread) (c.Via.toList==Bc.toList) ((c.Allow.length:Int)==0) ((c.gy.length:Int)==0) (Nc c.Levels)=true→CJ (LK M K 0 c) (NW K c)):CJ (Ky K c) (G7 K c):=by
 have ht:G7 K c=(sU K).bind fun x1=>(bif (!x1)then some true else(Ub K c).bind fun x4=>some (!x4)).bind fun x2=>(bif x2 then some 1 else(oO K).bind fun x6=>(bif x6 then(St c ET).bind fun x9=>some x9 else some false).bind fun x7=>(bif x7 then some 0 else NW K c)):=by
  unfold G7 NW Gl;simp only[aCV]
 rw[ht];unfold Ky;obtain⟨k1,k2⟩:=lH K;rw[hk]at k1 k2;rw[hU,k1,k2,al1,U,hb,XQ h0 h1 h2 h3 h4 h5 h6 h7,aUp];simp only[AQ,Dz,Aj,hM,arT];cases ho:J4 m q u z I J L O (c.Text.toList==Bc.toList) (c.N==0) (c.Target==0) (!c.Thread) (c.Via.toList==Bc.toList) ((c.Allow.length:Int)==0) ((c.gy.length:Int)==0) (Nc c.Levels)with
 |false=>exact .ret _
 |true=>
  simp only[Dz,Aj];have j:=j ho;cases ha:eM (c.Text.toList==Bc.toList) (c.N==0) (c.Target==0) (!c.Thread) (c.Via.toList==Bc.toList) ((c.Allow.length:Int)==0) ((c.gy.length:Int)==0) (Nc c.Levels)with
  |false=>
   simp only[Aj,AQ];cases br<;>exact j
  |true=>
   simp only[Au,AQ];cases Z:kp==0 with
   |false=>
    cases br with
    |false=>exact j
    |true=>rw[Y rfl]at Z;cases Z
   |true=>
    cases br with
    |true=>exact .ret _
    |false=>
     have e:=hA (eq_of_beq Z) rfl;rw[e]at j;exact j
def Sj (M b:Int) (x r:Option Int):Option Int:=bif EO .and .i64 M b==0 then r else Gl x r
def ZL {S B R:Type} (body:(S→B→Option R)→S→B→Option R) (n:Nat) (a:S) (b:B):aQ body (n+1) a b=body (aQ body n) a b:=rfl
def an0 (M K:Int) (c:Bj):LK M K 0 c=Sj M 1 (QS K c) (Sj M 2 (O1 K c) (Sj M 4 (RF K c) (Sj M 8 (dL K c) (Sj M 16 (dD K c) (Sj M 32 (Vj K c)
 (bif EO .and .i64 M 64 != 0 then WC c.gy else bif EO .and .i64 M 128 != 0 then dS c.Levels else some 0)))))):=by
 have j:Af=9223372036854775801+1+1+1+1+1+1+1:=rfl;have m:∀k,XE M K k 0 c=Sj M 1 (QS K c) (k 1 c):=fun k=>rfl;have q:∀k,XE M K k 1 c=Sj M 2 (O1 K c) (k 2 c):=fun k=>rfl;have u:∀k,XE M K k 2 c=Sj M 4 (RF K c) (k 3 c):=fun k=>rfl;have z:∀k,XE M K k 3 c=Sj M 8 (dL K c) (k 4 c):=fun k=>rfl;have I:∀k,XE M K k 4 c=Sj M 16 (dD K c) (k 5 c):=fun k=>rfl;have J:∀k,XE M K k 5 c=Sj M 32 (Vj K c) (k 6 c):=fun k=>rfl;have L:∀k,XE M K k 6 c=(bif EO .and .i64 M 64 != 0 then(WC c.gy).bind fun x=>some x else bif EO .and .i64 M 128 != 0 then(dS c.Levels).bind fun x=>some x else some 0):=fun k=>rfl;unfold LK;rw[j,ZL,m,ZL,q,ZL,u,ZL,z,ZL,I,ZL,J,ZL,L,aCV,aCV]
section
variable {c : Bj} {K : Int}
def text0 (h:(c.Text.toList==Bc.toList)=true) (j:K≠12):XB K c=some 0:=by
 have m:(c.Text.size:Int)=0:=by rw[Fin]at h;exact eq_of_beq h
 unfold XB;rw[h,m,show(K==12)=false from by simpa using j];cases K==9<;>rfl
def UW (h:Bg K Jb=some false) (j:(!c.Thread)=true):TU K c=some 0:=by
 unfold TU;rw[h,show c.Thread=false from by simpa using j];rfl
def Qu (h:(c.Via.toList==Bc.toList)=true):Vk c=some 0:=by unfold Vk;rw[h];rfl
def JB {l:List ByteArray} (h:((l.length:Int)==0)=true):Oa l=some 0:=by
 rw[U6 h];unfold Oa aJn;show bg (wP []) Af 0=some 0;rw[Gs ([]:List ByteArray) BJ (fun _=>false) 0 (some 0) (fun k i h=>I8) (fun k=>rfl)];rfl
def Rz {l:Bd} (h:Nc l=true):VL l=some 0:=by
 unfold Nc at h;simp only[CW]at h;obtain⟨⟨⟨⟨⟨⟨⟨⟨j,m⟩,q⟩,u⟩,z⟩,I⟩,J⟩,L⟩,M⟩:=h
 have O:cD []=some 0:=by
  unfold cD aLz;show bg (uy []) Af 0=some 0;rw[Gs ([]:List ByteArray) BJ (fun _=>false) 0 (some 0) (fun k i h=>I8) (fun k=>rfl)];rfl
 have U:ZN []=some 0:=by
  unfold ZN aOO;show bg (aAi []) Af 0=some 0;rw[Gs ([]:List ByteArray) BJ (fun _=>false) 0 (some 0) (fun k i h=>I8) (fun k=>rfl)];rfl
 unfold VL;rw[U6 j,U6 m,O,U,eq_of_beq q,eq_of_beq u,eq_of_beq z,eq_of_beq I,eq_of_beq J,eq_of_beq L,eq_of_beq M];rfl
def ZX (m:Ju c):CJ (QS K c) (XB K c):=by
 have I:=m.text;obtain⟨q,u⟩:=aMr (s:=c.Text) AA;unfold QS aEC XB;rw[q,u];have e:=Fin c.Text;by_cases j:K=9
 ·subst j;cases h:(c.Text.toList==Bc.toList)with
  |false=>exact .ret _
  |true=>
   have z:(c.Text.size:Int)=0:=by rw[e]at h;exact eq_of_beq h
   rw[z];exact .ret _
 rw[show(K==9)=false from by simpa using j];cases K==12<;>cases(c.Text.toList==Bc.toList)<;>cases decide ((c.Text.size:Int)>32)<;>cases decide ((c.Text.size:Int)>400)<;>exact .ret _
def aqJ (j:Ju c):CJ (dD K c) (Vk c):=by
 have u:=j.via;obtain⟨m,q⟩:=YP (s:=c.Via) AA;unfold dD Vk;rw[m,q];exact CJ.bif (fun _=>.ret _) fun _=>CJ.bif (fun _=>.ret _) fun _=>.ret _
def aLH (h:Bg K Jb=some true) (j:(!c.Thread)=true):CJ (RF K c) (TU K c):=by
 unfold RF TU;rw[h,show c.Thread=false from by simpa using j];cases decide (c.Target<0)<;>cases c.Target==0<;>cases K != 11<;>exact .ret _
def aod (h:Bg K Jb=some true):CJ (Gl (RF K c) (dL K c)) (TU K c):=by
 unfold RF dL TU Gl;rw[h];cases decide (c.Target<0)<;>cases c.Target==0<;>cases K != 11<;>cases c.Thread<;>exact .ret _
def ahu (j:Ju c):CJ (Vj 6 c) (Oa c.Allow):=by
 have m:=j.allow;have :=aTt (l:=c.Allow) AA j.allows;show CJ ((WC c.Allow).bind fun x=>some x) _;rw[aCV];exact this
end
def uX (a b:Int):decide (a≥b)= !decide (a<b):=by by_cases h:a<b<;>simp[h]<;>omega
def qH (a b:Int):decide (a≤b)= !decide (a>b):=by by_cases h:a>b<;>simp[h]<;>omega
def apl {c:Bj} (hc:Ju c):CJ (Ky 1 c) (G7 1 c):=by
 have q:Bg 1 Jv=some false:=A8
 have u:Bg 1 KU=some false:=A8
 have m:Bg 1 Jb=some false:=A8
 have z:Bg 1 Lm=some false:=A8
 have I:Bg 1 Lu=some false:=A8
 have J:Bg 1 Lj=some false:=A8
 have L:Bg 1 MO=some false:=A8
 have O:Bg 1 MJ=some false:=A8
 refine frame (M:=0) (kp:=0) (br:=false) rfl rfl rfl rfl q u m z I J L O Nu (fun h=>GL) (fun h h'=>rfl) fun j=>?_;unfold J4 at j;simp only[KP,Kr,Ny,Fe,CW]at j;obtain⟨⟨⟨⟨⟨⟨⟨U,e1⟩,e2⟩,Y⟩,Z⟩,e5⟩,e6⟩,e7⟩:=j;have hL:LK 0 1 0 c=(some 0):=Pz
 rw[hL];unfold NW;rw[EH (text0 U BJ),EH (show Lp 1 c.N=some 0 from rfl),EH (UW m Y),EH (Qu Z),show((1:Int)==4)=false from rfl,Aj,EH (JB e5),EH (JB e6),Rz e7];exact .ret _
def anO (c:Bj):CJ (O1 2 c) (Lp 2 c.N):=by
 show CJ ((bif decide (c.N<0)then some true else some (decide (c.N>4))).bind fun j=>(bif j then some 2 else some 0)) ((bif decide (c.N≥0)then some (decide (c.N≤4))else some false).bind fun m=>(bif (!m)then some 2 else some 0));rw[uX,qH];cases decide (c.N<0)<;>cases decide (c.N>4)<;>exact .ret _
def asT {c:Bj} (m:Ju c):CJ (Ky 2 c) (G7 2 c):=by
 have u:Bg 2 Jv=some true:=A8
 have z:Bg 2 KU=some true:=A8
 have q:Bg 2 Jb=some false:=A8
 have I:Bg 2 Lm=some false:=A8
 have J:Bg 2 Lu=some true:=A8
 have L:Bg 2 Lj=some false:=A8
 have O:Bg 2 MO=some false:=A8
 have U:Bg 2 MJ=some false:=A8
 refine frame (M:=19) (kp:=18) (br:=false) rfl rfl rfl rfl u z q I J L O U Nu (fun h=>GL) (fun h h'=>GL) fun j=>?_;unfold J4 at j;simp only[KP,Kr,Ny,Fe,CW]at j;obtain⟨⟨⟨⟨e2,Y⟩,Z⟩,e6⟩,e7⟩:=j;have hL:LK 19 2 0 c=(Gl (QS 2 c) (Gl (O1 2 c) (Gl (dD 2 c) (some 0)))):=Pz
 rw[hL];unfold NW;rw[EH (UW q Y),show((2:Int)==4)=false from rfl,Aj,EH (JB Z),EH (JB e6),Rz e7];exact MF (ZX m) (MF (anO c) (MF (aqJ m) (.ret _)))
def akq {c:Bj} (j:Ju c):CJ (Ky 3 c) (G7 3 c):=by
 have u:Bg 3 Jv=some false:=A8
 have z:Bg 3 KU=some false:=A8
 have q:Bg 3 Jb=some false:=A8
 have I:Bg 3 Lm=some false:=A8
 have J:Bg 3 Lu=some false:=A8
 have L:Bg 3 Lj=some false:=A8
 have O:Bg 3 MO=some false:=A8
 have U:Bg 3 MJ=some true:=A8
 refine frame (M:=128) (kp:=128) (br:=false) rfl rfl rfl rfl u z q I J L O U Nu (fun h=>GL) (fun h h'=>GL) fun m=>?_;unfold J4 at m;simp only[KP,Kr,Ny,Fe,CW]at m;obtain⟨⟨⟨⟨⟨⟨Y,e1⟩,e2⟩,Z⟩,e4⟩,e5⟩,e6⟩:=m;have hL:LK 128 3 0 c=(dS c.Levels):=Pz
 rw[hL];unfold NW;rw[EH (text0 Y BJ),EH (show Lp 3 c.N=some 0 from rfl),EH (UW q Z),EH (Qu e4),show((3:Int)==4)=false from rfl,Aj,EH (JB e5),EH (JB e6)];exact an2 j.users j.kinds j.names
def ahO (c:Bj):CJ (O1 4 c) (Lp 4 c.N):=by
 show CJ ((bif decide (c.N<0)then some true else some (decide (c.N>3))).bind fun j=>(bif j then some 2 else some 0)) ((bif decide (c.N≥0)then some (decide (c.N≤3))else some false).bind fun m=>(bif (!m)then some 2 else some 0));rw[uX,qH];cases decide (c.N<0)<;>cases decide (c.N>3)<;>exact .ret _
def ard {c:Bj} (q:Ju c):CJ (Ky 4 c) (G7 4 c):=by
 have u:Bg 4 Jv=some false:=A8
 have z:Bg 4 KU=some true:=A8
 have m:Bg 4 Jb=some false:=A8
 have I:Bg 4 Lm=some false:=A8
 have J:Bg 4 Lu=some false:=A8
 have L:Bg 4 Lj=some true:=A8
 have O:Bg 4 MO=some false:=A8
 have U:Bg 4 MJ=some false:=A8
 refine frame (M:=34) (kp:=34) (br:=false) rfl rfl rfl rfl u z m I J L O U Nu (fun h=>GL) (fun h h'=>GL) fun j=>?_;unfold J4 at j;simp only[KP,Kr,Ny,Fe,CW]at j;obtain⟨⟨⟨⟨⟨Y,e2⟩,Z⟩,e4⟩,e6⟩,e7⟩:=j;have hL:LK 34 4 0 c=(Gl (O1 4 c) (Gl (Vj 4 c) (some 0))):=Pz
 rw[hL];unfold NW;rw[EH (text0 Y BJ),EH (UW m Z),EH (Qu e4),show((4:Int)==4)=true from rfl,Au];rw[aD7];exact MF (ahO c) (ahV q)
def atc (c:Bj):CJ (O1 5 c) (Lp 5 c.N):=by
 show CJ ((bif decide (c.N<0)then some true else some (decide (c.N>3))).bind fun j=>(bif j then some 2 else some 0)) ((bif decide (c.N≥0)then some (decide (c.N≤3))else some false).bind fun m=>(bif (!m)then some 2 else some 0));rw[uX,qH];cases decide (c.N<0)<;>cases decide (c.N>3)<;>exact .ret _
def aiw {c:Bj} (hc:Ju c):CJ (Ky 5 c) (G7 5 c):=by
 have q:Bg 5 Jv=some false:=A8
 have u:Bg 5 KU=some true:=A8
 have m:Bg 5 Jb=some false:=A8
 have z:Bg 5 Lm=some false:=A8
 have I:Bg 5 Lu=some false:=A8
 have J:Bg 5 Lj=some false:=A8
 have L:Bg 5 MO=some false:=A8
 have O:Bg 5 MJ=some false:=A8
 refine frame (M:=2) (kp:=2) (br:=false) rfl rfl rfl rfl q u m z I J L O Nu (fun h=>GL) (fun h h'=>GL) fun j=>?_;unfold J4 at j;simp only[KP,Kr,Ny,Fe,CW]at j;obtain⟨⟨⟨⟨⟨⟨U,e2⟩,Y⟩,Z⟩,e5⟩,e6⟩,e7⟩:=j;have hL:LK 2 5 0 c=(Gl (O1 5 c) (some 0)):=Pz
 rw[hL];unfold NW;rw[EH (text0 U BJ),EH (UW m Y),EH (Qu Z),show((5:Int)==4)=false from rfl,Aj,EH (JB e5),EH (JB e6),Rz e7];exact MF (atc c) (.ret _)
def amh {c:Bj} (j:Ju c):CJ (Ky 6 c) (G7 6 c):=by
 have z:Bg 6 Jv=some false:=A8
 have q:Bg 6 KU=some false:=A8
 have u:Bg 6 Jb=some false:=A8
 have I:Bg 6 Lm=some false:=A8
 have J:Bg 6 Lu=some false:=A8
 have L:Bg 6 Lj=some true:=A8
 have O:Bg 6 MO=some true:=A8
 have U:Bg 6 MJ=some false:=A8
 refine frame (M:=96) (kp:=96) (br:=false) rfl rfl rfl rfl z q u I J L O U Nu (fun h=>GL) (fun h h'=>GL) fun m=>?_;unfold J4 at m;simp only[KP,Kr,Ny,Fe,CW]at m;obtain⟨⟨⟨⟨⟨Y,e1⟩,e2⟩,Z⟩,e4⟩,e7⟩:=m;have hL:LK 96 6 0 c=(Gl (Vj 6 c) (WC c.gy)):=Pz
 rw[hL];unfold NW;rw[EH (text0 Y BJ),EH (show Lp 6 c.N=some 0 from rfl),EH (UW u Z),EH (Qu e4),show((6:Int)==4)=false from rfl,Aj,Rz e7];have q:=j.deny;rw[aD7];exact MF (ahu j) (aTt AA j.denies)
def ahe {c:Bj} (q:Ju c):CJ (Ky 7 c) (G7 7 c):=by
 have u:Bg 7 Jv=some true:=A8
 have z:Bg 7 KU=some false:=A8
 have m:Bg 7 Jb=some false:=A8
 have I:Bg 7 Lm=some false:=A8
 have J:Bg 7 Lu=some false:=A8
 have L:Bg 7 Lj=some false:=A8
 have O:Bg 7 MO=some false:=A8
 have U:Bg 7 MJ=some false:=A8
 refine frame (M:=1) (kp:=0) (br:=true) rfl rfl rfl rfl u z m I J L O U Nu (fun h=>rfl) (fun h h'=>dH) fun j=>?_;unfold J4 at j;simp only[KP,Kr,Ny,Fe,CW]at j;obtain⟨⟨⟨⟨⟨⟨e1,e2⟩,Y⟩,Z⟩,e5⟩,e6⟩,e7⟩:=j;have hL:LK 1 7 0 c=(Gl (QS 7 c) (some 0)):=Pz
 rw[hL];unfold NW;rw[EH (show Lp 7 c.N=some 0 from rfl),EH (UW m Y),EH (Qu Z),show((7:Int)==4)=false from rfl,Aj,EH (JB e5),EH (JB e6),Rz e7];exact MF (ZX q) (.ret _)
def at6 (c:Bj):CJ (O1 8 c) (Lp 8 c.N):=by
 show CJ ((bif decide (c.N<0)then some true else some (decide (c.N>1000000000))).bind fun j=>(bif j then some 2 else some 0)) ((bif decide (c.N≥0)then some (decide (c.N≤1000000000))else some false).bind fun m=>(bif (!m)then some 2 else some 0));rw[uX,qH];cases decide (c.N<0)<;>cases decide (c.N>1000000000)<;>exact .ret _
def arU {c:Bj} (hc:Ju c):CJ (Ky 8 c) (G7 8 c):=by
 have q:Bg 8 Jv=some false:=A8
 have u:Bg 8 KU=some true:=A8
 have m:Bg 8 Jb=some false:=A8
 have z:Bg 8 Lm=some false:=A8
 have I:Bg 8 Lu=some false:=A8
 have J:Bg 8 Lj=some false:=A8
 have L:Bg 8 MO=some false:=A8
 have O:Bg 8 MJ=some false:=A8
 refine frame (M:=2) (kp:=0) (br:=true) rfl rfl rfl rfl q u m z I J L O Nu (fun h=>rfl) (fun h h'=>dH) fun j=>?_;unfold J4 at j;simp only[KP,Kr,Ny,Fe,CW]at j;obtain⟨⟨⟨⟨⟨⟨U,e2⟩,Y⟩,Z⟩,e5⟩,e6⟩,e7⟩:=j;have hL:LK 2 8 0 c=(Gl (O1 8 c) (some 0)):=Pz
 rw[hL];unfold NW;rw[EH (text0 U BJ),EH (UW m Y),EH (Qu Z),show((8:Int)==4)=false from rfl,Aj,EH (JB e5),EH (JB e6),Rz e7];exact MF (at6 c) (.ret _)
def arb (c:Bj):CJ (O1 9 c) (Lp 9 c.N):=by
 show CJ ((bif (c.N==1)then some true else some (c.N==2)).bind fun j=>(bif j then some true else some (c.N==6)).bind fun m=>(bif m then some 0 else some 2)) ((bif (c.N==1)then some true else some (c.N==2)).bind fun q=>(bif q then some true else some (c.N==6)).bind fun u=>(bif (!u)then some 2 else some 0));cases c.N==1<;>cases c.N==2<;>cases c.N==6<;>exact .ret _
def aqi {c:Bj} (q:Ju c):CJ (Ky 9 c) (G7 9 c):=by
 have u:Bg 9 Jv=some true:=A8
 have z:Bg 9 KU=some true:=A8
 have m:Bg 9 Jb=some false:=A8
 have I:Bg 9 Lm=some false:=A8
 have J:Bg 9 Lu=some false:=A8
 have L:Bg 9 Lj=some false:=A8
 have O:Bg 9 MO=some false:=A8
 have U:Bg 9 MJ=some false:=A8
 refine frame (M:=3) (kp:=0) (br:=true) rfl rfl rfl rfl u z m I J L O U Nu (fun h=>rfl) (fun h h'=>dH) fun j=>?_;unfold J4 at j;simp only[KP,Kr,Ny,Fe,CW]at j;obtain⟨⟨⟨⟨⟨e2,Y⟩,Z⟩,e5⟩,e6⟩,e7⟩:=j;have hL:LK 3 9 0 c=(Gl (QS 9 c) (Gl (O1 9 c) (some 0))):=Pz
 rw[hL];unfold NW;rw[EH (UW m Y),EH (Qu Z),show((9:Int)==4)=false from rfl,Aj,EH (JB e5),EH (JB e6),Rz e7];exact MF (ZX q) (MF (arb c) (.ret _))
def arB (c:Bj):CJ (O1 10 c) (Lp 10 c.N):=by
 show CJ ((bif decide (c.N<1)then some true else some (decide (c.N>10000))).bind fun j=>(bif j then some 2 else some 0)) ((bif decide (c.N≥1)then some (decide (c.N≤10000))else some false).bind fun m=>(bif (!m)then some 2 else some 0));rw[uX,qH];cases decide (c.N<1)<;>cases decide (c.N>10000)<;>exact .ret _
def al2 {c:Bj} (hc:Ju c):CJ (Ky 10 c) (G7 10 c):=by
 have q:Bg 10 Jv=some false:=A8
 have u:Bg 10 KU=some true:=A8
 have m:Bg 10 Jb=some false:=A8
 have z:Bg 10 Lm=some false:=A8
 have I:Bg 10 Lu=some false:=A8
 have J:Bg 10 Lj=some false:=A8
 have L:Bg 10 MO=some false:=A8
 have O:Bg 10 MJ=some false:=A8
 refine frame (M:=2) (kp:=0) (br:=true) rfl rfl rfl rfl q u m z I J L O Nu (fun h=>rfl) (fun h h'=>dH) fun j=>?_;unfold J4 at j;simp only[KP,Kr,Ny,Fe,CW]at j;obtain⟨⟨⟨⟨⟨⟨U,e2⟩,Y⟩,Z⟩,e5⟩,e6⟩,e7⟩:=j;have hL:LK 2 10 0 c=(Gl (O1 10 c) (some 0)):=Pz
 rw[hL];unfold NW;rw[EH (text0 U BJ),EH (UW m Y),EH (Qu Z),show((10:Int)==4)=false from rfl,Aj,EH (JB e5),EH (JB e6),Rz e7];exact MF (arB c) (.ret _)
def aqu {c:Bj} (q:Ju c):CJ (Ky 11 c) (G7 11 c):=by
 have u:Bg 11 Jv=some true:=A8
 have z:Bg 11 KU=some false:=A8
 have m:Bg 11 Jb=some true:=A8
 have I:Bg 11 Lm=some true:=A8
 have J:Bg 11 Lu=some false:=A8
 have L:Bg 11 Lj=some false:=A8
 have O:Bg 11 MO=some false:=A8
 have U:Bg 11 MJ=some false:=A8
 refine frame (M:=13) (kp:=0) (br:=true) rfl rfl rfl rfl u z m I J L O U Nu (fun h=>rfl) (fun h h'=>dH) fun j=>?_;unfold J4 at j;simp only[KP,Kr,Ny,Fe,CW]at j;obtain⟨⟨⟨⟨e1,Y⟩,Z⟩,e6⟩,e7⟩:=j;have hL:LK 13 11 0 c=(Gl (QS 11 c) (Gl (RF 11 c) (Gl (dL 11 c) (some 0)))):=Pz
 rw[hL];unfold NW;rw[EH (show Lp 11 c.N=some 0 from rfl),EH (Qu Y),show((11:Int)==4)=false from rfl,Aj,EH (JB Z),EH (JB e6),Rz e7];rw[aD7,aD7];exact MF (ZX q) (aod m)
def amV {c:Bj} (q:Ju c):CJ (Ky 12 c) (G7 12 c):=by
 have u:Bg 12 Jv=some true:=A8
 have z:Bg 12 KU=some false:=A8
 have m:Bg 12 Jb=some true:=A8
 have I:Bg 12 Lm=some false:=A8
 have J:Bg 12 Lu=some false:=A8
 have L:Bg 12 Lj=some false:=A8
 have O:Bg 12 MO=some false:=A8
 have U:Bg 12 MJ=some false:=A8
 refine frame (M:=5) (kp:=0) (br:=true) rfl rfl rfl rfl u z m I J L O U Nu (fun h=>rfl) (fun h h'=>dH) fun j=>?_;unfold J4 at j;simp only[KP,Kr,Ny,Fe,CW]at j;obtain⟨⟨⟨⟨⟨e1,Y⟩,Z⟩,e5⟩,e6⟩,e7⟩:=j;have hL:LK 5 12 0 c=(Gl (QS 12 c) (Gl (RF 12 c) (some 0))):=Pz
 rw[hL];unfold NW;rw[EH (show Lp 12 c.N=some 0 from rfl),EH (Qu Z),show((12:Int)==4)=false from rfl,Aj,EH (JB e5),EH (JB e6),Rz e7];exact MF (ZX q) (MF (aLH m Y) (.ret _))
def agT {c:Bj} (q:Ju c):CJ (Ky 13 c) (G7 13 c):=by
 have u:Bg 13 Jv=some true:=A8
 have z:Bg 13 KU=some false:=A8
 have m:Bg 13 Jb=some true:=A8
 have I:Bg 13 Lm=some false:=A8
 have J:Bg 13 Lu=some false:=A8
 have L:Bg 13 Lj=some false:=A8
 have O:Bg 13 MO=some false:=A8
 have U:Bg 13 MJ=some false:=A8
 refine frame (M:=5) (kp:=0) (br:=true) rfl rfl rfl rfl u z m I J L O U Nu (fun h=>rfl) (fun h h'=>dH) fun j=>?_;unfold J4 at j;simp only[KP,Kr,Ny,Fe,CW]at j;obtain⟨⟨⟨⟨⟨e1,Y⟩,Z⟩,e5⟩,e6⟩,e7⟩:=j;have hL:LK 5 13 0 c=(Gl (QS 13 c) (Gl (RF 13 c) (some 0))):=Pz
 rw[hL];unfold NW;rw[EH (show Lp 13 c.N=some 0 from rfl),EH (Qu Z),show((13:Int)==4)=false from rfl,Aj,EH (JB e5),EH (JB e6),Rz e7];exact MF (ZX q) (MF (aLH m Y) (.ret _))
def asL {c:Bj} (q:Ju c):CJ (Ky 14 c) (G7 14 c):=by
 have u:Bg 14 Jv=some true:=A8
 have z:Bg 14 KU=some false:=A8
 have m:Bg 14 Jb=some true:=A8
 have I:Bg 14 Lm=some false:=A8
 have J:Bg 14 Lu=some false:=A8
 have L:Bg 14 Lj=some false:=A8
 have O:Bg 14 MO=some false:=A8
 have U:Bg 14 MJ=some false:=A8
 refine frame (M:=5) (kp:=4) (br:=false) rfl rfl rfl rfl u z m I J L O U Nu (fun h=>GL) (fun h h'=>GL) fun j=>?_;unfold J4 at j;simp only[KP,Kr,Ny,Fe,CW]at j;obtain⟨⟨⟨⟨⟨e1,Y⟩,Z⟩,e5⟩,e6⟩,e7⟩:=j;have hL:LK 5 14 0 c=(Gl (QS 14 c) (Gl (RF 14 c) (some 0))):=Pz
 rw[hL];unfold NW;rw[EH (show Lp 14 c.N=some 0 from rfl),EH (Qu Z),show((14:Int)==4)=false from rfl,Aj,EH (JB e5),EH (JB e6),Rz e7];exact MF (ZX q) (MF (aLH m Y) (.ret _))
def anV (k:Int) {c:Bj} (j:Ju c):CJ (Ky k c) (G7 k c):=by
 cases m:decide (k≥1)&&decide (k≤14)with
 |false=>
  obtain⟨q,k2⟩:=lH k;rw[m]at q k2
  have f:∀n:Int,1≤n→n≤14→(k==n)=false:=fun n u z=>by
   rw[Xb];rintro rfl;rw[IJ (show k≥1 from u),IJ z]at m;cases m
  have I:lU k=some 0:=by
   unfold lU pq qQ;rw[f 2 BJ BJ,f 3 BJ BJ,f 4 BJ BJ,f 5 BJ BJ,f 8 BJ BJ,f 10 BJ BJ,f 6 BJ BJ,f 7 BJ BJ,f 9 BJ BJ,f 11 BJ BJ,f 12 BJ BJ,f 13 BJ BJ,f 14 BJ BJ];rfl
  unfold Ky G7;rw[I,q,k2];exact .ret _
 |true=>
  simp only[CW,G8]at m;have :k=1∨k=2∨k=3∨k=4∨k=5∨k=6∨k=7∨k=8∨k=9∨k=10∨k=11∨k=12∨k=13∨k=14:=AA
  rcases this with rfl|rfl|rfl|rfl|rfl|rfl|rfl|rfl|rfl|rfl|rfl|rfl|rfl|rfl
  ·exact apl j
  ·exact asT j
  ·exact akq j
  ·exact ard j
  ·exact aiw j
  ·exact amh j
  ·exact ahe j
  ·exact arU j
  ·exact aqi j
  ·exact al2 j
  ·exact aqu j
  ·exact amV j
  ·exact agT j
  exact asL j
def Lr {α:Type} (p:α→α→Bool) (a b:List α):Bool:=((a.length:Int)==(b.length:Int))&& !((a.zip b).any fun x=> !p x.1 x.2)
def iL {α R:Type} {body:(Int→Option R)→Int→Option R} (p:α→α→Bool) (a b:List α) (ha:a.length≤1000) (j:a.length=b.length) (bad:R) (rest:Option R)
 (m:∀k (i:Nat) (h:i<a.length) (h':i<b.length),body k (i:Int)=bif !p a[i] b[i]then some bad else k (Ag ((i:Int)+1))) (q:∀k,body k (a.length:Int)=rest):bg body Af 0=bif (a.zip b).any fun x=> !p x.1 x.2 then some bad else rest:=by
 have hl:(a.zip b).length=a.length:=DU
 refine Gs (a.zip b) (by rw[hl];exact aM6 AA) (fun x=> !p x.1 x.2) bad rest (fun k i h=>?_) (fun k=>by rw[hl];exact q k);have u:i<a.length:=AA
 have z:i<b.length:=AA
 rw[m k i u z,aGN]
def len_eq {α:Type} {a b:List α} (h:((a.length:Int)==(b.length:Int))=true):a.length=b.length:=aNf
def UC (x y:ByteArray):Bool:=x.toList==y.toList
def Tt (x y:Ht):Bool:=x.User.toList==y.User.toList&&x.N==y.N
def SP (x y:Ii):Bool:=x.Kind==y.Kind&&x.N==y.N
def zo {a b:List ByteArray} (ha:a.length≤1000):nY a b=some (Lr UC a b)∧U8 a b=some (Lr UC a b):=by
 unfold nY U8 Lr;simp only[bne];cases h:((a.length:Int)==(b.length:Int))with
 |false=>exact⟨rfl,rfl⟩
 |true=>
  have j:=len_eq h;simp only[Dz,Aj,Fe];unfold aQf aCS
  rw[iL UC a b ha j false (some true) (fun k i h h'=>by simp only[aJP,dec_lt h,Au,Ba h,Ba h',AQ];rfl) (fun k=>by simp only[aJP,CX,Aj]),
   iL UC a b ha j false (some true) (fun k i h h'=>by simp only[aBH,dec_lt h,Au,Ba h,Ba h',AQ];rfl) (fun k=>aL5)]
  cases(a.zip b).any fun x=> !UC x.1 x.2<;>exact⟨rfl,rfl⟩
def ape {a b:List Ht} (ha:a.length≤1000):aAy a b=some (Lr Tt a b):=by
 unfold aAy Lr;simp only[bne];cases h:((a.length:Int)==(b.length:Int))with
 |false=>rfl
 |true=>
  have j:=len_eq h;simp only[Dz,Aj,Fe];unfold aQX;rw[iL Tt a b ha j false (some true) (fun k i h h'=>by simp only[aPk,dec_lt h,Au,Ba h,Ba h',AQ,aC9,Tt,Ny]) (fun k=>by simp only[aPk,CX,Aj])];cases(a.zip b).any fun x=> !Tt x.1 x.2<;>rfl
def asa {a b:List Ii} (ha:a.length≤1000):aDd a b=some (Lr SP a b):=by
 unfold aDd Lr;simp only[bne];cases h:((a.length:Int)==(b.length:Int))with
 |false=>rfl
 |true=>
  have j:=len_eq h;simp only[Dz,Aj,Fe];unfold adh;rw[iL SP a b ha j false (some true) (fun k i h h'=>by simp only[aO0,dec_lt h,Au,Ba h,Ba h',AQ,aAu,SP,Ny]) (fun k=>by simp only[aO0,CX,Aj])];cases(a.zip b).any fun x=> !SP x.1 x.2<;>rfl
def uN (a b:Bd):Bool:=(a.User==b.User)&&(a.Message==b.Message)&&(a.State==b.State)&&(a.fQ==b.fQ)&&(a.jK==b.jK)&&(a.mY==b.mY)&&(a.fC==b.fC)
def vW (a b:Bd):Bool:=Lr Tt a.Users b.Users&&(Lr SP a.Kinds b.Kinds&&uN a b)
def ant {a b:Bd} (j:a.Users.length≤1000) (m:a.Kinds.length≤1000):Wq a b=some (vW a b):=by
 unfold Wq vW Lr;simp only[bne];cases q:((a.Users.length:Int)==(b.Users.length:Int))with
 |false=>rfl
 |true=>
  cases u:((a.Kinds.length:Int)==(b.Kinds.length:Int))with
  |false=>simp
  |true=>
   have z:=len_eq q;have ek:=len_eq u
   have I:YM a b 0=bif (a.Kinds.zip b.Kinds).any fun x=> !SP x.1 x.2 then some false else some (uN a b):=by
    unfold YM;refine iL SP a.Kinds b.Kinds m ek false (some (uN a b)) (fun k i h h'=>?_) (fun k=>?_)
    ·simp only[eA,dec_lt h,Au,Ba h,Ba h',AQ,tK,SP,bne];cases a.Kinds[i].Kind==b.Kinds[i].Kind<;>cases a.Kinds[i].N==b.Kinds[i].N<;>rfl
    simp only[eA,CX,Aj,JW,AQ,Tv];rfl
   simp only[Dz,Aj,AQ,Fe];unfold qy
   rw[iL Tt a.Users b.Users j z false (YM a b 0) (fun k i h h'=>by
    simp only[mZ,dec_lt h,Au,Ba h,Ba h',AQ,qp,Tt,bne]
    cases a.Users[i].User.toList==b.Users[i].User.toList<;>cases a.Users[i].N==b.Users[i].N<;>rfl) (fun k=>by simp only[mZ,CX,Aj]),I]
   cases(a.Users.zip b.Users).any fun x=> !Tt x.1 x.2<;>cases(a.Kinds.zip b.Kinds).any fun x=> !SP x.1 x.2<;>rfl
def jC (a b:Bj):Bool:=(a.Text.toList==b.Text.toList)&&(a.N==b.N)&&(a.Target==b.Target)&&(a.Thread==b.Thread)&&(a.Via.toList==b.Via.toList)&&Lr UC a.Allow b.Allow&&Lr UC a.gy b.gy&&vW a.Levels b.Levels
def aR6 {a:Bj} (b:Bj) (ha:Qa a):St a b=some (jC a b):=by
 have j:=ha.allow;have m:=ha.deny;have q:=ha.users;have u:=ha.kinds;unfold St jC;rw[(zo (a:=a.Allow) AA).2,(zo (a:=a.gy) AA).2,ant (a:=a.Levels) AA AA];simp only[JW,AQ,Tv]
def amv {a:Bj} (b:Bj) (ha:Qa a):aDH a b=some (jC a b):=by
 have L:=ha.allow;have M:=ha.deny;have O:=ha.users;have U:=ha.kinds;unfold aDH jC vW uN;rw[(zo (a:=a.Allow) AA).1,(zo (a:=a.gy) AA).1,ape (a:=a.Levels.Users) AA,asa (a:=a.Levels.Kinds) AA];simp only[JW,AQ,Tv,ZA,bne];generalize(a.Text.toList==b.Text.toList)=j;generalize(a.N==b.N)=m;generalize(a.Target==b.Target)=q;generalize(a.Thread==b.Thread)=u;generalize(a.Via.toList==b.Via.toList)=z;generalize Lr UC a.Allow b.Allow=I;generalize Lr UC a.gy b.gy=J;generalize Lr Tt a.Levels.Users b.Levels.Users=Y;generalize Lr SP a.Levels.Kinds b.Levels.Kinds=Z;cases j<;>cases m<;>cases q<;>cases u<;>cases z<;>cases I<;>cases J<;>first|rfl|(simp only[Dz,Bool.or_self,Aj,Fe,Bool.and_self,Bool.and_assoc])
def arI {e:AB} (j:Vx e) (v:Bool):CJ (YD e v) ((U4 e v).bind fun m=>(bif (m != 0)then some m else(G7 e.Kind e.Content).bind fun I=>some I)):=by
 have h1:=j.room;have h2:=j.sender;have h3:=j.key;have h4:=j.prev;have h5:=j.auth;unfold YD U4;rw[aiD j,(vT (s:=e.Room) AA).2,(YP (s:=e.aP) AA).2,afF AA];cases v with
 |true=>exact .ret _
 |false=>
  simp only[Aj,AQ,bne,JW,ZA];generalize(Uw e.Room==0)=a;generalize(Qs e.aP==0)=b;generalize UM e.Kind e.Key=J;cases a with
  |false=>exact .ret _
  |true=>
   cases b with
   |false=>exact .ret _
   |true=>
    cases J with
    |false=>exact .ret _
    |true=>
     simp only[Dz,Bool.or_self,Bool.and_self,Aj,aAW];refine CJ.bif (fun _=>.ret _) fun _=>CJ.bif (fun _=>.ret _) fun hlen=>?_;simp only[iM,XC]at hlen;obtain⟨L,M,O⟩:=aTS (l:=e.bC) AA;obtain⟨U,Y,Z⟩:=aTS (l:=e.bD) AA;rw[M,Y,O,Z];simp only[AQ,JW,ZA,aAW];cases L with
     |false=>exact .ret _
     |true=>
     cases U with
     |false=>exact .ret _
     |true=>
     simp only[Dz,Aj]
     have hs:decide ((Ag ((e.bC.length:Int)+(e.bD.length:Int)))>0)=(decide ((e.bC.length:Int)>0)||decide ((e.bD.length:Int)>0)):=by
      rw[P8 AA AA];by_cases u:(e.bC.length:Int)>0
      ·rw[IJ u,IJ AA];rfl
      by_cases z:(e.bD.length:Int)>0
      ·rw[IJ z,IJ AA,KP]
      rw[IC u,IC z,IC AA];rfl
     rw[hs];generalize(bif ((e.bC.length:Int)==0)then !e.Kind==1 else false)=p;generalize(bif (e.Kind==1)then(decide ((e.bC.length:Int)>0)||decide ((e.bD.length:Int)>0))else false)=q;cases p with
     |true=>exact .ret _
     |false=>
      cases q with
      |true=>exact .ret _
      |false=>exact CJ.bind (anV e.Kind j.content) fun x=>.ret _
def apy {e:AB} (m:Vx e):CJ (aD2 e) (Zv e):=by
 have j:=arI m;unfold aD2 Zv xA;rw[show ZW e.Kind=Ui e.Kind from rfl];simp only[aAW,bne,JW,AQ];refine CJ.bif (fun _=>j _) fun _=>CJ.bif (fun _=>j _) fun _=>?_;have hs:∃b,Ui e.Kind=some b:=by unfold Ui;cases decide (e.Kind≥1)<;>cases decide (e.Kind≤10)<;>exact⟨_,rfl⟩
 obtain⟨b,q⟩:=hs;rw[q];simp only[AQ,aAW];refine CJ.bif (fun _=>j _) fun _=>CJ.bif (fun _=>?_) fun _=>j _;cases e.Kind==2 with
 |true=>exact j _
 |false=>exact j _
def aKZ {e:AB} (j:TB e):lQ e=some (lI e==e.Hash)∧aOo e=some (lI e==e.Hash):=by
 unfold lQ aOo;rw[(acj j).1,(acj j).2];exact⟨rfl,rfl⟩
def ajm {e:AB} (j:TB e) (v:Bool):CJ (bZ e v) (VZ e v):=by
 have I:e.aP.size≤2000:=j.sender;unfold bZ VZ;obtain⟨m,q⟩:=aEL j;obtain⟨u,z⟩:=gu (s:=e.aP) AA;rw[m,q,u,z];refine CJ.bif (fun _=>.ret _) fun _=>?_;simp only[AQ];refine CJ.bif (fun _=>.ret _) fun _=>?_;unfold aJ4 zn;show CJ (bif !((e.qc.Server.toList==(splitB e.aP (Jc e.aP)).2.1.toList)&&((e.qc.Sum==e.Id)&&true))then some 12 else some 0) _;simp only[bne];cases(e.qc.Server.toList==(splitB e.aP (Jc e.aP)).2.1.toList)<;>cases(e.qc.Sum==e.Id)<;>exact .ret _
def IY {a:Int} {c:Bool} {X:Option Int} (h:(bif c then some a else X)=some 0) (ha:a≠0):c=false∧X=some 0:=by
 cases c with
 |true=>exact absurd (CO h) ha
 |false=>exact⟨rfl,h⟩
def L6 {a:Int} {x:Option Int} (h:(bif a != 0 then some a else x)=some 0):a=0∧x=some 0:=by
 by_cases ha:a=0
 ·subst ha;exact⟨rfl,h⟩
 rw[show(a != 0)=true from by simpa using ha]at h;exact absurd (CO h) ha
def firsts {α R:Type} {body:(Int→Option R)→Int→Option R} {ok:R} (l:List α) (hl:l.length≤9223372036854775807) (P:Nat→Prop)
 (I:∀k (i:Nat),i<l.length→body k (i:Int)=some ok→P i∧k ((i+1:Nat):Int)=some ok) (u:Nat) (h:bg body Af (u:Int)=some ok):∀i,u≤i→i<l.length→P i:=by
 have key:∀n (i:Nat) m,i+n=l.length→n<m→bg body m (i:Int)=some ok→∀j,i≤j→j<l.length→P j:=by
  intro n
  induction n with
  |zero=>intro i m hi _ _ j q z;omega
  |succ n J=>
   intro i m hi O L j q z;obtain⟨m,rfl⟩:∃M,m=M+1:=⟨m-1,AA⟩
   obtain⟨a,b⟩:=I (bg body m) i AA L;rcases aNh q with rfl|q
   ·exact a
   exact J (i+1) m AA AA b j q z
 intro i q z;have U:Af=9223372036854775808:=rfl;exact key (l.length-u) u Af AA AA h i q z
def gq {α:Type} {l:List α} {Q:α→Prop} (h:∀i,0≤i→i<l.length→∀x,l[i]? =some x→Q x):∀x∈l,Q x:=fun x j=>by
 obtain⟨i,hi,rfl⟩:=GZ j;exact h i (EZ _) hi _ (D9 hi)
def anc (s:ByteArray) (a b:Nat) (j:b≤s.size):(s.extract a b).size=b-a:=by rw[aJw];omega
def aaD {l:List Int} {p:Int→Bool} (h:QI l p=true):l.length≤32:=(aQl h).2
def qN {s:ByteArray} {m:Int} (h:Gi s m=true):s.size≤100:=by
 unfold Gi TV at h;simp only[CW,G8]at h;have u:=h.2.1.1;have j:=aaD h.2.1.2
 have q:(BZ (Rk s)).length≤32:=by
  have :=h.2.2;unfold YI at this;simp only[CW]at this;exact aaD this.1.1
 rw[IK]at j q;unfold Un at j;unfold Rk at q;rw[anc _ _ _ AA]at j q;omega
def aRg {s:ByteArray} (hs:s.size≤9223372036854775807) (h:bH s=some 0):s.size≤100∧Gi s 64=true:=by
 rw[(YP hs).2]at h;have h:=CO h;unfold Qs at h;cases j:Gi s 64 with
 |true=>exact⟨qN j,rfl⟩
 |false=>rw[j]at h;cases h
def ajc {s:ByteArray} (hs:s.size≤9223372036854775807) (h:xI s=some 0):s.size≤100∧Gi s 33=true:=by
 rw[(vT hs).2]at h;have h:=CO h;unfold Uw at h;cases j:Gi s 33 with
 |true=>exact⟨qN j,rfl⟩
 |false=>rw[j]at h;cases h
def aUD {s:ByteArray} (hs:s.size≤9223372036854775807) (h:qY s=some 0):s.size≤100:=by
 rw[(aMr hs).2]at h;have h:=CO h;unfold aAq at h;split at h
 ·omega
 split at h
 ·cases h
 omega
def aSg {l:List ByteArray} (hl:l.length≤9223372036854775807) (hs:∀s∈l,s.size≤9223372036854775807) (h:Oa l=some 0):l.length≤100∧∀s∈l,s.size≤100:=by
 unfold Oa at h;obtain⟨q,h⟩:=IY h BJ;refine⟨by have :=Jg q;omega,gq (firsts l hl (fun i=>∀x,l[i]? =some x→x.size≤100) (fun k i hi j=>?_) 0 h)⟩;unfold wP at j;rw[Bv hi]at j;obtain⟨x,u,j⟩:=CY j;obtain⟨e,j⟩:=L6 j;subst e;rw[wrap_succ i AA]at j;exact⟨fun y m=>by rw[D9 hi]at m;obtain rfl:=CO m;exact aUD (hs _ (Df hi)) u,j⟩
def an8 {c:Bj} (hl:c.Allow.length≤9223372036854775807) (hs:∀s∈c.Allow,s.size≤9223372036854775807) (h:TG c=some 0):c.Allow.length≤100∧∀s∈c.Allow,s.size≤100:=by
 unfold TG at h;obtain⟨x,_,h⟩:=CY h;obtain⟨_,h⟩:=IY h BJ;obtain⟨I,h⟩:=IY h BJ;refine⟨by have :=Jg I;omega,gq (firsts c.Allow hl (fun i=>∀x,c.Allow[i]? =some x→x.size≤100) (fun k i hi j=>?_) 0 h)⟩;unfold Zz aEQ at j;rw[Bv hi]at j;obtain⟨x,J,j⟩:=CY j;obtain⟨e,j⟩:=IY j BJ;have m:x=0:=RZ
 subst m;refine⟨fun y q=>by rw[D9 hi]at q;obtain rfl:=CO q;exact(ajc (hs _ (Df hi)) J).1,?_⟩;cases u:decide ((i:Int)>0)with
 |true=>
  rw[u,Au]at j;obtain⟨y,_,j⟩:=CY j;obtain⟨z,_,j⟩:=CY j;obtain⟨_,j⟩:=IY j BJ
  rwa [wrap_succ i AA]at j
 |false=>
  rw[u,Aj,Aj]at j
  rwa [wrap_succ i AA]at j
def as4 {l:List Ht} (hl:l.length≤9223372036854775807) (hs:∀u∈l,u.User.size≤9223372036854775807) (h:cD l=some 0):l.length≤100∧∀u∈l,u.User.size≤100:=by
 unfold cD at h;obtain⟨O,h⟩:=IY h BJ;refine⟨by have :=Jg O;omega,gq (firsts l hl (fun i=>∀x,l[i]? =some x→x.User.size≤100) (fun k i hi m=>?_) 0 h)⟩
 have I:∀v,rC l (i:Int) k v=some 0→k ((i+1:Nat):Int)=some 0:=fun v j=>by
  unfold rC at j;obtain⟨_,j⟩:=IY j BJ;obtain⟨y,_,j⟩:=CY j;obtain⟨z,_,j⟩:=CY j;obtain⟨_,j⟩:=IY j BJ
  rwa [wrap_succ i AA]at j
 unfold uy at m;rw[Bv hi]at m;obtain⟨x,J,U⟩:=CY m;obtain⟨e,hd⟩:=IY U BJ;have q:x=0:=RZ
 rw[q]at J;refine⟨fun y L=>by rw[D9 hi]at L;obtain rfl:=CO L;exact(aRg (hs _ (Df hi)) J).1,?_⟩;cases M:decide ((i:Int)>0)with
 |true=>
  rw[M,Au]at hd;obtain⟨y,_,Y⟩:=CY hd;obtain⟨z,_,Z⟩:=CY Y;exact I _ Z
 |false=>
  rw[M,Aj]at hd;exact I _ hd
def ahT {l:List Ii} (h:ZN l=some 0):l.length≤100:=by
 unfold ZN at h;obtain⟨j,_⟩:=IY h BJ;have :=Jg j;omega
def empty_of {s:ByteArray} (h:(s.toList==Bc.toList)=true):s.size≤100:=by rw[Fin]at h;have :=eq_of_beq h;omega
def acF {l:Bd} (h:Nc l=true):l.Users=[]∧l.Kinds=[]:=by
 unfold Nc at h;simp only[CW]at h;exact⟨U6 h.1.1.1.1.1.1.1.1,U6 h.1.1.1.1.1.1.1.2⟩
def asc {k:Int} {c:Bj} (J:Ju c) (h:G7 k c=some 0):Qa c:=by
 unfold G7 at h;rw[(lH k).2,AQ]at h;obtain⟨x2,M,h⟩:=CY h;obtain⟨e2,h⟩:=IY h BJ;subst e2
 have I:Ub k c=some true:=by
  cases hk:(decide (k≥1)&&decide (k≤14))with
  |false=>rw[hk]at M;cases M
  |true=>
   rw[hk]at M;obtain⟨y,O,L⟩:=CY (show(Ub k c).bind (fun x4=>some (!x4))=some false from M);have L:=CO L;cases y with
   |true=>exact O
   |false=>cases L
 obtain⟨x6,_,h⟩:=CY h;obtain⟨x7,U,h⟩:=CY h;cases x7 with
 |true=>
  have L:eM (c.Text.toList==Bc.toList) (c.N==0) (c.Target==0) (!c.Thread) (c.Via.toList==Bc.toList) ((c.Allow.length:Int)==0) ((c.gy.length:Int)==0) (Nc c.Levels)=true:=by
   cases x6 with
   |false=>cases U
   |true=>rw[aUp]at U;exact CO U
  unfold eM at L;simp only[CW]at L;obtain⟨⟨⟨⟨⟨⟨⟨t1,_⟩,_⟩,_⟩,t5⟩,t6⟩,t7⟩,t8⟩:=L;have p:=acF t8;have q1:=empty_of t1;have q2:=empty_of t5;have a1:=U6 t6;have a2:=U6 t7;refine⟨?_,?_,?_,?_,AA,AA,?_,?_,?_⟩<;>first|rw[a1]|rw[a2]|rw[p.1]|rw[p.2]
  all_goals first|exact EZ _|exact fun x hx=>absurd hx Ez
 |false=>
  rw[Aj]at h;obtain⟨x11,j,h⟩:=CY h;obtain⟨e,h⟩:=L6 h;subst e;obtain⟨CG,_,h⟩:=CY h;obtain⟨_,h⟩:=L6 h;obtain⟨x15,_,h⟩:=CY h;obtain⟨_,h⟩:=L6 h;obtain⟨x17,q,h⟩:=CY h;obtain⟨e,h⟩:=L6 h;subst e
  have ht:c.Text.size≤2000:=by
   unfold XB at j;cases h9:k==9 with
   |true=>
    rw[h9,Au]at j;cases Z:(c.Text.toList==Bc.toList)with
    |true=>have :=empty_of Z;omega
    |false=>
     rw[Z,Aj]at j;obtain⟨y,O,j⟩:=CY j;obtain rfl:=CO j;have :=aUD J.text O;omega
   |false=>
    rw[h9,Aj]at j;obtain⟨y,_,j⟩:=CY j;obtain⟨_,j⟩:=IY j BJ;obtain⟨z,L,j⟩:=CY j;obtain⟨e,_⟩:=IY j BJ;subst e;cases hd:decide ((c.Text.size:Int)>400)with
    |true=>rw[hd]at L;cases L
    |false=>have :=Jg hd;omega
  have hv:c.Via.size≤2000:=by
   unfold Vk at q;cases Z:(c.Via.toList==Bc.toList)with
   |true=>have :=empty_of Z;omega
   |false=>
    rw[Z,Aj]at q;obtain⟨_,q⟩:=IY q BJ;obtain⟨y,O,q⟩:=CY q;obtain rfl:=CO q;have :=(aRg J.via O).1;omega
  have Y:∀{l:List ByteArray},(∀s∈l,s.size≤100)→∀s∈l,s.size≤2000:=fun h s hs=>Eh (h s hs) AA;cases h4:k==4 with
  |true=>
   have e4:=eq_of_beq h4;subst e4;rw[KE,Au]at h;obtain⟨y,O,h⟩:=CY h;obtain rfl:=CO h;obtain⟨r1,r2⟩:=an8 J.allow J.allows O;rw[XQ (K:=4) (c:=c) (show _=some false by kernel_rfl) (show _=some true by kernel_rfl) (show _=some false by kernel_rfl) (show _=some false by kernel_rfl) (show _=some false by kernel_rfl) (show _=some true by kernel_rfl) (show _=some false by kernel_rfl) (show _=some false by kernel_rfl)]at I;have ho:=CO I;unfold J4 at ho;simp only[CW,Kr]at ho;have d:=U6 ho.1.2;have p:=acF ho.2;refine⟨r1,?_,?_,?_,ht,hv,Y r2,?_,?_⟩<;>first|rw[d]|rw[p.1]|rw[p.2]
   all_goals first|exact EZ _|exact fun x hx=>absurd hx Ez
  |false=>
   rw[h4,Aj]at h;obtain⟨y1,hy1,h⟩:=CY h;obtain⟨e,h⟩:=L6 h;subst e;obtain⟨y2,hy2,h⟩:=CY h;obtain⟨e,h⟩:=L6 h;subst e;obtain⟨y3,m,h⟩:=CY h;obtain rfl:=CO h;unfold VL at m;obtain⟨z1,hz1,m⟩:=CY m;obtain⟨e,m⟩:=L6 m;subst e;obtain⟨z2,hz2,m⟩:=CY m;obtain⟨e,m⟩:=L6 m;subst e;obtain⟨a1,a2⟩:=aSg J.allow J.allows hy1;obtain⟨d1,d2⟩:=aSg J.deny J.denies hy2;obtain⟨u1,u2⟩:=as4 J.users J.names hz1;exact⟨a1,d1,u1,ahT hz2,ht,hv,Y a2,Y d2,fun u hu=>Eh (u2 u hu) AA⟩
structure yU (e:AB):Prop where
 kind:1≤e.Kind∧e.Kind≤14
 state:e.State=Gv e.Kind
 keyed:e.Key=Bc∨e.Kind=2∨e.Kind=9
 room:Gi e.Room 33=true
 sender:Gi e.aP 64=true
 key:UM e.Kind e.Key=true
 time:0≤e.Time∧e.Time≤1000000000
 depth:1≤e.Depth∧e.Depth≤100000
 prev:e.bC.length≤10∧Inc e.bC∧∀x∈e.bC,0≤x
 auth:e.bD.length≤8∧Inc e.bD∧∀x∈e.bD,0≤x
 short:e.bC=[]→e.Kind=1
 form:e.Kind=1→e.bC=[]∧e.bD=[]
 content:G7 e.Kind e.Content=some 0
 small:TB e
def afP {l:List Int} (hl:l.length≤9223372036854775807) (h:lF l=some true):Inc l∧∀x∈l,0≤x:=by
 unfold lF aP6 at h
 have q:=firsts l hl (fun i=>∀x,l[i]? =some x→0≤x∧∀y,0<i→l[i-1]? =some y→y<x) (fun k i hi m=>by
  have I:∀v,mV k (i:Int) v=some true→v=false∧k ((i+1:Nat):Int)=some true:=fun v J=>by
   unfold mV at J;cases v with
   |true=>cases J
   |false=>rw[Aj,wrap_succ i AA]at J;exact⟨rfl,J⟩
  unfold aEU at m;rw[Bv hi]at m;cases M:decide (l[i]<0)with
  |true=>rw[M,Au]at m;cases(I _ m).1
  |false=>
   have h0:=Jg M;rw[M,Aj]at m;cases L:decide ((i:Int)>0)with
   |false=>
    have hp0:=Jg L;rw[L,Aj]at m;refine⟨fun x u=>?_,(I _ m).2⟩;rw[D9 hi]at u;obtain rfl:=CO u;exact⟨AA,fun y h0 O=>AA⟩
   |true=>
    rw[L,Au,Ba hi,AQ,uq hi hl L,AQ]at m;obtain⟨U,Y⟩:=I _ m;refine⟨fun x u=>?_,Y⟩;rw[D9 hi]at u;obtain rfl:=CO u;refine⟨AA,fun y h0 O=>?_⟩;rw[D9 AA]at O;obtain rfl:=CO O
    have :=Jg U;omega) 0 h
 have z:∀i,(hi:i+1<l.length)→l[i]<l[i+1]:=fun i hi=>(q (i+1) AA hi _ (D9 hi)).2 _ AA (D9 AA);refine⟨?_,fun x u=>?_⟩
 ·rw[Inc,Jq];intro i j hi I Z
  induction j with
  |zero=>omega
  |succ j ih=>
   have U:=z j I;rcases aNh (Nat.le_of_lt_succ Z)with rfl|Y
   ·exact U
   have :=ih AA Y;omega
 obtain⟨i,hi,rfl⟩:=GZ u;exact(q i (EZ _) hi _ (D9 hi)).1
def pK {c:Bool} {X:Option Bool} {f:Bool→Option Int} {v:Int} (j:f true≠some v) (h:((bif c then some true else X).bind f)=some v):c=false∧X.bind f=some v:=by
 cases c with
 |true=>exact absurd h j
 |false=>exact⟨rfl,h⟩
def ahE {e:AB} (M:Vx e) (h:Zv e=some 0):yU e:=by
 unfold Zv at h;obtain⟨x1,j,h⟩:=CY h;obtain⟨e1,h⟩:=L6 h;subst e1;obtain⟨x3,h3,h⟩:=CY h;obtain rfl:=CO h;have J:=asc M.content h3
 have O:∀v,U4 e v=some 0→v=false:=fun v hv=>by
  cases v with
  |true=>cases hv
  |false=>rfl
 have hj2:U4 e false=some 0∧(1≤e.Kind∧e.Kind≤14)∧e.State=Gv e.Kind∧(e.Key=Bc∨e.Kind=2∨e.Kind=9):=by
  unfold xA at j;cases Z:decide (e.Kind<1)with
  |true=>rw[Z,Au]at j;cases O _ j
  |false=>
   cases c2:decide (e.Kind>14)with
   |true=>rw[Z,c2,Aj,Au]at j;cases O _ j
   |false=>
    rw[Z,c2,Aj,Aj,aCb,AQ]at j;have k1:=Jg Z;have k2:=Jg c2;cases c3:(e.State==Gv e.Kind)with
    |false=>rw[c3,IU,Au]at j;cases O _ j
    |true=>
     rw[c3,Dz,Aj]at j;refine⟨?_,⟨AA,AA⟩,eq_of_beq c3,?_⟩
     all_goals cases c4:(e.Key.toList==Bc.toList)with
     |true=>rw[c4,Dz,Aj]at j;first|exact j|exact .inl (toList_inj (eq_of_beq c4))
     |false=>
      rw[c4,IU,Au]at j;cases c5:(e.Kind != 2)with
      |false=>rw[c5,Aj]at j;first|exact j|exact .inr (.inl (by simpa using c5))
      |true=>
       rw[c5,Au]at j;have :=O _ j;rw[this]at j
       first|exact j|exact .inr (.inr aIW)
 clear j O;obtain⟨j,hk,hst,U⟩:=hj2;unfold U4 at j;rw[Aj,(vT (s:=e.Room) M.room).2,(YP (s:=e.aP) M.sender).2,afF M.key]at j;simp only[AQ]at j
 have u:Gi e.Room 33=true:=by
  cases L:Gi e.Room 33 with
  |true=>rfl
  |false=>unfold Uw at j;rw[L]at j;cases j
 have r0:Uw e.Room=0:=by unfold Uw;rw[u];rfl
 rw[r0,Ln,Aj,AQ]at j
 have z:Gi e.aP 64=true:=by
  cases L:Gi e.aP 64 with
  |true=>rfl
  |false=>unfold Qs at j;rw[L]at j;cases j
 have u0:Qs e.aP=0:=by unfold Qs;rw[z];rfl
 rw[u0,Ln,Aj,AQ]at j
 have m:UM e.Kind e.Key=true:=by
  cases L:UM e.Kind e.Key with
  |true=>rfl
  |false=>rw[L]at j;cases j
 rw[m,Dz,Aj]at j;obtain⟨t1,j⟩:=pK o7 j;rw[AQ]at j;obtain⟨t2,j⟩:=pK o7 j;rw[AQ]at j;obtain⟨t3,j⟩:=pK o7 j;rw[AQ]at j;obtain⟨t4,j⟩:=IY j BJ;obtain⟨t5,j⟩:=pK o7 j;rw[AQ]at j;obtain⟨t6,j⟩:=IY j BJ;obtain⟨x21,h21,j⟩:=CY j;obtain⟨t7,j⟩:=pK o7 j;rw[Option.bind_assoc]at j;obtain⟨x24,h24,j⟩:=CY j;rw[AQ]at j;obtain⟨t8,j⟩:=IY j BJ;obtain⟨Vz,Y,j⟩:=CY j;obtain⟨t9,j⟩:=IY j BJ;obtain⟨x29,I,j⟩:=CY j;obtain⟨t10,_⟩:=IY j BJ;have e21:x21=true:=by simpa using t7
 have e24:x24=true:=by simpa using t8
 subst e21 e24 t9 t10;have p1:=Jg t5;have p2:=Jg t6;have r1:=afP M.prev h21;have r2:=afP M.auth h24;have d1:=Jg t1;have d2:=Jg t2;have d3:=Jg t3;have d4:=Jg t4
 have hkz:e.Key.size≤2000:=by
  rcases U with h|h|h
  ·rw[h];exact EZ _
  ·unfold UM at m;rw[CV h]at m;have :Qs e.Key=0:=Y0
   unfold Qs at this;cases L:Gi e.Key 64 with
   |true=>have :=qN L;omega
   |false=>rw[L]at this;cases this
  unfold UM at m;rw[Cc AA,CV h]at m;unfold tC at m;simp only[CW,G8]at m;have :=m.1.2;omega
 have z1:=qN u;have z2:=qN z;refine⟨hk,hst,U,u,z,m,⟨AA,AA⟩,⟨AA,AA⟩,⟨AA,r1⟩,⟨AA,r2⟩,fun hp=>?_,fun hk1=>?_,h3,⟨?_,?_,J.allow,J.deny,J.users,J.kinds,?_,?_,hkz,J.text,J.via,EZ _,J.allows,J.denies,J.names⟩⟩
 ·rw[hp]at Y;have :=CO Y;simpa using this
 ·rw[hk1]at I;have I:((bif decide ((e.bC.length:Int)>0)then some true else some (decide ((e.bD.length:Int)>0))).bind fun x31=>some x31)=some false:=I;cases q:decide ((e.bC.length:Int)>0)with
  |true=>rw[q]at I;cases I
  |false=>
   rw[q]at I;have q2:=CO I;have :=Jg q;have :=Jg q2;exact⟨Gg AA,Gg AA⟩
 ·show e.bC.length≤40;omega
 ·show e.bD.length≤40;omega
 ·show e.Room.size≤2000;omega
 show e.aP.size≤2000;omega
def aPu {e:AB} (J:Vx e):∃c,aGQ e=some c∧Ty e=some c∧(c=0→yU e∧Fl e):=by
 obtain⟨x,z,m⟩:=apy J;unfold aGQ Ty;rw[z,m,AQ,AQ];cases u:x != 0 with
 |true=>exact⟨x,rfl,rfl,fun h=>by subst h;cases u⟩
 |false=>
  obtain rfl:x=0:=MR
  have L:=ahE J m;have hs:=L.small;have I:e.aP.size≤2000:=hs.sender;rw[Aj,Aj,(aKZ hs).1,(aKZ hs).2,ab2 _ hs.content,aMS];simp only[AQ];rw[amv _ hs.content,aR6 _ hs.content];simp only[AQ]
  have key:∀v,∃c,bZ e v=some c∧VZ e v=some c∧(c=0→yU e∧Fl e):=fun v=>by
   obtain⟨c,j,O⟩:=ajm hs v;refine⟨c,j,O,fun U=>⟨L,?_⟩⟩;subst U;unfold bZ at j;obtain⟨_,j⟩:=IY j BJ;rw[(aEL hs).1,AQ]at j;obtain⟨_,j⟩:=IY j BJ;rw[(gu (s:=e.aP) AA).1,AQ]at j;obtain⟨M,_⟩:=IY (show(bif !((e.qc.Server.toList==(splitB e.aP (Jc e.aP)).2.1.toList)&&((e.qc.Sum==e.Id)&&true))then some 12 else some 0)=some (0:Int)from j) BJ
   have Y:e.qc.Server=(splitB e.aP (Jc e.aP)).2.1:=by
    cases q:(e.qc.Server.toList==(splitB e.aP (Jc e.aP)).2.1.toList)with
    |true=>exact toList_inj (eq_of_beq q)
    |false=>rw[q]at M;cases M
   have Z:=(akX e.aP I).2.2;exact⟨hs.prev,hs.auth,hs.allow,hs.deny,hs.users,hs.kinds,hs.room,hs.sender,hs.key,hs.text,hs.via,by rw[Y];exact Z,hs.allows,hs.denies,hs.names⟩
  cases(!(lI e==e.Hash))with
  |true=>rw[Au,Au];exact key _
  |false=>rw[Aj,Aj];exact key _
def aP4 {f g:(Int→Option Int)→Int→Option Int} (N lo:Nat) (hs:∀k k' (i:Nat),lo≤i→i<N→CJ (k ((i+1:Nat):Int)) (k' ((i+1:Nat):Int))→CJ (f k (i:Int)) (g k' (i:Int))) (z:∀k k',CJ (f k (N:Int)) (g k' (N:Int))):
 ∀n (i:Nat),lo≤i→i+n=N→∀m j,n<m→n<j→CJ (bg f m (i:Int)) (bg g j (i:Int)):=by
 intro n
 induction n with
 |zero=>
  intro i u hi m j I J;obtain⟨m,rfl⟩:∃q,m=q+1:=⟨m-1,AA⟩
  obtain⟨j,rfl⟩:∃q,j=q+1:=⟨j-1,AA⟩
  have :i=N:=AA
  subst this;exact z _ _
 |succ n L=>
  intro i u hi m j I J;obtain⟨m,rfl⟩:∃q,m=q+1:=⟨m-1,AA⟩
  obtain⟨j,rfl⟩:∃q,j=q+1:=⟨j-1,AA⟩
  exact hs _ _ i u AA (L (i+1) AA AA m j AA AA)
def lasts {R:Type} {body:(Int→Option R)→Int→Option R} {ok:R} (N:Nat) (U:N≤9223372036854775807) (P:Nat→Prop)
 (L:∀k (i:Nat),i<N→body k (i:Int)=some ok→P i∧k ((i+1:Nat):Int)=some ok) (q:Nat) (Y:q≤N) (h:bg body Af (q:Int)=some ok):(∀i,q≤i→i<N→P i)∧∃k,body k (N:Int)=some ok:=by
 have key:∀n (i:Nat) m,i+n=N→n<m→bg body m (i:Int)=some ok→(∀j,i≤j→j<N→P j)∧∃k,body k (N:Int)=some ok:=by
  intro n
  induction n with
  |zero=>
   intro i m hi M z;obtain⟨m,rfl⟩:∃I,m=I+1:=⟨m-1,AA⟩
   have :i=N:=AA
   subst this;exact⟨fun j u J=>AA,_,z⟩
  |succ n O=>
   intro i m hi M z;obtain⟨m,rfl⟩:∃I,m=I+1:=⟨m-1,AA⟩
   obtain⟨a,b⟩:=L (bg body m) i AA z;obtain⟨c,d⟩:=O (i+1) m AA AA b;refine⟨fun j u J=>?_,d⟩;rcases aNh u with rfl|u
   ·exact a
   exact c j u J
 have Z:Af=9223372036854775808:=rfl;exact key (N-q) q Af AA AA h
def aen {α:Type} {l:List α} {i:Nat} (h:i+1<l.length) (hl:l.length≤1000000):Ae l (Ag (((i+1:Nat):Int)-1))=some l[i]:=by
 rw[show Ag (((i+1:Nat):Int)-1)=(i:Int) by rw[aA];omega,Ba AA]
def aqf {l:List AB} (J:∀e∈l,Vx e) (hl:l.length≤1000):CJ (Nr l) (NZ l):=by
 by_cases z:l=[]
 ·subst z;exact⟨0,A8,A8⟩
 have m:0<l.length:=xY.2 z;have L:Af=9223372036854775807+1:=rfl
 have M:CJ (aEn l 1) (dN l 1):=by
  unfold aEn dN;refine aP4 l.length 1 (fun k k' i u hi q=>?_) (fun k k'=>?_) (l.length-1) 1 (Dk _) AA Af Af AA AA
  ·obtain⟨i,rfl⟩:∃j,i=j+1:=⟨i-1,AA⟩
   unfold aG9 Ug;rw[Bv hi,dec_lt hi,Au,aen hi AA,AQ,AQ,Ba hi,AQ,wrap_succ (i+1) AA];show CJ (bif decide (l[i+1].Id≤l[i].Id)then some 8 else k _) (bif decide (l[i].Id≥l[i+1].Id)then some 8 else k' _);exact CJ.bif (fun _=>.ret _) fun _=>q
  unfold aG9 Ug;rw[CX];exact .ret _
 have I:Ae l 0=some l[0]:=Ba (i:=0) m
 have O:CJ (qL l 0) (kT l 1):=by
  have U:∀k,Z7 l k 0=k 1:=fun k=>by
   unfold Z7;rw[show decide ((0:Int)<(l.length:Int))=true by simpa using m,Au,I,AQ,AQ,KE];rfl
  have Y:qL l 0=bg (Z7 l) 9223372036854775807 1:=by
   unfold qL;rw[L];exact U _
  rw[Y];unfold kT;refine aP4 l.length 1 (fun k k' i u hi q=>?_) (fun k k'=>?_) (l.length-1) 1 (Dk _) AA _ Af AA AA
  ·unfold Z7 Tj;rw[Bv hi,Bv hi,I,AQ,AQ,wrap_succ i AA];exact CJ.bif (fun _=>.ret _) fun _=>q
  unfold Z7 Tj;rw[CX];exact M
 unfold Nr NZ;rw[IC (show ¬(l.length:Int)>2000 by omega),Aj,Aj];unfold aLx nX;refine aP4 l.length 0 (fun k k' i _ hi q=>?_) (fun k k'=>?_) l.length 0 (Dk _) AA Af Af AA AA
 ·unfold uj Yl;obtain⟨c,Z,c2,_⟩:=aPu (J _ (Df hi));rw[Bv hi,Bv hi,Z,c2,AQ,AQ,wrap_succ i AA];exact CJ.bif (fun _=>.ret _) fun _=>q
 unfold uj Yl;rw[CX];exact O
structure P9 (l:List AB):Prop where
 ev:∀e∈l,yU e∧Fl e
 room:∀x∈l,∀y∈l,x.Room=y.Room
 inc:Inc (l.map (·.Id))
def apH {f:Nat→Int}:∀(n i j:Nat),(∀k,i≤k→k<j→f k<f (k+1))→i+n=j→0<n→f i<f j:=by
 intro n
 induction n with
 |zero=>intro i j _ _ h;omega
 |succ n u=>
  intro i j h m _;rcases YB n with q|q
  ·subst q;rw[←m];exact h i (Dk _) AA
  have a:=h i (Dk _) AA;have b:=u (i+1) j (fun k I z=>h k AA z) AA q;omega
def arl {l:List AB} (hw:∀e∈l,Vx e) (hl:l.length≤1000) (h:Nr l=some 0):P9 l:=by
 unfold Nr at h;rw[IC (show ¬(l.length:Int)>2000 by omega),Aj]at h;unfold aLx at h
 obtain⟨p1,k1,h⟩:=lasts l.length AA (fun i=>∀x,l[i]? =some x→yU x∧Fl x) (fun k i hi m=>by
  unfold uj at m;obtain⟨c,c1,_,c3⟩:=aPu (hw _ (Df hi));rw[Bv hi,c1,AQ,wrap_succ i AA]at m;obtain⟨e,m⟩:=L6 m
  exact⟨fun x u=>by rw[D9 hi]at u;obtain rfl:=CO u;exact c3 e,m⟩) 0 (EZ _) h
 unfold uj at h;rw[CX,Aj]at h;unfold qL at h
 obtain⟨p2,k2,h⟩:=lasts l.length AA (fun i=>∀x y,l[i]? =some x→l[0]? =some y→x.Room=y.Room) (fun k i hi m=>by
  unfold Z7 at m;have g0:Ae l 0=some l[0]:=Ba (i:=0) AA;rw[Bv hi,g0,AQ,wrap_succ i AA]at m;obtain⟨e,m⟩:=IY m BJ;refine⟨fun x y u I=>?_,m⟩;rw[D9 hi]at u;rw[D9 AA]at I;obtain rfl:=CO u;obtain rfl:=CO I
  exact toList_inj RZ) 0 (EZ _) h
 unfold Z7 at h;rw[CX,Aj]at h;refine⟨gq p1,fun x u y I=>?_,?_⟩
 ·have key:∀x∈l,∀y,l[0]? =some y→x.Room=y.Room:=gq fun i hi L x u y I=>p2 i hi L x y u I;have h0:0<l.length:=aJC u;have U:l[0]? =some l[0]:=D9 h0;rw[key x u _ U,key y I _ U]
 by_cases Y:l=[]
 ·subst Y;exact .nil
 have J:0<l.length:=xY.2 Y;unfold aEn at h
 obtain⟨p3,_⟩:=lasts l.length AA (fun i=>∀j x y,i=j+1→l[i]? =some x→l[j]? =some y→y.Id<x.Id) (fun k i hi m=>by
  unfold aG9 at m;rw[Bv hi]at m;obtain⟨z,Z,m⟩:=CY m;obtain⟨e,m⟩:=IY m BJ;rw[wrap_succ i AA]at m;refine⟨fun j x y M u I=>?_,m⟩;subst M;rw[aen hi AA]at Z;rw[D9 hi]at u;rw[D9 AA]at I;obtain rfl:=CO u;obtain rfl:=CO I;obtain rfl:=CO Z
  have :=Jg e;omega) 1 J h
 rw[Inc,aIK,Jq];intro i j hi M hij
 have :=apH (f:=fun q=>(l.getD q F6).Id) (j-i) i j (fun k h1 h2=>by
  have O:k+1<l.length:=AA
  have :=p3 (k+1) AA O k l[k+1] l[k] rfl (D9 O) (D9 AA)
  simpa[List.getD,D9 O,D9 (show k<l.length by omega)]using this) AA AA
 simpa[List.getD,D9 hi,D9 M]using this
def P9.ok {l:List AB} (h:P9 l) (hl:l.length≤100):Jo l:=⟨hl,fun e j=>(h.ev e j).2,Rq h.inc,fun e j=>(h.ev e j).1.depth⟩
def aPE {l:List AB} (j:∀e∈l,Vx e) (hl:l.length≤100):∃c,Nr l=some c∧NZ l=some c∧(c=0→P9 l):=by
 obtain⟨c,m,q⟩:=aqf j AA;exact⟨c,m,q,fun h=>arl j AA (by rw[m,h])⟩
end Go.Proofs.YtldfpencimjjlaaGreat
end
