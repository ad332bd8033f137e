/- Part 6 of what the laws' proofs lean on: states of the walk, typed functions of the program and their laws (short forms written by wip/shrink.py; no condition). -/
import Derived.Test.YtkkdimcnpacjhaaGreatRf5
set_option linter.defProp false
set_option linter.unnecessarySimpa false
set_option linter.unusedVariables false
set_option linter.unusedSimpArgs false
section
namespace Go.Proofs.YtkkdimcnpacjhaaGreat
open Go.RowKit
def aIO {R A α:Type} {body:(Int→A→Option R)→Int→A→Option R} (l:List α) (hl:l.length<Aj) (p:α→Bool) (g:Nat→Option R) (rest:Option R) (a0:A)
 (u:∀k (i:Nat) (h:i<l.length),body k (i:Int) a0=bif p l[i]then g i else k (Ai ((i:Int)+1)) a0) (z:∀k,body k (l.length:Int) a0=rest):
 aT body Aj 0 a0=if l.findIdx p<l.length then g (l.findIdx p)else rest:=by
 have J:Aj=9223372036854775808:=rfl
 have key:∀n (i:Nat),i+n=l.length→∀m,n<m→aT body m (i:Int) a0=if(l.drop i).findIdx p+i<l.length then g ((l.drop i).findIdx p+i)else rest:=by
  intro n
  induction n with
  |zero=>
   intro i hi m hm;obtain⟨m,rfl⟩:∃q,m=q+1:=⟨m-1,AA⟩
   have :i=l.length:=AA
   subst this;show body (aT body m) _ _=_;rw[z,P8,CU Aw]
  |succ n I=>
   intro i hi m hm;obtain⟨m,rfl⟩:∃q,m=q+1:=⟨m-1,AA⟩
   have j:i<l.length:=AA
   show body (aT body m) _ _=_;rw[u _ i j,wrap_succ i AA,I (i+1) AA m AA,Jq j,Qr];cases p l[i]with
   |true=>simp only[BD,Ij];rw[CP j]
   |false=>
    simp only[Am];rw[show(l.drop (i+1)).findIdx p+(i+1)=(l.drop (i+1)).findIdx p+1+i by omega]
 have :=key l.length 0 AA Aj hl;simpa using this
def Gt (l:List AB):AB×Bool:=match l.find? fun x=>x.Kind==1 with |some x=>(x,true)|none=>(Bh,false)
def aQ6 (l:List AB) (p:AB→Bool):(if l.findIdx p<l.length then(some (match l[l.findIdx p]? with |some x=>(x,true)|none=>(Bh,false)))else some (Bh,false))=some (match l.find? p with |some x=>(x,true)|none=>(Bh,false)):=by
 rw[JK];by_cases h:l.findIdx p<l.length
 ·rw[CP h]
 rw[CU h,I8 AA]
def aYC (l:List AB) (hl:l.length≤1000):nI l=some (Gt l):=by
 unfold nI aSP;rw[aIO l (fuel_lt AA) (fun x=>x.Kind==1) (fun i=>some (match l[i]? with |some x=>(x,true)|none=>(Bh,false))) (some (Bh,false))]
 ·exact aQ6 l _
 ·intro k i h;unfold aPB;rw[Bl h,DC h]
 intro k;unfold aPB;rw[DZ]
def aaZ (l:List AB) (hl:l.length≤1000):aAR l=some (Gt l):=by
 unfold aAR aXA;rw[aIO l (fuel_lt AA) (fun x=>x.Kind==1) (fun i=>some (match l[i]? with |some x=>(x,true)|none=>(Bh,false))) (some (Bh,false))]
 ·exact aQ6 l _
 ·intro k i h;unfold aMq;rw[Bl h,BZ h,DC h];rfl
 intro k;unfold aMq;rw[DZ]
def Gp (u:ByteArray) (x:AB):Bool:=x.Kind==2&&decide (x.Key=u)
def Gj (l:List AB) (u:ByteArray):Int:=match l.find? (Gp u)with |some x=>x.Content.N|none=>0
def og (u:ByteArray) (x:AB):(bif (x.Kind==2)then some (x.Key.toList==u.toList)else some false)=some (Gp u x):=by
 unfold Gp;rw[IB];cases x.Kind==2<;>rfl
def aHF (l:List AB) (u:ByteArray) (hl:l.length≤1000):eM l u=some (Gj l u):=by
 unfold eM aUv Gj;rw[J6 l (fuel_lt AA) (Gp u) (fun i=>some (match l[i]? with |some x=>x.Content.N|none=>0)) (some 0)]
 ·rw[JK];by_cases h:l.findIdx (Gp u)<l.length
  ·rw[CP h]
  rw[CU h,I8 AA]
 ·intro k i h;unfold aK8;rw[Bl h,BZ h,DC h];simp only[AP];rw[og];rfl
 intro k;unfold aK8;rw[DZ]
def aM4 (l:List AB) (u:ByteArray) (hl:l.length≤1000):oK l u=some (Gj l u):=by
 unfold oK aWO Gj;rw[J6 l (fuel_lt AA) (Gp u) (fun i=>some (match l[i]? with |some x=>x.Content.N|none=>0)) (some 0)]
 ·rw[JK];by_cases h:l.findIdx (Gp u)<l.length
  ·rw[CP h]
  rw[CU h,I8 AA]
 ·intro k i h;unfold aKB;rw[Bl h,BZ h,DC h];simp only[AP];rw[og];rfl
 intro k;unfold aKB;rw[DZ]
def Ry (e:AB) (l:List AB):Bool:=
 (Gt l).2&&(e.aZ.length==1&&(e.aZ.getD 0 0==(Gt l).1.Id&&(decide (e.aU=(Gt l).1.aU)&&(decide (e.Key=(Gt l).1.aU)&&(e.Content.N==3&& !l.any (Gp e.Key))))))
def afd (e:AB) (l:List AB) (hl:l.length≤1000):zk e l=some (Ry e l):=by
 have z:aKH l e 0=some (!l.any (Gp e.Key)):=by
  unfold aKH;rw[Gi l (fuel_lt AA) (Gp e.Key) false (some true)]
  ·cases l.any (Gp e.Key)<;>rfl
  ·intro k i h;unfold aPi;rw[Bl h,og];rfl
  intro k;unfold aPi;rw[DZ]
 unfold zk Ry XQ;rw[aYC l hl];simp only[AP];rw[z,IB,IB];cases(Gt l).2 with
 |false=>rfl
 |true=>
  by_cases hp:e.aZ.length=1
  ·have u:0<e.aZ.length:=AA
   have j:((e.aZ.length:Int) != 1)=false:=by rw[hp];rfl
   have q:(e.aZ.length==1)=true:=aCF
   have I:Ag e.aZ 0=some (e.aZ.getD 0 0):=by
    have :Ag e.aZ ((0:Nat):Int)=some e.aZ[0]:=BZ u;rw[show((0:Nat):Int)=0 from rfl]at this;rw[this];simp[List.getD,u]
   rw[j,q,I];simp only[AP,bne];cases e.aZ.getD 0 0==(Gt l).1.Id<;>cases decide (e.aU=(Gt l).1.aU)<;>cases decide (e.Key=(Gt l).1.aU)<;>cases e.Content.N==3<;>rfl
  have j:((e.aZ.length:Int) != 1)=true:=DW
  have q:(e.aZ.length==1)=false:=aCF
  rw[j,q];rfl
def akO (e:AB) (l:List AB) (hl:l.length≤1000):aIk e l=some (Ry e l):=by
 have z:aHB l e.Key=some (l.any (Gp e.Key)):=by
  unfold aHB aXP;rw[Gi l (fuel_lt AA) (Gp e.Key) true (some false)]
  ·cases l.any (Gp e.Key)<;>rfl
  ·intro k i h;unfold aJV;rw[Bl h,BZ h];simp only[AP];rw[og];rfl
  intro k;unfold aJV;rw[DZ]
 unfold aIk Ry Z9;rw[aaZ l hl];simp only[AP];rw[z,IB,IB];cases(Gt l).2 with
 |false=>rfl
 |true=>
  by_cases hp:e.aZ.length=1
  ·have u:0<e.aZ.length:=AA
   have j:((e.aZ.length:Int)==1)=true:=by rw[hp];rfl
   have q:(e.aZ.length==1)=true:=aCF
   have I:Ag e.aZ 0=some (e.aZ.getD 0 0):=by
    have :Ag e.aZ ((0:Nat):Int)=some e.aZ[0]:=BZ u;rw[show((0:Nat):Int)=0 from rfl]at this;rw[this];simp[List.getD,u]
   rw[j,q,I];simp only[AP];cases e.aZ.getD 0 0==(Gt l).1.Id<;>cases decide (e.aU=(Gt l).1.aU)<;>cases decide (e.Key=(Gt l).1.aU)<;>cases e.Content.N==3<;>rfl
  have j:((e.aZ.length:Int)==1)=false:=DW
  have q:(e.aZ.length==1)=false:=aCF
  rw[j,q];rfl
def moveB (f t:Int) (s:Bool):Bool:=
 bif decide (f<0)||decide (f>4)then false else bif t==3 then s&&f != 4 else bif t==0 then f==1||f==2||f==3||(f==4&& !s)else bif t==2 then s&&(f==0||f==2)else bif t==1 then !s&&(f==0||f==2||f==1)else bif t==4 then !s else false
def aVI (f t:Int) (s:Bool):aK f t s=some (moveB f t s):=by
 unfold aK moveB;simp only[Jw,AP,jW,TD]
def an7 (f t:Int) (s:Bool):ZM f t s=some (moveB f t s):=by
 rw[←aVI];by_cases j:f<0
 ·unfold ZM aK;rw[Gu j];rfl
 by_cases q:f>4
 ·unfold ZM aK;rw[Gu q];cases decide (f<0)<;>rfl
 by_cases u:t<0
 ·unfold ZM aK;rw[Gu u,Gv j,Gv q,show(t==3)=false by simp;omega,show(t==0)=false by simp;omega,show(t==2)=false by simp;omega,show(t==1)=false by simp;omega,show(t==4)=false by simp;omega];rfl
 by_cases z:t>4
 ·unfold ZM aK;rw[Gu z,Gv u,Gv j,Gv q,show(t==3)=false by simp;omega,show(t==0)=false by simp;omega,show(t==2)=false by simp;omega,show(t==1)=false by simp;omega,show(t==4)=false by simp;omega];rfl
 have I:f=0∨f=1∨f=2∨f=3∨f=4:=AA
 have ht:t=0∨t=1∨t=2∨t=3∨t=4:=AA
 rcases I with rfl|rfl|rfl|rfl|rfl<;>rcases ht with rfl|rfl|rfl|rfl|rfl<;>cases s<;>decide
def U6 (l:List AB):Int×List ByteArray:=match l.find? fun x=>x.Kind==4 with |some x=>(x.Content.N,x.Content.Allow)|none=>(0,[])
def ajg (l:List AB) (hl:l.length≤1000) (hs:Cm l):aE6 l=some (U6 l):=by
 unfold aE6 aa7 U6;rw[J6 l (fuel_lt AA) (fun x=>x.Kind==4) (fun i=>some (match l[i]? with |some x=>(x.Content.N,x.Content.Allow)|none=>(0,[]))) (some (0,[]))]
 ·rw[JK];by_cases h:l.findIdx (fun x=>x.Kind==4)<l.length
  ·rw[CP h]
  rw[CU h,I8 AA]
 ·intro k i h;have ha:=(hs _ (ED h)).allow;unfold aHE;rw[Bl h,DC h,Cx SN];rfl
 intro k;unfold aHE;rw[DZ]
def agd (l:List AB) (hl:l.length≤1000) (hs:Cm l):aHA l=some (U6 l):=by
 unfold aHA aR5 U6;rw[J6 l (fuel_lt AA) (fun x=>x.Kind==4) (fun i=>some (match l[i]? with |some x=>(x.Content.N,x.Content.Allow)|none=>(0,[]))) (some (0,[]))]
 ·rw[JK];by_cases h:l.findIdx (fun x=>x.Kind==4)<l.length
  ·rw[CP h]
  rw[CU h,I8 AA]
 ·intro k i h;have ha:=(hs _ (ED h)).allow;unfold aM6;rw[Bl h,BZ h,DC h];simp only[AP];rw[Cx SN];rfl
 intro k;unfold aM6;rw[DZ]
def vX (rule now:Int):Int:=bif now==3||rule==1 then 0 else bif now==1&&(rule==0||rule==2||rule==3)then 0 else 21
def pS (rule now:Int):Int:=bif rule==2&&(now==0||now==2)then 0 else 21
def apN (r n:Int):zY r n=some (vX r n):=by
 unfold zY rH Fn1 vX;cases n==3<;>cases r==1<;>cases r==2<;>cases r==3<;>cases r==0<;>cases n==1<;>rfl
def acU (r n:Int):aOE r n=some (vX r n):=by
 unfold aOE vX;cases n==3<;>cases r==1<;>cases r==2<;>cases r==3<;>cases r==0<;>cases n==1<;>rfl
def apV (r n:Int):aBN r n=some (pS r n):=by
 unfold aBN aFa pS bne;cases r==2<;>cases n==0<;>cases n==2<;>rfl
def afI (r n:Int):aNJ r n=some (pS r n):=by
 unfold aNJ pS;cases r==2<;>cases n==0<;>cases n==2<;>rfl
def TI (m now:Int) (l:List AB):Int:=bif m==3 then vX (U6 l).1 now else bif m==2 then pS (U6 l).1 now else 0
def afa (m now:Int) (l:List AB) (hl:l.length≤1000) (hs:Cm l):aDB m now l=some (TI m now l):=by
 unfold aDB TI;rw[ajg l hl hs];simp only[AP];rw[apN,apV];cases m==3<;>cases m==2<;>rfl
def afQ (e:AB) (now:Int) (l:List AB) (hl:l.length≤1000) (hs:Cm l):aNj e l now=some (TI e.Content.N now l):=by
 unfold aNj TI;rw[agd l hl hs];simp only[AP];rw[acU,afI];cases e.Content.N==3<;>cases e.Content.N==2<;>rfl
def Fh (k:Int):Bool:=decide (k≥1)&&decide (k≤10)
def aMW (k:Int):Z4 k=some (Fh k):=by
 unfold Z4 Fh;cases decide (k≥1)<;>rfl
def tZ (k:Int):TF k=some (Fh k):=by
 unfold TF Fh;cases decide (k≥1)<;>rfl
def XF (v:Ba) (k:Int):Int:=match v.Kinds.find? fun x=>x.Kind==k with |some x=>x.N|none=>bif Fh k then v.State else v.Message
def aMR (v:Ba) (k:Int) (h:v.Kinds.length≤1000):fB v k=some (XF v k):=by
 unfold fB aWg XF;rw[J6 v.Kinds (fuel_lt AA) (fun x=>x.Kind==k) (fun i=>some (match v.Kinds[i]? with |some x=>x.N|none=>0)) (some (bif Fh k then v.State else v.Message))]
 ·rw[JK];by_cases h:v.Kinds.findIdx (fun x=>x.Kind==k)<v.Kinds.length
  ·rw[CP h,DC h]
  rw[CU h,I8 AA]
 ·intro k2 i h;unfold aOi;rw[Bl h,DC h]
 intro k2;unfold aOi;rw[DZ,aMW];cases Fh k<;>rfl
def wL (v:Ba) (k:Int) (h:v.Kinds.length≤1000):mP v k=some (XF v k):=by
 unfold mP aXB XF;rw[J6 v.Kinds (fuel_lt AA) (fun x=>x.Kind==k) (fun i=>some (match v.Kinds[i]? with |some x=>x.N|none=>0)) (some (bif Fh k then v.State else v.Message))]
 ·rw[JK];by_cases h:v.Kinds.findIdx (fun x=>x.Kind==k)<v.Kinds.length
  ·rw[CP h,DC h]
  rw[CU h,I8 AA]
 ·intro k2 i h;unfold aJF;rw[Bl h,BZ h,DC h];rfl
 intro k2;unfold aJF;rw[DZ,tZ];cases Fh k<;>rfl
def Uw (j q u:Int):Bool:=q==u||(decide (q≤j)&&decide (u≤j))
def numsOf (v:Ba):List Int:=[v.User,v.Message,v.State,v.gJ,v.kP,v.oD,v.iw]
def qK (j:Int) (p:Int×Int):Bool:= !Uw j p.1 p.2
def V9 (j:Int) (q new:Ba) (x:Jc):Bool:= !Uw j (XF q x.Kind) (XF new x.Kind)
def Ir (q:Int) (j new:Ba) (user:ByteArray) (x:IX):Bool:= !(Uw q (Dz j x.User) (Dz new x.User)&&(Dz j x.User==Dz new x.User||decide (x.User=user)||decide (Dz j x.User<q)))
def xI (j new:Ba) (user:ByteArray):Int:=
 bif ((numsOf j).zip (numsOf new)).any (qK (Dz j user))then 20 else bif (j.Kinds++new.Kinds).any (V9 (Dz j user) j new)then 20 else bif (j.Users++new.Users).any (Ir (Dz j user) j new user)then 20 else 0
def aNi (j q u:Int):WX q u j=some (!Uw j q u):=by
 unfold WX Uw;have z:(q != u)= !(q==u):=rfl;have I:decide (q>j)= !decide (q≤j):=by by_cases h:q≤j<;>simp[h]<;>omega
 have J:decide (u>j)= !decide (u≤j):=by by_cases h:u≤j<;>simp[h]<;>omega
 rw[z,I,J];cases q==u<;>cases decide (q≤j)<;>cases decide (u≤j)<;>rfl
def Fr5 (q j u:Int):uX j u q=some (Uw q j u):=by
 unfold uX Uw;cases j==u<;>cases decide (j≤q)<;>rfl
structure XM (v:Ba):Prop where
 users:v.Users.length≤100
 kinds:v.Kinds.length≤100
def xk (a b:Ba):((numsOf a).zip (numsOf b)).length=7:=rfl
def acM (q new:Ba) (user:ByteArray) (Y:XM q) (Z:XM new):pW q new user=some (xI q new user):=by
 have o1:=Y.users;have o2:=Y.kinds;have n1:=Z.users;have n2:=Z.kinds;unfold pW;rw[Xq q user AA];unfold aCJ;simp only[AP];unfold xI;generalize hown:Dz q user=u
 have hU:aAd q new u user false 0=some (bif (q.Users++new.Users).any (Ir u q new user)then 20 else 0):=by
  unfold aAd;rw[aOc ([q.Users,new.Users]:List (List IX)) (fuel_lt Aw) (fun us=>us.any (Ir u q new user)) (fun _=>some 20) (some 0) false]
  ·have e:(q.Users++new.Users).any (Ir u q new user)=([q.Users,new.Users]:List (List IX)).any (fun us=>us.any (Ir u q new user)):=Aw
   rw[e]
   have hf:∀L:List (List IX),(if L.findIdx (fun us=>us.any (Ir u q new user))<L.length then some (20:Int)else some 0)=some (bif L.any (fun us=>us.any (Ir u q new user))then 20 else 0):=fun L=>by
    by_cases h:L.findIdx (fun us=>us.any (Ir u q new user))<L.length
    ·rw[CP h];have :L.any (fun us=>us.any (Ir u q new user))=true:=Gl.2 ((dQ).1 h);rw[this];rfl
    rw[CU h]
    have :L.any (fun us=>us.any (Ir u q new user))=false:=by
     rw[Bool.eq_false_iff];exact fun k=>h (dQ.2 (Gl.1 k))
    rw[this];rfl
   exact hf _
  ·intro k i h
   have M:([q.Users,new.Users]:List (List IX))[i].length≤100:=by
    have :([q.Users,new.Users]:List (List IX))[i]∈[q.Users,new.Users]:=ED h;simp only[EG,EM,ZL]at this;rcases this with e|e<;>rw[e]<;>assumption
   unfold aCr;rw[show decide ((i:Int)<2)=true by simp only[FV,L9]at h;simp;omega,BZ h];simp only[BD,AP];generalize([q.Users,new.Users]:List (List IX))[i]=us at M;unfold aQk;rw[aOc us (fuel_lt AA) (Ir u q new user) (fun _=>some 20) (k false (Ai ((i:Int)+1))) false]
   ·by_cases I:us.findIdx (Ir u q new user)<us.length
    ·rw[CP I];have :us.any (Ir u q new user)=true:=Gl.2 ((dQ).1 I);rw[this];rfl
    rw[CU I]
    have :us.any (Ir u q new user)=false:=by
     rw[Bool.eq_false_iff];exact fun k=>I (dQ.2 (Gl.1 k))
    rw[this];rfl
   ·intro k2 j O;unfold aGF iV;rw[Bl O,Xq q _ AA,Xq new _ AA];simp only[AP];rw[aNi,IB];unfold Ir;have I:decide (Dz q us[j].User≥u)= !decide (Dz q us[j].User<u):=by by_cases h:Dz q us[j].User<u<;>simp[h]<;>omega
    have h3:(Dz q us[j].User != Dz new us[j].User)= !(Dz q us[j].User==Dz new us[j].User):=rfl;simp only[AP];rw[I,h3];cases Uw u (Dz q us[j].User) (Dz new us[j].User)<;>cases Dz q us[j].User==Dz new us[j].User<;>cases decide (us[j].User=user)<;>cases decide (Dz q us[j].User<u)<;>rfl
   intro k2;unfold aGF;rw[DZ]
  intro k;unfold aCr iV;rw[show decide (((([q.Users,new.Users]:List (List IX)).length:Nat):Int)<2)=false from rfl];rfl
 have hK:aAh q new u user 0=some (bif (q.Kinds++new.Kinds).any (V9 u q new)then 20 else bif (q.Users++new.Users).any (Ir u q new user)then 20 else 0):=by
  unfold aAh;rw[Gi ([q.Kinds,new.Kinds]:List (List Jc)) (fuel_lt Aw) (fun z=>z.any (V9 u q new)) 20 (aAd q new u user false 0)]
  ·rw[hU];have e:(q.Kinds++new.Kinds).any (V9 u q new)=([q.Kinds,new.Kinds]:List (List Jc)).any (fun z=>z.any (V9 u q new)):=Aw
   rw[e];cases([q.Kinds,new.Kinds]:List (List Jc)).any (fun z=>z.any (V9 u q new))<;>rfl
  ·intro k i h
   have U:([q.Kinds,new.Kinds]:List (List Jc))[i].length≤100:=by
    have :([q.Kinds,new.Kinds]:List (List Jc))[i]∈[q.Kinds,new.Kinds]:=ED h;simp only[EG,EM,ZL]at this;rcases this with e|e<;>rw[e]<;>assumption
   unfold aDc;rw[show decide ((i:Int)<2)=true by simp only[FV,L9]at h;simp;omega,BZ h];simp only[BD,AP];generalize([q.Kinds,new.Kinds]:List (List Jc))[i]=z at U;unfold aRu;rw[Gi z (fuel_lt AA) (V9 u q new) 20 (k (Ai ((i:Int)+1)))]
   ·intro k2 j O;unfold aDZ;rw[Bl O,aMR q _ AA,aMR new _ AA];simp only[AP];rw[aNi];rfl
   intro k2;unfold aDZ;rw[DZ]
  intro k;unfold aDc;rw[show decide (((([q.Kinds,new.Kinds]:List (List Jc)).length:Nat):Int)<2)=false from rfl];rfl
 unfold aan;rw[Gi ((numsOf q).zip (numsOf new)) aVy (qK u) 20 (aAh q new u user 0)]
 ·rw[hK];cases((numsOf q).zip (numsOf new)).any (qK u)<;>rfl
 ·intro k i h;have J:i<7:=by rw[xk]at h;exact h
  have e1:Ag [q.User,q.Message,q.State,q.gJ,q.kP,q.oD,q.iw] (i:Int)=some ((numsOf q)[i]'(J)):=BZ (l:=numsOf q) J;have e2:Ag [new.User,new.Message,new.State,new.gJ,new.kP,new.oD,new.iw] (i:Int)=some ((numsOf new)[i]'(J)):=BZ (l:=numsOf new) J;unfold aBm;rw[show decide ((i:Int)<7)=true by simp;omega,e1,e2];simp only[BD,AP];rw[aNi,aP5];rfl
 intro k;unfold aBm;rw[xk,show decide (((7:Nat):Int)<7)=false from rfl];rfl
def agH (j new:Ba) (u user:ByteArray) (q:XM j) (z:XM new):yH j new u user=some (Uw (Dz j user) (Dz j u) (Dz new u)&&(Dz j u==Dz new u||decide (u=user)||decide (Dz j u<Dz j user))):=by
 have I:=q.users;have J:=z.users;unfold yH;rw[Xu j user AA,Xu j u AA,Xu new u AA];simp only[AP];rw[Fr5,IB];simp only[AP];cases Uw (Dz j user) (Dz j u) (Dz new u)<;>cases Dz j u==Dz new u<;>cases decide (u=user)<;>cases decide (Dz j u<Dz j user)<;>rfl
def apt (j new:Ba) (user:ByteArray) (I:XM j) (J:XM new):aKc j new user=some (xI j new user):=by
 have o1:=I.users;have o2:=I.kinds;have n1:=J.users;have n2:=J.kinds;unfold aKc;rw[Xu j user AA];unfold aOD;simp only[AP];unfold xI
 have u:∀x:IX,(yH j new x.User user)=some (!Ir (Dz j user) j new user x):=fun x=>by
  rw[agH j new _ _ I J];unfold Ir;rw[rO]
 generalize M:Dz j user=q at u
 have L:aI4 new j user 0=some (bif new.Users.any (Ir q j new user)then 20 else 0):=by
  unfold aI4;rw[Gi new.Users (fuel_lt AA) (Ir q j new user) 20 (some 0)]
  ·cases new.Users.any (Ir q j new user)<;>rfl
  ·intro k i h;unfold aL6;rw[Bl h,u];simp only[AP,rO]
  intro k;unfold aL6;rw[DZ]
 have U:aLz j new user 0=some (bif (j.Users++new.Users).any (Ir q j new user)then 20 else 0):=by
  unfold aLz;rw[Gi j.Users (fuel_lt AA) (Ir q j new user) 20 (some (bif new.Users.any (Ir q j new user)then 20 else 0))]
  ·rw[aQ0];cases j.Users.any (Ir q j new user)<;>rfl
  ·intro k i h;unfold aKC;rw[Bl h,u];simp only[AP,rO]
  intro k;unfold aKC;rw[DZ,L]
 have Y:aF5 j new q user 0=some (bif (j.Kinds++new.Kinds).any (V9 q j new)then 20 else bif (j.Users++new.Users).any (Ir q j new user)then 20 else 0):=by
  unfold aF5;have O:Ai ((j.Kinds.length:Int)+(new.Kinds.length:Int))=(((j.Kinds++new.Kinds).length:Nat):Int):=by rw[E9,Yt];omega
  rw[Gi (j.Kinds++new.Kinds) (fuel_lt KY) (V9 q j new) 20 (some (bif (j.Users++new.Users).any (Ir q j new user)then 20 else 0))]
  ·cases(j.Kinds++new.Kinds).any (V9 q j new)<;>rfl
  ·intro k i h;unfold aNF aH4;rw[O,dec_lt h];simp only[BD];by_cases hi:i<j.Kinds.length
   ·rw[dec_lt hi,BZ hi];simp only[BD,AP];rw[wL j _ AA,wL new _ AA];simp only[AP];rw[Fr5,aKf hi];rfl
   have Z:i-j.Kinds.length<new.Kinds.length:=by rw[E9]at h;omega
   have w:Ai ((i:Int)-(j.Kinds.length:Int))=((i-j.Kinds.length:Nat):Int):=by rw[E9]at h;rw[Yt];omega
   rw[show decide ((i:Int)<(j.Kinds.length:Int))=false by simp;omega,w,BZ Z];simp only[Am,AP];rw[wL j _ AA,wL new _ AA];simp only[AP];rw[Fr5,List.getElem_append_right AA];rfl
  intro k;unfold aNF;rw[O,CX,U];rfl
 unfold aTC;rw[Gi ((numsOf j).zip (numsOf new)) aVy (qK q) 20 (aF5 j new q user 0)]
 ·rw[Y];cases((numsOf j).zip (numsOf new)).any (qK q)<;>rfl
 ·intro k i h;have z:i<7:=by rw[xk]at h;exact h
  have e1:Ag [j.User,j.Message,j.State,j.gJ,j.kP,j.oD,j.iw] (i:Int)=some ((numsOf j)[i]'(z)):=BZ (l:=numsOf j) z;have e2:Ag [new.User,new.Message,new.State,new.gJ,new.kP,new.oD,new.iw] (i:Int)=some ((numsOf new)[i]'(z)):=BZ (l:=numsOf new) z;unfold aPO;rw[show decide ((i:Int)<(([j.User,j.Message,j.State,j.gJ,j.kP,j.oD,j.iw]:List Int).length:Int))=true from dec_lt (n:=7) z,e1,e2];simp only[BD,AP];rw[Fr5,aP5];rfl
 intro k;unfold aPO;rw[xk];rfl
def X5 (e:AB) (l:List AB) (now:Int):Int:=
 bif !(Gj l e.aU==3)then 18 else
 bif e.Content.N==1&&decide (Dz (Ew l) e.aU<(Ew l).gJ)then 20 else
 bif e.Content.N==0&&((now==4&&decide (Dz (Ew l) e.aU<(Ew l).oD))||decide (Dz (Ew l) e.aU<(Ew l).kP)||decide (Dz (Ew l) e.Key≥Dz (Ew l) e.aU))then 20 else
 bif e.Content.N==4&&(decide (Dz (Ew l) e.aU<(Ew l).oD)||decide (Dz (Ew l) e.Key≥Dz (Ew l) e.aU))then 20 else 0
def Wn (e:AB) (l:List AB):Int:=
 bif Ry e l then 0 else
 bif decide (e.Key=e.aU)&&Gj l e.Key==4 then 19 else
 bif !moveB (Gj l e.Key) e.Content.N (decide (e.Key=e.aU))then 18 else
 bif decide (e.Key=e.aU)then TI e.Content.N (Gj l e.Key) l else X5 e l (Gj l e.Key)
def WG (e:AB) (l:List AB):Int:=
 bif decide (Dz (Ew l) e.aU<XF (Ew l) e.Kind)then 20 else bif e.Kind==3 then xI (Ew l) e.Content.Levels e.aU else 0
def H8 (s:ByteArray):ByteArray:=(splitB s (JY s)).2.1
def FH (e:AB) (l:List AB):Int:=
 bif e.Kind==1 then(bif !(Gt l).2&&(H8 e.aU).toList==(H8 e.Room).toList then 0 else 17)else
 bif !(Gt l).2 then 17 else bif e.Kind==2 then Wn e l else bif !(Gj l e.aU==3)then 18 else WG e l
def aON {l:List AB} (h:Cm l):XM (Ew l):=⟨(er h).1,(er h).2⟩
def EY.levels {e:AB} (h:EY e):XM e.Content.Levels:=⟨h.users,h.kinds⟩
def aq0 (e:AB) (l:List AB) (hl:l.length≤1000) (hs:Cm l) (q:EY e):aFs e l=some (WG e l):=by
 have j:=aON hs;have u:=j.users;have z:=j.kinds;unfold aFs WG;rw[aB8 l hl hs];simp only[AP];rw[Xq _ _ AA,aMR _ _ AA];simp only[AP];rw[acM _ _ _ j q.levels];cases decide (Dz (Ew l) e.aU<XF (Ew l) e.Kind)<;>cases e.Kind==3<;>rfl
def ag1 (e:AB) (l:List AB) (hl:l.length≤1000) (hs:Cm l) (q:EY e):aN4 e l=some (WG e l):=by
 have j:=aON hs;have u:=j.users;have z:=j.kinds;unfold aN4 WG;rw[aPE l hl];simp only[AP];rw[Xu _ _ AA,wL _ _ AA];simp only[AP];rw[apt _ _ _ j q.levels];cases decide (Dz (Ew l) e.aU<XF (Ew l) e.Kind)<;>cases e.Kind==3<;>rfl
def iI (x:Int):Except Value Unit:=.error (.iface 165 (.agg #[.int .i64 x]))
def aVU (x:Int):bM x=some (iI x):=rfl
def aLL (b:Bool) (x:Int):Qe b x=some (bif b then .ok ()else iI x):=by cases b<;>rfl
def aLX (b:Bool) (x:Int) (f:Unit→Option (Except Value Unit)):LJ (bif b then .ok ()else iI x) f=bif b then f ()else some (iI x):=by cases b<;>rfl
def aat (x:Int) (f:Unit→Option (Except Value Unit)):LJ (iI x) f=some (iI x):=rfl
def aoU (a b:Int):decide (a≥b)= !decide (a<b):=by by_cases h:a<b<;>simp[h]<;>omega
def ai3 (e:AB) (l:List AB) (now:Int) (hl:l.length≤1000) (hs:Cm l):(kF l e now).bind TG=some (X5 e l now):=by
 have z:=(er hs).1;unfold kF X5;rw[aHF l _ hl,aB8 l hl hs];simp only[AP];rw[Xq _ _ AA,Xq _ _ AA];simp only[aLL,AP,aLX,aoU]
 have I:decide (Dz (Ew l) e.Key<Dz (Ew l) e.aU)= !decide (Dz (Ew l) e.aU≤Dz (Ew l) e.Key):=by
  by_cases h:Dz (Ew l) e.Key<Dz (Ew l) e.aU<;>simp[h]<;>omega
 have u:(now != 4)= !(now==4):=rfl;rw[u];generalize decide (Dz (Ew l) e.Key<Dz (Ew l) e.aU)=t;generalize decide (Dz (Ew l) e.aU<(Ew l).gJ)=i;generalize decide (Dz (Ew l) e.aU<(Ew l).oD)=b;generalize decide (Dz (Ew l) e.aU<(Ew l).kP)=k;generalize(now==4)=n;cases Gj l e.aU==3 with
 |false=>rfl
 |true=>
  by_cases j:e.Content.N=1
  ·rw[j];cases i<;>rfl
  rw[show(e.Content.N==1)=false by simpa using j];by_cases q:e.Content.N=0
  ·rw[q];cases n<;>cases b<;>cases k<;>cases t<;>rfl
  rw[show(e.Content.N==0)=false by simpa using q];cases e.Content.N==4<;>cases b<;>cases t<;>rfl
def ajE (e:AB) (l:List AB) (now:Int) (hl:l.length≤1000) (hs:Cm l):aHV e l now=some (X5 e l now):=by
 have j:=(er hs).1;unfold aHV X5;rw[aM4 l _ hl,aPE l hl];simp only[AP];rw[Xu _ _ AA,Xu _ _ AA];simp only[AP,Jw,jW,TD,bne]
def acV (e:AB) (l:List AB) (hl:l.length≤1000) (hs:Cm l):aFx e l=some (Wn e l):=by
 unfold aFx Wn;rw[afd e l hl];simp only[AP];cases Ry e l with
 |true=>rfl
 |false=>
  simp only[Am]
  have q:∀o:Option (Except Value Unit),(o.bind fun u=>(TG u).bind fun z=>some z)=o.bind TG:=fun o=>by
   cases o with
   |none=>rfl
   |some x=>cases h:TG x<;>simp[h]
  rw[q];have j:=ai3 e l (Gj l e.Key) hl hs;unfold aIc;rw[aHF l _ hl,IB];simp only[AP];rw[an7,afa _ _ _ hl hs];simp only[AP,aLL,aVU,aLX,aat,Jw];have I:(Gj l e.Key != 4)= !(Gj l e.Key==4):=rfl;rw[I];generalize kF l e (Gj l e.Key)=J at j;generalize decide (e.Key=e.aU)=s;cases s with
  |true=>
   cases Gj l e.Key==4 with
   |true=>rfl
   |false=>cases moveB (Gj l e.Key) e.Content.N true<;>rfl
  |false=>
   cases moveB (Gj l e.Key) e.Content.N false with
   |false=>rfl
   |true=>exact j
def ajo (e:AB) (l:List AB) (hl:l.length≤1000) (hs:Cm l):aJy e l=some (Wn e l):=by
 unfold aJy Wn;rw[akO e l hl,aM4 l _ hl];simp only[AP];rw[aVI,afQ e _ l hl hs,ajE e l _ hl hs,IB];simp only[AP,Jw,TD]
def nY (e:AB) (l:List AB) (hl:l.length≤1000) (hs:Cm l) (j:EY e):VF e l=some (FH e l):=by
 have I:=j.sender;have J:=j.room;unfold VF FH
 have q:∀o:Option (Except Value Unit),(o.bind fun u=>(TG u).bind fun z=>some z)=o.bind TG:=fun o=>by
  cases o with
  |none=>rfl
  |some x=>cases h:TG x<;>simp[h]
 rw[q];unfold aJb Rep aAB aCR;rw[aYC l hl,(Ri (s:=e.aU) AA).1,(Ri (s:=e.Room) AA).1,aHF l _ hl,aq0 e l hl hs j,acV e l hl hs];simp only[AP,aLL,aVU,aLX,aat];show _=some (bif e.Kind==1 then(bif !(Gt l).2&&(splitB e.aU (JY e.aU)).2.1.toList==(splitB e.Room (JY e.Room)).2.1.toList then 0 else 17)else _);cases e.Kind==1 with
 |true=>
  cases(Gt l).2 with
  |true=>rfl
  |false=>cases(splitB e.aU (JY e.aU)).2.1.toList==(splitB e.Room (JY e.Room)).2.1.toList<;>rfl
 |false=>
  cases(Gt l).2 with
  |false=>rfl
  |true=>
   cases e.Kind==2 with
   |true=>rfl
   |false=>cases Gj l e.aU==3<;>rfl
def qj (e:AB) (l:List AB) (hl:l.length≤1000) (hs:Cm l) (j:EY e):Vh e l=some (FH e l):=by
 have q:=j.sender;have u:=j.room;unfold Vh aMl FH;rw[aaZ l hl,(Ri (s:=e.aU) AA).2,(Ri (s:=e.Room) AA).2,aM4 l _ hl,ag1 e l hl hs j,ajo e l hl hs];simp only[AP];show _=some (bif e.Kind==1 then(bif !(Gt l).2&&(splitB e.aU (JY e.aU)).2.1.toList==(splitB e.Room (JY e.Room)).2.1.toList then 0 else 17)else _);cases e.Kind==1 with
 |true=>
  cases(Gt l).2 with
  |true=>rfl
  |false=>cases(splitB e.aU (JY e.aU)).2.1.toList==(splitB e.Room (JY e.Room)).2.1.toList<;>rfl
 |false=>
  cases(Gt l).2 with
  |false=>rfl
  |true=>
   cases e.Kind==2 with
   |true=>rfl
   |false=>unfold bne;cases Gj l e.aU==3<;>rfl
def dG (named:List AB) (k:Ah):AB×Bool:=match named.find? (DX k)with |some x=>(x,true)|none=>(Bh,false)
def dK (l:List AB) (s:List Ah) (e:AB) (k:Ah):AB×Bool:=bif (Fz s k.Kind k.Key).2 then Fq l (Fz s k.Kind k.Key).1 else dG (ofIds l e.bg) k
def Rx (l:List AB) (s:List Ah) (e:AB) (k:Ah):List AB:=bif (dK l s e k).2 then[(dK l s e k).1]else[]
def RI (l:List AB) (s:List Ah) (e:AB):List AB:=(keysOf e).flatMap (Rx l s e)
def aL2 (l:List AB) (s:List Ah) (e:AB) (k:Ah):(Rx l s e k).length≤1:=by
 unfold Rx;cases(dK l s e k).2<;>simp
def aaf (l:List AB) (s:List Ah) (e:AB):(RI l s e).length≤5:=by
 have j:=flat_length (f:=Rx l s e) (n:=1) (aL2 l s e) (keysOf e);have q:=QS e;unfold RI;omega
def adL {l:List AB} {s:List Ah} {e x:AB} (h:x∈RI l s e):x∈l:=by
 obtain⟨k,_,h⟩:=Rl.1 h;unfold Rx dK dG at h;cases q:(Fz s k.Kind k.Key).2 with
 |true=>
  rw[q]at h;simp only[BD]at h;cases hp:DV l (Fz s k.Kind k.Key).1 with
  |none=>rw[Rn hp]at h;exact absurd h EM
  |some y=>rw[LW hp]at h;rw[FT.1 h];exact Ht hp
 |false=>
  rw[q]at h;simp only[Am]at h;cases j:(ofIds l e.bg).find? (DX k)with
  |none=>rw[j]at h;exact absurd h EM
  |some y=>rw[j]at h;rw[FT.1 h];exact aDE (OA j)
def Cm.base {l:List AB} (h:Cm l) (s:List Ah) (e:AB):Cm (RI l s e):=fun x j=>h x (adL j)
def abz (named:List AB) (k:Ah) (j:named.length≤1000):aAP named k=some (dG named k):=by
 unfold aAP;rw[aDg named AA (fun a0=>nJ a0 k) (DX k) fun e=>by unfold nJ DX;rw[IB];cases e.Kind==k.Kind<;>rfl];exact found_eq named (DX k) rfl
def adJ (named:List AB) (k:Ah) (j:named.length≤1000):aGb named k.Kind k.Key=some (dG named k):=by
 unfold aGb aQw;rw[aIO named (fuel_lt AA) (DX k) (fun i=>some (match named[i]? with |some x=>(x,true)|none=>(Bh,false))) (some (Bh,false))]
 ·exact aQ6 named _
 ·intro k2 i h;unfold aOH;rw[Bl h,BZ h,DC h];simp only[AP];rw[IB];unfold DX;cases named[i].Kind==k.Kind<;>cases decide (named[i].Key=k.Key)<;>rfl
 intro k2;unfold aOH;rw[DZ]
def apd (l:List AB) (s:List Ah) (e:AB) (hl:l.length≤1000) (q:e.bg.length≤40) (hs:JA s) (j:s.length≤1000000):aBt l s e=some (RI l s e):=by
 unfold aBt;have u:=XU l e.bg;have z:=QS e;have hm:IK 376 Bh 0 5=some []:=by unfold IK;rw[CP aCl];rfl
 rw[aTe l _ hl AA,hm,aTV];simp only[AP];unfold ab6;rw[Hu (keysOf e) AA (fun r k=>r++Rx l s e k) (fun i r=>r.length≤i) (fun r=>some r) (Dn _)]
 ·rw[foldl_append (Rx l s e),I5];rfl
 ·intro k r i h I;have hp:=aL2 l s e (keysOf e)[i];refine⟨KY,?_⟩;unfold aIG aGP aCH;rw[Bl h,abz _ _ AA,aHd s _ _ j hs];simp only[AP];rw[Np l _ AA,Cx FK];simp only[AP];rw[Cx FK];unfold Rx dK;cases(Fz s (keysOf e)[i].Kind (keysOf e)[i].Key).2 with
  |true=>
   simp only[BD];cases(Fq l (Fz s (keysOf e)[i].Kind (keysOf e)[i].Key).1).2 with
   |true=>rfl
   |false=>simp
  |false=>
   simp only[Am];cases(dG (ofIds l e.bg) (keysOf e)[i]).2 with
   |true=>rfl
   |false=>simp
 intro k r _;unfold aIG;rw[DZ]
def abr (l:List AB) (s:List Ah) (e:AB) (hl:l.length≤1000) (q:e.bg.length≤40) (j:s.length≤1000000):aMT l s e=some (RI l s e):=by
 unfold aMT;have u:=XU l e.bg;have z:=QS e;rw[zX,aIy l _ hl AA];simp only[AP];unfold aW0;rw[Hu (a0:=[]) (keysOf e) AA (fun r k=>r++Rx l s e k) (fun i r=>r.length≤i) (fun r=>some r) (Dn _)]
 ·rw[foldl_append (Rx l s e),I5];rfl
 ·intro k r i h I;have hp:=aL2 l s e (keysOf e)[i];refine⟨KY,?_⟩;unfold aPR aLm aPZ;rw[dec_lt h,BZ h];simp only[BD,AP];rw[adJ _ _ AA,aJl s _ _ j];simp only[AP];rw[Jp l _ AA,Cx FK];simp only[AP];rw[Cx FK];unfold Rx dK;cases(Fz s (keysOf e)[i].Kind (keysOf e)[i].Key).2 with
  |true=>
   simp only[BD];cases(Fq l (Fz s (keysOf e)[i].Kind (keysOf e)[i].Key).1).2 with
   |true=>rfl
   |false=>simp
  |false=>
   simp only[Am];cases(dG (ofIds l e.bg) (keysOf e)[i]).2 with
   |true=>rfl
   |false=>simp
 intro k r _;unfold aPR;rw[CX];rfl
def SH (l:List AB) (s:List Ah) (id:Int):Bool:=bV l id&&(Fh (ev l id).Kind&&FH (ev l id) (RI l s (ev l id))==0)
def OU (l:List AB) (s:List Ah) (id:Int):List Ah:=bif SH l s id then ES s (ev l id).Kind (ev l id).Key (ev l id).Id else s
def O6 (l:List AB) (s:List Ah) (ids:List Int):List Ah:=ids.foldl (OU l) s
def aRB {l:List AB} {s:List Ah} (h:JA s) (id:Int):JA (OU l s id):=by
 unfold OU;cases SH l s id with
 |true=>exact WR h _ _ _
 |false=>exact h
def aMg {l:List AB}:∀{ids:List Int} {s:List Ah},JA s→JA (O6 l s ids)
 | [],_,h=>h
 |id::ids,s,h=>aMg (ids:=ids) (aRB h id)
def aNc (l:List AB) (s:List Ah) (id:Int):(OU l s id).length≤s.length+1:=by
 unfold OU;cases SH l s id with
 |true=>exact PU _ _ _ _
 |false=>exact Nat.le_succ _
def aBn (l:List AB):∀(ids:List Int) (s:List Ah),(O6 l s ids).length≤s.length+ids.length
 | [],s=>Dn _
 |id::ids,s=>by
  have j:=aBn l ids (OU l s id);have q:=aNc l s id;show(O6 l (OU l s id) ids).length≤_;rw[FV];omega
def aT3 {l:List AB} (hs:Cm l) {id:Int} (h:bV l id=true):EY (ev l id):=hs _ (Ht (Fj h).1)
def agx (l:List AB) (s:List Ah) (id:Int) (hl:l.length≤1000) (hs:Cm l) (z:JA s) (q:s.length≤1000000):aAt l s id=some (OU l s id):=by
 unfold aAt aJw uw OU SH;have j:aCs s (.error (.iface 331 (.agg #[])):Except Value (List Ah))=some s:=rfl;rw[Np l _ AA];simp only[AP];rw[OM];cases J:(DV l id).isSome with
 |false=>rw[show bV l id=false from J];exact j
 |true=>
  have u:bV l id=true:=J;have L:=aT3 hs u;have I:(Fq l id).1=ev l id:=rfl;rw[u,I,aMW];simp only[AP,EW,Am,GL];cases Fh (ev l id).Kind with
  |false=>exact j
  |true=>
   have M:=aaf l s (ev l id);rw[apd l s _ hl L.auth z q];simp only[AP,EW,Am,GL];rw[nY _ _ AA (hs.base s _) L];simp only[AP];rw[Yi s _ _ _ q];unfold bne;cases FH (ev l id) (RI l s (ev l id))==0 with
   |true=>rfl
   |false=>exact j
def aWa (l:List AB) (s:List Ah) (ids:List Int) (hl:l.length≤1000) (hs:Cm l) (j:JA s) (u:s.length+ids.length≤1000000):dL l s ids=some (O6 l s ids):=by
 unfold dL aDq;rw[Cx SN];simp only[AP,I5];unfold aai;rw[Hu ids AA (OU l) (fun i r=>JA r∧r.length≤s.length+i) (fun r=>some r) ⟨j,Dn _⟩]
 ·rfl
 ·intro k r i h q;have z:=aNc l r ids[i];refine⟨⟨aRB q.1 _,AA⟩,?_⟩;unfold aPn;rw[Bl h,agx l r _ hl hs q.1 AA];rfl
 intro k r _;unfold aPn;rw[DZ]
def aXg (l:List AB) (s:List Ah) (ids:List Int) (hl:l.length≤1000) (hs:Cm l) (I:s.length+ids.length≤1000000):jX l s ids=some (O6 l s ids):=by
 unfold jX;rw[Cx SN];simp only[AP,I5];unfold aas;rw[Hu ids AA (OU l) (fun i r=>r.length≤s.length+i) (fun r=>some r) (Dn _)]
 ·rfl
 ·intro k r i h J;have L:=aNc l r ids[i];refine⟨AA,?_⟩;unfold aNZ aFK aPV OU SH;rw[Bl h,Jp l _ AA];simp only[AP];rw[OM];cases u:(DV l ids[i]).isSome with
  |false=>rw[show bV l ids[i]=false from u];rfl
  |true=>
   have j:bV l ids[i]=true:=u;have z:=aT3 hs j;have q:(Fq l ids[i]).1=ev l ids[i]:=rfl;rw[j,q,tZ];simp only[AP,BD,GL];cases Fh (ev l ids[i]).Kind with
   |false=>rfl
   |true=>
    have M:=aaf l r (ev l ids[i]);rw[abr l r _ hl z.auth AA];simp only[AP,BD,GL];rw[qj _ _ AA (hs.base r _) z];simp only[AP];rw[aNH r _ _ _ AA];cases FH (ev l ids[i]) (RI l r (ev l ids[i]))==0<;>rfl
 intro k r _;unfold aNZ;rw[DZ]
def Js (l:List AB) (aJ:List (List Ah)):List Int:=TP l (Ih l aJ)
def Ko (l:List AB) (aJ:List (List Ah)):List Int:=rP l (gK l (Js l aJ)).length (gK l (Js l aJ))
def Ho (l:List AB) (aJ:List (List Ah)):List Ah:=O6 l (Hr aJ) (Ko l aJ)
def Ty (l:List AB) (aJ:List (List Ah)):List Int:=bif (Fz (Ho l aJ) 3 BK).2 then YH l (Fz (Ho l aJ) 3 BK).1 else[]
def Jg (l:List AB) (aJ:List (List Ah)):List Int:=zU l (Ty l aJ) (OQ (Ih l aJ) (Js l aJ))
def vS (s a:List Ah):List Ah:=a.foldl (fun s x=>ES s x.Kind x.Key x.Id) s
def lastOf (l:List AB) (aJ:List (List Ah)):List Ah:=vS (O6 l (Ho l aJ) (Jg l aJ)) (Hr aJ)
structure Md (l:List AB) (aJ:List (List Ah)):Prop where
 len:l.length≤100
 small:Cm l
 states:O4 aJ
def jw {l:List AB} {aJ:List (List Ah)} (h:Md l aJ):(Ih l aJ).length≤40000:=by
 have z:=h.len;have I:=aC5 h.states;have J:=KW (Px aJ);have j:=aGJ l aJ [] fun s hs=>(h.states.2 s hs).1;have q:=h.states.1;have u:=J4 (fun x=>decide (Ip l aJ x<aJ.length)) (allOf l aJ);have L:aJ.length*(100+l.length)≤100*200:=aAG q AA;have M:=aHT (EF (Px aJ)) (OC l aJ)
 have O:(OC l aJ).length≤20000:=by
  unfold OC;unfold allOf at u ⊢;simp only[L9]at j;omega
 unfold Ih;omega
def abU {l:List AB} {aJ:List (List Ah)} (h:Md l aJ):(Du l (Ih l aJ)).length≤40000:=Ed (J4 _ _) (jw h)
def aP2 {l:List AB} {aJ:List (List Ah)} (h:Md l aJ):(Ko l aJ).length≤100:=by
 have q:=abI l (gK l (Js l aJ)).length (gK l (Js l aJ));have u:(gK l (Js l aJ)).length≤l.length:=kZ (Zw _ _) fun x j=>(LQ.1 j).2;have z:=h.len;unfold Ko;omega
def aEp {l:List AB} {aJ:List (List Ah)} (h:Md l aJ):(Ho l aJ).length≤200:=by
 have j:=aBn l (Ko l aJ) (Hr aJ);have q:=aP2 h;have u:=Zd h.states;unfold Ho;omega
def aME {l:List AB} {aJ:List (List Ah)} (h:Md l aJ):JA (Ho l aJ):=aMg (aRs h.states)
def aXm {l:List AB} {aJ:List (List Ah)} (h:Md l aJ):(Ty l aJ).length≤100:=by
 have j:=aXO l (Fz (Ho l aJ) 3 BK).1;have q:=h.len;unfold Ty;cases(Fz (Ho l aJ) 3 BK).2 with
 |true=>simp only[BD];omega
 |false=>exact Ci _
def abD {l:List AB} {aJ:List (List Ah)} (h:Md l aJ):(Jg l aJ).length≤40000:=by
 have j:=anU l (Ty l aJ) (OQ (Ih l aJ) (Js l aJ));have q:=aNE (Ih l aJ) (Js l aJ);have u:=jw h;unfold Jg;omega
def apK {l:List AB} {aJ:List (List Ah)} (h:Md l aJ):yS (Ih l aJ) (Js l aJ) l (Ho l aJ,Ko l aJ) (Hr aJ,EF (Px aJ)) (Ty l aJ)=some ⟨lastOf l aJ,Ko l aJ,Jg l aJ⟩:=by
 have u:=h.len;have z:=jw h;have I:=aEi l (Ih l aJ);have J:=aXm h;have L:=aNE (Ih l aJ) (Js l aJ);have M:=aEp h;have O:=abD h;have U:=Zd h.states;unfold yS aNN aOV;rw[ap2 _ _ AA (by unfold Js;omega)];simp only[AP];rw[aki l _ _ AA h.small AA AA (U8 (aHO _ _))];simp only[AP];show((dL l (Ho l aJ) (Jg l aJ)).bind _).bind _=_;rw[aWa l _ _ AA h.small (aME h) AA];simp only[AP];unfold aXp;have Y:=aBn l (Jg l aJ) (Ho l aJ);show aT _ Aj 0 (⟨O6 l (Ho l aJ) (Jg l aJ),Ko l aJ,Jg l aJ⟩:OY)=_;rw[jJ (Hr aJ) AA (fun v x=>({ v with Ee:=ES v.Ee x.Kind x.Key x.Id }:OY)) (fun i v=>v.Ee.length≤(O6 l (Ho l aJ) (Jg l aJ)).length+i) (fun v=>some v) (Dn _)]
 ·congr 1;unfold lastOf vS
  have key:∀(a:List Ah) (v:OY),a.foldl (fun v x=>({ v with Ee:=ES v.Ee x.Kind x.Key x.Id }:OY)) v=⟨a.foldl (fun s x=>ES s x.Kind x.Key x.Id) v.Ee,v.ajJ,v.asH⟩:=by
   intro a
   induction a with
   |nil=>intro v;rfl
   |cons x a j=>intro v;rw[Ey,j];rfl
  rw[key]
 ·intro k v i hi Z;have q:=PU v.Ee (Hr aJ)[i].Kind (Hr aJ)[i].Key (Hr aJ)[i].Id;refine⟨by show(ES _ _ _ _).length≤_;omega,?_⟩;unfold aM3;rw[Bl hi,Yi _ _ _ _ AA];rfl
 intro k v _;unfold aM3;rw[DZ]
def akm {l:List AB} {aJ:List (List Ah)} (h:Md l aJ):aBQ l aJ=some ⟨lastOf l aJ,Ko l aJ,Jg l aJ⟩:=by
 have q:=h.len;have u:=jw h;have z:=aEi l (Ih l aJ);have I:=abU h;have J:=aEp h;have L:=aP2 h;have M:=Zd h.states;have ht:=apK h;unfold aBQ;rw[aYN aJ h.states,akp l aJ AA h.small.ajR h.states];simp only[AP];rw[aeJ l _ AA h.small AA AA];simp only[AP];unfold aGa aLR;rw[acX l _ AA h.small AA];simp only[AP];have ha:dL l (Hr aJ) (Ko l aJ)=some (Ho l aJ):=aWa l _ _ AA h.small (aRs h.states) AA;unfold Ko Js at ha;rw[ha];simp only[AP];rw[aHd _ _ _ AA (aME h)];simp only[AP];rw[akf l _ AA h.small];unfold Ty at ht;cases j:(Fz (Ho l aJ) 3 BK).2 with
 |true=>rw[j]at ht;exact ht
 |false=>rw[j]at ht;exact ht
def adK {l:List AB} {aJ:List (List Ah)} (h:Md l aJ):zx (Ih l aJ) (Js l aJ) l (Hr aJ,EF (Px aJ)) (Ko l aJ) (Ho l aJ) (Ty l aJ)=some ⟨Hr aJ,Ko l aJ,Ho l aJ,Jg l aJ,lastOf l aJ⟩:=by
 have z:=h.len;have I:=jw h;have J:=aEi l (Ih l aJ);have L:=aXm h;have M:=aNE (Ih l aJ) (Js l aJ);have O:=aEp h;have U:=abD h;have Y:=Zd h.states;unfold zx;rw[aGC _ _ AA (by unfold Js;omega)];simp only[AP];rw[afL l _ _ AA h.small AA AA (U8 (aHO _ _))];simp only[AP];show(jX l (Ho l aJ) (Jg l aJ)).bind _=_;rw[aXg l _ _ AA h.small AA];simp only[AP];unfold aVK;have Z:=aBn l (Jg l aJ) (Ho l aJ);show aT _ Aj 0 (⟨Hr aJ,Ko l aJ,Ho l aJ,Jg l aJ,O6 l (Ho l aJ) (Jg l aJ)⟩:Ov)=_;rw[jJ (Hr aJ) AA (fun v x=>({ v with Last:=ES v.Last x.Kind x.Key x.Id }:Ov)) (fun i v=>v.Same=Hr aJ∧v.Last.length≤(O6 l (Ho l aJ) (Jg l aJ)).length+i) (fun v=>some v) ⟨rfl,Dn _⟩]
 ·congr 1;unfold lastOf vS
  have key:∀(a:List Ah) (v:Ov),a.foldl (fun v x=>({ v with Last:=ES v.Last x.Kind x.Key x.Id }:Ov)) v=⟨v.Same,v.Power,v.First,v.Others,a.foldl (fun s x=>ES s x.Kind x.Key x.Id) v.Last⟩:=by
   intro a
   induction a with
   |nil=>intro v;rfl
   |cons x a q=>intro v;rw[Ey,q];rfl
  rw[key]
 ·intro k v i hi j;have u:=PU v.Last (Hr aJ)[i].Kind (Hr aJ)[i].Key (Hr aJ)[i].Id;refine⟨⟨j.1,by show(ES _ _ _ _).length≤_;omega⟩,?_⟩;unfold aPv;rw[j.1,dec_lt hi,BZ hi];simp only[BD,AP];rw[aNH _ _ _ _ AA];rfl
 intro k v j;unfold aPv;rw[j.1,CX];rfl
def akG {l:List AB} {aJ:List (List Ah)} (h:Md l aJ):aNQ l aJ=some ⟨Hr aJ,Ko l aJ,Ho l aJ,Jg l aJ,lastOf l aJ⟩:=by
 have q:=h.len;have u:=jw h;have z:=aEi l (Ih l aJ);have I:=aEp h;have J:=aP2 h;have L:=Zd h.states;have ht:=adK h;unfold aNQ;rw[aVw aJ h.states,aoe l aJ AA h.small.ajR h.states];simp only[AP];rw[an9 l _ AA h.small AA];simp only[AP];rw[ak3 l _ AA h.small AA];simp only[AP];have ha:jX l (Hr aJ) (Ko l aJ)=some (Ho l aJ):=aXg l _ _ AA h.small AA;unfold Ko Js at ha;rw[ha];simp only[AP];rw[aJl _ _ _ AA];simp only[AP];rw[aQq l _ AA h.small];unfold Ty at ht;cases j:(Fz (Ho l aJ) 3 BK).2 with
 |true=>rw[j]at ht;exact ht
 |false=>rw[j]at ht;exact ht
def VO (l:List AB) (aJ:List (List Ah)):List Ah:=match aJ with
 | []=>[]
 | [s]=>s
 |_=>lastOf l aJ
def aW1 {l:List AB} {aJ:List (List Ah)} (h:Md l aJ):iJ l aJ=some (VO l aJ):=by
 match aJ,h with
 | [],_=>rfl
 | [s],h=>
   have hs:=(h.states.2 s (EO ..)).1;have j:Ag [s] 0=some s:=rfl;show((Ag [s] 0).bind fun q=>(Bo 32 [] q).bind fun u=>some u)=some s;rw[j];simp only[AP];rw[Cx SN];rfl
 |s::t::aJ,h=>
  unfold iJ;have j:(((s::t::aJ).length:Int)==0)=false:=aDy
  have z:(((s::t::aJ).length:Int)==1)=false:=aDy
  rw[j,z,akm h];rfl
def aX2 {l:List AB} {aJ:List (List Ah)} (h:Md l aJ):zC l aJ=some (VO l aJ):=by
 match aJ,h with
 | [],_=>rfl
 | [s],_=>rfl
 |s::t::aJ,h=>
  unfold zC;have j:(((s::t::aJ).length:Int)==0)=false:=aDy
  have q:(((s::t::aJ).length:Int)==1)=false:=aDy
  rw[j,q,akG h];rfl
def ZT (s:List Ah) (k:Int) (key:ByteArray) (id:Int):(⟨k,key,id⟩:Ah)∈ES s k key id:=by
 unfold ES;exact eu _ (EO ..)
def aA2 {s:List Ah} {k:Int} {key:ByteArray} {id:Int} {y:Ah} (z:y∈s) (I:Em y ⟨k,key,0⟩=false):y∈ES s k key id:=by
 unfold ES;obtain⟨i,hi,rfl⟩:=G5 z;by_cases J:i<EZ s ⟨k,key,0⟩
 ·refine ZO _ ?_;rw[aHw];exact⟨i,aNS,by rw[WJ]⟩
 refine eu _ (F5 _ ?_)
 have q:JI s ⟨k,key,0⟩=true→i≠EZ s ⟨k,key,0⟩:=fun j e=>by
  subst e;unfold JI at j;rw[DC hi]at j;have u:Em s[EZ s ⟨k,key,0⟩] ⟨k,key,0⟩=true:=j;rw[I]at u;cases u
 rw[aHw];cases j:JI s ⟨k,key,0⟩with
 |true=>
  have :=q j;refine⟨i-(EZ s ⟨k,key,0⟩+1),by rw[IJ];simp only[BD];omega,?_⟩;rw[Xp];simp only[BD];congr 1;omega
 |false=>
  refine⟨i-EZ s ⟨k,key,0⟩,by rw[IJ];simp only[Am];omega,?_⟩;rw[Xp];simp only[Am];congr 1;omega
def aNr {x:Ah}:∀(a s:List Ah),x∈vS s a→x∈a∨x∈s
 | [],_,h=>.inr h
 |y::a,s,h=>by
  rcases aNr a _ h with h|h
  ·exact .inl (F5 _ h)
  rcases Qo h with h|h
  ·left;rw[h];cases y;exact EO ..
  exact .inr h
def aQN (l:List AB) (ids:List Int) (x:Ah):Prop:=∃id∈ids,bV l id=true∧Fh (ev l id).Kind=true∧x=⟨(ev l id).Kind,(ev l id).Key,(ev l id).Id⟩
def aHe {l:List AB} {x:Ah}:∀(ids:List Int) (s:List Ah),x∈O6 l s ids→x∈s∨aQN l ids x
 | [],_,h=>.inl h
 |id::ids,s,h=>by
  rcases aHe ids _ h with h|⟨j,u,h⟩
  ·have q:x∈bif SH l s id then ES s (ev l id).Kind (ev l id).Key (ev l id).Id else s:=h
   cases hm:SH l s id with
   |false=>rw[hm]at q;exact .inl q
   |true=>
    rw[hm]at q;rcases Qo q with q|q
    ·unfold SH at hm;simp only[CZ]at hm;exact .inr ⟨id,EO ..,hm.1,hm.2.1,q⟩
    exact .inl q
  exact .inr ⟨j,F5 _ u,h⟩
def amd {l:List AB} {aJ:List (List Ah)} {x:Int} (h:x∈Js l aJ):x∈Ih l aJ:=(aFX.1 h).1
def aUX {l:List AB} {aJ:List (List Ah)} {x:Ah} (h:x∈lastOf l aJ):x∈Hr aJ∨aQN l (Ih l aJ) x:=by
 unfold lastOf at h;rcases aNr _ _ h with h|h
 ·exact .inl h
 rcases aHe _ _ h with h|⟨j,q,h⟩
 ·unfold Ho at h;rcases aHe _ _ h with h|⟨j,q,h⟩
  ·exact .inl h
  exact .inr ⟨j,amd (LQ.1 (aPo _ _ _ q)).1,h⟩
 exact .inr ⟨j,(aGc.1 (alW.1 q).1).1,h⟩
def aSL :∀(a s:List Ah),JA s→JA (vS s a)
 | [],_,h=>h
 |x::a,s,h=>aSL a _ (WR h x.Kind x.Key x.Id)
def ao0 {l:List AB} {aJ:List (List Ah)} (h:Md l aJ):JA (lastOf l aJ):=aSL _ _ (aMg (aME h))
structure IE (l:List AB) (s:List Ah):Prop where
 sorted:JA s
 named:∀x∈s,bV l x.Id=true∧Fh x.Kind=true∧(ev l x.Id).Kind=x.Kind∧(ev l x.Id).Key=x.Key
def IE.nil (l:List AB):IE l []:=⟨List.Pairwise.nil,fun _ h=>absurd h EM⟩
def IE.nodup {l:List AB} {s:List Ah} (h:IE l s):(s.map (·.Id)).Nodup:=by
 rw[eB,YB];refine List.Pairwise.imp_of_mem ?_ h.sorted;intro a b ha j hp e;obtain⟨_,_,q,k2⟩:=h.named a ha;obtain⟨_,_,u,z⟩:=h.named b j;have I:a.Kind=b.Kind:=by rw[←q,←u,e]
 have J:a.Key=b.Key:=by rw[←k2,←z,e]
 rw[jo (NS.2 ⟨I,J⟩)]at hp;cases hp
def IE.length {l:List AB} {s:List Ah} (h:IE l s):s.length≤l.length:=by
 have :UL l (s.map (·.Id)):=⟨h.nodup,fun x j=>by
  obtain⟨y,q,rfl⟩:=Dp.1 j
  exact(h.named y q).1⟩
 have :=this.length
 rwa [CB]at this
def IE.okay {l:List AB} {aJ:List (List Ah)} (hl:l.length≤100) (hs:Cm l) (j:aJ.length≤100) (h:∀s∈aJ,IE l s):Md l aJ:=
 ⟨hl,hs,j,fun s hm=>⟨Ed (h s hm).length hl,(h s hm).sorted⟩⟩
def IE.resolve {l:List AB} {aJ:List (List Ah)} (j:Md l aJ) (h:∀s∈aJ,IE l s):IE l (VO l aJ):=by
 match aJ,j,h with
 | [],_,_=>exact .nil l
 | [s],_,h=>exact h s (EO ..)
 |s::t::aJ,j,h=>
  refine⟨ao0 j,fun x I=>?_⟩;rcases aUX I with hm|⟨id,_,z,hst,q⟩
  ·exact(h s (EO ..)).named x ((aVe j.states (aJo _ _)).1 hm s (EO ..))
  have u:=Fj z;have J:x.Id=id:=by rw[q];exact u.2
  rw[J];exact⟨z,by rw[q];exact hst,by rw[q],by rw[q]⟩
def IE.set {l:List AB} {s:List Ah} (h:IE l s) {e:AB} (u:bV l e.Id=true) (q:ev l e.Id=e) (hst:Fh e.Kind=true):IE l (ES s e.Kind e.Key e.Id):=
 ⟨WR h.sorted _ _ _,fun x j=>by
  rcases Qo j with rfl|j
  ·exact⟨u,hst,by rw[q],by rw[q]⟩
  exact h.named x j⟩
def RU (l:List AB) (e:AB):Bool:=e.aZ.all (bV l)&&e.bg.all (bV l)
def PG (l:List AB):Bool:=l.all (RU l)
def Zo {α:Type} {l:List α} {p:α→Bool} {x:α} (h:x∈l) (j:p x=false):l.all p=false:=by
 rw[←Ol,Di];exact fun q=>by rw[q x h]at j;cases j
def all_good {α:Type} {l:List α} {p:α→Bool} (h:∀j,(hj:j<l.length)→p l[j]=true):l.all p=true:=Di.2 (ace h)
def aX0 (j:List Int) (l:List AB) (m:List (Int×Int)) (h:Y6 l m) (q:j.length≤1000):yh j m=some (j.all (bV l)):=by
 unfold yh aYq;rw[Gi j (fuel_lt AA) (fun x=> !bV l x) false (some true)]
 ·rw[List.all_eq_not_any_not];cases(j.any fun x=> !bV l x)<;>rfl
 ·intro k i hi;unfold aPY;rw[Bl hi,h.isSome]
 intro k;unfold aPY;rw[DZ]
def ajq (l:List AB) (hl:l.length≤100) (hs:Cm l):aA6 l=some (PG l):=by
 refine dX.eq ?_;unfold aA6;refine(wQ l AA).bind fun m hm=>?_;unfold aaO;refine Xh (body:=aLj l) (Q:=fun b=>b=PG l) (fun n a b=>∃i:Nat,a=i∧i+n=l.length∧b=m∧∀j,(q:j<i)→(hl:j<l.length)→RU l l[j]=true) ?_ Aj l.length 0 m (fuel_lt AA) ⟨0,rfl,AA,rfl,fun j q=>AA⟩;rintro n a b k ⟨i,rfl,L,rfl,z⟩ J;unfold aLj;by_cases hi:i<l.length
 ·have I:=hs l[i] (ED hi);have M:=I.prev;have O:=I.auth;rw[Bl hi,aX0 _ l b hm AA,AP,BZ hi,AP,aX0 _ l b hm AA];cases hp:l[i].aZ.all (bV l)with
  |false=>exact .ret (Zo (ED hi) (by unfold RU;rw[hp];rfl)).symm
  |true=>
   cases ha:l[i].bg.all (bV l)with
   |false=>exact .ret (Zo (ED hi) (by unfold RU;rw[hp,ha];rfl)).symm
   |true=>
    refine J (n-1) _ _ AA ⟨i+1,wrap_succ i AA,AA,rfl,fun j q u=>?_⟩;by_cases e:j=i
    ·subst e;unfold RU;rw[hp,ha];rfl
    exact z j AA u
 have :i=l.length:=AA
 subst this;rw[DZ];exact .ret (all_good fun j q=>z j q q).symm
def eA (l:List AB):List Int:=l.foldl (fun r e=>e.bg.foldl put (e.aZ.foldl put r)) []
def amM {l:List AB} {i:Nat} (hi:i<l.length) (q:List Int→Int→Option (List Int)) (v:List Int) (I:Inc v) (hl:v.length≤900000) (ha:l[i].bg.length≤40):
 aCX l (i:Int) q v 0=q (l[i].bg.foldl put v) (Ai ((i:Int)+1)):=by
 unfold aCX;rw[Hu l[i].bg AA put (fun j a=>Inc a∧a.length≤v.length+j) (fun a=>q a (Ai ((i:Int)+1))) ⟨I,AA⟩]
 ·intro k a j u z;have hp:=iG a l[i].bg[j];refine⟨⟨SV z.1,AA⟩,?_⟩;unfold aO4;rw[BZ hi,AP,dec_lt u,BD,AP,BZ u,AP,aMG a _ z.1 AA,AP]
 intro k a _;unfold aO4;rw[BZ hi,AP,CX];rfl
def ajZ {l:List AB} {i:Nat} (hi:i<l.length) (q:List Int→Int→Option (List Int)) (v:List Int) (u:Inc v) (hl:v.length≤800000) (hp:l[i].aZ.length≤40) (ha:l[i].bg.length≤40):
 aIt l (i:Int) q v 0=q (l[i].bg.foldl put (l[i].aZ.foldl put v)) (Ai ((i:Int)+1)):=by
 unfold aIt;rw[Hu l[i].aZ AA put (fun j a=>Inc a∧a.length≤v.length+j) (fun a=>aCX l (i:Int) q a 0) ⟨u,AA⟩]
 ·have h:=gU l[i].aZ v;exact amM hi q _ (aBS u) AA ha
 ·intro k a j z I;have hp:=iG a l[i].aZ[j];refine⟨⟨SV I.1,AA⟩,?_⟩;unfold aKU;rw[BZ hi,AP,dec_lt z,BD,AP,BZ z,AP,aMG a _ I.1 AA,AP]
 intro k a _;unfold aKU;rw[BZ hi,AP,CX];rfl
def aFe :∀(l:List AB) (r:List Int),Inc r→(∀e∈l,e.aZ.length≤40∧e.bg.length≤40)→
 Inc (l.foldl (fun r e=>e.bg.foldl put (e.aZ.foldl put r)) r)∧(l.foldl (fun r e=>e.bg.foldl put (e.aZ.foldl put r)) r).length≤r.length+l.length*80∧
 ∀x,x∈l.foldl (fun r e=>e.bg.foldl put (e.aZ.foldl put r)) r↔x∈r∨∃e∈l,x∈e.aZ∨x∈e.bg
 | [],r,h,_=>⟨h,Aw,fun x=>Aw⟩
 |e::l,r,h,hs=>by
  have I:=hs e (EO ..);obtain⟨q,J,u⟩:=aFe l (e.bg.foldl put (e.aZ.foldl put r)) (aBS (aBS h)) fun x z=>hs x (F5 _ z);have L:=gU e.aZ r;have M:=gU e.bg (e.aZ.foldl put r);rw[Ey];refine⟨q,by rw[FV];omega,fun x=>(u x).trans ?_⟩;rw[aNP,aNP];constructor
  ·rintro(((h|h)|h)|⟨y,j,h⟩)
   ·exact .inl h
   ·exact .inr ⟨e,EO ..,.inl h⟩
   ·exact .inr ⟨e,EO ..,.inr h⟩
   exact .inr ⟨y,F5 _ j,h⟩
  rintro(h|⟨y,j,h⟩)
  ·exact .inl (.inl (.inl h))
  rcases EG.1 j with rfl|j
  ·exact h.elim (fun h=>.inl (.inl (.inr h))) fun h=>.inl (.inr h)
  exact .inr ⟨y,j,h⟩
def Cm.lists {l:List AB} (hs:Cm l):∀e∈l,e.aZ.length≤40∧e.bg.length≤40:=fun e j=>⟨(hs e j).prev,(hs e j).auth⟩
def agZ {l:List AB} {i:Nat} (h:i<l.length):(l.take (i+1)).foldl (fun r e=>e.bg.foldl put (e.aZ.foldl put r)) ([]:List Int)=l[i].bg.foldl put (l[i].aZ.foldl put ((l.take i).foldl (fun r e=>e.bg.foldl put (e.aZ.foldl put r)) [])):=by
 rw[TA,DC h,QZ,TQ];rfl
def ahz (l:List AB) (hl:l.length≤1000) (hs:Cm l):aOA l=some (eA l):=by
 unfold aOA aWw;refine dX.eq (Iq l.length (fuel_lt AA) (fun i a=>a=(l.take i).foldl (fun r e=>e.bg.foldl put (e.aZ.foldl put r)) []) rfl (fun i a k hi ha q=>?_) fun a k ha=>?_)
 ·subst ha;obtain⟨u,j,_⟩:=aFe (l.take i) [] .nil fun e z=>hs.lists e (YL z);have hp:=hs.lists l[i] (ED hi);unfold aP7;rw[dec_lt hi,BD,ajZ hi k _ u (by rw[F7]at j;simp only[L9]at j;omega) hp.1 hp.2,wrap_succ i AA];exact q _ (agZ hi).symm
 unfold aP7;rw[CX];refine .ret ?_;rw[ha,FW];rfl
def ao7 {l:List AB} (hs:Cm l):(eA l).length≤l.length*80:=by
 have :=(aFe l [] .nil hs.lists).2.1;unfold eA;simpa using this
def aTh {l:List AB} (hs:Cm l) {x:Int}:x∈eA l↔∃e∈l,x∈e.aZ∨x∈e.bg:=by
 have :=(aFe l [] .nil hs.lists).2.2 x;unfold eA;rw[this];simp
def afP {l:List AB}:PG l=true↔∀e∈l,(∀x∈e.aZ,bV l x=true)∧∀x∈e.bg,bV l x=true:=by
 unfold PG RU;simp only[Di,CZ]
def akI (l:List AB) (hl:l.length≤1000) (hs:Cm l):aND l=some (PG l):=by
 have M:=ao7 hs;unfold aND;rw[ahz l hl hs,AP,aNB l _ hl AA,AP];refine Ap some ?_;rw[KR,afP];constructor
 ·intro h e q;have u:ZB l (eA l)=[]:=Gh aM9
  have key:∀x,x∈e.aZ∨x∈e.bg→bV l x=true:=fun x j=>by
   cases I:bV l x with
   |true=>rfl
   |false=>have :=aIi.2 ⟨(aTh hs).2 ⟨e,q,j⟩,I⟩;rw[u]at this;cases this
  exact⟨fun x j=>key x (.inl j),fun x j=>key x (.inr j)⟩
 intro h
 have u:ZB l (eA l)=[]:=List.eq_nil_iff_forall_not_mem.2 fun x j=>by
  obtain⟨J,z⟩:=aIi.1 j;obtain⟨e,q,L⟩:=(aTh hs).1 J;rw[L.elim ((h e q).1 x) ((h e q).2 x)]at z;cases z
 rw[u];rfl
def fK (l:List AB):Prop:=∀e∈l,1≤e.Depth∧e.Depth≤100000
def FQ (l:List AB) (x:Int):Int:=(Fq l x).1.Depth
def MX (l:List AB) (e:AB):Bool:=e.bg.all (fun x=>decide (FQ l x<e.Depth))&&bif (e.aZ.length:Int)==0 then e.Depth==1 else e.aZ.all (fun x=>decide (FQ l x<e.Depth))&&e.aZ.any fun x=>FQ l x==e.Depth-1
def Gf (l:List AB):Int:=bif PG l then bif l.all (MX l)then 0 else 15 else 14
def aQC {l:List AB} (h:fK l) (x:Int):0≤FQ l x∧FQ l x≤100000:=by
 unfold FQ Fq;cases j:DV l x with
 |none=>exact⟨Y9 0,BJ⟩
 |some e=>have :=h e (Ht j);exact⟨by show 0≤e.Depth;omega,this.2⟩
def aOg (a b:Int):decide (a≥b)= !decide (a<b):=by by_cases h:a<b<;>simp[h];omega
def wY {α:Type} (l:List α) (p:α→Bool):l.any (fun x=> !p x)= !l.all p:=by rw[List.all_eq_not_any_not,rO]
def ank (l:List AB) (e:AB) (hl:l.length≤1000) (M:EY e) (hd:fK l) (O:1≤e.Depth∧e.Depth≤100000):aMX l e=some (MX l e):=by
 have h1:=M.prev;have h2:=M.auth;have w:Ai (e.Depth-1)=e.Depth-1:=MH AA AA
 have z:zW e l ((e.aZ.length:Int)==0) 0=some (bif (e.aZ.length:Int)==0 then true else e.aZ.all (fun x=>decide (FQ l x<e.Depth))&&e.aZ.any fun x=>FQ l x==e.Depth-1):=by
  unfold zW;refine dX.eq (Iq e.aZ.length (fuel_lt AA) (fun i a=>(∀j,(u:j<i)→(hl:j<e.aZ.length)→decide (FQ l e.aZ[j]<e.Depth)=true)∧a=(((e.aZ.length:Int)==0)||(e.aZ.take i).any fun x=>FQ l x==e.Depth-1)) ⟨fun j u=>AA,Aw⟩ (fun i a k hi ha U=>?_) fun a k ha=>?_)
  ·have Y:((e.aZ.length:Int)==0)=false:=by simp;intro Z;rw[Z]at hi;simp at hi
   unfold aGd;rw[Bl hi,Jp l _ AA,AP,aOg];refine dX.bif (fun q=>.ret ?_) fun q=>?_
   ·have q:decide (FQ l e.aZ[i]<e.Depth)=false:=by unfold FQ;simpa using q
    rw[Y,Zo (ED hi) q];rfl
   have q:decide (FQ l e.aZ[i]<e.Depth)=true:=by unfold FQ;simpa using q
   rw[show(bif a then some true else some ((Fq l e.aZ[i]).1.Depth==Ai (e.Depth-1)))=some (a||(FQ l e.aZ[i]==e.Depth-1)) by rw[w];cases a<;>rfl,AP,wrap_succ i AA];refine U _ ⟨fun j u I=>?_,?_⟩
   ·by_cases ej:j=i
    ·subst ej;exact q
    exact ha.1 j AA I
   rw[ha.2,TA,DC hi,QZ,aQ0,Bool.or_assoc];simp
  unfold aGd;rw[DZ];refine .ret ?_;rw[ha.2,FW,all_good fun j u=>ha.1 j u u];cases((e.aZ.length:Int)==0)<;>simp
 unfold aMX
 have J:aL4 e l 0=some (e.bg.all (fun x=>decide (FQ l x<e.Depth))&&(bif (e.aZ.length:Int)==0 then true else e.aZ.all (fun x=>decide (FQ l x<e.Depth))&&e.aZ.any fun x=>FQ l x==e.Depth-1)):=by
  unfold aL4;rw[Gi e.bg (fuel_lt AA) (fun x=> !decide (FQ l x<e.Depth)) false (zW e l ((e.aZ.length:Int)==0) 0)]
  ·rw[z,wY];cases e.bg.all (fun x=>decide (FQ l x<e.Depth))<;>rfl
  ·intro k i hi;unfold aI8;rw[Bl hi,Jp l _ AA,AP,aOg];rfl
  intro k;unfold aI8;rw[DZ]
 rw[J];unfold MX;have L:(e.Depth != 1)= !(e.Depth==1):=rfl;rw[L];cases((e.aZ.length:Int)==0)<;>cases(e.Depth==1)<;>cases e.bg.all (fun x=>decide (FQ l x<e.Depth))<;>rfl
def aKN {l:List AB} {m:List (Int×Int)} (h:Y6 l m) {x:Int} (j:bV l x=true):∃e,Ag l ((CJ m x).getD 0)=some e∧e.Depth=FQ l x:=⟨_,h.get (Fj j).1,rfl⟩
def apQ (p:List Int) (f:Int→Int) (d a:Int) (j:∃y∈p,f y=a) (ha:∀y∈p,f y≤a):(p.all (fun x=>decide (f x<d))&&p.any fun x=>f x==d-1)=bif decide (d>a)then d-a==1 else false:=by
 obtain⟨y,j,e⟩:=j;by_cases h:d>a
 ·have z:p.all (fun x=>decide (f x<d))=true:=Di.2 fun x q=>by have :=ha x q;simp;omega
  rw[z,GL,Gu h,BD,KR,Gl];constructor
  ·rintro⟨x,q,u⟩;have :=ha x q;have :=eq_of_beq u;simp;omega
  intro u;have :=eq_of_beq u;exact⟨y,j,DW⟩
 rw[Gv h,Am,Zo j DW];rfl
def ame (l:List AB) (m:List (Int×Int)) (e:AB) (hm:Y6 l m) (U:EY e) (J:RU l e=true) (hd:fK l) (Y:1≤e.Depth∧e.Depth≤100000):aFG l m e=some (MX l e,m):=by
 have h1:=U.prev;have h2:=U.auth;unfold RU at J;simp only[CZ,Di]at J;unfold aFG aU5;rw[Gi e.bg (fuel_lt AA) (fun x=> !decide (FQ l x<e.Depth)) (false,m) (some ((bif (e.aZ.length:Int)==0 then e.Depth==1 else e.aZ.all (fun x=>decide (FQ l x<e.Depth))&&e.aZ.any fun x=>FQ l x==e.Depth-1),m))]
 ·rw[wY];unfold MX;cases e.bg.all (fun x=>decide (FQ l x<e.Depth))<;>rfl
 ·intro k i hi;unfold aOq;obtain⟨x,O,q⟩:=aKN hm (J.2 _ (ED hi));rw[Bl hi,O,AP,aOg,q]
 intro k;unfold aOq;rw[DZ];cases u:((e.aZ.length:Int)==0)with
 |true=>rfl
 |false=>
  have hp:0<e.aZ.length:=by
   rcases Yk e.aZ.length with h|h
   ·rw[h]at u;cases u
   exact h
  obtain⟨x,O,q⟩:=aKN hm (J.1 _ (ED hp));have Z:Ag e.aZ 0=some e.aZ[0]:=BZ (i:=0) hp;rw[Am,Am,Z,AP,O,AP,q];unfold aYQ;refine dX.eq (Iq e.aZ.length (fuel_lt AA) (fun i a=>(0≤a∧a≤100000)∧(∃y∈e.aZ,FQ l y=a)∧∀y∈e.aZ.take i,FQ l y≤a) ⟨aQC hd _,⟨_,ED hp,rfl⟩,fun y L=>by simp at L⟩ (fun i a k2 hi ha hk=>?_) fun a k2 ha=>?_)
  ·unfold aIe;obtain⟨y,L,I⟩:=aKN hm (J.1 _ (ED hi));have hb:=aQC hd e.aZ[i];rw[Bl hi,L,AP,wrap_succ i AA,I]
   have M:PK a (FQ l e.aZ[i])=a∧FQ l e.aZ[i]≤a∨PK a (FQ l e.aZ[i])=FQ l e.aZ[i]∧a≤FQ l e.aZ[i]:=by
    unfold PK;by_cases h:FQ l e.aZ[i]>a
    ·rw[Gu h];exact .inr ⟨rfl,AA⟩
    rw[Gv h];exact .inl ⟨rfl,AA⟩
   refine hk _ ⟨AA,?_,fun z u=>?_⟩
   ·rcases M with h|h
    ·rw[h.1];exact ha.2.1
    rw[h.1];exact⟨_,ED hi,rfl⟩
   rw[TA,DC hi,QZ,Hl,FT]at u;rcases u with u|rfl
   ·have :=ha.2.2 z u;omega
   omega
  obtain⟨hb,⟨y,L,I⟩,j⟩:=ha;rw[FW]at j;unfold aIe;rw[DZ,MH AA AA,apQ e.aZ (FQ l) e.Depth a ⟨y,L,I⟩ j];cases decide (e.Depth>a)<;>exact .ret rfl
def adt (l:List AB) (hl:l.length≤100) (hs:Cm l) (hd:fK l):aAk l=some (Gf l):=by
 unfold aAk Gf;rw[ajq l hl hs,AP];cases L:PG l with
 |false=>rfl
 |true=>
  have M:∀e∈l,RU l e=true:=Di.1 L;refine dX.eq ((wQ l AA).bind fun m hm=>?_);unfold aXW;refine Xh (body:=aIu l) (Q:=fun b=>b=bif l.all (MX l)then 0 else 15) (fun n a b=>∃i:Nat,a=i∧i+n=l.length∧b=m∧∀j,(u:j<i)→(hl:j<l.length)→MX l l[j]=true) ?_ Aj l.length 0 m (fuel_lt AA) ⟨0,rfl,AA,rfl,fun j u=>AA⟩;rintro n a b k ⟨i,rfl,U,rfl,I⟩ O;unfold aIu;by_cases hi:i<l.length
  ·have q:=ED hi;rw[Bl hi,ame l b l[i] hm (hs _ q) (M _ q) hd (hd _ q),AP];cases J:MX l l[i]with
   |false=>exact .ret (by rw[Zo q J];rfl)
   |true=>
    refine O (n-1) _ _ AA ⟨i+1,wrap_succ i AA,AA,rfl,fun j u z=>?_⟩;by_cases e:j=i
    ·subst e;exact J
    exact I j AA z
  have :i=l.length:=AA
  subst this;rw[DZ];exact .ret (by rw[all_good fun j u=>I j u u];rfl)
def aQy (l:List AB) (hl:l.length≤100) (hs:Cm l) (hd:fK l):aM2 l=some (Gf l):=by
 unfold aM2 Gf;rw[akI l AA hs,AP];cases M:PG l with
 |false=>rfl
 |true=>
  show aKo l 0=_;unfold aKo;refine dX.eq (aA7 l.length (fuel_lt AA) (fun i=>∀j,(u:j<i)→(hl:j<l.length)→MX l l[j]=true) (fun j u=>AA) (fun i k hi z L=>?_) fun k z=>?_)
  ·have q:=ED hi;unfold aJY;rw[Bl hi,ank l l[i] AA (hs _ q) hd (hd _ q),AP,wrap_succ i AA];cases J:MX l l[i]with
   |false=>exact .ret (by rw[Zo q J];rfl)
   |true=>
    refine L fun j u I=>?_;by_cases e:j=i
    ·subst e;exact J
    exact z j AA I
  unfold aJY;rw[CX];exact .ret (by rw[all_good fun j u=>z j u u];rfl)
section
variable {α β R : Type} {lt : α → α → Bool}
def Jm (lt:α→α→Bool) (A:List α) (x:α):List α:=(A.reverse.dropWhile (lt x)).reverse++x::(A.reverse.takeWhile (lt x)).reverse
def abG {A:List α} {a x:α} (h:lt x a=true):Jm lt (A++[a]) x=Jm lt A x++[a]:=by
 unfold Jm;rw[aGe,List.reverse_singleton,List.singleton_append,aa0 h,List.takeWhile_cons_of_pos h,List.reverse_cons,HY];rfl
def aWP {A:List α} {a x:α} (h:lt x a=false):Jm lt (A++[a]) x=A++a::[x]:=by
 have h':¬lt x a=true:=by rw[h];simp
 unfold Jm;rw[aGe,List.reverse_singleton,List.singleton_append,aXf h',List.takeWhile_cons_of_neg h'];simp
def apc (A:List α) (x:α):(Jm lt A x).length=A.length+1:=by
 unfold Jm;have :=Ap List.length (wV (p:=lt x) (l:=A.reverse));simp only[E9,List.length_reverse,FV]at this ⊢;omega
def aW3 (A:List α) (x:α):(Jm lt A x).Perm (x::A):=by
 unfold Jm;refine aEx.trans (List.Perm.cons x ?_);rw[←aGe,wV,List.reverse_reverse]
def ahy {lt':β→β→Bool} {f:α→β} (h:∀x a,lt x a=lt' (f x) (f a)) (A:List α) (x:α):(Jm lt A x).map f=Jm lt' (A.map f) (f x):=by
 have e:lt x=lt' (f x)∘f:=funext fun a=>h x a;unfold Jm;have j:(A.map f).reverse=A.reverse.map f:=aHM.symm;rw[j,List.dropWhile_map,List.takeWhile_map,KO,Ia,aHM,aHM,e]
def aUf {lt':β→β→Bool} {f:α→β} (h:∀x a,lt x a=lt' (f x) (f a)):∀(l A:List α),(l.foldl (Jm lt) A).map f=(l.map f).foldl (Jm lt') (A.map f)
 | [],A=>rfl
 |x::l,A=>by rw[Ey,aUf h l,Ia,Ey,ahy h]
def aCf :∀(l A:List α),(l.foldl (Jm lt) A).length=A.length+l.length
 | [],A=>rfl
 |x::l,A=>by rw[Ey,aCf l,apc,FV];omega
def aR4 :∀(l A:List α),(l.foldl (Jm lt) A).Perm (A++l)
 | [],A=>by rw[Oc];exact .refl _
 |x::l,A=>by
  rw[Ey];exact(aR4 l (Jm lt A x)).trans (((aW3 A x).append_right l).trans (aEx (l₁:=A) (l₂:=l) (a:=x)).symm)
def aFH (A:List α) (x:α) (B:List α):Ag (A++x::B) (A.length:Int)=some x:=by rw[aEu];simp
def aP3 (A:List α) (a x:α) (B:List α):Ag (A++a::x::B) ((A.length+1:Nat):Int)=some x:=by rw[aEu];simp
def set_mid (A:List α) (x y:α) (B:List α):(A++x::B).set A.length y=A++y::B:=Aw
def aRa (A:List α) (a x y:α) (B:List α):(A++a::x::B).set (A.length+1) y=A++a::y::B:=by
 have :=set_mid (A++[a]) x y B;simpa using this
def bubble {body:(Int→List α→Option R)→Int→List α→Option R} (j:List α→Option R) (N:Nat) (U:∀k x B,(x::B).length=N→body k 0 (x::B)=j (x::B))
 (hs:∀k A a x B,(A++a::x::B).length=N→body k ((A.length+1:Nat):Int) (A++a::x::B)=bif lt x a then k (A.length:Int) (A++x::a::B)else j (A++a::x::B)):
 ∀n (A:List α) (x:α) (B:List α),A.length=n→(A++x::B).length=N→∀m,n<m→aT body m (A.length:Int) (A++x::B)=j (Jm lt A x++B):=by
 intro n
 induction n with
 |zero=>
  intro A x B I J m hm;obtain⟨m,rfl⟩:∃L,m=L+1:=⟨m-1,AA⟩
  obtain rfl:=Gh I;exact U _ x B J
 |succ n Y=>
  intro A x B I J m hm;obtain⟨m,rfl⟩:∃L,m=L+1:=⟨m-1,AA⟩
  have q:A≠[]:=fun e=>by subst e;cases I
  obtain⟨A',a,rfl⟩:∃A' a,A=A'++[a]:=⟨A.dropLast,A.getLast q,(List.dropLast_concat_getLast q).symm⟩
  have M:A'.length=n:=Rf
  have O:A'++[a]++x::B=A'++a::x::B:=Aw
  have u:(A'++a::x::B).length=N:=by rw[←O];exact J
  have Z:(A'++[a]).length=A'.length+1:=Aw
  rw[O,Z];show body (aT body m) _ _=_;rw[hs _ A' a x B u];cases z:lt x a with
  |true=>
   rw[BD,Y A' x (a::B) M (by simp at u ⊢;omega) m AA,abG z];simp
  |false=>rw[Am,aWP z];simp
end
def G9 (a b:AB):Bool:=decide (a.Depth<b.Depth)||((a.Depth==b.Depth)&&decide (a.Id<b.Id))
def TU (l:List AB):List AB:=l.foldl (Jm G9) []
def GH (l:List AB):List Int:=(TU l).map (·.Id)
def aIb (l:List AB):(TU l).length=l.length:=by unfold TU;rw[aCf];simp
def aLq (l:List AB):(TU l).Perm l:=by have :=aR4 (lt:=G9) l [];rwa [I5]at this
def ad3 (a b:AB):aLy a b=some (G9 a b):=by
 unfold aLy G9;cases decide (a.Depth<b.Depth)<;>cases(a.Depth==b.Depth)<;>rfl
def aU1 {α β:Type} {f:β→α→β} {b:β} {l:List α} {i:Nat} (h:i<l.length):(l.take (i+1)).foldl f b=f ((l.take i).foldl f b) l[i]:=by
 rw[TA,DC h,QZ,TQ];rfl
def map_take {α β:Type} {f:α→β} {l:List α} {i:Nat} (h:i<l.length):(l.take (i+1)).map f=(l.take i).map f++[f l[i]]:=by
 rw[TA,DC h,QZ,KO];rfl
def aer (l:List AB) (hl:l.length≤1000000):aPM l=some (l.map (·.Id)):=by
 unfold aPM aYw;refine dX.eq (Iq l.length (fuel_lt AA) (fun i a=>a=(l.take i).map (·.Id)) rfl (fun i a k hi ha j=>?_) fun a k ha=>?_)
 ·unfold aMy;have hlen:a.length≤i:=mD
  rw[Bl hi,Cx FK,AP,wrap_succ i AA];exact j _ uY
 unfold aMy;rw[DZ];exact .ret dD
def akV (l:List AB) (hl:l.length≤1000):aNp l=some (GH l):=by
 unfold aNp aXY;refine dX.eq (Iq l.length (fuel_lt AA) (fun i a=>a=(l.take i).foldl (Jm G9) []) rfl (fun i a k hi ha u=>?_) fun a k ha=>?_)
 ·have hlen:a.length=i:=by rw[ha,aCf,F7];simp;omega
  unfold aPj;rw[Bl hi,Cx FK,AP];unfold aSb;have j:=bubble (lt:=G9) (body:=aFV k (i:Int)) (fun v=>k v ((i+1:Nat):Int)) (i+1) (fun k2 x B q=>?_) (fun k2 A b x B q=>?_) i a l[i] [] hlen DW Aj (fuel_lt AA)
  ·rw[hlen]at j;rw[j,Oc];exact u _ (by rw[aU1 hi,ha])
  ·unfold aFV aB4;rw[wrap_succ i AA];rfl
  have hA:A.length+2≤i+1:=by rw[←q];simp
  have z:Ai (((A.length+1:Nat):Int)-1)=(A.length:Int):=Ph
  unfold aFV aB4;rw[Gu (show((A.length+1:Nat):Int)>0 by omega),BD,aP3,AP,z,aFH,AP,ad3,AP,wrap_succ i AA];cases G9 x b with
  |false=>rfl
  |true=>
   simp only[BD,AP,Rq];rw[aRa,aFH,AP,set_mid]
 unfold aPj;rw[CX,Am];have e:a=TU l:=by rw[ha,FW];rfl
 rw[e,aer _ (by rw[aIb];omega)];exact .ret rfl
def sZ (e:AB):Ru:=⟨e.Depth,e.Id⟩
def iU (a b:Ru):Bool:=decide (a.oP<b.oP)||((a.oP==b.oP)&&decide (a.mZ<b.mZ))
def afK (a x:Ru):(bif decide (a.oP<x.oP)then some true else(bif (a.oP==x.oP)then some (decide (a.mZ≤x.mZ))else some false).bind fun j=>some j)=some (!iU x a):=by
 unfold iU;by_cases q:a.oP<x.oP
 ·rw[Gu q,BD,Gv AA,show(x.oP==a.oP)=false by simp;omega];rfl
 rw[Gv q,Am];by_cases u:a.oP=x.oP
 ·rw[u,Gv (show ¬x.oP<x.oP by omega)];simp only[SY,BD,AP,NH,GL];by_cases z:a.mZ≤x.mZ
  ·rw[Gu z,Gv AA];rfl
  rw[Gv z,Gu AA];rfl
 rw[show(a.oP==x.oP)=false by simpa using u,Gu (show x.oP<a.oP by omega)];rfl
def ahv (l:List AB) (hl:l.length≤1000):aDt l=some (GH l):=by
 have J:IK 16 aAI 0 (l.length:Int)=some []:=aQW
 unfold aDt;rw[J,AP];unfold aRE;refine dX.eq (Iq l.length (fuel_lt AA) (fun i a=>a=((l.take i).map sZ).foldl (Jm iU) []) rfl (fun i a k hi ha L=>?_) fun a k ha=>?_)
 ·have hlen:a.length=i:=by rw[ha,aCf,CB,F7];simp;omega
  unfold aO8;rw[Bl hi,BZ hi,AP,Cx FK,AP];unfold aao;have M:Ai (((a++[(⟨l[i].Depth,l[i].Id⟩:Ru)]).length:Int)-1)=(a.length:Int):=aNy
  rw[M];have O:=bubble (lt:=iU) (body:=sU k (i:Int)) (fun v=>k v ((i+1:Nat):Int)) (i+1) (fun k2 x B u=>?_) (fun k2 A b x B u=>?_) i a (sZ l[i]) [] hlen DW Aj (fuel_lt AA)
  ·show dX (aT (sU k (i:Int)) Aj (a.length:Int) (a++[sZ l[i]])) _;rw[O,Oc];exact L _ (by rw[map_take hi,TQ,ha];rfl)
  ·unfold sU rU;rw[wrap_succ i AA];rfl
  have hA:A.length+2≤i+1:=by rw[←u];simp
  have U:Ai (((A.length+1:Nat):Int)-1)=(A.length:Int):=Ph
  unfold sU rU;rw[Gu (show((A.length+1:Nat):Int)>0 by omega),BD,U,aFH,AP,aP3,AP,afK,AP,wrap_succ i AA];cases iU x b with
  |false=>rfl
  |true=>
   simp only[EW,Am,BD,AP,Rq];rw[set_mid,aP3,AP,aRa]
 unfold aO8;rw[DZ];have e:a=(TU l).map sZ:=by rw[ha,FW];exact(aUf (lt:=G9) (lt':=iU) (f:=sZ) (fun _ _=>rfl) l []).symm
 have Y:a.length=l.length:=by rw[e,CB,aIb]
 have Z:IK 8 0 (a.length:Int) (a.length:Int)=some (List.replicate a.length (0:Int)):=by unfold IK;rw[CP ⟨AA,Y9 _,AA⟩];simp
 have e2:GH l=a.map (·.mZ):=by rw[e,V7];rfl
 rw[Z,AP,e2];unfold aaI;refine QW (body:=aPw a) (Q:=fun r=>r=a.map (·.mZ)) (fun n (x:Int) (o:List Int) (p:List Ru)=>∃i:Nat,x=i∧i+n=a.length∧o=(a.take i).map (·.mZ)++List.replicate (a.length-i) 0∧p=a) ?_ Aj a.length 0 (List.replicate a.length 0) a (fuel_lt AA) ⟨0,rfl,AA,Aw,rfl⟩;rintro n x o p k2 ⟨i,rfl,hn,I,rfl⟩ q;unfold aPw;by_cases hi:i<p.length
 ·have hm:((p.take i).map (·.mZ)).length=i:=by rw[CB,F7];omega
  obtain⟨z,hz⟩:∃z,p.length-i=z+1:=⟨p.length-i-1,AA⟩
  have j:o=(p.take i).map (·.mZ)++0::List.replicate z 0:=by rw[I,hz,List.replicate_succ]
  have g2:Ag o (i:Int)=some 0:=by have :=aFH ((p.take i).map (·.mZ)) 0 (List.replicate z 0);rw[hm]at this;rw[j];exact this
  have s2:o.set i p[i].mZ=(p.take i).map (·.mZ)++p[i].mZ::List.replicate z 0:=by have :=set_mid ((p.take i).map (·.mZ)) 0 p[i].mZ (List.replicate z 0);rw[hm]at this;rw[j];exact this
  rw[Bl hi,g2,AP];refine q (n-1) _ _ _ AA ⟨i+1,wrap_succ i AA,AA,?_,rfl⟩;rw[Rq,s2,map_take hi,show p.length-(i+1)=z by omega];simp
 have :i=p.length:=AA
 subst this;rw[DZ];exact .ret (by rw[I];simp)
def He (l:List AB) (x y:Int):Bool:=bV l y&&(y != x&&DL (ev l y).aZ x)
def FB (l:List AB) (ids:List Int):List Int:=(EF ids).filter fun x=> !ids.any (He l x)
def apT {α:Type} {a b:List α} (p:α→Bool) (h:∀x,x∈a↔x∈b):a.any p=b.any p:=by
 rw[KR,Gl,Gl];exact⟨fun⟨x,j,k⟩=>⟨x,(h x).1 j,k⟩,fun⟨x,j,k⟩=>⟨x,(h x).2 j,k⟩⟩
def ajb (ids:List Int) (p:Int→Bool):EF (ids.filter p)=(EF ids).filter p:=
 xH (Jk _) ((Jk ids).sublist QM) fun x=>by rw[IY,FN,FN,IY]
def Xg (l:List AB) (ids:List Int):(FB l ids).length≤ids.length:=Ed (J4 _ _) (KW ids)
def qZ {α:Type} {p:α→Bool} {l:List α} {i:Nat} (h:i<l.length):(l.take (i+1)).filter p=(l.take i).filter p++bif p l[i]then[l[i]]else[]:=by
 rw[TA,DC h,QZ,Ox];cases hp:p l[i]<;>simp[hp]
def xR {α:Type} {p:α→Bool} {l:List α} {i:Nat} (h:i<l.length):(l.take (i+1)).any p=((l.take i).any p||p l[i]):=by
 rw[TA,DC h,QZ,aQ0];simp
def aT4 (l:List AB) (ids:List Int) (hl:l.length≤100) (hs:Cm l) (hi0:ids.length≤1000):nX l ids=some (FB l ids):=by
 unfold nX;refine dX.eq ((wQ l AA).bind fun m hm=>?_);unfold aYh;refine QW (body:=aLF ids l) (Q:=fun r=>r=FB l ids) (fun n a b c=>∃i:Nat,a=i∧i+n=ids.length∧b=m∧∀x,(CJ c x).getD false=(ids.take i).any (He l x)) ?_ Aj ids.length 0 m [] (fuel_lt AA) ⟨0,rfl,AA,rfl,fun x=>rfl⟩;rintro n a b c k ⟨i,rfl,hn,rfl,M⟩ O;unfold aLF;by_cases hi:i<ids.length
 ·have hj:∀Y,(∀x,(CJ Y x).getD false=((ids.take i).any (He l x)||He l x ids[i]))→dX (zu k (i:Int) b Y) (fun r=>r=FB l ids):=fun Y h8=>O (n-1) _ _ _ AA ⟨i+1,wrap_succ i AA,AA,rfl,fun x=>by rw[h8,xR hi]⟩;rw[Bl hi,hm.isSome];cases q:bV l ids[i]with
  |false=>exact hj c fun x=>by rw[M];unfold He;rw[q];simp
  |true=>
   obtain⟨hg,_⟩:=Fj q;rw[hm.get hg,AP];have hp:=(hs _ (Ht hg)).prev;simp only[EW,Am];unfold aaU;refine QW (body:=aNI (ev l ids[i]) ids[i] k (i:Int)) (Q:=fun r=>r=FB l ids) (fun U a2 b2 c2=>∃j:Nat,a2=j∧j+U=(ev l ids[i]).aZ.length∧b2=b∧∀x,(CJ c2 x).getD false=((ids.take i).any (He l x)||(ids[i] != x&&DL ((ev l ids[i]).aZ.take j) x))) ?_ Aj (ev l ids[i]).aZ.length 0 b c (fuel_lt AA) ⟨0,rfl,AA,rfl,fun x=>by rw[M,vI];unfold DL;simp⟩;rintro U a2 b2 c2 k2 ⟨j,rfl,hn2,rfl,u⟩ z;unfold aNI;by_cases I:j<(ev l ids[i]).aZ.length
   ·have J:∀x,DL ((ev l ids[i]).aZ.take (j+1)) x=(DL ((ev l ids[i]).aZ.take j) x||(x==(ev l ids[i]).aZ[j])):=fun x=>by
     rw[KR,Vb,Iu,Iu,TA,DC I,QZ,Hl,FT,OL]
    rw[Bl I];cases L:(ev l ids[i]).aZ[j] != ids[i]with
    |true=>
     refine z (U-1) _ _ _ AA ⟨j+1,wrap_succ j AA,AA,rfl,fun x=>?_⟩;rw[QY,J];cases Z:x==(ev l ids[i]).aZ[j]with
     |true=>
      have e:=eq_of_beq Z;subst e;rw[show(ids[i] != (ev l ids[i]).aZ[j])=true by rw[bne_comm];exact L];simp
     |false=>rw[Am,u,Ku]
    |false=>
     refine z (U-1) _ _ _ AA ⟨j+1,wrap_succ j AA,AA,rfl,fun x=>?_⟩;rw[J,u];have e:(ev l ids[i]).aZ[j]=ids[i]:=Wu
     rw[e];cases Z:x==ids[i]with
     |false=>simp
     |true=>have e2:=eq_of_beq Z;subst e2;simp
   have :j=(ev l ids[i]).aZ.length:=AA
   subst this;rw[DZ];exact hj _ fun x=>by rw[u,FW];unfold He;rw[q];rfl
 have :i=ids.length:=AA
 subst this;rw[DZ];unfold aUI;rw[FW]at M;refine Iq ids.length (fuel_lt AA) (fun i a=>a=(ids.take i).filter fun x=> !ids.any (He l x)) rfl (fun i a k2 hi ha O=>?_) fun a k2 ha=>?_
 ·have hal:a.length≤i:=aKe
  unfold aJL zq;rw[Bl hi,wrap_succ i AA,M];have hf:=qZ (p:=fun x=> !ids.any (He l x)) hi;cases hb:ids.any (He l ids[i])with
  |true=>exact O _ (by rw[hf,ha,hb];simp)
  |false=>
   simp only[Il,BD];rw[Cx FK,AP];exact O _ (by rw[hf,ha,hb];rfl)
 have hal:a.length≤ids.length:=aKe
 unfold aJL;rw[DZ,YN _ AA];exact .ret (by rw[ha,FW,ajb];rfl)
def acZ {l:List Int} (h:Inc l) {i j:Nat} (hi:i<l.length) (u:j<l.length) (e:l[i]=l[j]):i=j:=by
 rcases gy i j with q|q|q
 ·have :=IZ.1 h i j hi u q;omega
 ·exact q
 have :=IZ.1 h j i u hi q;omega
def aS7 (l:List AB) (ids:List Int) (hl:l.length≤1000) (hs:Cm l) (hi0:ids.length≤1000):aKK l ids=some (FB l ids):=by
 have I:=Jk ids;have hlen:=KW ids;have J:∀x,(EF ids).any (He l x)=ids.any (He l x):=fun x=>apT _ fun _=>IY;unfold aKK FB;rw[aPL _ AA,AP];have q:(fun x=> !ids.any (He l x))=fun x=> !(EF ids).any (He l x):=funext fun x=>by rw[J]
 rw[q];generalize EF ids=S at I hlen;clear J q;unfold aRv;refine dX.eq (Iq S.length (fuel_lt AA) (fun i a=>a=(S.take i).filter fun x=> !S.any (He l x)) rfl (fun i a k hi ha hk=>?_) fun a k ha=>?_)
 ·have hal:a.length≤i:=aKe
  have hf:=qZ (p:=fun x=> !S.any (He l x)) hi;unfold aH5;rw[dec_lt hi,BD];unfold aSj;refine QW (body:=aNv S l (i:Int) k) (Q:=_) (fun n b x c=>∃j:Nat,x=j∧j+n=S.length∧c=a∧b= !(S.take j).any (He l S[i])) ?_ Aj S.length true 0 a (fuel_lt AA) ⟨0,rfl,AA,rfl,Aw⟩;rintro n b x c k2 ⟨j,rfl,hn,rfl,M⟩ O;unfold aNv;by_cases U:j<S.length
  ·have u:∀Y,Y=(!((S.take j).any (He l S[i])||He l S[i] S[j]))→dX (aNM k2 (j:Int) Y c) (fun x=>x=(S.filter fun x=> !S.any (He l x))):=fun Y h'=>O (n-1) _ _ _ AA ⟨j+1,wrap_succ j AA,AA,rfl,by rw[xR U];exact h'⟩;rw[Bl U,Jp l _ AA,AP,OM]
   have Z:(((j:Int) != (i:Int)))=(S[j] != S[i]):=by
    rw[KR];simp only[Si,ne_eq];constructor
    ·intro h e;exact h (by rw[acZ I U hi e])
    intro h e;have :j=i:=AA
    subst this;exact h rfl
   rw[Z];cases z:(DV l S[j]).isSome with
   |false=>
    unfold lR;exact u b (by rw[M];unfold He bV;rw[z];simp)
   |true=>
    cases hq:S[j] != S[i]with
    |false=>
     unfold lR;exact u b (by rw[M];unfold He;rw[hq];simp)
    |true=>
     simp only[BD]
     have hpl:(Fq l S[j]).1.aZ.length≤40:=by
      obtain⟨e,he⟩:=SX.1 z;rw[LW he];exact(hs e (Ht he)).prev
     rw[BZ hi,AP,VY _ _ AA,AP];unfold lR;cases hh:DL (Fq l S[j]).1.aZ S[i]with
     |true=>exact u false (by unfold He bV ev;rw[z,hq,hh];simp)
     |false=>exact u b (by rw[M];unfold He bV ev;rw[z,hq,hh];simp)
  have :j=S.length:=AA
  subst this;rw[DZ,M,FW];unfold aLn;rw[wrap_succ i AA];cases L:S.any (He l S[i])with
  |true=>exact hk _ (by rw[hf,ha,L];simp)
  |false=>
   simp only[Il,BD];rw[BZ hi,AP,Cx FK,AP];exact hk _ (by rw[hf,ha,L];rfl)
 unfold aH5;rw[CX];exact .ret dD
def Oh (x y:AB):Bool:=y.Kind==x.Kind&&decide (y.Key=x.Key)
def J7 (q:List Ah):List AB→List AB→Bool
 |_,[]=>true
 |j,x::xs=>(q.any fun k=>DX k x)&& !j.any (Oh x)&&J7 q (j++[x]) xs
def Oa (x:AB):Bool:=x.Kind==1&&decide (x.Key=BK)
def LX (l:List AB) (e:AB):Int:=
 bif !e.bg.all (bV l)then 14 else bif !(ofIds l e.bg).all (fun x=>decide (x.Room=e.Room))then 13
 else bif J7 (keysOf e) [] (ofIds l e.bg)&&(e.Kind==1||(ofIds l e.bg).any Oa)then 0 else 16
def Pg {k:Ah} {x:AB}:DX k x=true↔x.Kind=k.Kind∧x.Key=k.Key:=by unfold DX;simp
def aOJ {x y:AB}:Oh x y=true↔y.Kind=x.Kind∧y.Key=x.Key:=by unfold Oh;simp
def aWp {j:List Ah} {X:List AB} {i:Nat} (h:i<X.length):J7 j (X.take i) (X.drop i)=((j.any fun k=>DX k X[i])&& !(X.take i).any (Oh X[i])&&J7 j (X.take (i+1)) (X.drop (i+1))):=by
 rw[Jq h,TA,DC h];rfl
def aV6 {j:List Ah} (X:List AB):J7 j (X.take X.length) (X.drop X.length)=true:=by rw[P8];rfl
def aXl (X:List AB) (k:Int) (key:ByteArray) (h:X.length≤1000):ZW (X.map fun x=>(⟨x.Kind,x.Key,0⟩:Ah)) k key=some (X.any fun y=>y.Kind==k&&decide (y.Key=key)):=by
 unfold ZW aOI;rw[Gi (X.map fun x=>(⟨x.Kind,x.Key,0⟩:Ah)) (fuel_lt Ws) (fun y=>y.Kind==k&&decide (y.Key=key)) true (some false)]
 ·rw[List.any_map];show(bif X.any (fun y=>y.Kind==k&&decide (y.Key=key))then some true else some false)=_;cases X.any (fun y=>y.Kind==k&&decide (y.Key=key))<;>rfl
 ·intro q i hi;unfold uf;rw[Bl hi,BZ hi,AP,IB];cases((X.map fun x=>(⟨x.Kind,x.Key,0⟩:Ah))[i].Kind==k)<;>rfl
 intro q;unfold uf;rw[CX];rfl
def ahs (j:List Ah) (x:AB) (h:j.length≤1000):ZW j x.Kind x.Key=some (j.any fun k=>DX k x):=by
 unfold ZW aOI;rw[Gi j (fuel_lt AA) (fun k=>DX k x) true (some false)]
 ·cases j.any (fun k=>DX k x)<;>rfl
 ·intro q i hi;unfold uf;rw[Bl hi,BZ hi,AP,IB];have u:(j[i].Kind==x.Kind)=(x.Kind==j[i].Kind):=by rw[KR,OL,OL];exact eq_comm
  have z:decide (j[i].Key=x.Key)=decide (x.Key=j[i].Key):=ZN.2 eq_comm;unfold DX;rw[u,z];cases(x.Kind==j[i].Kind)<;>rfl
 intro q;unfold uf;rw[CX];rfl
def amF (X:List AB) (e:AB) (O:X.length≤40):aK3 X (keysOf e) e [] 0=some (bif J7 (keysOf e) [] X&&(e.Kind==1||X.any Oa)then 0 else 16):=by
 have I:=QS e;unfold aK3;refine dX.eq (Iq X.length (fuel_lt AA) (fun i a=>a=(X.take i).map (fun x=>(⟨x.Kind,x.Key,0⟩:Ah))∧J7 (keysOf e) [] X=J7 (keysOf e) (X.take i) (X.drop i)) ⟨rfl,rfl⟩ (fun i a k hi ha J=>?_) fun a k ha=>?_)
 ·obtain⟨rfl,j⟩:=ha;unfold aLN;rw[Bl hi,BZ hi,AP,ahs _ _ AA,AP];rw[aWp hi]at j
  have u:∀b,J7 (keysOf e) [] X=(!b&&J7 (keysOf e) (X.take (i+1)) (X.drop (i+1)))→dX (aBZ X (i:Int) ((X.take i).map fun x=>(⟨x.Kind,x.Key,0⟩:Ah)) k b) (· =bif J7 (keysOf e) [] X&&(e.Kind==1||X.any Oa)then 0 else 16):=fun b z=>by
   unfold aBZ;cases b with
   |true=>exact .ret pG
   |false=>
    simp only[Am];rw[BZ hi,AP,AP,Cx (by simp only[NQ,CB,F7];omega),AP,wrap_succ i AA];exact J _ ⟨by rw[map_take hi],pG⟩
  cases hm:(keysOf e).any fun k=>DX k X[i]with
  |false=>
   rw[Il,BD];exact u true (by rw[j,hm];rfl)
  |true=>
   rw[EW,Am];have L:(fun y:AB=>y.Kind==X[i].Kind&&decide (y.Key=X[i].Key))=Oh X[i]:=rfl;rw[AP,AP,aXl _ _ _ aNS,AP,L];exact u _ (by rw[j,hm,GL])
 obtain⟨rfl,j⟩:=ha;rw[aV6]at j;unfold aLN;rw[CX,Am,FW,j,aXl _ _ _ AA];have M:(X.any fun y=>y.Kind==1&&decide (y.Key=BK))=X.any Oa:=rfl;rw[M];have q:(e.Kind != 1)= !(e.Kind==1):=rfl;rw[q];cases e.Kind==1<;>cases X.any Oa<;>exact .ret rfl
def ao1 (X:List AB) (e:AB) (j:X.length≤40):aOt X e 0=some (bif !X.all (fun x=>decide (x.Room=e.Room))then 13 else bif J7 (keysOf e) [] X&&(e.Kind==1||X.any Oa)then 0 else 16):=by
 unfold aOt;rw[Gi X (fuel_lt AA) (fun x=> !decide (x.Room=e.Room)) 13 (some (bif J7 (keysOf e) [] X&&(e.Kind==1||X.any Oa)then 0 else 16))]
 ·rw[wY];cases X.all (fun x=>decide (x.Room=e.Room))<;>rfl
 ·intro k i hi;unfold aLp;rw[Bl hi,IB]
 intro k;unfold aLp;rw[DZ,zX,AP,amF X e j]
def aeI (l:List AB) (e:AB) (hl:l.length≤100) (j:EY e):aQ2 l e=some (LX l e):=by
 have q:=j.auth;have u:=XU l e.bg;unfold aQ2 aSu LX;rw[Gi e.bg (fuel_lt AA) (fun x=> !bV l x) 14 (some (bif !(ofIds l e.bg).all (fun x=>decide (x.Room=e.Room))then 13 else bif J7 (keysOf e) [] (ofIds l e.bg)&&(e.Kind==1||(ofIds l e.bg).any Oa)then 0 else 16))]
 ·rw[wY];cases e.bg.all (bV l)<;>rfl
 ·intro k i hi;unfold aHS;rw[Bl hi,Jp l _ AA,AP,OM];rfl
 intro k;unfold aHS;rw[CX,Am,aIy l _ AA AA,AP,ao1 _ e AA]
def aiv (k:Ah) (e:AB):VU (IU k) e=some (DX k e):=by
 unfold VU DX IU;cases h:(e.Kind==k.Kind)with
 |false=>rfl
 |true=>show some (e.Key.toList==k.Key.toList)=_;rw[IB,GL]
def aec (j:List Ah) (x:AB) (h:j.length≤100):aCo (j.map IU) x=some (if j.findIdx (fun k=>DX k x)<j.length then((j.findIdx (fun k=>DX k x):Nat):Int)else -1):=by
 unfold aCo aVj
 have u:∀k (i:Nat),i<j.length→aBT (j.map IU) x k (i:Int)=bif DX (j.getD i ⟨0,BK,0⟩) x then some (i:Int)else k (Ai ((i:Int)+1)):=fun k i hi=>by
  unfold aBT;have q:i<(j.map IU).length:=aKO
  rw[Bl q,Oq];show((VU (IU j[i]) x).bind _)=_;rw[aiv,AP];simp[List.getD,hi]
 rw[J6 j (fuel_lt AA) (fun k=>DX k x) (fun i=>some (i:Int)) (some (-1))]
 ·split<;>rfl
 ·intro k i hi;rw[u k i hi];simp[List.getD,hi]
 intro k;unfold aBT;rw[show((j.map IU).length:Int)=(j.length:Int) by rw[CB],CX];rfl
def aVZ {α:Type} {p:α→Bool}:∀l:List α,l.Pairwise (fun a b=>¬(p a=true∧p b=true))→l.findIdx p<l.length→l.filter (fun x=> !p x)=l.take (l.findIdx p)++l.drop (l.findIdx p+1)
 | [],_,h=>absurd h (Nat.not_lt_zero _)
 |a::l,hp,h=>by
  obtain⟨j,q⟩:=Nr.1 hp;rw[Qr]at h ⊢;cases ha:p a with
  |true=>
   rw[List.filter_cons_of_neg (by simp[ha]),XI.2 fun b u=>by
    cases z:p b with
    |false=>rfl
    |true=>exact absurd ⟨ha,z⟩ (j b u)]
   rfl
  |false=>
   rw[ha]at h;rw[List.filter_cons_of_pos (by simp[ha]),aVZ l q J3];rfl
def aRx {α:Type} {p:α→Bool}:∀l:List α,decide (l.findIdx p<l.length)=l.any p
 | []=>rfl
 |a::l=>by
  have j:=aRx (p:=p) l;rw[Qr,aH,←j];cases p a<;>simp
def aUS (e:AB):JA (keysOf e):=by
 have z:JA (JF e):=WR (WR (WR List.Pairwise.nil _ _ _) _ _ _) _ _ _;unfold keysOf;cases e.Kind==1<;>cases e.Kind==2<;>cases(e.Content.N==3||e.Content.N==1||e.Content.N==2)<;>simp only[BD,Am]
 ·exact z
 ·exact z
 ·exact WR z _ _ _
 ·exact WR (WR z _ _ _) _ _ _
 all_goals exact List.Pairwise.nil
def aob {e:AB} {k:Ah} (h:k∈keysOf e) (q:k.Kind=1):k.Key=BK:=by
 have z:∀x∈JF e,x.Kind=1→x.Key=BK:=fun x j I=>by
  unfold JF at j;rcases Qo j with rfl|j
  ·cases I
  rcases Qo j with rfl|j
  ·cases I
  rcases Qo j with rfl|j
  ·rfl
  cases j
 unfold keysOf at h;cases u:e.Kind==1 with
 |true=>rw[u]at h;cases h
 |false=>
  cases J:e.Kind==2 with
  |false=>rw[u,J]at h;exact z k h q
  |true=>
   rw[u,J]at h;cases L:(e.Content.N==3||e.Content.N==1||e.Content.N==2)with
   |true=>
    rw[L]at h;rcases Qo h with rfl|h
    ·cases q
    rcases Qo h with rfl|h
    ·cases q
    exact z k h q
   |false=>
    rw[L]at h;rcases Qo h with rfl|h
    ·cases q
    exact z k h q
def aUG {u:List Ah}:∀(X j:List AB),J7 u j X=true→∀x∈X,∃k∈u,DX k x=true
 | [],_,_,_,h=>absurd h EM
 |y::X,j,h,x,q=>by
  unfold J7 at h;simp only[CZ]at h;rcases EG.1 q with rfl|q
  ·obtain⟨k,z,hm⟩:=Gl.1 h.1.1;exact⟨k,z,hm⟩
  exact aUG X _ h.2 x q
def any_congr {α:Type} {l:List α} {p q:α→Bool} (h:∀x∈l,p x=q x):l.any p=l.any q:=by
 rw[KR,Gl,Gl];exact⟨fun⟨x,j,k⟩=>⟨x,j,by rw[←h x j];exact k⟩,fun⟨x,j,k⟩=>⟨x,j,by rw[h x j];exact k⟩⟩
def apG (l:List AB) (e:AB) (hl:l.length≤100) (he:EY e):ni l e=some (LX l e):=by
 have h1:=he.auth;have hk5:=QS e;have hsk:=aUS e;unfold ni aax;refine dX.eq (Iq e.bg.length (fuel_lt AA) (fun i a=>a=ofIds l (e.bg.take i)∧∀x∈e.bg.take i,bV l x=true) ⟨rfl,fun x U=>by simp at U⟩ (fun i a k hi ha J=>?_) fun a k ha=>?_)
 ·obtain⟨rfl,u⟩:=ha;have hal:=XU l (e.bg.take i);rw[F7]at hal;unfold SPr;rw[Bl hi,Np l _ AA,AP,wrap_succ i AA];cases Y:DV l e.bg[i]with
  |none=>
   rw[Rn Y];refine .ret ?_;unfold LX;rw[Zo (ED hi) (show bV l e.bg[i]=false by unfold bV;rw[Y];rfl)];rfl
  |some x=>
   rw[LW Y];simp only[EW,Am];rw[Cx FK,AP];refine J _ ⟨?_,fun y I=>?_⟩
   ·unfold ofIds;rw[TA,DC hi,QZ,cD,Lr,Y];rfl
   rw[TA,DC hi,QZ,Hl,FT]at I;rcases I with I|rfl
   ·exact u y I
   unfold bV;rw[Y];rfl
 obtain⟨rfl,u⟩:=ha;rw[FW]at u ⊢;have U:=XU l e.bg;have Z:e.bg.all (bV l)=true:=Di.2 u;unfold SPr;rw[DZ];unfold LX;rw[Z];simp only[EW,Am];generalize ofIds l e.bg=X at U;unfold aSN;rw[Gi X (fuel_lt AA) (fun x=> !decide (x.Room=e.Room)) 13 (some (bif J7 (keysOf e) [] X&&(e.Kind==1||X.any Oa)then 0 else 16))]
 ·rw[wY];cases X.all (fun x=>decide (x.Room=e.Room))<;>exact .ret rfl
 ·intro k2 i hi;unfold aCM;rw[Bl hi,IB]
 intro k2;unfold aCM;rw[DZ,aKQ,AP];unfold aVc;refine dX.eq (QW (body:=aBd X) (Q:=(· =bif J7 (keysOf e) [] X&&(e.Kind==1||X.any Oa)then 0 else 16)) (fun n b ks x=>∃i:Nat,x=i∧i+n=X.length∧ks=((keysOf e).filter fun k=> !(X.take i).any (DX k)).map IU∧b=(e.Kind==1||(X.take i).any fun x=>x.Kind==1)∧J7 (keysOf e) [] X=J7 (keysOf e) (X.take i) (X.drop i)) ?_ Aj X.length (e.Kind==1) ((keysOf e).map IU) 0 (fuel_lt AA) ⟨0,rfl,AA,by rw[vI];exact Ap (List.map IU) (XI.2 fun _ _=>rfl).symm,Aw,rfl⟩);rintro n b ks x k3 ⟨i,rfl,hn,hks,hb,z⟩ hk3;unfold aBd;by_cases hi:i<X.length
 ·rw[aWp hi]at z;have hlk:((keysOf e).filter fun k=> !(X.take i).any (DX k)).length≤5:=Ed (J4 _ _) hk5;rw[Bl hi,hks,aec _ _ AA,AP];have L:=aRx (p:=fun k=>DX k X[i]) ((keysOf e).filter fun k=> !(X.take i).any (DX k))
  have M:(((keysOf e).filter fun k=> !(X.take i).any (DX k)).any fun k=>DX k X[i])=((keysOf e).any (fun k=>DX k X[i])&& !(X.take i).any (Oh X[i])):=by
   rw[KR,Gl,CZ,Gl,Ls,←Ol,Gl];constructor
   ·rintro⟨k,J,hm⟩;obtain⟨hk1,hk2⟩:=FN.1 J;refine⟨⟨k,hk1,hm⟩,?_⟩;rintro⟨y,I,hs⟩;obtain⟨m1,m2⟩:=Pg.1 hm;obtain⟨s1,s2⟩:=aOJ.1 hs;rw[Gl.2 ⟨y,I,Pg.2 ⟨s1.trans m1,s2.trans m2⟩⟩]at hk2;cases hk2
   rintro⟨⟨k,J,hm⟩,hno⟩;refine⟨k,FN.2 ⟨J,?_⟩,hm⟩;rw[Ls,←Ol,Gl];rintro⟨y,I,hs⟩;obtain⟨m1,m2⟩:=Pg.1 hm;obtain⟨s1,s2⟩:=Pg.1 hs;exact hno ⟨y,I,aOJ.2 ⟨s1.trans m1.symm,s2.trans m2.symm⟩⟩
  rw[←M,←L]at z;by_cases q:((keysOf e).filter fun k=> !(X.take i).any (DX k)).findIdx (fun k=>DX k X[i])<((keysOf e).filter fun k=> !(X.take i).any (DX k)).length
  ·rw[CP q,Gv AA,Am];rw[Gu q,GL]at z;have hlm:(((keysOf e).filter fun k=> !(X.take i).any (DX k)).map IU).length=((keysOf e).filter fun k=> !(X.take i).any (DX k)).length:=CB ..
   have hpw:((keysOf e).filter fun k=> !(X.take i).any (DX k)).Pairwise (fun a b=>¬(DX a X[i]=true∧DX b X[i]=true)):=by
    refine(List.Pairwise.sublist QM hsk).imp fun{a b} hab h=>?_;obtain⟨a1,a2⟩:=Pg.1 h.1;obtain⟨b1,b2⟩:=Pg.1 h.2;rw[jo (NS.2 ⟨a1.symm.trans b1,a2.symm.trans b2⟩)]at hab;cases hab
   have hd:=aVZ _ hpw q
   have O:((keysOf e).filter fun k=> !(X.take i).any (DX k)).filter (fun k=> !DX k X[i])=(keysOf e).filter fun k=> !(X.take (i+1)).any (DX k):=by
    rw[List.filter_filter];refine yg fun k _=>?_;rw[xR hi];cases(X.take i).any (DX k)<;>cases DX k X[i]<;>rfl
   rw[O]at hd;generalize((keysOf e).filter fun k=> !(X.take i).any (DX k))=K at q hd hlm hlk;generalize K.findIdx (fun k=>DX k X[i])=j at q hd;have s1:Hg (K.map IU) 0 (j:Int)=some (((K.map IU).drop 0).take (j-0)):=mF (lo:=0) (Ci _) AA;have s2:Hg (K.map IU) (Ai ((j:Int)+1)) ((K.map IU).length:Int)=some (((K.map IU).drop (j+1)).take ((K.map IU).length-(j+1))):=by rw[wrap_succ j AA];exact mF AA (Dn _)
   rw[s1,AP,s2,AP,Cx (by simp only[F7,IJ];omega),AP];have hb3:(bif b then some true else(Ag X (i:Int)).bind fun x28=>some (x28.Kind==1))=some (b||X[i].Kind==1):=by rw[BZ hi];cases b<;>rfl
   rw[hb3,AP];refine hk3 (n-1) _ _ _ AA ⟨i+1,wrap_succ i AA,AA,?_,?_,z⟩
   ·rw[hd,KO,XR,ZR,Nat.sub_zero,lK,Po (l:=(K.map IU).drop (j+1)) Mem]
   rw[xR hi,hb,Bool.or_assoc]
  rw[CU q];rw[Gv q,qx]at z;exact .ret pG
 have :i=X.length:=AA
 subst this;rw[aV6]at z;rw[DZ,z,hb,FW,GL]
 have hc:(X.any fun x=>x.Kind==1)=X.any Oa:=any_congr fun x U=>by
  obtain⟨k,J,hm⟩:=aUG X [] z x U;obtain⟨m1,m2⟩:=Pg.1 hm;unfold Oa;cases hq:x.Kind==1 with
  |false=>rfl
  |true=>rw[m2,aob J (by rw[←m1];exact eq_of_beq hq)];simp
 rw[hc];cases(e.Kind==1||X.any Oa)<;>exact .ret rfl
def EK (l:List AB) (s:List Ah):List AB:=ofIds l (s.map (·.Id))
def xW (l:List AB) (s:List Ah):(EK l s).length≤s.length:=by have :=XU l (s.map (·.Id));rwa [CB]at this
def aEB {l:List AB} (hs:Cm l) (ids:List Int):Cm (ofIds l ids):=fun x j=>hs x (aDE j)
def aDC {l:List AB} {s:List Ah} {i:Nat} (h:i<s.length):EK l (s.take (i+1))=EK l (s.take i)++(DV l s[i].Id).toList:=by
 unfold EK ofIds;rw[map_take h,cD,Lr,aE1];cases DV l s[i].Id<;>rfl
def aMH (l:List AB) (s:List Ah) (hl:l.length≤100) (h:s.length≤1000):dY l s=some (EK l s):=by
 unfold dY nE;rw[AP];unfold aYn;refine dX.eq (aKk (body:=aHy s) (Q:=(· =EK l s)) (fun n a b c _ _=>∃i:Nat,b=i∧i+n=s.length∧c=l∧a=EK l (s.take i)) ?_ Aj s.length [] 0 l [] [] (fuel_lt AA) ⟨0,rfl,AA,rfl,rfl⟩);rintro n a b c d f k ⟨i,rfl,z,rfl,ha⟩ u;unfold aHy;by_cases hi:i<s.length
 ·have q:=xW c (s.take i);rw[F7]at q;rw[Bl hi,Np c _ AA,AP,wrap_succ i AA];cases j:DV c s[i].Id with
  |none=>rw[Rn j];exact u (n-1) _ _ _ _ _ AA ⟨i+1,rfl,AA,rfl,by rw[aDC hi,j,ha];simp⟩
  |some x=>
   rw[LW j];simp only[BD];rw[Cx (by rw[ha];simp only[NQ];omega),AP];exact u (n-1) _ _ _ _ _ AA ⟨i+1,rfl,AA,rfl,by rw[aDC hi,j,ha];rfl⟩
 have :i=s.length:=AA
 subst this;rw[DZ];exact .ret dD
def aTZ (l:List AB) (s:List Ah) (hl:l.length≤100) (h:s.length≤1000):aC0 l s=some (EK l s):=by
 unfold aC0 aSG;refine dX.eq (Iq s.length (fuel_lt AA) (fun i a=>a=EK l (s.take i)) rfl (fun i a k hi ha u=>?_) fun a k ha=>?_)
 ·have q:=xW l (s.take i);rw[F7]at q;unfold aIQ aMu;rw[Bl hi,Jp l _ AA,AP,wrap_succ i AA];cases j:DV l s[i].Id with
  |none=>rw[Rn j];exact u _ (by rw[aDC hi,j,ha];simp)
  |some x=>
   rw[LW j];simp only[BD];rw[Cx (by rw[ha];simp only[NQ];omega),AP];exact u _ (by rw[aDC hi,j,ha];rfl)
 unfold aIQ;rw[CX];exact .ret dD
structure Df where
 id:Int
 before:List Ah
 after:List Ah
 err:Int
def EJ (t:List Df) (x:Int):Option Df:=t.find? fun y=>y.id==x
def GV (t:List Df) (x:Int):List Ah:=((EJ t x).map (·.after)).getD []
def errOf (t:List Df) (x:Int):Int:=((EJ t x).map (·.err)).getD 0
def Ue (l:List AB) (e:AB):Int:=bif LX l e != 0 then LX l e else FH e (Jo l e)
def JL (l:List AB) (t:List Df) (e:AB) (s:List Ah):Int:=
 bif Ue l e != 0 then Ue l e else bif e.bg.any (fun x=>errOf t x != 0)then 16 else FH e (EK l s)
def stB (l:List AB) (t:List Df) (e:AB):List Ah:=VO l (e.aZ.map (GV t))
def Uf (e:AB) (s:List Ah) (r:Int):Df:=⟨e.Id,s,bif r==0&&Fh e.Kind then ES s e.Kind e.Key e.Id else s,r⟩
def Gz (l:List AB) (t:List Df) (e:AB):Df:=Uf e (stB l t e) (JL l t e (stB l t e))
def GY (l:List AB) (ids:List Int):List Df:=ids.foldl (fun t id=>t++[Gz l t (ev l id)]) []
def Bj (l:List AB):List Df:=GY l (GH l)
def aBX (l:List AB) {ids:List Int} {i:Nat} (h:i<ids.length):GY l (ids.take (i+1))=GY l (ids.take i)++[Gz l (GY l (ids.take i)) (ev l ids[i])]:=aU1 h
def iq {t:List Df} {x:Int}:EJ t x=none↔x∉t.map (·.id):=by
 unfold EJ;rw[WW,Dp];exact⟨fun h ⟨y,j,e⟩=>h y j SA,fun h y j e=>h ⟨y,j,SA⟩⟩
def wO {t:List Df} {y:Df} (h:EJ t y.id=none) (x:Int):EJ (t++[y]) x=bif x==y.id then some y else EJ t x:=by
 unfold EJ at h ⊢;rw[Xi];cases j:x==y.id with
 |true=>
  have e:=eq_of_beq j;subst e;rw[h];simp
 |false=>
  have :(y.id==x)=false:=by rw[←j,KR,OL,OL];exact eq_comm
  simp[this]
def aho {t:List Df} {x:Int} {y:Df} (h:EJ t x=some y):y.id=x:=by have :=Td h;simpa using this
def wJ (l:List AB):∀(ids:List Int) (t:List Df),(∀x∈ids,bV l x=true)→(ids.foldl (fun t id=>t++[Gz l t (ev l id)]) t).map (·.id)=t.map (·.id)++ids
 | [],t,_=>Aw
 |x::ids,t,h=>by
  have j:(Gz l t (ev l x)).id=x:=(Fj (h x (EO ..))).2;rw[Ey,wJ l ids _ fun y q=>h y (F5 _ q),KO,Ia,zF,j,HY];rfl
def LG (l:List AB) (t:List Df):Prop:=∀y∈t,IE l y.before∧IE l y.after
def LG.after {l:List AB} {t:List Df} (h:LG l t) (x:Int):IE l (GV t x):=by
 unfold GV;cases hl:EJ t x with
 |none=>exact .nil l
 |some y=>exact(h y (OA hl)).2
def LG.states {l:List AB} {t:List Df} (h:LG l t) (ids:List Int):∀s∈ids.map (GV t),IE l s:=fun s hs=>by
 obtain⟨x,_,rfl⟩:=Dp.1 hs;exact h.after x
def LG.okay {l:List AB} {t:List Df} (h:LG l t) (hl:l.length≤100) (hs:Cm l) (ids:List Int) (hi:ids.length≤100):Md l (ids.map (GV t)):=IE.okay hl hs aKO (h.states ids)
def LG.stB {l:List AB} {t:List Df} (h:LG l t) (hl:l.length≤100) (hs:Cm l) {e:AB} (j:e.aZ.length≤40):IE l (stB l t e):=IE.resolve (h.okay hl hs _ AA) (h.states _)
def LG.line {l:List AB} {t:List Df} (h:LG l t) (hl:l.length≤100) (hs:Cm l) {e:AB} (u:e.aZ.length≤40) (z:Fh e.Kind=true→bV l e.Id=true∧ev l e.Id=e):LG l (t++[Gz l t e]):=fun y j=>by
 rcases Hl.1 j with j|j
 ·exact h y j
 rw[FT.1 j];have hp:=h.stB hl hs u;refine⟨hp,?_⟩;show IE l (bif JL l t e (Go.Proofs.YtkkdimcnpacjhaaGreat.stB l t e)==0&&Fh e.Kind then ES _ e.Kind e.Key e.Id else _);cases q:(JL l t e (Go.Proofs.YtkkdimcnpacjhaaGreat.stB l t e)==0&&Fh e.Kind)with
 |false=>exact hp
 |true=>
  have hst:Fh e.Kind=true:=by rw[CZ]at q;exact q.2
  obtain⟨I,k2⟩:=z hst;exact hp.set I k2 hst
def aiz {l:List AB} {id:Int} (h:Fh (ev l id).Kind=true):bV l (ev l id).Id=true∧ev l (ev l id).Id=ev l id:=by
 cases j:DV l id with
 |none=>unfold ev at h;rw[Rn j]at h;exact absurd h BJ
 |some e=>
  have q:bV l id=true:=by unfold bV;rw[j];rfl
  have :=(Fj q).2;rw[this];exact⟨q,rfl⟩
def aXw :EY Bh:=⟨Ci _,Ci _,Ci _,Ci _,Ci _,Ci _,Ci _,Ci _,Ci _,Ci _,Ci _,Ci _,fun _ h=>absurd h EM,fun _ h=>absurd h EM,fun _ h=>absurd h EM⟩
def aD3 {l:List AB} (hs:Cm l) (id:Int):EY (ev l id):=by
 unfold ev Fq;cases h:DV l id with
 |none=>exact aXw
 |some e=>exact hs e (Ht h)
def pX {l:List AB} (hl:l.length≤100) (hs:Cm l):∀(ids:List Int) (t:List Df),LG l t→LG l (ids.foldl (fun t id=>t++[Gz l t (ev l id)]) t)
 | [],t,h=>h
 |x::ids,t,h=>by rw[Ey];exact pX hl hs ids _ (h.line hl hs (aD3 hs x).prev aiz)
structure Oz (t:List Df) (m1 m2:List (Int×List Ah)) (m3:List (Int×Int)):Prop where
 b:∀x,CJ m1 x=(EJ t x).map (·.before)
 a:∀x,CJ m2 x=(EJ t x).map (·.after)
 r:∀x,CJ m3 x=(EJ t x).map (·.err)
def Oz.after {t:List Df} {q j:List (Int×List Ah)} {u:List (Int×Int)} (h:Oz t q j u) (x:Int):(CJ j x).getD []=GV t x:=by rw[h.a];rfl
def Oz.err {t:List Df} {q u:List (Int×List Ah)} {j:List (Int×Int)} (h:Oz t q u j) (x:Int):(CJ j x).getD 0=errOf t x:=by rw[h.r];rfl
def agO {t:List Df} {q u:List (Int×List Ah)} {z:List (Int×Int)} (h:Oz t q u z) (l:List AB) (e:AB) (s:List Ah) (hl:l.length≤100) (hs:Cm l) (j:EY e) (I:s.length≤100):
 aEr q u z l e s=some (JL l t e s):=by
 have L:=j.auth;have M:=xW l s;unfold aEr JL Ue;rw[apG l e hl j,AP];cases J:LX l e != 0 with
 |true=>simp only[BD];rw[J];rfl
 |false=>
  simp only[Am];rw[aRq l e AA AA,AP,nY e _ (Ed (aCS l e) AA) (hs.from e) j,AP];cases ha:FH e (Jo l e) != 0 with
  |true=>rfl
  |false=>
   simp only[Am];unfold aVm;rw[Gi e.bg (fuel_lt AA) (fun x=>errOf t x != 0) 16 (some (FH e (EK l s)))]
   ·cases e.bg.any (fun x=>errOf t x != 0)<;>rfl
   ·intro k i hi;unfold aJC;rw[Bl hi,h.err]
   intro k;unfold aJC;rw[DZ,aMH l s hl AA,AP,nY e (EK l s) AA (aEB hs _) j];rfl
def Oz.snoc {t:List Df} {I J j q:List (Int×List Ah)} {L u:List (Int×Int)} (h:Oz t I J L) {y:Df} (z:EJ t y.id=none)
 (M:∀x,CJ j x=bif x==y.id then some y.before else CJ I x) (O:∀x,CJ q x=bif x==y.id then some y.after else CJ J x) (U:∀x,CJ u x=bif x==y.id then some y.err else CJ L x):Oz (t++[y]) j q u:=by
 refine⟨fun x=>?_,fun x=>?_,fun x=>?_⟩
 ·rw[M,wO z,h.b];cases x==y.id<;>rfl
 ·rw[O,wO z,h.a];cases x==y.id<;>rfl
 rw[U,wO z,h.r];cases x==y.id<;>rfl
def add_eq {t:List Df} {z I:List (Int×List Ah)} {J:List (Int×Int)} (h:Oz t z I J) (l:List AB) (e:AB) (hl:l.length≤100) (hs:Cm l) (L:EY e) (ht:LG l t) (M:EJ t e.Id=none):
 dX (aF4 z I J l e) (fun r=>Oz (t++[Gz l t e]) r.1 r.2.1 r.2.2):=by
 have O:=L.prev;unfold aF4 aTI;refine Iq e.aZ.length (fuel_lt AA) (fun i a=>a=(e.aZ.take i).map (GV t)) rfl (fun i a k hi ha U=>?_) fun a k ha=>?_
 ·have Y:a.length≤i:=mD
  unfold aLI;rw[Bl hi,Cx FK,AP,wrap_succ i AA,h.after];exact U _ uY
 rw[FW]at ha;subst ha;unfold aLI;have hp:IE l (stB l t e):=ht.stB hl hs O;have Z:=hp.length;have u:iJ l (e.aZ.map (GV t))=some (stB l t e):=aW1 (ht.okay hl hs _ AA);rw[DZ,u,AP,agO h l e _ hl hs L AA,AP];have j:Gz l t e=Uf e (stB l t e) (JL l t e (stB l t e)):=rfl;rw[j];generalize JL l t e (stB l t e)=r;have q:∀(c d f:Bool) {R:Type} (g:Bool→Option R),((bif c then some d else some false).bind fun x9=>(bif x9 then some f else some false).bind g)=g (c&&(d&&f)):=fun c d f R g=>by cases c<;>cases d<;>rfl
 rw[q];show dX (bif (r==0&&Fh e.Kind)then _ else _) _;unfold Uf;cases hc:(r==0&&Fh e.Kind)with
 |true=>
  simp only[BD];rw[Yi _ _ _ _ AA,AP];refine .ret (h.snoc M (fun x=>QY ..) (fun x=>?_) fun x=>QY ..);rw[QY,QY];cases x==e.Id<;>rfl
 |false=>exact .ret (h.snoc M (fun x=>QY ..) (fun x=>QY ..) fun x=>QY ..)
def run_go (l:List AB) (ids:List Int) (hl:l.length≤100) (hs:Cm l) (u:∀x∈ids,bV l x=true) (z:ids.Nodup) (J:ids.length≤1000):dX (aMI ids l 0 [] [] []) (fun o=>∃T,o=some T∧Oz (GY l ids) T.1 T.2.1 T.2.2):=by
 unfold aMI;refine aOT (body:=aN3 ids l) (Q:=fun o=>∃T,o=some T∧Oz (GY l ids) T.1 T.2.1 T.2.2) (fun n a b c d=>∃i:Nat,a=i∧i+n=ids.length∧Oz (GY l (ids.take i)) b c d) ?_ Aj ids.length 0 [] [] [] (fuel_lt AA) ⟨0,rfl,AA,⟨fun x=>rfl,fun x=>rfl,fun x=>rfl⟩⟩;rintro n a b c d k ⟨i,rfl,Z,hm⟩ L;unfold aN3;by_cases hi:i<ids.length
 ·have I:=u _ (ED hi)
  have q:EJ (GY l (ids.take i)) (ev l ids[i]).Id=none:=by
   rw[iq,(Fj I).2];unfold GY;rw[wJ l _ _ fun x M=>u x (YL M),zF,I5];intro hm;obtain⟨j,O,e⟩:=G5 hm;rw[F7]at O;rw[WJ]at e;have :=IZ.1 (eB.1 z) j i AA hi AA;exact this e
  rw[Bl hi,Np l _ AA,AP];refine(add_eq hm l _ hl hs (aD3 hs ids[i]) (pX hl hs _ _ fun y U=>absurd U EM) q).bind fun r Y=>?_;exact L (n-1) _ _ _ _ AA ⟨i+1,wrap_succ i AA,AA,by rw[aBX l hi];exact Y⟩
 have :i=ids.length:=AA
 subst this;rw[DZ];exact .ret ⟨_,rfl,by rw[FW]at hm;exact hm⟩
structure Ik (l:List AB):Prop where
 len:l.length≤100
 small:Cm l
 nodup:(l.map (·.Id)).Nodup
 dep:fK l
def KU {l:List AB} {x:Int}:bV l x=true↔x∈l.map (·.Id):=by
 unfold bV DV;rw[List.find?_isSome,Dp];exact⟨fun⟨e,j,h⟩=>⟨e,j,J3⟩,fun⟨e,j,h⟩=>⟨e,j,J3⟩⟩
def aQT (l:List AB):(GH l).Perm (l.map (·.Id)):=(aLq l).map _
def bP {l:List AB} {x:Int}:x∈GH l↔bV l x=true:=by rw[(aQT l).mem_iff,KU]
def aIU (l:List AB):(GH l).length=l.length:=by unfold GH;rw[CB,aIb]
def Ik.order {l:List AB} (h:Ik l):(GH l).Nodup:=(aQT l).nodup_iff.2 h.nodup
def JH (l:List AB) (c:Int):List Df:=bif c==0&&Gf l==0 then Bj l else[]
def run_eq (l:List AB) {c:Int} (z:Ll l=some c) (h:c=0→Ik l):
 dX (lJ l) (fun o=>(JH l c=[]∧o=none)∨(JH l c=Bj l∧Ik l∧∃T,o=some T∧Oz (Bj l) T.1 T.2.1 T.2.2)):=by
 unfold lJ JH;rw[z,AP];by_cases u:c=0
 ·subst u;have j:=h rfl;rw[adt l j.len j.small j.dep];cases hd:Gf l==0 with
  |false=>
   have q:(Gf l != 0)=true:=by unfold bne;rw[hd];rfl
   simp only[La,Am,AP,q,BD];exact .ret (.inl ⟨rfl,rfl⟩)
  |true=>
   have q:(Gf l != 0)=false:=by unfold bne;rw[hd];rfl
   simp only[La,Am,AP,q];rw[ahv l (by have :=j.len;omega),AP];exact(run_go l (GH l) j.len j.small (fun x I=>bP.1 I) j.order (by rw[aIU];have :=j.len;omega)).mono fun o J=>.inr ⟨rfl,j,J⟩
 have L:(c != 0)=true:=TS
 have M:(c==0)=false:=TS
 rw[L,M];exact .ret (.inl ⟨rfl,rfl⟩)
def aE0 {l:List AB} (h:Ik l):LG l (Bj l):=pX h.len h.small _ _ fun y j=>absurd j EM
def aj1 (l:List AB):(Bj l).map (·.id)=GH l:=by
 have :=wJ l (GH l) [] fun x j=>bP.1 j;simpa[Bj,GY]using this
def ag0 {l:List AB} {x:Int} (h:bV l x=true):∃y,EJ (Bj l) x=some y:=by
 cases hl:EJ (Bj l) x with
 |some y=>exact⟨y,rfl⟩
 |none=>rw[iq,aj1]at hl;exact absurd (bP.2 h) hl
def II (t:List Df) (x:Int):Bool:=match EJ t x with
 |some y=>y.err==0
 |none=>false
def DT (l:List AB) (t:List Df):List Int:=(l.filter fun e=>II t e.Id).map (·.Id)
def Eb (l:List AB) (t:List Df):List Ah:=VO l ((FB l (DT l t)).map (GV t))
def UQ (l:List AB) (t:List Df):(DT l t).length≤l.length:=by unfold DT;rw[CB];exact J4 _ _
def aDX (l:List AB):DT l []=[]:=by
 unfold DT;rw[uU.2 fun e _=>by unfold II EJ;simp];rfl
def aRX (l:List AB):Eb l []=[]:=by unfold Eb;rw[aDX];rfl
def aC3 {l:List AB} {t:List Df} {i:Nat} (h:i<l.length):DT (l.take (i+1)) t=DT (l.take i) t++bif II t l[i].Id then[l[i].Id]else[]:=by
 unfold DT;rw[qZ h,KO];cases II t l[i].Id<;>rfl
def ad6 {l:List AB} {x:Int} (h:bV l x=true):II (Bj l) x=(errOf (Bj l) x==0):=by
 obtain⟨y,j⟩:=ag0 h;unfold II errOf;rw[j];rfl
def aaP {l:List AB} {j q:List (Int×List Ah)} {u:List (Int×Int)} (h:Oz (Bj l) j q u) (hl:l.length≤100):bJ j q u l=some (DT l (Bj l)):=by
 unfold bJ
 have hp:aBl l j q u=some (DT l (Bj l)):=by
  unfold aBl aac;refine dX.eq (Iq l.length (fuel_lt AA) (fun i a=>a=DT (l.take i) (Bj l)) rfl (fun i a k hi ha z=>?_) fun a k ha=>?_)
  ·have J:a.length≤i:=aUN
   unfold aPK aMU aBV;rw[Bl hi,AP,h.err,←ad6 (KU.2 (Dp.2 ⟨_,ED hi,rfl⟩)),wrap_succ i AA];cases I:II (Bj l) l[i].Id with
   |true=>
    rw[BD,BZ hi,AP,Cx FK,AP];exact z _ (by rw[aC3 hi,I,ha];rfl)
   |false=>exact z _ (by rw[aC3 hi,I,ha];simp)
  unfold aPK;rw[DZ];exact .ret dD
 rw[hp];rfl
def aUT {l:List AB} {c:Int} (z:Ll l=some c) (h:c=0→Ik l):VN l=some (Eb l (JH l c)):=by
 unfold VN;refine dX.eq ((run_eq l z h).bind fun o j=>?_);rcases j with⟨q,rfl⟩|⟨q,j,T,rfl,u⟩
 ·rw[q,aRX];exact .ret rfl
 rw[q];have hl:=j.len;have ha:=UQ l (Bj l);have I:=Xg l (DT l (Bj l));show dX ((bJ T.1 T.2.1 T.2.2 l).bind _) _;rw[aaP u hl,AP,aT4 l _ hl j.small AA,AP];unfold Eb;generalize FB l (DT l (Bj l))=H at I;unfold aWQ;refine Iq H.length (fuel_lt AA) (fun i a=>a=(H.take i).map (GV (Bj l))) rfl (fun i a k hi ha J=>?_) fun a k ha=>?_
 ·have L:a.length≤i:=mD
  unfold aHx;rw[Bl hi,Cx FK,AP,u.after,wrap_succ i AA];exact J _ uY
 rw[FW]at ha;unfold aHx;rw[DZ,ha,aW1 ((aE0 j).okay hl j.small _ AA),AP];exact .ret rfl
def aIh {l:List AB} {c:Int} (h:c=0→Ik l):IE l (Eb l (JH l c)):=by
 unfold JH;cases q:(c==0&&Gf l==0)with
 |false=>rw[Am,aRX];exact .nil l
 |true=>
  rw[CZ]at q;have j:=h (eq_of_beq q.1);have ht:=aE0 j;have ha:=UQ l (Bj l);have u:=Xg l (DT l (Bj l));have hl:=j.len;rw[BD];exact IE.resolve (ht.okay hl j.small _ AA) (ht.states _)
def anY {α:Type} {lt:α→α→Bool} (ht:∀a b c,lt b a=false→lt c b=false→lt c a=false) (ha:∀a b,lt a b=true→lt b a=false) (x:α):
 ∀n (A:List α),A.length=n→A.Pairwise (fun a b=>lt b a=false)→(Jm lt A x).Pairwise fun a b=>lt b a=false:=by
 intro n
 induction n with
 |zero=>
  intro A q _;obtain rfl:=Gh q;exact lg ..
 |succ n L=>
  intro A q hA;rcases List.eq_nil_or_concat A with rfl|⟨B,a,rfl⟩
  ·cases q
  rw[List.concat_eq_append]at q hA ⊢;have q:B.length=n:=MN
  obtain⟨M,_,J⟩:=UG.1 hA;cases u:lt x a with
  |true=>
   rw[abG u];refine UG.2 ⟨L B q M,lg ..,fun y j z I=>?_⟩;rw[FT.1 I];rcases EG.1 ((aW3 B x).mem_iff.1 j)with rfl|j
   ·exact ha _ _ u
   exact J y j a (FT.2 rfl)
  |false=>
   rw[aWP u,show B++a::[x]=(B++[a])++[x] by simp];refine UG.2 ⟨hA,lg ..,fun y j z I=>?_⟩;rw[FT.1 I];rcases Hl.1 j with j|j
   ·exact ht y a x (J y j a (FT.2 rfl)) u
   rw[FT.1 j];exact u
def aID {a b:AB}:G9 b a=false↔a.Depth<b.Depth∨(a.Depth=b.Depth∧a.Id≤b.Id):=by
 unfold G9;rw[VL,gW,NR,NR,PI];omega
def apb (l:List AB):(TU l).Pairwise fun a b=>G9 b a=false:=by
 have key:∀(l A:List AB),A.Pairwise (fun a b=>G9 b a=false)→(l.foldl (Jm G9) A).Pairwise fun a b=>G9 b a=false:=by
  intro l
  induction l with
  |nil=>exact fun A h=>h
  |cons x l j=>
   intro A h;rw[Ey];refine j _ (anY (fun a b c q u=>?_) (fun a b h=>?_) x _ A rfl h)
   ·rw[aID]at *;omega
   rw[aID];unfold G9 at h;rw[Vb,CZ,GN,GN,OL]at h;omega
 exact key l [] .nil
def jS {l:List AB} (M:(l.map (·.Id)).Nodup) {e:AB} (h:e∈l):ev l e.Id=e:=by
 have O:bV l e.Id=true:=KU.2 (Dp.2 ⟨e,h,rfl⟩);obtain⟨U,I⟩:=Fj O;have Y:=Ht U;obtain⟨i,hi,q⟩:=G5 Y;obtain⟨j,J,u⟩:=G5 h;have hp:=IZ.1 (eB.1 M)
 have hm:∀a b (ha:a<l.length) (L:b<l.length),a<b→l[a].Id≠l[b].Id:=fun a b ha L z=>by
  have :=hp a b (by simpa using ha) Wu z;simpa using this
 rcases gy i j with h|h|h
 ·exact absurd (by rw[q,u,I]) (hm i j hi J h)
 ·subst h;rw[←q,u]
 exact absurd (by rw[q,u,I]) (hm j i J hi h)
def aW4 {l:List AB} (I:(l.map (·.Id)).Nodup) {i:Nat} (hi:i<(GH l).length) {a:Int} (J:bV l a=true) (hd:(ev l a).Depth<(ev l (GH l)[i]).Depth):a∈(GH l).take i:=by
 obtain⟨L,M⟩:=Fj J;have hm:ev l a∈TU l:=(aLq l).mem_iff.2 (Ht L);obtain⟨j,O,u⟩:=G5 hm;have q:i<(TU l).length:=by simpa[GH]using hi
 have U:(GH l)[i]=(TU l)[i].Id:=Oq (fun x:AB=>x.Id);have z:ev l (GH l)[i]=(TU l)[i]:=by rw[U];exact jS I ((aLq l).mem_iff.1 (ED q))
 have Y:j<i:=by
  rcases gy j i with h|h|h
  ·exact h
  ·subst h;rw[z,←u]at hd;omega
  have :=IZ.1 (apb l) i j q O h;rw[aID]at this;rw[z,←u]at hd;omega
 refine aUi.2 ⟨j,AA,?_⟩;unfold GH;rw[Oq,u,M]
def QV (t:List Df) (s:List Ah):Prop:=∀x∈s,II t x.Id=true
structure NI (l:List AB) (t:List Df):Prop where
 st:∀y∈t,QV t y.before∧QV t y.after
 au:∀y∈t,y.err=0→∀a∈iO l y.id,II t a=true
def XO {t:List Df} {x:Int}:II t x=true↔∃y,EJ t x=some y∧y.err=0:=by
 unfold II;cases EJ t x with
 |none=>simp
 |some y=>simp
def aWE {t:List Df} {x:Int} {y:Df} (h:EJ t x=some y) (z:Df):EJ (t++[z]) x=some y:=by
 unfold EJ at *;rw[Xi,h];rfl
def aF8 {t:List Df} {x:Int} (h:II t x=true) (z:Df):II (t++[z]) x=true:=by
 obtain⟨y,j,q⟩:=XO.1 h;exact XO.2 ⟨y,aWE j z,q⟩
def QV.nil (t:List Df):QV t []:=fun _ h=>absurd h EM
def NI.after {l:List AB} {t:List Df} (h:NI l t) (x:Int):QV t (GV t x):=by
 unfold GV;cases hl:EJ t x with
 |none=>exact .nil t
 |some y=>exact(h.st y (OA hl)).2
def NI.auth {l:List AB} {t:List Df} (h:NI l t) {x:Int} (q:II t x=true):∀a∈iO l x,II t a=true:=by
 obtain⟨y,j,u⟩:=XO.1 q;have :=h.au y (OA j) u
 rwa [aho j]at this
def NI.chain {l:List AB} {t:List Df} (h:NI l t) {ids:List Int} (hi:∀x∈ids,II t x=true) {x:Int} (q:KC l ids x):II t x=true:=by
 induction q with
 |one u j _=>exact h.auth (hi _ u) _ j
 |more _ j _ z=>exact h.auth z _ j
def NI.full {l:List AB} {t:List Df} (h:NI l t) {aJ:List (List Ah)} (hs:∀s∈aJ,QV t s) {x:Int} (j:x∈Ih l aJ):II t x=true:=by
 have q:∀s∈aJ,∀y∈SC s,II t y=true:=fun s hm y I=>by
  obtain⟨z,u,rfl⟩:=Dp.1 I;exact hs s hm z u
 unfold Ih at j;rcases Tq.1 j with j|j
 ·rw[IY]at j;unfold Px at j;obtain⟨z,u,rfl⟩:=Dp.1 j;obtain⟨s,hm,u⟩:=Rl.1 u;exact hs s hm z (FN.1 u).1
 obtain⟨⟨s,hm,j⟩,_⟩:=aVG.1 j;unfold Ej at j;rcases Tq.1 j with j|j
 ·exact q s hm x j
 exact h.chain (q s hm) (dJ.1 j)
def NI.resolve {l:List AB} {t:List Df} (h:NI l t) {aJ:List (List Ah)} (j:Md l aJ) (hs:∀s∈aJ,QV t s):QV t (VO l aJ):=by
 match aJ,j,hs with
 | [],_,_=>exact .nil t
 | [s],_,hs=>exact hs s (EO ..)
 |s::r::aJ,j,hs=>
  intro x u;rcases aUX u with hm|⟨id,q,z,_,I⟩
  ·exact hs s (EO ..) x ((aVe j.states (aJo _ _)).1 hm s (EO ..))
  have J:x.Id=id:=by rw[I];exact(Fj z).2
  rw[J];exact h.full hs q
def NI.line {l:List AB} {t:List Df} (h:NI l t) (ht:LG l t) (hl:l.length≤100) (hs:Cm l) {id:Int} (Y:bV l id=true) (Z:EJ t id=none) (ha:∀a∈iO l id,∃y,EJ t a=some y):NI l (t++[Gz l t (ev l id)]):=by
 have z:(ev l id).Id=id:=(Fj Y).2
 have L:QV t (stB l t (ev l id)):=h.resolve (ht.okay hl hs _ (by have :=(aD3 hs id).prev;omega)) fun s hm=>by
  obtain⟨x,_,rfl⟩:=Dp.1 hm;exact h.after x
 have j:∀{s:List Ah},QV t s→QV (t++[Gz l t (ev l id)]) s:=fun hs x I=>aF8 (hs x I) _;refine⟨fun y q=>?_,fun y q u a hm=>?_⟩
 ·rcases Hl.1 q with q|q
  ·exact⟨j (h.st y q).1,j (h.st y q).2⟩
  rw[FT.1 q];refine⟨j L,?_⟩;show QV _ (bif JL l t (ev l id) (stB l t (ev l id))==0&&Fh (ev l id).Kind then ES _ (ev l id).Kind (ev l id).Key (ev l id).Id else _);cases O:(JL l t (ev l id) (stB l t (ev l id))==0&&Fh (ev l id).Kind)with
  |false=>exact j L
  |true=>
   rw[CZ]at O;intro x I;rcases Qo I with rfl|I
   ·refine XO.2 ⟨Gz l t (ev l id),?_,eq_of_beq O.1⟩;show EJ _ (ev l id).Id=_;have M:EJ t (Gz l t (ev l id)).id=none:=by show EJ t (ev l id).Id=none;rw[z];exact Z
    rw[wO M,show((ev l id).Id==(Gz l t (ev l id)).id)=true from SY _];rfl
   exact aF8 (L x I) _
 rcases Hl.1 q with q|q
 ·exact aF8 (h.au y q u a hm) _
 rw[FT.1 q]at u hm;have hm:a∈iO l id:=by rw[←z];exact hm
 have u:JL l t (ev l id) (stB l t (ev l id))=0:=u;obtain⟨y,q⟩:=ha a hm;refine aF8 (XO.2 ⟨y,q,?_⟩) _;unfold JL at u;cases J:Ue l (ev l id) != 0 with
 |true=>rw[J,BD]at u;rw[u]at J;cases J
 |false=>
  rw[J,Am]at u;cases U:(ev l id).bg.any (fun x=>errOf t x != 0)with
  |true=>rw[U,BD]at u;cases u
  |false=>
   have h3:=fV.1 U a hm;have :errOf t a=0:=by simpa using h3
   unfold errOf at this;rw[q]at this;exact this
def WE {l:List AB} (hd:Gf l=0) {e:AB} (z:e∈l):(∀a∈e.bg,bV l a=true∧(ev l a).Depth<e.Depth)∧∀a∈e.aZ,bV l a=true∧(ev l a).Depth<e.Depth:=by
 unfold Gf at hd;cases u:PG l with
 |false=>rw[u]at hd;cases hd
 |true=>
  rw[u,BD]at hd;cases I:l.all (MX l)with
  |false=>rw[I]at hd;cases hd
  |true=>
   have j:=Di.1 u e z;have q:=Di.1 I e z;unfold RU at j;unfold MX at q;rw[CZ,Di,Di]at j;rw[CZ,Di]at q;refine⟨fun a ha=>⟨j.2 a ha,YR (q.1 a ha)⟩,fun a ha=>⟨j.1 a ha,?_⟩⟩
   have hp:((e.aZ.length:Int)==0)=false:=by
    have :0<e.aZ.length:=aGB ha;rw[PI];omega
   have J:=q.2;rw[hp,Am,CZ,Di]at J;exact YR (J.1 a ha)
def aXq {l:List AB} (u:Ik l) (hd:Gf l=0):∀i,i≤(GH l).length→NI l (GY l ((GH l).take i))
 |0,_=>⟨fun y z=>absurd z EM,fun y z=>absurd z EM⟩
 |i+1,hi=>by
  have hi:i<(GH l).length:=hi;have I:bV l (GH l)[i]=true:=bP.1 (ED hi)
  have q:∀j,(GY l ((GH l).take j)).map (·.id)=(GH l).take j:=fun j=>by
   unfold GY;rw[wJ l _ _ fun x J=>bP.1 (YL J)];rfl
  rw[aBX l hi];refine(aXq u hd i AA).line (pX u.len u.small _ _ fun y z=>absurd z EM) u.len u.small I ?_ fun a ha=>?_
  ·rw[iq,q];intro hm;obtain⟨j,L,e⟩:=G5 hm;rw[F7]at L;rw[WJ]at e;exact IZ.1 (eB.1 u.order) j i AA hi AA e
  have hm:ev l (GH l)[i]∈l:=Ht (Fj I).1;obtain⟨M,k2⟩:=(WE hd hm).1 a ha;have :=aW4 u.nodup hi M k2;cases hl:EJ (GY l ((GH l).take i)) a with
  |some y=>exact⟨y,rfl⟩
  |none=>rw[iq,q]at hl;exact absurd this hl
def ai9 {l:List AB} (j:Ik l) (hd:Gf l=0):NI l (Bj l):=by
 have :=aXq j hd _ (Dn _)
 rwa [FW]at this
def NI.current {l:List AB} (j:Ik l) (hd:Gf l=0):QV (Bj l) (Eb l (Bj l)):=by
 have h:=ai9 j hd;have ht:=aE0 j;have ha:=UQ l (Bj l);have q:=Xg l (DT l (Bj l));have hl:=j.len
 exact h.resolve (ht.okay hl j.small _ AA) fun s hm=>by
  obtain⟨x,_,rfl⟩:=Dp.1 hm;exact h.after x
structure Lm (x y:AB):Prop where
 id:y.Id=x.Id
 room:y.Room=x.Room
 sender:y.aU=x.aU
 kind:y.Kind=x.Kind
 key:y.Key=x.Key
 time:y.Time=x.Time
 depth:y.Depth=x.Depth
 prev:y.aZ=x.aZ
 auth:y.bg=x.bg
 n:x.Kind=2∨x.Kind=4→y.Content.N=x.Content.N
 levels:x.Kind=3→y.Content.Levels=x.Content.Levels
def Lm.refl (x:AB):Lm x x:=⟨rfl,rfl,rfl,rfl,rfl,rfl,rfl,rfl,rfl,fun _=>rfl,fun _=>rfl⟩
inductive Hy :List AB→List AB→Prop
 |nil:Hy [] []
 |cons {x y:AB} {xs ys:List AB} (h:Lm x y) (t:Hy xs ys):Hy (x::xs) (y::ys)
def Hy.append {a b c d:List AB} (h:Hy a b) (k:Hy c d):Hy (a++c) (b++d):=by
 induction h with
 |nil=>exact k
 |cons h _ j=>exact .cons h j
def Hy.flat {α:Type} {f g:α→List AB}:∀(l:List α),(∀x∈l,Hy (f x) (g x))→Hy (l.flatMap f) (l.flatMap g)
 | [],_=>.nil
 |x::l,h=>by
  rw[JX,JX];exact(h x (EO ..)).append (Hy.flat l fun y j=>h y (F5 _ j))
def Hy.any {p:AB→Bool} (hp:∀x y,Lm x y→p y=p x) {a b:List AB} (h:Hy a b):b.any p=a.any p:=by
 induction h with
 |nil=>rfl
 |cons h _ j=>rw[aH,aH,hp _ _ h,j]
def Hy.all {p:AB→Bool} (hp:∀x y,Lm x y→p y=p x) {a b:List AB} (h:Hy a b):b.all p=a.all p:=by
 induction h with
 |nil=>rfl
 |cons h _ j=>rw[bY,bY,hp _ _ h,j]
def Hy.find {p:AB→Bool} (hp:∀x y,Lm x y→p y=p x) {a b:List AB} (h:Hy a b):(a.find? p=none∧b.find? p=none)∨∃x y,a.find? p=some x∧b.find? p=some y∧Lm x y∧p x=true:=by
 induction h with
 |nil=>exact .inl ⟨rfl,rfl⟩
 | @cons x y xs ys h _ j=>
   rw[KA,KA,hp _ _ h];cases q:p x with
   |true=>exact .inr ⟨x,y,rfl,rfl,h,q⟩
   |false=>exact j
def Hy.one {x y:AB} (h:Lm x y):Hy [x] [y]:=.cons h .nil
def aNm {k:Ah} {x y:AB} (h:Lm x y):DX k y=DX k x:=by unfold DX;rw[h.kind,h.key]
def apY {x y:AB} (h:Lm x y):P7 y=P7 x:=by
 unfold P7;rw[h.kind,h.key,h.sender];cases j:x.Kind==2 with
 |false=>rfl
 |true=>rw[h.n (.inl (eq_of_beq j))]
def aNf {x y:AB} (h:Lm x y):keysOf y=keysOf x:=by
 unfold keysOf JF;rw[h.kind,h.key,h.sender];cases j:x.Kind==2 with
 |false=>rfl
 |true=>rw[h.n (.inl (eq_of_beq j))]
section
variable {a b : List AB}
def ahn (h:Hy a b):(Gt b).2=(Gt a).2∧Lm (Gt a).1 (Gt b).1:=by
 unfold Gt;rcases h.find (p:=fun x=>x.Kind==1) (fun x y h=>by rw[h.kind])with⟨j,q⟩|⟨x,y,j,q,u,_⟩
 ·rw[j,q];exact⟨rfl,.refl _⟩
 rw[j,q];exact⟨rfl,u⟩
def aXy {u:ByteArray} {x y:AB} (h:Lm x y):Gp u y=Gp u x:=by unfold Gp;rw[h.kind,h.key]
def aMb (h:Hy a b) (u:ByteArray):Gj b u=Gj a u:=by
 unfold Gj;rcases h.find (p:=Gp u) (fun x y h=>aXy h)with⟨j,q⟩|⟨x,y,j,q,I,z⟩
 ·rw[j,q]
 rw[j,q];unfold Gp at z;rw[CZ]at z;exact I.n (.inl (eq_of_beq z.1))
def ahj (h:Hy a b):Q5 b=Q5 a:=by
 unfold Q5;rcases h.find (p:=fun x=>x.Kind==1) (fun x y h=>by rw[h.kind])with⟨j,q⟩|⟨x,y,j,q,u,_⟩
 ·rw[j,q]
 rw[j,q];exact u.sender
def aLO (h:Hy a b):Ew b=Ew a:=by
 unfold Ew;rcases h.find (p:=fun x=>x.Kind==3) (fun x y h=>by rw[h.kind])with⟨j,q⟩|⟨x,y,j,q,u,z⟩
 ·rw[j,q,ahj h]
 rw[j,q];exact u.levels (eq_of_beq z)
def ai6 (h:Hy a b):(U6 b).1=(U6 a).1:=by
 unfold U6;rcases h.find (p:=fun x=>x.Kind==4) (fun x y h=>by rw[h.kind])with⟨j,q⟩|⟨x,y,j,q,u,z⟩
 ·rw[j,q]
 rw[j,q];exact u.n (.inr (eq_of_beq z))
def aNl {e f:AB} (j:Lm e f) (h:Hy a b):FH f b=FH e a:=by
 unfold FH;obtain⟨c1,c2⟩:=ahn h;rw[j.kind,j.sender,j.room,c1];cases e.Kind==1 with
 |true=>rfl
 |false=>
 cases(Gt a).2 with
 |false=>rfl
 |true=>
 cases J:e.Kind==2 with
 |true=>
  have I:=j.n (.inl (eq_of_beq J));simp only[Am,EW,BD]
  have q:Ry f b=Ry e a:=by
   unfold Ry;rw[c1,j.prev,j.sender,j.key,I,c2.id,c2.sender,h.any fun x y h=>aXy h]
  have u:∀m now,TI m now b=TI m now a:=fun m now=>by unfold TI;rw[ai6 h]
  have z:∀now,X5 f b now=X5 e a now:=fun now=>by
   unfold X5;rw[aMb h,j.sender,j.key,I,aLO h]
  unfold Wn;rw[q,j.key,j.sender,I,aMb h,u,z]
 |false=>
  simp only[Am,EW];rw[aMb h]
  have hl:WG f b=WG e a:=by
   unfold WG;rw[aLO h,j.sender,j.kind];cases L:e.Kind==3 with
   |false=>rfl
   |true=>rw[j.levels (eq_of_beq L)]
  rw[hl]
end
structure Gm (l l':List AB) (S:List Int):Prop where
 nodup:S.Nodup
 mem:∀x∈S,bV l x=true∧bV l' x=true∧Lm (ev l x) (ev l' x)
 prev:∀x∈S,∀a∈(ev l x).aZ,a∈S
 auth:∀x∈S,∀a∈(ev l x).bg,a∈S
section
variable {l l' : List AB} {S : List Int} (h : Gm l l' S)
include h
def Gm.ids {ids:List Int} (hi:∀x∈ids,x∈S):Hy (ofIds l ids) (ofIds l' ids):=by
 induction ids with
 |nil=>exact .nil
 |cons x ids j=>
  obtain⟨q,k2,u⟩:=h.mem x (hi x (EO ..));unfold ofIds at j ⊢;rw[Lr,Lr,(Fj q).1,(Fj k2).1];exact .cons u (j fun y z=>hi y (F5 _ z))
def Gm.iO {x:Int} (j:x∈S):iO l' x=iO l x:=(h.mem x j).2.2.auth
def Gm.ch {ids:List Int} (hi:∀x∈ids,x∈S) {x:Int} (z:KC l ids x):x∈S∧KC l' ids x:=by
 induction z with
 |one q j _=>
  have hs:=h.auth _ (hi _ q) _ j;exact⟨hs,.one q (by rw[h.iO (hi _ q)];exact j) (h.mem _ hs).2.1⟩
 |more _ j _ u=>
  have hs:=h.auth _ u.1 _ j;exact⟨hs,.more u.2 (by rw[h.iO u.1];exact j) (h.mem _ hs).2.1⟩
def Gm.ch' {ids:List Int} (hi:∀x∈ids,x∈S) {x:Int} (z:KC l' ids x):x∈S∧KC l ids x:=by
 induction z with
 |one q j _=>
  rw[h.iO (hi _ q)]at j;have hs:=h.auth _ (hi _ q) _ j;exact⟨hs,.one q j (h.mem _ hs).1⟩
 |more _ j _ u=>
  rw[h.iO u.1]at j;have hs:=h.auth _ u.1 _ j;exact⟨hs,.more u.2 j (h.mem _ hs).1⟩
def Gm.chain {ids:List Int} (hi:∀x∈ids,x∈S):chainOf l' ids=chainOf l ids:=xH (aGE _ _) (aGE _ _) fun x=>by
 rw[dJ,dJ];exact⟨fun j=>(h.ch' hi j).2,fun j=>(h.ch hi j).2⟩
def Gm.azN {ids:List Int} (hi:∀x∈ids,x∈S):∀x∈chainOf l ids,x∈S:=fun _ j=>(h.ch hi (dJ.1 j)).1
def Gm.from {e f:AB} (u:Lm e f) (hi:∀x∈e.bg,x∈S):Hy (Jo l e) (Jo l' f):=by
 unfold Jo;rw[aNf u,u.auth];refine Hy.flat _ fun k _=>?_;rcases(h.ids hi).find (p:=DX k) (fun x y h=>aNm h)with⟨j,q⟩|⟨x,y,j,q,z,_⟩
 ·rw[j,q];exact .nil
 rw[j,q];exact .one z
def Gm.fits {e f:AB} (L:Lm e f) (hi:∀x∈e.bg,x∈S):LX l' f=LX l e:=by
 have hs:=h.ids hi
 have O:e.bg.all (bV l')=e.bg.all (bV l):=by
  rw[KR,Di,Di];exact⟨fun _ x z=>(h.mem x (hi x z)).1,fun _ x z=>(h.mem x (hi x z)).2.1⟩
 have U:∀(I:List Ah) {xs ys:List AB},Hy xs ys→∀{q j:List AB},Hy q j→J7 I j ys=J7 I q xs:=by
  intro I xs ys M
  induction M with
  |nil=>intro q j _;rfl
  | @cons x y xs ys z _ Y=>
    intro q j hp;have hm:(I.any fun k=>DX k y)=I.any fun k=>DX k x:=Ap (fun p=>I.any p) (funext fun k=>aNm z)
    have hl:j.any (Oh y)=q.any (Oh x):=by
     rw[show Oh y=Oh x from funext fun u=>by unfold Oh;rw[z.kind,z.key]];exact hp.any fun u v J=>by unfold Oh;rw[J.kind,J.key]
    unfold J7;rw[Y (hp.append (.one z)),hm,hl]
 unfold LX;rw[L.auth,L.kind,L.room,aNf L,O,hs.all (fun x y h=>by rw[h.room]),U _ hs .nil,hs.any (fun x y h=>by unfold Oa;rw[h.kind,h.key])]
omit h in
def find_congr {p q:Int→Bool}:∀(l:List Int),(∀x∈l,p x=q x)→l.find? p=l.find? q
 | [],_=>rfl
 |x::l,h=>by rw[KA,KA,h x (EO ..),find_congr l fun y j=>h y (F5 _ j)]
omit h in
def wS :∀{a b:List Int},a.Nodup→(∀x∈a,x∈b)→a.length≤b.length
 | [],_,_,_=>Ci _
 |x::a,b,u,hs=>by
  have j:=hs x (EO ..);obtain⟨z,I⟩:=Kv.1 u;have :=wS (b:=b.erase x) I fun y q=>(List.mem_erase_of_ne fun e=>z (by rw[←e];exact q)).2 (hs y (F5 _ q));rw[List.length_erase_of_mem j]at this;have J:0<b.length:=aGB j;rw[FV];omega
def Gm.power {x:Int} (j:x∈S):O8 l' (ev l' x)=O8 l (ev l x):=by
 unfold O8;rw[(h.mem x j).2.2.auth];refine find_congr _ fun a ha=>?_;obtain⟨q,k2,u⟩:=h.mem a (h.auth x j a ha);rw[q,k2,u.kind]
def Gm.Bg:∀(n m:Nat) (seen:List Int) (id:Int),id∈S→seen.Nodup→(∀x∈seen,x∈S)→S.length≤seen.length+n→S.length≤seen.length+m→Bg l' m seen id=Bg l n seen id:=by
 have q:∀(seen:List Int) (id:Int),id∈S→seen.Nodup→(∀x∈seen,x∈S)→S.length≤seen.length→id∈seen:=fun seen id j I hs hl=>by
  refine Yv fun z=>?_
  have :=wS (a:=id::seen) (b:=S) (Kv.2 ⟨z,I⟩) fun x J=>by
   rcases EG.1 J with rfl|J
   ·exact j
   exact hs x J
  rw[FV]at this;omega
 have u:∀(l:List AB) (n:Nat) (seen:List Int) (id:Int),id∈seen→Go.Proofs.YtkkdimcnpacjhaaGreat.Bg l n seen id=seen:=fun l n seen id j=>by
  cases n with
  |zero=>rfl
  |succ n=>unfold Go.Proofs.YtkkdimcnpacjhaaGreat.Bg;rw[Iu.2 j];rfl
 intro n
 induction n with
 |zero=>
  intro m seen id j I hs M _;have :=q seen id j I hs AA;rw[u l' m seen id this,u l 0 seen id this]
 |succ n O=>
  intro m seen id j I hs M h2;by_cases z:id∈seen
  ·rw[u l' m seen id z,u l (n+1) seen id z]
  obtain⟨m,rfl⟩:∃U,m=U+1:=by
   cases m with
   |zero=>exact absurd (q seen id j I hs AA) z
   |succ m=>exact⟨m,rfl⟩
  obtain⟨Y,k2,k3⟩:=h.mem id j;unfold Go.Proofs.YtkkdimcnpacjhaaGreat.Bg;rw[OE.2 z,Y,k2,h.power j];cases hp:O8 l (ev l id)with
  |none=>rfl
  |some x=>
   have J:x∈S:=h.auth id j x (OA hp);refine O m (seen++[id]) x J (yJ.2 ⟨I,Aw,fun a ha b Z=>?_⟩) (fun y L=>?_) aIZ aIZ
   ·rw[FT.1 Z];exact fun e=>z (e▸ha)
   rcases Hl.1 L with L|L
   ·exact hs y L
   rw[FT.1 L];exact j
def Gm.way {x:Int} (j:x∈S):YH l' x=YH l x:=by
 have q:S.length≤l.length:=by
  have :=wS (b:=l.map (·.Id)) h.nodup fun x j=>KU.1 (h.mem x j).1
  rwa [CB]at this
 have u:S.length≤l'.length:=by
  have :=wS (b:=l'.map (·.Id)) h.nodup fun x j=>KU.1 (h.mem x j).2.1
  rwa [CB]at this
 exact h.Bg _ _ [] x j .nil (fun _ h=>absurd h EM) MN TS
def Gm.item {j:List Int} {x:Int} (q:x∈S):EX l' j x=EX l j x:=by
 unfold EX Ld;rw[h.way q,(h.mem x q).2.2.time]
def Gm.zU {j ids:List Int} (hi:∀x∈ids,x∈S):zU l' j ids=zU l j ids:=by
 unfold Go.Proofs.YtkkdimcnpacjhaaGreat.zU;rw[yg (q:=bV l) fun x u=>by rw[(h.mem x (hi x u)).1,(h.mem x (hi x u)).2.1],Yj fun x u=>h.item (hi x (FN.1 u).1)]
def Gm.Du {full:List Int} (hi:∀x∈full,x∈S):Du l' full=Du l full:=by
 unfold Go.Proofs.YtkkdimcnpacjhaaGreat.Du;refine yg fun x j=>?_;obtain⟨q,k2,u⟩:=h.mem x (hi x j);unfold Vo;rw[q,k2,apY u]
def Gm.TP {full:List Int} (hi:∀x∈full,x∈S):TP l' full=TP l full:=by
 unfold Go.Proofs.YtkkdimcnpacjhaaGreat.TP;rw[h.Du hi,h.chain (ids:=Go.Proofs.YtkkdimcnpacjhaaGreat.Du l full) fun x j=>hi x (FN.1 j).1]
def Gm.gK {ids:List Int} (hi:∀x∈ids,x∈S):gK l' ids=gK l ids:=by
 unfold Go.Proofs.YtkkdimcnpacjhaaGreat.gK;exact yg fun x j=>by rw[(h.mem x (hi x (IY.1 j))).1,(h.mem x (hi x (IY.1 j))).2.1]
def Gm.one {x:Int} (j:x∈S):chainOf l' [x]=chainOf l [x]:=h.chain fun y q=>by rw[FT.1 q];exact j
def Gm.node {x:Int} (j:x∈S):Ep l' x=Ep l x:=by
 obtain⟨_,_,q⟩:=h.mem x j;unfold Ep gV;rw[aLO (h.from q (h.auth x j)),q.sender,q.time,h.one j]
omit h in
def ahG (l:List AB) (left:List Int) (b:Option Int) (x:Int):Gx l left b x=some x∨Gx l left b x=b:=by
 unfold Gx;cases b with
 |none=>cases Vt l left x<;>simp
 |some y=>
  simp only[];cases Vt l left x<;>cases Xo (Ep l x) (Ep l y)<;>simp
def Gm.best {left:List Int}:∀(xs:List Int) (b:Option Int),(∀x∈xs,x∈S)→(∀y,b=some y→y∈S)→xs.foldl (Gx l' left) b=xs.foldl (Gx l left) b
 | [],_,_,_=>rfl
 |x::xs,b,z,I=>by
  have q:=z x (EO ..)
  have e:Gx l' left b x=Gx l left b x:=by
   unfold Gx Vt;rw[h.one q];cases b with
   |none=>rfl
   |some y=>simp only[h.node q,h.node (I y rfl)]
  rw[Ey,Ey,e];refine Gm.best xs _ (fun y j=>z y (F5 _ j)) fun y j=>?_;rcases ahG l left b x with u|u
  ·rw[u]at j;rw[←CS j];exact q
  rw[u]at j;exact I y j
def Gm.rP:∀(n:Nat) (left:List Int),(∀x∈left,x∈S)→rP l' n left=rP l n left
 |0,_,_=>rfl
 |n+1,left,hi=>by
  unfold Go.Proofs.YtkkdimcnpacjhaaGreat.rP Tf;rw[h.best left none hi fun _ h=>Ie];cases left.foldl (Gx l left) none with
  |none=>rfl
  |some b=>exact Ap _ (Gm.rP n _ fun x j=>hi x (FN.1 j).1)
def KF (S:List Int) (s:List Ah):Prop:=∀x∈s,x.Id∈S
def Gm.pick {s:List Ah} (hs:KF S s) {e f:AB} (u:Lm e f) (hi:∀x∈e.bg,x∈S):Hy (RI l s e) (RI l' s f):=by
 unfold RI;rw[aNf u];refine Hy.flat _ fun k _=>?_;unfold Rx dK;cases z:(Fz s k.Kind k.Key).2 with
 |true=>
  have hm:=aLa (s:=s) (k:=k.Kind) (key:=k.Key) (n:=(Fz s k.Kind k.Key).1) (Prod.ext rfl z);obtain⟨I,k2,J⟩:=h.mem _ (hs _ hm)
  have L:Fq l (Fz s k.Kind k.Key).1=(ev l (Fz s k.Kind k.Key).1,true):=by
   have :=(Fj I).1;unfold ev Fq at this ⊢;rw[this]
  have M:Fq l' (Fz s k.Kind k.Key).1=(ev l' (Fz s k.Kind k.Key).1,true):=by
   have :=(Fj k2).1;unfold ev Fq at this ⊢;rw[this]
  simp only[BD];rw[L,M];exact .one J
 |false=>
  simp only[Am];unfold dG;rw[u.auth];rcases(h.ids hi).find (p:=DX k) (fun x y h=>aNm h)with⟨j,q⟩|⟨x,y,j,q,O,_⟩
  ·rw[j,q];exact .nil
  rw[j,q];exact .one O
def Gm.apply {s:List Ah} (hs:KF S s) {x:Int} (q:x∈S):OU l' s x=OU l s x∧KF S (OU l s x):=by
 obtain⟨z,k2,j⟩:=h.mem x q
 have e:SH l' s x=SH l s x:=by
  unfold SH;rw[z,k2,j.kind,aNl j (h.pick hs j (h.auth x q))]
 unfold OU;rw[e,j.kind,j.key,j.id];refine⟨rfl,?_⟩;cases SH l s x with
 |false=>exact hs
 |true=>
  intro y u;rcases Qo u with rfl|u
  ·show(ev l x).Id∈S;rw[(Fj z).2];exact q
  exact hs y u
def Gm.applies:∀(ids:List Int) (s:List Ah),KF S s→(∀x∈ids,x∈S)→O6 l' s ids=O6 l s ids∧KF S (O6 l s ids)
 | [],_,hs,_=>⟨rfl,hs⟩
 |x::ids,s,hs,hi=>by
  obtain⟨j,q⟩:=h.apply hs (hi x (EO ..));unfold O6;rw[Ey,Ey,j];exact Gm.applies ids _ q fun y u=>hi y (F5 _ u)
def Gm.closure {s:List Ah} (hs:KF S s):Ej l' s=Ej l s∧∀x∈Ej l s,x∈S:=by
 have hi:∀x∈SC s,x∈S:=fun x j=>by
  obtain⟨y,q,rfl⟩:=Dp.1 j;exact hs y q
 unfold Ej;refine⟨by rw[h.chain hi],fun x j=>?_⟩;rcases Tq.1 j with j|j
 ·exact hi x j
 exact h.azN hi x j
def Gm.full {aJ:List (List Ah)} (hs:∀s∈aJ,KF S s):Ih l' aJ=Ih l aJ∧∀x∈Ih l aJ,x∈S:=by
 have u:∀(q:List (List Ah)) (a:List Int),(∀s∈q,KF S s)→q.foldl (fun a s=>Hq a (Ej l' s)) a=q.foldl (fun a s=>Hq a (Ej l s)) a:=by
  intro q
  induction q with
  |nil=>exact fun _ _=>rfl
  |cons s q L=>
   intro a ht;rw[Ey,Ey,(h.closure (ht s (EO ..))).1];exact L _ fun s hm=>ht s (F5 _ hm)
 have I:∀x,Ip l' aJ x=Ip l aJ x:=fun x=>by
  unfold Ip;exact List.countP_congr fun s hm=>by rw[(h.closure (hs s hm)).1]
 have hd:OC l' aJ=OC l aJ:=by
  unfold OC allOf;rw[u aJ [] hs];exact yg fun x _=>by rw[I]
 unfold Ih;rw[hd];refine⟨rfl,fun x j=>?_⟩;rcases Tq.1 j with j|j
 ·rw[IY]at j;unfold Px at j;obtain⟨z,J,rfl⟩:=Dp.1 j;obtain⟨s,hm,J⟩:=Rl.1 J;exact hs s hm z (FN.1 J).1
 obtain⟨⟨s,hm,j⟩,_⟩:=aVG.1 j;exact(h.closure (hs s hm)).2 x j
omit h in
def ak5 {aJ:List (List Ah)} (hs:∀s∈aJ,KF S s):KF S (Hr aJ):=by
 cases aJ with
 |nil=>exact fun _ h=>absurd h EM
 |cons s aJ=>exact fun x j=>hs s (EO ..) x (FN.1 j).1
def Gm.last {aJ:List (List Ah)} (hs:∀s∈aJ,KF S s):lastOf l' aJ=lastOf l aJ∧KF S (lastOf l aJ):=by
 obtain⟨f1,Z⟩:=h.full hs;have u:=ak5 hs;have J:Js l' aJ=Js l aJ:=by unfold Js;rw[f1,h.TP Z]
 have I:∀x∈Js l aJ,x∈S:=fun x j=>Z x (aFX.1 j).1
 have hpo:Ko l' aJ=Ko l aJ:=by
  unfold Ko;rw[J,h.gK I];exact h.rP _ _ fun x j=>I x (LQ.1 j).1
 have M:∀x∈Ko l aJ,x∈S:=fun x j=>I x (LQ.1 (aPo l _ _ j)).1;obtain⟨a1,a2⟩:=h.applies (Ko l aJ) (Hr aJ) u M;have q:Ho l' aJ=Ho l aJ:=by unfold Ho;rw[hpo,a1]
 have O:Ty l' aJ=Ty l aJ:=by
  unfold Ty;rw[q];cases hg:(Fz (Ho l aJ) 3 BK).2 with
  |false=>rfl
  |true=>exact h.way (a2 _ (aLa (n:=(Fz (Ho l aJ) 3 BK).1) (Prod.ext rfl hg)))
 have L:∀x∈OQ (Ih l aJ) (Js l aJ),x∈S:=fun x j=>Z x (aGc.1 j).1
 have U:Jg l' aJ=Jg l aJ:=by
  unfold Jg;rw[O,f1,J,h.zU L]
 have Y:∀x∈Jg l aJ,x∈S:=fun x j=>by
  unfold Jg Go.Proofs.YtkkdimcnpacjhaaGreat.zU at j;obtain⟨y,hy,rfl⟩:=Dp.1 j;obtain⟨z,hz,rfl⟩:=Dp.1 ((Sz ..).mem_iff.1 hy);exact L z (FN.1 hz).1
 obtain⟨b1,b2⟩:=h.applies (Jg l aJ) (Ho l aJ) a2 Y;unfold lastOf;rw[q,U,b1];refine⟨rfl,fun x j=>?_⟩;rcases aNr _ _ j with j|j
 ·exact u x j
 exact b2 x j
def Gm.resolve {aJ:List (List Ah)} (hs:∀s∈aJ,KF S s):VO l' aJ=VO l aJ∧KF S (VO l aJ):=by
 match aJ,hs with
 | [],_=>exact⟨rfl,fun _ h=>absurd h EM⟩
 | [s],hs=>exact⟨rfl,hs s (EO ..)⟩
 |s::r::aJ,hs=>exact h.last hs
def Gm.verdict {t t':List Df} {x:Int} (u:x∈S) {s:List Ah} (hs:KF S s) (ht:∀a∈(ev l x).bg,errOf t' a=errOf t a):JL l' t' (ev l' x) s=JL l t (ev l x) s:=by
 obtain⟨O,k2,j⟩:=h.mem x u
 have J:Ue l' (ev l' x)=Ue l (ev l x):=by
  unfold Ue;rw[h.fits j (h.auth x u),aNl j (h.from j (h.auth x u))]
 have q:(ev l' x).bg.any (fun x=>errOf t' x != 0)=(ev l x).bg.any (fun x=>errOf t x != 0):=by
  rw[j.auth,KR,Gl,Gl];exact⟨fun⟨a,ha,e⟩=>⟨a,ha,by rw[←ht a ha];exact e⟩,fun⟨a,ha,e⟩=>⟨a,ha,by rw[ht a ha];exact e⟩⟩
 have I:FH (ev l' x) (EK l' s)=FH (ev l x) (EK l s):=aNl j (h.ids fun y L=>by
  obtain⟨z,M,rfl⟩:=Dp.1 L
  exact hs z M)
 unfold JL;rw[J,q,I]
def Gm.line {t t':List Df} {x:Int} (u:x∈S) (hp:∀a∈(ev l x).aZ,GV t' a=GV t a∧KF S (GV t a)) (ht:∀a∈(ev l x).bg,errOf t' a=errOf t a):
 Gz l' t' (ev l' x)=Gz l t (ev l x)∧KF S (Gz l t (ev l x)).before∧KF S (Gz l t (ev l x)).after:=by
 obtain⟨I,k2,q⟩:=h.mem x u
 have j:stB l' t' (ev l' x)=stB l t (ev l x)∧KF S (stB l t (ev l x)):=by
  have hm:(ev l x).aZ.map (GV t')=(ev l x).aZ.map (GV t):=Yj fun a ha=>(hp a ha).1;unfold stB;rw[q.prev,hm]
  exact h.resolve fun s hs=>by
   obtain⟨a,ha,rfl⟩:=Dp.1 hs;exact(hp a ha).2
 unfold Gz Uf;rw[j.1,h.verdict u j.2 ht,q.id,q.kind,q.key];refine⟨rfl,j.2,?_⟩;show KF S (bif JL l t (ev l x) (stB l t (ev l x))==0&&Fh (ev l x).Kind then _ else _);cases(JL l t (ev l x) (stB l t (ev l x))==0&&Fh (ev l x).Kind)with
 |false=>exact j.2
 |true=>
  intro y z;rcases Qo z with rfl|z
  ·show(ev l x).Id∈S;rw[(Fj I).2];exact u
  exact j.2 y z
end
def afV (l:List AB) {t t':List Df} {e:AB} (hp:∀a∈e.aZ,GV t' a=GV t a) (ht:∀a∈e.bg,errOf t' a=errOf t a):Gz l t' e=Gz l t e:=by
 have q:stB l t' e=stB l t e:=by
  unfold stB;rw[show e.aZ.map (GV t')=e.aZ.map (GV t)from Yj hp]
 have j:e.bg.any (fun x=>errOf t' x != 0)=e.bg.any (fun x=>errOf t x != 0):=by
  rw[KR,Gl,Gl];exact⟨fun⟨a,ha,e⟩=>⟨a,ha,by rw[←ht a ha];exact e⟩,fun⟨a,ha,e⟩=>⟨a,ha,by rw[ht a ha];exact e⟩⟩
 unfold Gz JL;rw[q,j]
def aWt (l:List AB):∀(ids:List Int) {t:List Df} {x:Int} {y:Df},EJ t x=some y→EJ (ids.foldl (fun t id=>t++[Gz l t (ev l id)]) t) x=some y
 | [],_,_,_,h=>h
 |id::ids,_,_,_,h=>by rw[Ey];exact aWt l ids (aWE h _)
def aTu {l:List AB} {ids:List Int} {i:Nat} {x:Int} {y:Df} (h:EJ (GY l (ids.take i)) x=some y):EJ (GY l ids) x=some y:=by
 have :GY l ids=(ids.drop i).foldl (fun t id=>t++[Gz l t (ev l id)]) (GY l (ids.take i)):=by
  unfold GY;rw[←TQ,Qn]
 rw[this];exact aWt l _ h
def aFR {l:List AB} (Y:Ik l) (hd:Gf l=0) {x:Int} (M:bV l x=true):EJ (Bj l) x=some (Gz l (Bj l) (ev l x)):=by
 obtain⟨i,hi,J⟩:=G5 (bP.2 M)
 have u:∀j,(GY l ((GH l).take j)).map (·.id)=(GH l).take j:=fun j=>by
  unfold GY;rw[wJ l _ _ fun x hx=>bP.1 (YL hx)];rfl
 have z:(ev l x).Id=x:=(Fj M).2;have hm:ev l x∈l:=Ht (Fj M).1
 have I:∀a,bV l a=true→(ev l a).Depth<(ev l x).Depth→∃y,EJ (GY l ((GH l).take i)) a=some y∧EJ (Bj l) a=some y:=fun a k1 k2=>by
  have :=aW4 Y.nodup hi k1 (by rw[J];exact k2);cases hl:EJ (GY l ((GH l).take i)) a with
  |some y=>exact⟨y,rfl,aTu hl⟩
  |none=>rw[iq,u]at hl;exact absurd this hl
 have q:EJ (GY l ((GH l).take i)) (Gz l (GY l ((GH l).take i)) (ev l x)).id=none:=by
  show EJ _ (ev l x).Id=none;rw[z,iq,u];intro L;obtain⟨j,hj,e⟩:=G5 L;rw[F7]at hj;rw[WJ,←J]at e;exact IZ.1 (eB.1 Y.order) j i AA hi AA e
 have h1:EJ (GY l ((GH l).take (i+1))) x=some (Gz l (GY l ((GH l).take i)) (ev l x)):=by
  rw[aBX l hi,J,wO q];have :(x==(Gz l (GY l ((GH l).take i)) (ev l x)).id)=true:=by show(x==(ev l x).Id)=true;rw[z];exact SY _
  rw[this];rfl
 have h2:=aTu h1
 have h3:Gz l (Bj l) (ev l x)=Gz l (GY l ((GH l).take i)) (ev l x):=by
  obtain⟨Z,dp⟩:=WE hd hm;refine afV l (fun a ha=>?_) fun a ha=>?_
  ·obtain⟨y,O,U⟩:=I a (dp a ha).1 (dp a ha).2;unfold GV;rw[O,U]
  obtain⟨y,O,U⟩:=I a (Z a ha).1 (Z a ha).2;unfold errOf;rw[O,U]
 rw[h3];exact h2
def aTt {l l':List AB} {S:List Int} (h:Gm l l' S) (q:Ik l) (hd:Gf l=0) (u:Ik l') (z:Gf l'=0):∀x∈S,EJ (Bj l') x=EJ (Bj l) x∧KF S (GV (Bj l) x):=by
 have key:∀(n:Nat) (x:Int),x∈S→(ev l x).Depth<(n:Int)→EJ (Bj l') x=EJ (Bj l) x∧KF S (GV (Bj l) x):=by
  intro n
  induction n with
  |zero=>
   intro x j M;have :=(q.dep _ (Ht (Fj (h.mem x j).1).1)).1;omega
  |succ n L=>
   intro x j M;obtain⟨I,k2,k3⟩:=h.mem x j;obtain⟨O,U⟩:=WE hd (Ht (Fj I).1)
   obtain⟨Y,q2,Z⟩:=h.line j (t:=Bj l) (t':=Bj l') (fun a ha=>by
    obtain⟨J,e2⟩:=L a (h.prev x j a ha) (by have :=(U a ha).2;omega)
    exact⟨by unfold GV;rw[J],e2⟩) fun a ha=>by
    obtain⟨J,_⟩:=L a (h.auth x j a ha) (by have :=(O a ha).2;omega);unfold errOf;rw[J]
   rw[aFR q hd I,aFR u z k2,Y];exact⟨rfl,by unfold GV;rw[aFR q hd I];exact Z⟩
 intro x j;have :=(q.dep _ (Ht (Fj (h.mem x j).1).1)).2;exact key 100001 x j AA
def aGI (l:List AB) (t:List Df):DT l t=(l.map (·.Id)).filter (II t):=by
 unfold DT;rw[List.filter_map];rfl
end Go.Proofs.YtkkdimcnpacjhaaGreat
end
section
namespace Go.Proofs.YtkkdimcnpacjhaaGreat
def Tj (n:Int):Int:=if n<0 then bits .xor .u64 IntKind.u64.max (IntKind.u64.wrap (IntKind.u64.wrap n*2))else IntKind.u64.wrap (IntKind.u64.wrap n*2)
def pV (n:Int):0≤Tj n∧Tj n<18446744073709551616:=by
 unfold Tj;have j:∀x:Int,0≤IntKind.u64.wrap x∧IntKind.u64.wrap x<18446744073709551616:=fun x=>by rw[iD];omega
 split
 ·obtain⟨q,z⟩:=j (IntKind.u64.wrap n*2);generalize IntKind.u64.wrap (IntKind.u64.wrap n*2)=y at *;obtain⟨k,rfl⟩:=Int.eq_ofNat_of_zero_le q;have :(IntKind.u64.max:Int)=((18446744073709551615:Nat):Int):=BJ
  rw[this,bits_xor_u64_nat _ _ AA AA];have :18446744073709551615^^^k<2^64:=Nat.xor_lt_two_pow AA AA;constructor
  ·exact aLA _
  have u:(2:Nat)^64=18446744073709551616:=BJ
  omega
 exact j _
def Nw (u:Nat):List Int:=if u<128 then[(u:Int)]else((u % 128+128:Nat):Int)::Nw (u/128)
termination_by u
decreasing_by omega
def kC {u:Nat} (h:u<128):Nw u=[(u:Int)]:=by rw[Nw,CP h]
def aLP {u:Nat} (h:¬u<128):Nw u=((u % 128+128:Nat):Int)::Nw (u/128):=by rw[Nw,CU h]
def aSR :∀(j u:Nat),u<128^(j+1)→(Nw u).length≤j+1
 |0,u,h=>by rw[kC J3];simp
 |j+1,u,h=>by
  by_cases q:u<128
  ·rw[kC q];simp
  rw[aLP q]
  have :u/128<128^(j+1):=by
   rw[Nat.div_lt_iff_lt_mul AA];rw[Nat.pow_succ]at h;exact h
  have :=aSR j (u/128) this;simp;omega
def enc (n:Int):List Int:=Nw (Tj n).toNat
def Oo (n:Int):(enc n).length≤10:=by
 have h:=(pV n).2;refine aSR 9 _ ?_;have :(128:Nat)^10=1180591620717411303424:=BJ
 rw[this];have :=(pV n).1;omega
def apE (k:Nat):bits .or .u8 ((k:Int) % 256) 128=((k % 128+128:Nat):Int):=by
 have h:=u8_or_nat (k % 256) 128 AA AA;rw[show((k:Int) % 256)=((k % 256:Nat):Int)from by omega];have j:(128:Int)=((128:Nat):Int):=rfl;rw[j,h];congr 1;have key:∀x,x<256→x|||128=x % 128+128:=NC
 rw[key _ AA];omega
def qB (u c:Int):Int:=(IntKind.u64.wrap (bits .xor .u64 u (IntKind.u64.wrap c)*1099511628211)).tmod 4611686018427387904
def aVs (x:Int):bits .and .u64 (IntKind.u64.wrap x) 4611686018427387903=(IntKind.u64.wrap x).tmod 4611686018427387904:=by
 rw[iD];have h:=bits_mask .u64 64 BJ (fun n q u=>by rw[iD];omega) 62 BJ (x % 18446744073709551616) AA AA;have e:((2:Int)^62-1)=4611686018427387903:=BJ
 have j:((2:Int)^62)=4611686018427387904:=BJ
 rw[aTm AA];simpa[e,j]using h
def adB (u c:Int):bits .and .u64 (IntKind.u64.wrap (bits .xor .u64 u (IntKind.u64.wrap c)*1099511628211)) 4611686018427387903=qB u c:=aVs _
def aDN (op:BinOp) (k:IntKind) (x y:Int) (h:op=.and∨op=.or∨op=.xor):ER op k x y=bits op k x y:=by
 rcases h with rfl|rfl|rfl<;>rfl
def NT {α:Type} {b:Nat} {l m:List α} (j:b≤100) (h:(l++m).length≤1099511627776):Bo b l m=some (l++m):=by
 refine Cx ?_;rw[E9]at h;have :(l.length+m.length)*b≤1099511627776*100:=aAG h j;omega
def ad4 (u:Nat):ER .or .u8 (IntKind.u8.wrap (u:Int)) 128=((u % 128+128:Nat):Int):=by
 rw[aDN _ _ _ _ (.inr (.inl rfl)),show IntKind.u8.wrap (u:Int)=(u:Int) % 256 from by rw[kV],apE]
def abn (u:Nat):PD .shr .u64 (u:Int) 7=some ((u/128:Nat):Int):=by
 unfold PD;rw[CU AA];show some ((u:Int).fdiv (2^7))=_;rw[aYa _ BJ];congr 1
def aSo {u n:Nat} (h:u<128^(n+1+1)):u/128<128^(n+1):=by
 rw[Nat.div_lt_iff_lt_mul AA];rw[Nat.pow_succ]at h;exact h
def aeh :∀(n u:Nat),u<128^(n+1)→∀m b,n<m→(b++Nw u).length≤1099511627776→aT XG m b (u:Int)=some (b++Nw u):=by
 intro n
 induction n with
 |zero=>
  intro u q m b hm j;obtain⟨m,rfl⟩:∃z,m=z+1:=⟨m-1,AA⟩
  have h:u<128:=MN
  rw[kC h]at j ⊢;show XG (aT XG m) b (u:Int)=_;simp only[XG,show decide ((u:Int)≥128)=false from by simp;omega,Am];rw[show IntKind.u8.wrap (u:Int)=(u:Int)from by rw[kV];omega,NT AA j];rfl
 |succ n J=>
  intro u q m b hm j;obtain⟨m,rfl⟩:∃z,m=z+1:=⟨m-1,AA⟩
  show XG (aT XG m) b (u:Int)=_;by_cases h:u<128
  ·rw[kC h]at j ⊢;simp only[XG,show decide ((u:Int)≥128)=false from by simp;omega,Am];rw[show IntKind.u8.wrap (u:Int)=(u:Int)from by rw[kV];omega,NT AA j];rfl
  rw[aLP h]at j ⊢;have e:(b++((u % 128+128:Nat):Int)::Nw (u/128))=(b++[((u % 128+128:Nat):Int)])++Nw (u/128):=Aw
  have I:(b++[((u % 128+128:Nat):Int)]).length≤1099511627776:=by simp only[E9,FV,L9]at j ⊢;omega
  simp only[XG,show decide ((u:Int)≥128)=true from by simp;omega,BD,ad4,NT (show 1≤100 by omega) I,abn,AP];rw[e];exact J (u/128) (aSo q) m _ AA (by rw[←e];exact j)
def af7 :∀(n u:Nat),u<128^(n+1)→u<18446744073709551616→∀m b,n<m→(b++Nw u).length≤1099511627776→aT WC m (u:Int) b=some (b++Nw u):=by
 intro n
 induction n with
 |zero=>
  intro u q _ m b hm j;obtain⟨m,rfl⟩:∃z,m=z+1:=⟨m-1,AA⟩
  have h:u<128:=MN
  rw[kC h]at j ⊢;show WC (aT WC m) (u:Int) b=_;simp only[WC,show decide ((u:Int)≥128)=false from by simp;omega,Am];rw[show IntKind.u8.wrap (u:Int)=(u:Int)from by rw[kV];omega,NT AA j];rfl
 |succ n J=>
  intro u q L m b hm j;obtain⟨m,rfl⟩:∃z,m=z+1:=⟨m-1,AA⟩
  show WC (aT WC m) (u:Int) b=_;by_cases h:u<128
  ·rw[kC h]at j ⊢;simp only[WC,show decide ((u:Int)≥128)=false from by simp;omega,Am];rw[show IntKind.u8.wrap (u:Int)=(u:Int)from by rw[kV];omega,NT AA j];rfl
  rw[aLP h]at j ⊢;have e:(b++((u % 128+128:Nat):Int)::Nw (u/128))=(b++[((u % 128+128:Nat):Int)])++Nw (u/128):=Aw
  have I:(b++[((u % 128+128:Nat):Int)]).length≤1099511627776:=by simp only[E9,FV,L9]at j ⊢;omega
  have M:Vu (u:Int) 128=some ((u % 128:Nat):Int):=by unfold Vu;rw[CU AA,aTm AA];congr 1
  have O:xK .u64 (u:Int) 128=some ((u/128:Nat):Int):=by
   unfold xK;rw[CU AA,Int.tdiv_eq_ediv_of_nonneg AA];congr 1;rw[iD];omega
  have U:IntKind.u8.wrap (IntKind.u64.wrap (((u % 128:Nat):Int)+128))=((u % 128+128:Nat):Int):=by rw[iD,kV];omega
  simp only[WC,show decide ((u:Int)≥128)=true from by simp;omega,BD,M,U,O,NT (show 1≤100 by omega) I,AP];rw[e];exact J (u/128) (aSo q) AA m _ AA (by rw[←e];exact j)
def aU0 (x:Int):PD .shl .u64 x 1=some (IntKind.u64.wrap (x*2)):=rfl
def aSE (x:Int):bQ .u64 x=bits .xor .u64 IntKind.u64.max x:=rfl
def aWT (n:Int):(Tj n).toNat<128^(9+1):=by
 have j:=pV n;have :(128:Nat)^(9+1)=1180591620717411303424:=BJ
 rw[this];omega
def aQL :9<Aj:=fA
def number_eq {b:List Int} {n:Int} (h:(b++enc n).length≤1099511627776):YT b n=some (b++enc n):=by
 have u:=pV n
 have j:aaD b (Tj n)=some (b++enc n):=by
  have :=aeh 9 (Tj n).toNat (aWT n) Aj b aQL h
  rwa [Int.toNat_of_nonneg u.1]at this
 unfold YT;rw[aU0,AP];unfold aE8;unfold Tj at j;by_cases q:n<0
 ·rw[CP q]at j;rw[show decide (n<0)=true by simpa using q,BD,aSE];exact j
 rw[CU q]at j;rw[show decide (n<0)=false by simpa using q,Am];exact j
def agc (n:Int):([]++enc n).length≤1099511627776:=by have :=Oo n;simp only[I5];omega
def aQQ (n:Int):uP n=some (enc n):=by
 have u:=pV n
 have j:aS4 (Tj n) []=some (enc n):=by
  have :=af7 9 (Tj n).toNat (aWT n) AA Aj [] aQL (agc n)
  rwa [Int.toNat_of_nonneg u.1]at this
 unfold uP;rw[aU0,AP];unfold aD5;unfold Tj at j;by_cases q:n<0
 ·rw[CP q]at j;rw[show decide (n<0)=true by simpa using q,BD,aSE];exact j
 rw[CU q]at j;rw[show decide (n<0)=false by simpa using q,Am];exact j
def nR {b:List Int} {m:Nat} (h:b.length+m≤1099511627776):Yf b (m:Int)=some b:=by
 unfold Yf;rw[MH AA AA];unfold IK;rw[CP ⟨AA,AA,AA⟩];simp[gCopy]
def aDi {a b:List Int} (h:(a++b).length≤1099511627776):a.length≤1099511627776:=by rw[E9]at h;omega
def JM (s:ByteArray):List Int:=enc s.size++BU s
def text_eq {b:List Int} {s:ByteArray} (h:(b++JM s).length≤1099511627776):yN b s=some (b++JM s):=by
 unfold JM at h ⊢;rw[←HY]at h ⊢;unfold yN;rw[number_eq (aDi h),AP,NT AA h];rfl
def qY {b:List Int} {n:Int} (h:b.length+10≤1099511627776):Nk b n=some (b++enc n):=by
 have :=Oo n;unfold Nk;rw[show(10:Int)=((10:Nat):Int)from rfl,nR AA,AP,number_eq KY];rfl
def ZH {b:List Int} {n:Int} (h:b.length+10≤1099511627776):KJ b n=some (b++enc n):=by
 have :=Oo n;unfold KJ;rw[NT AA aF0,AP,aQQ,AP,I5,NT AA KY];rfl
def lT (s:ByteArray):(JM s).length≤s.size+10:=by
 have :=Oo s.size;unfold JM;rw[E9,I9];omega
def aiW {b:List Int} {s:ByteArray} (h:b.length+s.size+10≤1099511627776):Rw b s=some (b++JM s):=by
 have :=lT s;unfold Rw;rw[MH AA AA,show(s.size:Int)+10=((s.size+10:Nat):Int) by omega,nR AA,AP,text_eq KY];rfl
def aRV {b:List Int} {s:ByteArray} (h:b.length+s.size+10≤1099511627776):Qg b s=some (b++JM s):=by
 have :=lT s;unfold Qg;rw[ZH AA,AP,NT AA (by unfold JM at this;rw[E9]at this;rw[E9,E9];omega)];simp[JM]
def ahW {b:List Int} {j:Bool} (h:b.length+10≤1099511627776):Xb b j=some (b++[bif j then 1 else 0]):=by
 unfold Xb;rw[show(1:Int)=((1:Nat):Int)from rfl,nR AA,AP];cases j<;>simp only[BD,Am]<;>rw[NT AA aLl]<;>rfl
def anA {b:List Int} {j:Bool} (h:b.length+10≤1099511627776):l7 b j=some (b++[bif j then 1 else 0]):=by
 unfold l7;rw[NT AA aF0,AP,I5];cases j<;>simp only[BD,Am]<;>rw[NT AA aLl]<;>rfl
def aKx {α:Type} {body:(List Int→Int→Option (List Int))→List Int→Int→Option (List Int)} (l:List α) (hl:l.length<Aj) (g:α→List Int)
 (z:∀k b (i:Nat) (h:i<l.length),(b++g l[i]).length≤1099511627776→body k b (i:Int)=k (b++g l[i]) (Ai ((i:Int)+1))) (I:∀k b,body k b (l.length:Int)=some b) (b:List Int) (j:(b++l.flatMap g).length≤1099511627776):
 aT body Aj b 0=some (b++l.flatMap g):=by
 have L:Aj=9223372036854775808:=rfl
 have key:∀n (i:Nat) b,i+n=l.length→(b++(l.drop i).flatMap g).length≤1099511627776→∀m,n<m→aT body m b (i:Int)=some (b++(l.drop i).flatMap g):=by
  intro n
  induction n with
  |zero=>
   intro i b hi j m hm;obtain⟨m,rfl⟩:∃u,m=u+1:=⟨m-1,AA⟩
   have :i=l.length:=AA
   subst this;show body (aT body m) _ _=_;rw[I,P8];simp
  |succ n J=>
   intro i b hi j m hm;obtain⟨m,rfl⟩:∃u,m=u+1:=⟨m-1,AA⟩
   have q:i<l.length:=AA
   rw[Jq q,JX,←HY]at j ⊢;show body (aT body m) _ _=_;rw[z _ _ i q (aDi j),wrap_succ i AA];exact J (i+1) _ AA j m AA
 exact key l.length 0 b AA j Aj hl
def Pn (l:List Int):List Int:=enc l.length++l.flatMap enc
def PX (l:List ByteArray):List Int:=enc l.length++l.flatMap JM
def afA {b:List Int} {l:List Int} (h:(b++Pn l).length≤1099511627776) (hl:l.length≤1000):aCc b l=some (b++Pn l):=by
 have q:Aj=9223372036854775808:=rfl;unfold Pn at h ⊢;rw[←HY]at h ⊢;unfold aCc;rw[number_eq (aDi h),AP];unfold aSF;refine aKx l AA enc (fun k b i hi j=>?_) (fun k b=>?_) _ h
 ·simp only[aL9,dec_lt hi,BD,BZ hi,number_eq j,AP]
 simp only[aL9,CX,Am]
def ahS {b:List Int} {l:List ByteArray} (h:(b++PX l).length≤1099511627776) (hl:l.length≤1000000000):aAU b l=some (b++PX l):=by
 have q:Aj=9223372036854775808:=rfl;unfold PX at h ⊢;rw[←HY]at h ⊢;unfold aAU;rw[number_eq (aDi h),AP];unfold aRR;refine aKx l AA JM (fun k b i hi j=>?_) (fun k b=>?_) _ h
 ·simp only[aMr,dec_lt hi,BD,BZ hi,text_eq j,AP]
 simp only[aMr,CX,Am]
def aFS {α:Type} {g:α→List Int} {m:Nat}:∀{l:List α},(∀x∈l,(g x).length≤m)→(l.flatMap g).length≤l.length*m
 | [],_=>Aw
 |x::l,h=>by
  rw[JX,E9,FV,Pe];have :=h x EO;have :=aFS (l:=l) (fun y j=>h y (F5 _ j));omega
def aIA (l:List Int):(Pn l).length≤l.length*10+10:=by
 have j:=Oo l.length;have q:=aFS (g:=enc) (m:=10) (l:=l) (fun x _=>Oo x);unfold Pn;rw[E9];omega
def aHn {l:List ByteArray} {m:Nat} (h:∀s∈l,s.size≤m):(PX l).length≤l.length*(m+10)+10:=by
 have j:=Oo l.length;have q:=aFS (g:=JM) (m:=m+10) (l:=l) (fun s hs=>by have :=lT s;have :=h s hs;omega);unfold PX;rw[E9];omega
def ajW {b:List Int} {l:List Int} (j:b.length+20000≤1099511627776) (hl:l.length≤1000):Y0 b l=some (b++Pn l):=by
 have q:=aIA l;unfold Y0;rw[MH (x:=2*(l.length:Int)) AA AA,MH AA AA,show 2*(l.length:Int)+10=((2*l.length+10:Nat):Int) by omega,nR AA,AP,afA KY hl];rfl
def afc {b:List Int} {l:List Int} (q:b.length+20000≤1099511627776) (hl:l.length≤1000):yc b l=some (b++Pn l):=by
 have u:Aj=9223372036854775808:=rfl;have z:=aIA l;have h:(b++Pn l).length≤1099511627776:=KY
 unfold Pn at h ⊢;rw[←HY]at h ⊢;unfold yc;rw[ZH AA,AP];unfold aQS;refine aKx l AA enc (fun k b i hi j=>?_) (fun k b=>?_) _ h
 ·simp only[aKs,dec_lt hi,BD,BZ hi,aQQ,NT (show 1≤100 by omega) j,AP]
 simp only[aKs,CX,Am]
def afs {b:List Int} {l:List ByteArray} (j:b.length+3000000≤1099511627776) (hl:l.length≤1000) (hs:∀s∈l,s.size≤2000):iF b l=some (b++PX l):=by
 have q:=aHn hs;unfold iF;rw[MH (x:=8*(l.length:Int)) AA AA,MH AA AA,show 8*(l.length:Int)+10=((8*l.length+10:Nat):Int) by omega,nR AA,AP,ahS KY AA];rfl
def afh {b:List Int} {l:List ByteArray} (I:b.length+3000000≤1099511627776) (hl:l.length≤1000) (hs:∀s∈l,s.size≤2000):iy b l=some (b++PX l):=by
 have J:Aj=9223372036854775808:=rfl;have L:=aHn hs;have h:(b++PX l).length≤1099511627776:=KY
 have key:∀n (i:Nat) b,i+n=l.length→b.length+(n*2020)≤1099511620000→∀m,n<m→aT (Yu l) m b (i:Int)=some (b++(l.drop i).flatMap JM):=by
  intro n
  induction n with
  |zero=>
   intro i b hi u m hm;obtain⟨m,rfl⟩:∃q,m=q+1:=⟨m-1,AA⟩
   have :i=l.length:=AA
   subst this;show Yu l (aT (Yu l) m) _ _=_;simp only[Yu,CX,Am,P8];simp
  |succ n z=>
   intro i b hi u m hm;obtain⟨m,rfl⟩:∃q,m=q+1:=⟨m-1,AA⟩
   have j:i<l.length:=AA
   have M:=hs l[i] (ED j);have O:=lT l[i];rw[Jq j,JX,←HY];show Yu l (aT (Yu l) m) _ _=_;simp only[Yu,dec_lt j,BD,BZ j,AP];rw[aRV AA,AP,wrap_succ i AA];exact z (i+1) _ AA KY m AA
 unfold PX;rw[←HY];unfold iy;rw[ZH AA,AP];unfold aWq;have :=key l.length 0 (b++enc l.length) AA (by have :=Oo l.length;rw[E9];omega) Aj AA;exact this
structure QL (c:Bf):Prop where
 allow:c.Allow.length≤100
 deny:c.jd.length≤100
 users:c.Levels.Users.length≤100
 kinds:c.Levels.Kinds.length≤100
 text:c.Text.size≤2000
 via:c.Via.size≤2000
 allows:∀x∈c.Allow,x.size≤2000
 denies:∀x∈c.jd,x.size≤2000
 names:∀x∈c.Levels.Users,x.User.size≤2000
def EY.content {e:AB} (h:EY e):QL e.Content:=⟨h.allow,h.deny,h.users,h.kinds,h.text,h.via,h.allows,h.denies,h.names⟩
section
variable {b : List Int} {k : Nat}
def TV (h:b.length≤k) (j:k≤1000000000) (n:Int):Nk b n=some (b++enc n)∧KJ b n=some (b++enc n)∧(b++enc n).length≤k+10:=by
 have :=Oo n;exact⟨qY AA,ZH AA,KY⟩
def aR7 (h:b.length≤k) (q:k≤1000000000) (j:Bool):Xb b j=some (b++[bif j then 1 else 0])∧l7 b j=some (b++[bif j then 1 else 0])∧(b++[bif j then(1:Int)else 0]).length≤k+10:=
 ⟨ahW AA,anA AA,aLl⟩
def VR (h:b.length≤k) (j:k≤1000000000) {s:ByteArray} (m:Nat) (hs:s.size≤m) (hm:m≤1000000000):Rw b s=some (b++JM s)∧Qg b s=some (b++JM s)∧(b++JM s).length≤k+m+10:=by
 have :=lT s;exact⟨aiW AA,aRV AA,KY⟩
def aYr (h:b.length≤k) (j:k≤1000000000) {l:List Int} (hl:l.length≤100):Y0 b l=some (b++Pn l)∧yc b l=some (b++Pn l)∧(b++Pn l).length≤k+1010:=by
 have :=aIA l;exact⟨ajW AA AA,afc AA AA,KY⟩
def aR9 (h:b.length≤k) (j:k≤1000000000) {l:List ByteArray} (hl:l.length≤100) (hs:∀s∈l,s.size≤2000):iF b l=some (b++PX l)∧iy b l=some (b++PX l)∧(b++PX l).length≤k+201010:=by
 have :=aHn hs;exact⟨afs AA AA hs,afh AA AA hs,KY⟩
end
def SE (u:IX):List Int:=JM u.User++enc u.N
def Rt (u:Jc):List Int:=enc u.Kind++enc u.N
def JQ (l:Ba):List Int:=[l.User,l.Message,l.State,l.gJ,l.kP,l.oD,l.iw]
def aio (b:List Int) (l:Ba):List Int:=b++enc l.Users.length++l.Users.flatMap SE++enc l.Kinds.length++l.Kinds.flatMap Rt++(JQ l).flatMap enc
def lU (c:Bf):List Int:=aio ([]++JM c.Text++enc c.N++enc c.Target++[bif c.Thread then 1 else 0]++JM c.Via++PX c.Allow++PX c.jd) c.Levels
def aeA {u:IX} (h:u.User.size≤2000):(SE u).length≤2020:=by
 have :=lT u.User;have :=Oo u.N;unfold SE;rw[E9];omega
def aTq (u:Jc):(Rt u).length≤20:=by
 have :=Oo u.Kind;have :=Oo u.N;unfold Rt;rw[E9];omega
def lM {R α:Type} {body:(List Int→Int→Option R)→List Int→Int→Option R} (l:List α) (hl:l.length≤1000) (g:α→List Int) (m:Nat) (hm:∀x∈l,(g x).length≤m) (j:List Int→Option R) (b:List Int)
 (q:∀k a (i:Nat) (h:i<l.length),a.length≤b.length+i*m→body k a (i:Int)=k (a++g l[i]) (Ai ((i:Int)+1)))
 (u:∀k a,a.length≤b.length+l.length*m→body k a (l.length:Int)=j a):aT body Aj b 0=j (b++l.flatMap g)∧(b++l.flatMap g).length≤b.length+l.length*m:=by
 constructor
 ·rw[Hu l AA (fun a x=>a++g x) (fun i a=>a.length≤b.length+i*m) j AA (fun k a i h z=>⟨?_,q k a i h z⟩) u,foldl_append g];have :=hm l[i] (ED h);rw[E9,Pe];omega
 have :=aFS hm;rw[E9];omega
def akl (c:Bf) (b:List Int) (J:b.length≤900000):(aOB c b 0=some (b++(JQ c.Levels).flatMap enc)∧aOd (JQ c.Levels) b 0=some (b++(JQ c.Levels).flatMap enc))∧(b++(JQ c.Levels).flatMap enc).length≤b.length+70:=by
 have u:∀i:Nat,(h:i<(JQ c.Levels).length)→Ag ([c.Levels.User,c.Levels.Message,c.Levels.State,c.Levels.gJ,c.Levels.kP,c.Levels.oD,c.Levels.iw]:List Int) (i:Int)=some (JQ c.Levels)[i]:=fun i h=>BZ h
 have q:=lM (body:=aH9 c) (JQ c.Levels) (by simp[JQ]) enc 10 (fun x _=>Oo x) some b (fun k a i h j=>by
  have z:i<7:=h;unfold aH9
  rw[Gu (show(i:Int)<7 by omega),BD,u i h,AP,qY AA,AP]) fun k a j=>rfl
 have I:=lM (body:=aC8 (JQ c.Levels)) (JQ c.Levels) (by simp[JQ]) enc 10 (fun x _=>Oo x) some b (fun k a i h j=>by
  have z:i<7:=h;unfold aC8
  rw[Bl h,ZH AA,AP]) fun k a j=>by unfold aC8;rw[CX];rfl
 exact⟨⟨q.1,I.1⟩,q.2⟩
def am0 (c:Bf) (b:List Int) (L:b.length≤800000) (M:c.Levels.Kinds.length≤100):(aHr c b 0=some (b++c.Levels.Kinds.flatMap Rt++(JQ c.Levels).flatMap enc)∧aLG c b 0=some (b++c.Levels.Kinds.flatMap Rt++(JQ c.Levels).flatMap enc))∧(b++c.Levels.Kinds.flatMap Rt++(JQ c.Levels).flatMap enc).length≤b.length+2070:=by
 have u:=lM (body:=aAH c) c.Levels.Kinds AA Rt 20 (fun x _=>aTq x) (fun a=>aOB c a 0) b (fun k a i h j=>by
  obtain⟨q,_,I⟩:=TV (b:=a) (k:=900000) AA AA c.Levels.Kinds[i].Kind;unfold aAH
  rw[Bl h,q,AP,qY AA,AP,HY];rfl) fun k a j=>by unfold aAH;rw[CX];rfl
 have J:=lM (body:=aC9 c) c.Levels.Kinds AA Rt 20 (fun x _=>aTq x) (fun a=>aOd (JQ c.Levels) a 0) b (fun k a i h j=>by
  obtain⟨_,q,I⟩:=TV (b:=a) (k:=900000) AA AA c.Levels.Kinds[i].Kind;unfold aC9
  rw[Bl h,q,AP,BZ h,AP,ZH AA,AP,HY];rfl) fun k a j=>by unfold aC9 aHj;rw[CX,Am,AP];rfl
 have hl:=u.2;have z:=akl c (b++c.Levels.Kinds.flatMap Rt) AA;exact⟨⟨u.1.trans z.1.1,J.1.trans z.1.2⟩,AA⟩
def acI (c:Bf) (b:List Int) (Z:b.length≤500000) (j:QL c):(aSy c b 0=some (b++c.Levels.Users.flatMap SE++enc c.Levels.Kinds.length++c.Levels.Kinds.flatMap Rt++(JQ c.Levels).flatMap enc)∧aUw c b 0=some (b++c.Levels.Users.flatMap SE++enc c.Levels.Kinds.length++c.Levels.Kinds.flatMap Rt++(JQ c.Levels).flatMap enc))∧(b++c.Levels.Users.flatMap SE++enc c.Levels.Kinds.length++c.Levels.Kinds.flatMap Rt++(JQ c.Levels).flatMap enc).length≤b.length+204080:=by
 have hu:=j.users;have I:∀x∈c.Levels.Users,(SE x).length≤2020:=fun x L=>aeA (j.names x L)
 have J:=lM (body:=aAi c) c.Levels.Users AA SE 2020 I (fun a=>aHr c (a++enc c.Levels.Kinds.length) 0) b (fun k a i h q=>by
  have hs:=j.names _ (ED h);obtain⟨u,_,M⟩:=VR (b:=a) (k:=900000) AA AA (s:=c.Levels.Users[i].User) 2000 hs AA;unfold aAi
  rw[Bl h,u,AP,qY AA,AP,HY];rfl) fun k a q=>by unfold aAi;rw[CX,Am,qY AA,AP]
 have O:=lM (body:=aDu c) c.Levels.Users AA SE 2020 I (fun a=>aLG c (a++enc c.Levels.Kinds.length) 0) b (fun k a i h q=>by
  have hs:=j.names _ (ED h);obtain⟨_,u,M⟩:=VR (b:=a) (k:=900000) AA AA (s:=c.Levels.Users[i].User) 2000 hs AA;unfold aDu
  rw[Bl h,u,AP,BZ h,AP,ZH AA,AP,HY];rfl) fun k a q=>by unfold aDu;rw[CX,Am,ZH AA,AP]
 have hl:=J.2;have he:=Oo (c.Levels.Kinds.length:Int);have U:(b++c.Levels.Users.flatMap SE++enc c.Levels.Kinds.length).length=(b++c.Levels.Users.flatMap SE).length+(enc c.Levels.Kinds.length).length:=E9 ..;have z:=am0 c (b++c.Levels.Users.flatMap SE++enc c.Levels.Kinds.length) AA j.kinds;have Y:=z.2;rw[U]at Y;exact⟨⟨J.1.trans z.1.1,O.1.trans z.1.2⟩,AA⟩
def aUW {c:Bf} (j:QL c):rG c=some (lU c)∧xA c=some (lU c)∧(lU c).length≤700000:=by
 obtain⟨q,u,z⟩:=VR (b:=[]) (k:=0) (Dn _) AA 2000 j.text AA;obtain⟨I,J,L⟩:=TV z AA c.N;obtain⟨M,O,U⟩:=TV L AA c.Target;obtain⟨Y,Z,h4⟩:=aR7 U AA c.Thread;obtain⟨a5,b5,h5⟩:=VR h4 AA 2000 j.via AA;obtain⟨a6,b6,h6⟩:=aR9 h5 AA j.allow j.allows;obtain⟨a7,b7,h7⟩:=aR9 h6 AA j.deny j.denies;obtain⟨a8,b8,h8⟩:=TV h7 AA (c.Levels.Users.length:Int);obtain⟨⟨a9,b9⟩,h9⟩:=acI c _ (Ed h8 AA) j;refine⟨?_,?_,Ed h9 AA⟩
 ·unfold rG;rw[q,AP,I,AP,M,AP,Y,AP,a5,AP,a6,AP,a7,AP,a8,AP];exact a9
 unfold xA;rw[u,AP,J,AP,O,AP,Z,AP,b5,AP,b6,AP,b7,AP,b8,AP];exact b9
def eK (e:AB):List Int:=
 []++enc e.Id++JM e.Room++JM e.aU++enc e.Kind++[bif e.State then 1 else 0]++JM e.Key++enc e.Time++enc e.Depth++Pn e.aZ++Pn e.bg++JM (Qk (lU e.Content))++enc e.Hash++JM e.su.Server++enc e.su.Sum
def ag6 (l:List Int):(Qk l).size=l.length:=by
 have key:∀(l:List Int) (r:ByteArray),(l.foldl (fun r n=>r.push (UInt8.ofNat n.toNat)) r).size=r.size+l.length:=by
  intro l
  induction l with
  |nil=>intro r;rfl
  |cons x l j=>intro r;rw[Ey,j,ByteArray.size_push,FV];omega
 unfold Qk;rw[key];simp
def aEU {S α:Type} {body:(Int→S→Option S)→Int→S→Option S} (l:List α) (hl:l.length<1000) (f:S→α→Option S)
 (u:∀k (i:Nat) (h:i<l.length) s,body k (i:Int) s=(f s l[i]).bind fun x=>k (Ai ((i:Int)+1)) x) (z:∀k s,body k (l.length:Int) s=some s) (s:S):aT body Aj 0 s=l.foldlM f s:=by
 have J:Aj=9223372036854775808:=rfl
 have key:∀n (i:Nat) s,i+n=l.length→∀m,n<m→aT body m (i:Int) s=(l.drop i).foldlM f s:=by
  intro n
  induction n with
  |zero=>
   intro i s hi m hm;obtain⟨m,rfl⟩:∃q,m=q+1:=⟨m-1,AA⟩
   have :i=l.length:=AA
   subst this;rw[P8];exact z _ _
  |succ n I=>
   intro i s hi m hm;obtain⟨m,rfl⟩:∃q,m=q+1:=⟨m-1,AA⟩
   have j:i<l.length:=AA
   rw[Jq j,Uj];show body (aT body m) _ _=(f s l[i]).bind _;rw[u _ i j,wrap_succ i AA];congr 1;funext x;exact I (i+1) x AA m AA
 exact key l.length 0 s AA Aj AA
def aUC (w:F9) (l:List Int) (hl:l.length<1000):TT w l=l.foldlM jc w:=by
 unfold TT aTi;exact aEU l hl _ (fun k i h s=>by simp only[aH1,dec_lt h,BD,BZ h,AP]) (fun k s=>by simp only[aH1,CX,Am]) w
def aa8 (w:F9) (l:List ByteArray) (hl:l.length<1000):Vg w l=l.foldlM jy w:=by
 unfold Vg aUE;exact aEU l hl _ (fun k i h s=>by simp only[aPq,dec_lt h,BD,BZ h,AP]) (fun k s=>by simp only[aPq,CX,Am]) w
def aje (w:F9) (l:List Bool) (hl:l.length<1000):nO w l=l.foldlM oI w:=by
 unfold nO aUR;exact aEU l hl _ (fun k i h s=>by simp only[aHc,dec_lt h,BD,BZ h,AP]) (fun k s=>by simp only[aHc,CX,Am]) w
def anp (w:F9) (l:List (List Int)) (hl:l.length<1000):tY w l=l.foldlM kX w:=by
 unfold tY aUd;exact aEU l hl _ (fun k i h s=>by simp only[aMZ,dec_lt h,BD,BZ h,AP]) (fun k s=>by simp only[aMZ,CX,Am]) w
def aHG {b c:List Int} {n:Int} (h:Nk b n=some c):jc ⟨b⟩ n=some ⟨c⟩:=by unfold jc;rw[h];rfl
def aJQ {b c:List Int} {n:ByteArray} (h:Rw b n=some c):jy ⟨b⟩ n=some ⟨c⟩:=by unfold jy;rw[h];rfl
def ajN {b c:List Int} {n:Bool} (h:Xb b n=some c):oI ⟨b⟩ n=some ⟨c⟩:=by unfold oI;rw[h];rfl
def aXt {b c:List Int} {n:List Int} (h:Y0 b n=some c):kX ⟨b⟩ n=some ⟨c⟩:=by unfold kX;rw[h];rfl
def aCI {b c:List Int} {n:Int} (h:Nk b n=some c):TT ⟨b⟩ [n]=some ⟨c⟩:=by
 rw[aUC _ _ Aw,Uj,aHG h];rfl
def aea {b c d:List Int} {n m:Int} (h:Nk b n=some c) (k:Nk c m=some d):TT ⟨b⟩ [n,m]=some ⟨d⟩:=by
 rw[aUC _ _ Aw,Uj,aHG h];show(jc ⟨c⟩ m).bind _=_;rw[aHG k];rfl
def aNb {b c:List Int} {n:ByteArray} (h:Rw b n=some c):Vg ⟨b⟩ [n]=some ⟨c⟩:=by
 rw[aa8 _ _ Aw,Uj,aJQ h];rfl
def al1 {b c d:List Int} {n m:ByteArray} (h:Rw b n=some c) (k:Rw c m=some d):Vg ⟨b⟩ [n,m]=some ⟨d⟩:=by
 rw[aa8 _ _ Aw,Uj,aJQ h];show(jy ⟨c⟩ m).bind _=_;rw[aJQ k];rfl
def anN {b c:List Int} {n:Bool} (h:Xb b n=some c):nO ⟨b⟩ [n]=some ⟨c⟩:=by
 rw[aje _ _ Aw,Uj,ajN h];rfl
def ajY {b c d:List Int} {n m:List Int} (h:Y0 b n=some c) (k:Y0 c m=some d):tY ⟨b⟩ [n,m]=some ⟨d⟩:=by
 rw[anp _ _ Aw,Uj,aXt h];show(kX ⟨c⟩ m).bind _=_;rw[aXt k];rfl
def anB {e:AB} (j:EY e):qU e=some (eK e)∧aCe e=some (eK e)∧(eK e).length≤1000000:=by
 obtain⟨ac,bc,hc⟩:=aUW j.content;obtain⟨a1,b1,h1⟩:=TV (b:=[]) (k:=0) (Dn _) AA e.Id;obtain⟨a2,b2,h2⟩:=VR h1 AA 2000 j.room AA;obtain⟨a3,b3,h3⟩:=VR h2 AA 2000 j.sender AA;obtain⟨a4,b4,h4⟩:=TV h3 AA e.Kind;obtain⟨a5,b5,h5⟩:=aR7 h4 AA e.State;obtain⟨a6,b6,h6⟩:=VR h5 AA 2000 j.key AA;obtain⟨a7,b7,h7⟩:=TV h6 AA e.Time;obtain⟨a8,b8,h8⟩:=TV h7 AA e.Depth;obtain⟨a9,b9,h9⟩:=aYr h8 AA (Ed j.prev AA);obtain⟨q,u,z⟩:=aYr h9 AA (Ed j.auth AA);obtain⟨I,J,L⟩:=VR z AA (s:=Qk (lU e.Content)) 700000 (by rw[ag6];exact hc) AA;obtain⟨M,O,U⟩:=TV L AA e.Hash;obtain⟨Y,Z,h13⟩:=VR U AA 2000 j.server AA;obtain⟨a14,b14,h14⟩:=TV h13 AA e.su.Sum;refine⟨?_,?_,Ed h14 AA⟩
 ·unfold qU
  rw[show TT aAx [e.Id]=_ from aCI a1,AP,al1 a2 a3,AP,aCI a4,AP,anN a5,AP,aNb a6,AP,aea a7 a8,AP,ajY a9 q,AP,
   ac,AP,aNb I,AP,aCI M,AP,aNb Y,AP,aCI a14,AP]
  rfl
 unfold aCe;rw[b1,AP,b2,AP,b3,AP,b4,AP,b5,AP,b6,AP,b7,AP,b8,AP,b9,AP,u,AP,bc,AP,J,AP,O,AP,Z,AP,b14,AP];rfl
def jf (l:List Int):Int:=Ai (l.foldl qB ((IntKind.u64.wrap 860922984064492325).tmod 4611686018427387904))
def aae {l:List Int} (hl:l.length≤1000000):tN l=some (jf l):=by
 unfold tN aId;rw[AP];unfold aMS ab2
 rw[aDN _ _ _ _ (.inl rfl),aVs,Hu l AA qB (fun _ _=>True) (fun s=>some (Ai s)) trivial (fun k s i h _=>⟨trivial,by
  simp only[aPT,dec_lt h,BD,BZ h,AP,aDN _ _ _ _ (.inl rfl),aDN _ _ _ _ (.inr (.inr rfl)),adB]⟩) fun k s _=>by
  simp only[aPT,CX,Am]]
 rfl
def aQe {l:List Int} (hl:l.length≤1000000):mV l=some (jf l):=by
 unfold mV;rw[show aPI=some 860922984064492325 from rfl,AP];unfold aHP aS3
 rw[show Vu (IntKind.u64.wrap 860922984064492325) 4611686018427387904=some ((IntKind.u64.wrap 860922984064492325).tmod 4611686018427387904)from rfl,AP,Hu l AA qB (fun _ _=>True) (fun s=>some (Ai s)) trivial (fun k s i h _=>⟨trivial,by
  have e:Vu (IntKind.u64.wrap ((ER .xor .u64 s (IntKind.u64.wrap l[i]))*1099511628211)) 4611686018427387904=some (qB s l[i]):=rfl
  simp only[aJG,dec_lt h,BD,BZ h,AP,e]⟩) fun k s _=>by
  simp only[aJG,CX,Am]]
 rfl
def YV (k:Int) (c:Bf):Bf:=
 if k=1 then c else if k=2 then{ Dq with N:=c.N,Via:=c.Via }else if k=3 then{ Dq with Levels:=c.Levels }else if k=4 then{ Dq with N:=c.N,Allow:=c.Allow }else
 if k=5 then{ Dq with N:=c.N }else if k=6 then{ Dq with Allow:=c.Allow,jd:=c.jd }else if k=14 then{ Dq with Target:=c.Target }else Dq
def aTM {R:Type} (a b:Int) (x y:R):(bif a==b then x else y)=if a=b then x else y:=by
 by_cases h:a=b
 ·subst h;simp
 have :(a==b)=false:=J3
 rw[this,CU h];rfl
def aQH {R:Type} (p:Prop) [Decidable p] (x y:R):(if p then some x else some y)=some (if p then x else y):=by split<;>rfl
def aSS (k:Int) (c:Bf):aDR k c=some (YV k c):=by
 unfold aDR YV;simp only[aTM,aQH]
def texts_eq {l:List ByteArray} (h:l.length≤100):SQ l=some l:=by
 unfold SQ;rw[NT AA aF0];rfl
def aUQ {l:Ba} (q:l.Users.length≤100) (j:l.Kinds.length≤100):dn l=some l:=by
 unfold dn;rw[NT AA aF0,AP,NT AA (by rw[I5];exact Ed j AA)];rfl
def aCw (k:Int):Int:=if k=2 then 18 else if k=3 then 128 else if k=4 then 34 else if k=5 then 2 else if k=6 then 96 else if k=14 then 4 else 0
def adn (k:Int):iT k=some (aCw k):=by
 by_cases q:k=2
 ·subst q;rfl
 by_cases u:k=3
 ·subst u;rfl
 by_cases z:k=4
 ·subst z;rfl
 by_cases I:k=5
 ·subst I;rfl
 by_cases j:k=6
 ·subst j;rfl
 unfold iT kD aCw;simp only[aTM,q,u,z,I,j,Jl,show(k==6)=false from by simpa using j,Am,aQH]
def aRM (k:Int) {c:Bf} (j:QL c):tH k c=some (YV k c):=by
 by_cases u:k=1
 ·subst u;show(SQ c.Allow).bind (fun O=>(SQ c.jd).bind fun U=>(dn c.Levels).bind fun Y=>some ({ { { c with Allow:=O }with jd:=U }with Levels:=Y }))=_;rw[texts_eq j.allow,AP,texts_eq j.deny,AP,aUQ j.users j.kinds];rfl
 unfold tH;rw[show(k==1)=false from by simpa using u,Am,adn,AP];by_cases z:k=2
 ·subst z;rfl
 by_cases I:k=3
 ·subst I;show(dn c.Levels).bind (fun x=>some { Dq with Levels:=x })=_;rw[aUQ j.users j.kinds];rfl
 by_cases J:k=4
 ·subst J;show(SQ c.Allow).bind (fun x=>some { Dq with N:=c.N,Allow:=x })=_;rw[texts_eq j.allow];rfl
 by_cases L:k=5
 ·subst L;rfl
 by_cases M:k=6
 ·subst M;show(SQ c.Allow).bind (fun x=>(SQ c.jd).bind fun y=>some { Dq with Allow:=x,jd:=y })=_;rw[texts_eq j.allow,AP,texts_eq j.deny];rfl
 by_cases q:k=14
 ·subst q;rfl
 have Z:aCw k=0:=by unfold aCw;simp only[z,I,J,L,M,q,Jl]
 have e2:YV k c=Dq:=by unfold YV;simp only[u,z,I,J,L,M,q,Jl]
 rw[Z,e2];rfl
def QL.strip {c:Bf} (h:QL c) (k:Int):QL (YV k c):=by
 have j:(0:Nat)≤2000:=AA
 unfold YV
 repeat' split
 all_goals first|exact h|exact⟨by simp[Dq,L6,h.allow],by simp[Dq,L6,h.deny],by simp[Dq,L6,h.users],by simp[Dq,L6,h.kinds],by first|exact h.text|exact j,by first|exact h.via|exact j,by first|exact h.allows|simp[Dq],by first|exact h.denies|simp[Dq],by first|exact h.names|simp[Dq,L6]⟩
def aPJ (e:AB):AB:={ e with Content:=YV e.Kind e.Content }
def Tn (e:AB):Prop:=EY { e with su:=bZ }
def Tn.content {e:AB} (h:Tn e):QL e.Content:=EY.content (e:={ e with su:=bZ }) h
def EY.x {e:AB} (h:EY e):Tn e:=⟨h.prev,h.auth,h.allow,h.deny,h.users,h.kinds,h.room,h.sender,h.key,h.text,h.via,Ci _,h.allows,h.denies,h.names⟩
def aeo {e:AB} (j:Tn e):aGH e=some (aPJ e)∧aHt e=some (aPJ e):=by
 unfold aGH aHt;rw[aRM _ j.content,aSS];exact⟨rfl,rfl⟩
def Oj (e:AB):Int:=jf (lU e.Content)
def YZ (e:AB):AB:={ { aPJ e with Id:=0 }with su:=bZ }
def dV (e:AB):Int:=jf (eK (YZ e))
def Tn.bare {e:AB} (h:Tn e):EY (YZ e):=by
 have j:=h.content.strip e.Kind;exact⟨h.prev,h.auth,j.allow,j.deny,j.users,j.kinds,h.room,h.sender,h.key,j.text,j.via,by show(0:Nat)≤2000;omega,j.allows,j.denies,j.names⟩
def aK5 {e:AB} (j:Tn e):qO e=some (Oj e)∧wC e=some (Oj e):=by
 obtain⟨a,b,h⟩:=aUW j.content;unfold qO wC;rw[a,b,AP,AP,aae AA,aQe AA];exact⟨rfl,rfl⟩
def aEH {e:AB} (j:Tn e):vW e=some (dV e)∧aCh e=some (dV e):=by
 obtain⟨a,b⟩:=aeo j;obtain⟨c,d,h⟩:=anB j.bare;unfold vW aCh;rw[a,b,AP,AP];show(qU (YZ e)).bind _=_∧(aCe (YZ e)).bind _=_;rw[c,d,AP,AP,aae AA,aQe AA];exact⟨rfl,rfl⟩
def IG (e:AB) (s:ByteArray):AB:={ e with Hash:=Oj e,Id:=dV { e with Hash:=Oj e },su:=⟨s,dV { e with Hash:=Oj e }⟩ }
def EY.hash {e:AB} (h:EY e) (n:Int):EY { e with Hash:=n }:=⟨h.prev,h.auth,h.allow,h.deny,h.users,h.kinds,h.room,h.sender,h.key,h.text,h.via,h.server,h.allows,h.denies,h.names⟩
def aPS {e:AB} (j:EY e) (s:ByteArray):aFC e s=some (IG e s)∧jO e s=some (IG e s):=by
 obtain⟨a,b⟩:=aK5 j.x;obtain⟨c,d⟩:=aEH (j.hash (Oj e)).x;unfold aFC jO IG;rw[a,b,AP,AP];obtain⟨n,q⟩:∃n,n=dV { e with Hash:=Oj e }:=⟨_,rfl⟩
 obtain⟨m,hm⟩:∃m,m=Oj e:=⟨_,rfl⟩
 rw[←q]at c d ⊢;rw[←hm]at c d ⊢;rw[c,d];exact⟨rfl,rfl⟩
def Qx (s:ByteArray):Int:=bif Gn s 64 then 0 else 3
def UR (s:ByteArray):Int:=bif Gn s 33 then 0 else 3
def Xk {s:ByteArray} (hs:s.size≤9223372036854775807):Ze s=some (Qx s)∧dO s=some (Qx s):=by
 unfold Ze uV dO Qx;rw[aO3 hs (marks:=wR) (by rw[show BU wR=[64]from rfl];intro m hm;simp only[EG,EM,ZL]at hm;omega),aDz hs BJ,show((BU wR).any fun m=>Gn s m)=(Gn s 64||false)from rfl];cases Gn s 64<;>exact⟨rfl,rfl⟩
def oQ {s:ByteArray} (hs:s.size≤9223372036854775807):uI s=some (UR s)∧wK s=some (UR s):=by
 unfold uI uV wK UR;rw[aO3 hs (marks:=sV) (by rw[show BU sV=[33]from rfl];intro m hm;simp only[EG,EM,ZL]at hm;omega),aDz hs BJ,show((BU sV).any fun m=>Gn s m)=(Gn s 33||false)from rfl];cases Gn s 33<;>exact⟨rfl,rfl⟩
def afX {l:List Int} (h:Vm l=true):(58:Int)∉l:=by
 intro hm;unfold Vm Qb at h;simp only[CZ,Di]at h;have :=h.2 58 hm;exact absurd this BJ
def af6 (s:ByteArray) (hs:s.size≤2000):(splitB s (JY s)).1.size≤2000∧(58:Int)∉BU (splitB s (JY s)).1∧(splitB s (JY s)).2.1.size≤2000:=by
 have q:BK.size≤2000:=BJ
 cases h:JY s with
 |false=>exact⟨q,by show(58:Int)∉BU BK;decide,q⟩
 |true=>
  have j:Tz s=true:=by
   unfold JY Gn at h;cases j:Tz s with
   |true=>rfl
   |false=>rw[j]at h;simp at h
  refine⟨Ed (extract_size _ _ _) hs,afX ?_,Ed (extract_size _ _ _) hs⟩;unfold Tz at j;simp only[CZ]at j;exact j.1.2
def any_false {α:Type} (l:List α):(l.any fun _=>false)=false:=Aw
def aOo {α:Type} {body:(Int→Option Bool)→Int→Option Bool} (l:List α) (hl:l.length≤1000) (rest:Option Bool) (j:∀k (i:Nat) (h:i<l.length),body k (i:Int)=k (Ai ((i:Int)+1))) (q:∀k,body k (l.length:Int)=rest):bI body Aj 0=rest:=by
 rw[Gi l (aOe AA) (fun _=>false) false rest (fun k i h=>by rw[j k i h];rfl) q,any_false];rfl
def aiy {l:List ByteArray} (h:l.length≤1000):Yq l l=some true:=by
 unfold Yq aHh;rw[show((l.length:Int) != (l.length:Int))=false from by simp,Am];exact aOo l h _ (fun k i h=>by simp only[nC,dec_lt h,BD,BZ h,AP,SY,EW,Am]) (fun k=>by simp only[nC,CX,Am])
structure Jy (c:Bf):Prop where
 allow:c.Allow.length≤9223372036854775807
 deny:c.jd.length≤9223372036854775807
 users:c.Levels.Users.length≤9223372036854775807
 kinds:c.Levels.Kinds.length≤9223372036854775807
 text:c.Text.size≤9223372036854775807
 via:c.Via.size≤9223372036854775807
 allows:∀x∈c.Allow,x.size≤9223372036854775807
 denies:∀x∈c.jd,x.size≤9223372036854775807
 names:∀x∈c.Levels.Users,x.User.size≤9223372036854775807
structure Wy (e:AB):Prop where
 prev:e.aZ.length≤9223372036854775807
 auth:e.bg.length≤9223372036854775807
 room:e.Room.size≤9223372036854775807
 sender:e.aU.size≤9223372036854775807
 key:e.Key.size≤9223372036854775807
 server:e.su.Server.size≤9223372036854775807
 content:Jy e.Content
def QL.wide {c:Bf} (h:QL c):Jy c:=by
 obtain⟨I,J,L,M,O,U,q,u,z⟩:=h;exact⟨AA,AA,AA,AA,AA,AA,fun x j=>by have :=q x j;omega,fun x j=>by have :=u x j;omega,fun x j=>by have :=z x j;omega⟩
def EY.wide {e:AB} (h:EY e):Wy e:=by
 have j:=h.prev;have q:=h.auth;have u:=h.room;have z:=h.sender;have I:=h.key;have J:=h.server;exact⟨AA,AA,AA,AA,AA,AA,h.content.wide⟩
def aBW (k:Int):xJ k=some (decide (k≥1)&&decide (k≤14))∧xX k=some (decide (k≥1)&&decide (k≤14)):=by
 unfold xJ xX;cases decide (k≥1)<;>cases decide (k≤14)<;>exact⟨rfl,rfl⟩
def Rk (n:Int):Bool:=decide (n< -1000)||decide (n>1000)
def aDG (n:Int):fM n=some (Rk n)∧TJ n=some (Rk n):=by
 unfold fM TJ Rk;cases decide (n< -1000)<;>cases decide (n>1000)<;>exact⟨rfl,rfl⟩
def Om (c:Int):Bool:=decide (c<33)||decide (c>126)
def aAV (s:ByteArray):(s.toList==BK.toList)=((s.size:Int)==0):=by
 rw[IB];by_cases h:s=BK
 ·subst h;rfl
 have :¬s.size=0:=fun j=>h (bytes_inj (by
  have q:BU s=[]:=Gh (by rw[I9];exact j)
  rw[q];rfl))
 rw[Gv h];symm;rw[PI];omega
def aAa (s:ByteArray):Int:=if s.size=0 then 9 else if s.size>64 then 7 else bif (BU s).any Om then 3 else 0
def aPd {s:ByteArray} (hs:s.size≤9223372036854775807):sS s=some (aAa s)∧xM s=some (aAa s):=by
 have u:aL5 s 0=some (bif (BU s).any Om then 3 else 0):=by
  unfold aL5;rw[Gi (BU s) Z5 Om 3 (some 0) (fun k i h=>?_) (fun k=>?_),Jw]
  ·have h':i<s.size:=Va
   simp only[aLb,dec_lt h',BD,VE h,AP,Om];cases decide ((BU s)[i]<33)<;>cases decide ((BU s)[i]>126)<;>rfl
  simp only[aLb,I9,CX,Am]
 have z:aOC s 0=some (bif (BU s).any Om then 3 else 0):=by
  unfold aOC;rw[Gi (BU s) Z5 Om 3 (some 0) (fun k i h=>?_) (fun k=>?_),Jw]
  ·have h':i<s.size:=Va
   simp only[aKn,dec_lt h',BD,VE h,AP,Om];cases decide ((BU s)[i]<33)<;>cases decide ((BU s)[i]>126)<;>rfl
  simp only[aKn,I9,CX,Am]
 unfold sS xM aAa;rw[aAV,u,z];by_cases j:s.size=0
 ·simp[j]
 have :((s.size:Int)==0)=false:=by rw[PI];omega
 rw[this,CU j];by_cases q:s.size>64
 ·have :decide ((s.size:Int)>64)=true:=DW
  rw[this,CP q];exact⟨rfl,rfl⟩
 have :decide ((s.size:Int)>64)=false:=DW
 rw[this,CU q];exact⟨rfl,rfl⟩
def xu (s:ByteArray):Bool:=decide ((s.size:Int)≥1)&&decide ((s.size:Int)≤32)&& !(BU s).any Om
def amP {s:ByteArray} (hs:s.size≤9223372036854775807):aBj s=some (xu s):=by
 unfold aBj aTL;rw[Gi (BU s) Z5 Om false (some (decide ((s.size:Int)≥1)&&decide ((s.size:Int)≤32))) (fun k i h=>?_) (fun k=>?_)]
 ·unfold xu;cases(BU s).any Om<;>cases decide ((s.size:Int)≥1)<;>cases decide ((s.size:Int)≤32)<;>rfl
 ·have h':i<s.size:=Va
  simp only[aOj,dec_lt h',BD,VE h,AP,Om];cases decide ((BU s)[i]<33)<;>cases decide ((BU s)[i]>126)<;>rfl
 simp only[aOj,I9,CX,Am];cases decide ((s.size:Int)≥1)<;>cases decide ((s.size:Int)≤32)<;>rfl
def VA (k:Int) (s:ByteArray):Bool:=if k=2 then Qx s==0 else if k=9 then xu s else true
def aYO {k:Int} {s:ByteArray} (hs:s.size≤9223372036854775807):aGf k s=some (VA k s):=by
 have u:aP8 s 0=some (bif (BU s).any Om then false else true):=by
  unfold aP8;rw[Gi (BU s) Z5 Om false (some true) (fun k i h=>?_) (fun k=>?_),Jw]
  ·have h':i<s.size:=Va
   simp only[aQ7,dec_lt h',BD,VE h,AP,Om];cases decide ((BU s)[i]<33)<;>cases decide ((BU s)[i]>126)<;>rfl
  simp only[aQ7,I9,CX,Am]
 unfold aGf VA;rw[(Xk hs).2,u];by_cases j:k=2
 ·subst j;rfl
 rw[show(k==2)=false from by simpa using j,CU j,Am];by_cases q:k=9
 ·subst q;unfold xu;have z:decide ((s.size:Int)≥1)= !decide ((s.size:Int)<1):=aPN
  have I:decide ((s.size:Int)≤32)= !decide ((s.size:Int)>32):=aHR
  rw[z,I];cases decide ((s.size:Int)<1)<;>cases decide ((s.size:Int)>32)<;>cases(BU s).any Om<;>rfl
 rw[show(k != 9)=true from by simpa using q,CU q];rfl
def ahX {e:AB} (j:Wy e):aDr e=some (UR e.Room==0&&Qx e.aU==0&&VA e.Kind e.Key):=by
 have u:=j.room;have z:=j.sender;have I:=j.key;unfold aDr VA;rw[(oQ AA).1,(Xk (s:=e.aU) AA).1,(Xk (s:=e.Key) AA).1,amP AA];simp only[AP,bne];cases UR e.Room==0 with
 |false=>rfl
 |true=>
  cases Qx e.aU==0 with
  |false=>rfl
  |true=>
   by_cases k2:e.Kind=2
   ·rw[k2];rfl
   by_cases q:e.Kind=9
   ·rw[q];rfl
   rw[show(e.Kind==2)=false from by simpa using k2,show(e.Kind==9)=false from by simpa using q,CU k2,CU q];rfl
def CG {R:Type} (x y:Option R):Prop:=∃r,x=some r∧y=some r
section
variable {A R : Type}
def CG.ret (r:R):CG (some r) (some r):=⟨r,rfl,rfl⟩
def CG.bind {a b:Option A} {f g:A→Option R} (h:CG a b) (k:∀x,CG (f x) (g x)):CG (a.bind f) (b.bind g):=by
 obtain⟨x,rfl,rfl⟩:=h;exact k x
def CG.bif {c:Bool} {x y j q:Option R} (u:c=true→CG x j) (z:c=false→CG y q):CG (bif c then x else y) (bif c then j else q):=by
 cases c with
 |true=>exact u rfl
 |false=>exact z rfl
def CG.loop {f g:(Int→Option R)→Int→Option R} (n:Nat) (u:n≤9223372036854775807) (hs:∀k k' (i:Nat),i<n→CG (k ((i+1:Nat):Int)) (k' ((i+1:Nat):Int))→CG (f k (i:Int)) (g k' (i:Int))) (j:∀k k',CG (f k (n:Int)) (g k' (n:Int))):CG (bI f Aj 0) (bI g Aj 0):=by
 have z:Aj=9223372036854775808:=rfl
 have key:∀m (i:Nat),i+m=n→∀a,m<a→CG (bI f a (i:Int)) (bI g a (i:Int)):=by
  intro m
  induction m with
  |zero=>
   intro i hi a ha;obtain⟨a,rfl⟩:∃a',a=a'+1:=⟨a-1,AA⟩
   have :i=n:=AA
   subst this;exact j _ _
  |succ m q=>
   intro i hi a ha;obtain⟨a,rfl⟩:∃a',a=a'+1:=⟨a-1,AA⟩
   exact hs _ _ i AA (q (i+1) AA a AA)
 exact key n 0 AA Aj AA
end
def qJ {i:Nat} (h:i≤9223372036854775806):Ai ((i:Int)+1)=((i+1:Nat):Int):=wrap_succ i AA
def nG {α:Type} {l:List α} {i:Nat} (h:i<l.length) (hl:l.length≤9223372036854775807) (j:decide ((i:Int)>0)=true):Ag l (Ai ((i:Int)-1))=some (l[i-1]' AA):=by
 have j:0<i:=Wi
 rw[MH AA AA,show(i:Int)-1=((i-1:Nat):Int) by omega];exact BZ AA
def aXs {l:List Int} (hl:l.length≤9223372036854775807):CG (qc l) (eX l):=by
 unfold qc aUb eX aIR;refine CG.loop l.length hl (fun k k' i h j=>?_) (fun k k'=>?_)
 ·simp only[aJ1,aE9,je,dec_lt h,BD,BZ h,AP,qJ (show i≤9223372036854775806 by omega)];cases decide (l[i]<0)with
  |true=>exact .ret _
  |false=>
   simp only[Am];cases q:decide ((i:Int)>0)with
   |true=>
    simp only[BD,nG h hl q,AP,ge_iff_le];cases decide (l[i]≤l[i-1])with
    |true=>exact .ret _
    |false=>exact j
   |false=>exact j
 simp only[aJ1,aE9,CX,Am];exact .ret _
def aUg {l:List ByteArray} (hl:l.length≤9223372036854775807) (hs:∀s∈l,s.size≤9223372036854775807):CG (WA l) (U4 l):=by
 unfold WA U4;refine CG.bif (fun _=>.ret _) fun _=>?_;unfold aXN aJx;refine CG.loop l.length hl (fun k k' i h j=>?_) (fun k k'=>?_)
 ·obtain⟨q,u⟩:=aPd (s:=l[i]) (by have :=hs _ (ED h);omega);simp only[aIN,uS,dec_lt h,BD,BZ h,AP,q,u,qJ (show i≤9223372036854775806 by omega)];exact CG.bif (fun _=>.ret _) fun _=>j
 simp only[aIN,uS,CX,Am];exact .ret _
def akg {c:Bf} (j:Jy c):CG (XC 4 c) (jC c):=by
 have hl:=j.allow;unfold XC jC;rw[show((4:Int)==6)=false from rfl,Am];refine CG.bind (CG.bif (fun _=>.ret _) fun _=>.ret _) fun x=>CG.bif (fun _=>.ret _) fun _=>CG.bif (fun _=>.ret _) fun _=>?_;unfold aa5 aSk;refine CG.loop c.Allow.length AA (fun k k' i h q=>?_) (fun k k'=>?_)
 ·obtain⟨u,z⟩:=oQ (s:=c.Allow[i]) (by have :=j.allows _ (ED h);omega);simp only[aN7,Fn2,aBh,dec_lt h,BD,BZ h,AP,u,z,qJ (show i≤9223372036854775806 by omega)];refine CG.bif (fun _=>.ret _) fun _=>?_;cases I:decide ((i:Int)>0)with
  |true=>
   simp only[BD,nG h (show c.Allow.length≤9223372036854775807 by omega) I,AP];exact CG.bif (fun _=>.ret _) fun _=>q
  |false=>exact q
 simp only[aN7,Fn2,CX,Am];exact .ret _
def agP {l:List IX} (hl:l.length≤9223372036854775807) (hs:∀u∈l,u.User.size≤9223372036854775807):CG (zG l) (aV l):=by
 unfold zG aV;refine CG.bif (fun _=>.ret _) fun _=>?_;unfold aaT aNa;refine CG.loop l.length hl (fun k k' i h j=>?_) (fun k k'=>?_)
 ·obtain⟨q,z⟩:=Xk (s:=l[i].User) (by have :=hs _ (ED h);omega);obtain⟨I,J⟩:=aDG l[i].N;simp only[aKJ,oG,aF9,oH,dec_lt h,BD,BZ h,AP,q,z,I,J,qJ (show i≤9223372036854775806 by omega)];refine CG.bif (fun _=>.ret _) fun _=>?_;cases L:decide ((i:Int)>0)with
  |true=>
   simp only[BD,nG h hl L,AP];exact CG.bif (fun _=>.ret _) fun _=>CG.bif (fun _=>.ret _) fun _=>j
  |false=>
   simp only[Am];exact CG.bif (fun _=>.ret _) fun _=>j
 simp only[aKJ,oG,CX,Am];exact .ret _
def apU {l:List Jc} (hl:l.length≤9223372036854775807):CG (aFT l) (aG l):=by
 unfold aFT aG;refine CG.bif (fun _=>.ret _) fun _=>?_;unfold aSr aPa;refine CG.loop l.length hl (fun k k' i h j=>?_) (fun k k'=>?_)
 ·obtain⟨q,u⟩:=aBW l[i].Kind;obtain⟨z,I⟩:=aDG l[i].N;simp only[aLE,aE5,aC1,aO5,dec_lt h,BD,BZ h,AP,q,u,z,I,qJ (show i≤9223372036854775806 by omega)];refine CG.bif (fun _=>.ret _) fun _=>?_;cases J:decide ((i:Int)>0)with
  |true=>
   simp only[BD,nG h hl J,AP];exact CG.bif (fun _=>.ret _) fun _=>CG.bif (fun _=>.ret _) fun _=>j
  |false=>
   simp only[Am];exact CG.bif (fun _=>.ret _) fun _=>j
 simp only[aLE,aE5,CX,Am];exact .ret _
def anQ {l:Ba} (I:l.Users.length≤9223372036854775807) (J:l.Kinds.length≤9223372036854775807) (j:∀u∈l.Users,u.User.size≤9223372036854775807):CG (bW l) (ay l):=by
 have q:aPk l 0=some (bif (JQ l).any Rk then 2 else 0):=by
  unfold aPk;rw[Gi (JQ l) (by have :Aj=9223372036854775808:=rfl;simp[JQ,this]) Rk 2 (some 0) (fun k i h=>?_) (fun k=>rfl),Jw];have L:i<7:=h;have z:Ag ([l.User,l.Message,l.State,l.gJ,l.kP,l.oD,l.iw]:List Int) (i:Int)=some ((JQ l)[i]'(h)):=BZ h;simp only[aQj,show decide ((i:Int)<7)=true from by simp;omega,BD,z,AP,(aDG _).1]
 unfold bW ay;refine CG.bind (agP AA j) fun x=>CG.bif (fun _=>.ret _) fun _=>CG.bind (apU AA) fun y=>CG.bif (fun _=>.ret _) fun _=>?_;rw[q];simp only[(aDG _).2,AP,JQ,aH,List.any_nil];cases Rk l.User<;>cases Rk l.Message<;>cases Rk l.State<;>cases Rk l.gJ<;>cases Rk l.kP<;>cases Rk l.oD<;>cases Rk l.iw<;>exact .ret _
def TL {α:Type} {l:List α} (h:((l.length:Int)==0)=true):l=[]:=Gh aM9
def NJ (l:Ba):Bool:=((l.Users.length:Int)==0)&&((l.Kinds.length:Int)==0)&&(l.User==0)&&(l.Message==0)&&(l.State==0)&&(l.gJ==0)&&(l.kP==0)&&(l.oD==0)&&(l.iw==0)
def bare_eq (l:Ba):aCB l=some (NJ l):=by
 unfold aCB NJ;simp only[Jw,AP,TD]
def aXT (l:Ba):iW l L6=some (NJ l):=by
 unfold iW NJ;show(bif ((l.Users.length:Int) != 0)then some true else some ((l.Kinds.length:Int) != 0)).bind _=_;simp only[bne];cases u:((l.Users.length:Int)==0)with
 |false=>rfl
 |true=>
  cases z:((l.Kinds.length:Int)==0)with
  |false=>rfl
  |true=>
   have j:=TL u;have q:=TL z
   have I:jl l L6 0=some ((l.User==0)&&(l.Message==0)&&(l.State==0)&&(l.gJ==0)&&(l.kP==0)&&(l.oD==0)&&(l.iw==0)):=by
    unfold jl;refine aOo l.Kinds (by rw[q];simp) _ (fun k i h=>by rw[q]at h;simp at h) (fun k=>?_);simp only[aFD,CX,Am,Jw,AP,TD];rfl
   have J:aCp l L6 0=some ((l.User==0)&&(l.Message==0)&&(l.State==0)&&(l.gJ==0)&&(l.kP==0)&&(l.oD==0)&&(l.iw==0)):=by
    unfold aCp;refine aOo l.Users (by rw[j];simp) _ (fun k i h=>by rw[j]at h;simp at h) (fun k=>?_);simp only[aFd,CX,Am];exact I
   simp only[EW,Am,AP,J,GL]
def aj2 (l:Ba):aI5 l=some (NJ l):=by
 unfold aI5;rw[aXT];rfl
def ani (l:List ByteArray):Yq l []=some ((l.length:Int)==0):=by
 cases h:((l.length:Int)==0)with
 |true=>rw[TL h];exact aiy (l:=[]) Aw
 |false=>
  unfold Yq;show(bif ((l.length:Int) != 0)then some false else _)=_;simp only[bne,h,Il,BD]
def fF (a0 j q u z I J L:Bool):Bool:=a0&&j&&q&&u&&z&&I&&J&&L
def aXv (c:Bf):Zh c Dq=some (fF (c.Text.toList==BK.toList) (c.N==0) (c.Target==0) (!c.Thread) (c.Via.toList==BK.toList) ((c.Allow.length:Int)==0) ((c.jd.length:Int)==0) (NJ c.Levels)):=by
 unfold Zh fF;show(bif c.Text.toList==BK.toList then some (c.N==0)else some false).bind _=_;simp only[show Dq.Allow=[]from rfl,show Dq.jd=[]from rfl,show Dq.Levels=L6 from rfl,show Dq.Target=0 from rfl,show Dq.Thread=false from rfl,show Dq.Via=BK from rfl,ani,aXT,Jw,AP,TD];congr 1;cases c.Thread<;>simp
def zo (a0 j q u z I J L:Bool):Int:=
 let v:=bif !a0 then ER .or .i64 0 1 else 0
 let v:=bif !j then ER .or .i64 v 2 else v
 let v:=bif !q then ER .or .i64 v 4 else v
 let v:=bif !u then ER .or .i64 v 8 else v
 let v:=bif !z then ER .or .i64 v 16 else v
 let v:=bif !I then ER .or .i64 v 32 else v
 let v:=bif !J then ER .or .i64 v 64 else v
 bif !L then ER .or .i64 v 128 else v
def pos_eq {α:Type} (l:List α):decide ((l.length:Int)>0)= !((l.length:Int)==0):=by
 cases h:((l.length:Int)==0)with
 |true=>have :=eq_of_beq h;rw[EW,NR];omega
 |false=>have :=ne_of_beq_false h;rw[Il,GN];omega
def abv (c:Bf):qH c=some (zo (c.Text.toList==BK.toList) (c.N==0) (c.Target==0) (!c.Thread) (c.Via.toList==BK.toList) ((c.Allow.length:Int)==0) ((c.jd.length:Int)==0) (NJ c.Levels)):=by
 unfold qH aBU aDj aFO aEa aDk aAz aEh aCP zo;rw[bare_eq,pos_eq,pos_eq];simp only[AP,bne,rO];generalize(c.Text.toList==BK.toList)=j;generalize(c.N==0)=q;generalize(c.Target==0)=u;generalize c.Thread=z;generalize(c.Via.toList==BK.toList)=I;generalize((c.Allow.length:Int)==0)=J;generalize((c.jd.length:Int)==0)=L;generalize NJ c.Levels=M;cases j<;>cases q<;>cases u<;>cases z<;>cases I<;>cases J<;>cases L<;>cases M<;>rfl
def alj :∀a0 j q u z I J L:Bool,(zo a0 j q u z I J L==0)=fF a0 j q u z I J L:=NC
def LC (j q u z I J L M a0 O U Y Z a5 a6 a7:Bool):Bool:=(a0||j)&&(O||q)&&(U||u)&&(Y||z)&&(Z||I)&&(a5||J)&&(a6||L)&&(a7||M)
def aYK {K:Int} {c:Bf} {j q u z I J L M:Bool} (O:Bd K Ju=some j) (U:Bd K KN=some q) (Y:Bd K Ji=some u) (Z:Bd K N9=some z) (h4:Bd K Me=some I) (h5:Bd K Ln=some J) (h6:Bd K MK=some L) (h7:Bd K MQ=some M):jv K c=some (LC j q u z I J L M (c.Text.toList==BK.toList) (c.N==0) (c.Target==0) (!c.Thread) (c.Via.toList==BK.toList) ((c.Allow.length:Int)==0) ((c.jd.length:Int)==0) (NJ c.Levels)):=by
 unfold jv LC;simp only[O,U,Y,Z,h4,h5,h6,h7,aj2,Jw,AP,jW,TD]
def Gy (x r:Option Int):Option Int:=x.bind fun v=>bif v != 0 then some v else r
def EL {x r:Option Int} (h:x=some 0):Gy x r=r:=by rw[h];rfl
def ML {x y r s:Option Int} (h:CG x y) (k:CG r s):CG (Gy x r) (Gy y s):=CG.bind h fun _=>CG.bif (fun _=>.ret _) fun _=>k
def aC6 (x:Option Int):Gy x (some 0)=x:=by
 cases x with
 |none=>rfl
 |some v=>
  show(bif v != 0 then some v else some 0)=some v;by_cases h:v=0
  ·subst h;rfl
  rw[show(v != 0)=true from by simpa using h];rfl
def aA3 {A:Type} (x:Option A):(x.bind fun v=>some v)=x:=by cases x<;>rfl
def Nb (K:Int) (c:Bf):Option Int:=Gy (aX K c) (Gy (O1 K c.N) (Gy (ZF K c) (Gy (dI c) (bif K==4 then jC c else Gy (U4 c.Allow) (Gy (U4 c.jd) (ay c.Levels))))))
def frame {K M kp:Int} {br:Bool} {c:Bf} {q u z I J L O U:Bool} (hU:lD K=some M) (hk:(decide (K≥1)&&decide (K≤14))=true) (Y:iT K=some kp) (hb:aIS K=some br) (h0:Bd K Ju=some q) (h1:Bd K KN=some u) (h2:Bd K Ji=some z) (h3:Bd K N9=some I) (h4:Bd K Me=some J) (h5:Bd K Ln=some L) (h6:Bd K MK=some O) (h7:Bd K MQ=some U)
 (hM:∀a0 a1 a2 a3 a4 a5 a6 a7:Bool,(ER .andNot .i64 (zo a0 a1 a2 a3 a4 a5 a6 a7) M != 0)= !LC q u z I J L O U a0 a1 a2 a3 a4 a5 a6 a7) (Z:(br=true→kp=0)) (hA:kp=0→br=false→LY M K 0 c=some 0)
 (j:LC q u z I J L O U (c.Text.toList==BK.toList) (c.N==0) (c.Target==0) (!c.Thread) (c.Via.toList==BK.toList) ((c.Allow.length:Int)==0) ((c.jd.length:Int)==0) (NJ c.Levels)=true→CG (LY M K 0 c) (Nb K c)):CG (Ky K c) (Je K c):=by
 have ht:Je K c=(xX K).bind fun x1=>(bif (!x1)then some true else(jv K c).bind fun x4=>some (!x4)).bind fun x2=>(bif x2 then some 1 else(aIS K).bind fun x6=>(bif x6 then(Zh c Dq).bind fun x9=>some x9 else some false).bind fun x7=>(bif x7 then some 0 else Nb K c)):=by
  unfold Je Nb Gy;simp only[aA3]
 rw[ht];unfold Ky;obtain⟨k1,k2⟩:=aBW K;rw[hk]at k1 k2;rw[hU,k1,k2,abv,Y,hb,aYK h0 h1 h2 h3 h4 h5 h6 h7,aXv];simp only[AP,EW,Am,hM,alj];cases ho:LC q u z I J L O U (c.Text.toList==BK.toList) (c.N==0) (c.Target==0) (!c.Thread) (c.Via.toList==BK.toList) ((c.Allow.length:Int)==0) ((c.jd.length:Int)==0) (NJ c.Levels)with
 |false=>exact .ret _
 |true=>
  simp only[EW,Am];have j:=j ho;cases ha:fF (c.Text.toList==BK.toList) (c.N==0) (c.Target==0) (!c.Thread) (c.Via.toList==BK.toList) ((c.Allow.length:Int)==0) ((c.jd.length:Int)==0) (NJ c.Levels)with
  |false=>
   simp only[Am,AP];cases br<;>exact j
  |true=>
   simp only[BD,AP];cases hz:kp==0 with
   |false=>
    cases br with
    |false=>exact j
    |true=>rw[Z rfl]at hz;cases hz
   |true=>
    cases br with
    |true=>exact .ret _
    |false=>
     have e:=hA (eq_of_beq hz) rfl;rw[e]at j;exact j
def RS (M b:Int) (x r:Option Int):Option Int:=bif ER .and .i64 M b==0 then r else Gy x r
def Zg {S B R:Type} (body:(S→B→Option R)→S→B→Option R) (n:Nat) (a:S) (b:B):aT body (n+1) a b=body (aT body n) a b:=rfl
def aeU (M K:Int) (c:Bf):LY M K 0 c=RS M 1 (QO K c) (RS M 2 (OJ K c) (RS M 4 (Ro K c) (RS M 8 (ak K c) (RS M 16 (bF K c) (RS M 32 (XC K c)
 (bif ER .and .i64 M 64 != 0 then WA c.jd else bif ER .and .i64 M 128 != 0 then bW c.Levels else some 0)))))):=by
 have j:Aj=9223372036854775801+1+1+1+1+1+1+1:=rfl;have q:∀k,Xa M K k 0 c=RS M 1 (QO K c) (k 1 c):=fun k=>rfl;have u:∀k,Xa M K k 1 c=RS M 2 (OJ K c) (k 2 c):=fun k=>rfl;have z:∀k,Xa M K k 2 c=RS M 4 (Ro K c) (k 3 c):=fun k=>rfl;have I:∀k,Xa M K k 3 c=RS M 8 (ak K c) (k 4 c):=fun k=>rfl;have J:∀k,Xa M K k 4 c=RS M 16 (bF K c) (k 5 c):=fun k=>rfl;have L:∀k,Xa M K k 5 c=RS M 32 (XC K c) (k 6 c):=fun k=>rfl;have O:∀k,Xa M K k 6 c=(bif ER .and .i64 M 64 != 0 then(WA c.jd).bind fun x=>some x else bif ER .and .i64 M 128 != 0 then(bW c.Levels).bind fun x=>some x else some 0):=fun k=>rfl;unfold LY;rw[j,Zg,q,Zg,u,Zg,z,Zg,I,Zg,J,Zg,L,Zg,O,aA3,aA3]
section
variable {c : Bf} {K : Int}
def text0 (h:(c.Text.toList==BK.toList)=true) (j:K≠12):aX K c=some 0:=by
 have q:(c.Text.size:Int)=0:=by rw[aAV]at h;exact eq_of_beq h
 unfold aX;rw[h,q,show(K==12)=false from by simpa using j];cases K==9<;>rfl
def Uc (h:Bd K Ji=some false) (j:(!c.Thread)=true):ZF K c=some 0:=by
 unfold ZF;rw[h,show c.Thread=false from by simpa using j];rfl
def Qm (h:(c.Via.toList==BK.toList)=true):dI c=some 0:=by unfold dI;rw[h];rfl
def JZ {l:List ByteArray} (h:((l.length:Int)==0)=true):U4 l=some 0:=by
 rw[TL h];unfold U4 aJx;show bI (uS []) Aj 0=some 0;rw[Gi ([]:List ByteArray) BJ (fun _=>false) 0 (some 0) (fun k i h=>Ig) (fun k=>rfl)];rfl
def RX {l:Ba} (h:NJ l=true):ay l=some 0:=by
 unfold NJ at h;simp only[CZ]at h;obtain⟨⟨⟨⟨⟨⟨⟨⟨j,q⟩,u⟩,z⟩,I⟩,J⟩,L⟩,M⟩,O⟩:=h
 have U:aV []=some 0:=by
  unfold aV aNa;show bI (oG []) Aj 0=some 0;rw[Gi ([]:List ByteArray) BJ (fun _=>false) 0 (some 0) (fun k i h=>Ig) (fun k=>rfl)];rfl
 have Y:aG []=some 0:=by
  unfold aG aPa;show bI (aE5 []) Aj 0=some 0;rw[Gi ([]:List ByteArray) BJ (fun _=>false) 0 (some 0) (fun k i h=>Ig) (fun k=>rfl)];rfl
 unfold ay;rw[TL j,TL q,U,Y,eq_of_beq u,eq_of_beq z,eq_of_beq I,eq_of_beq J,eq_of_beq L,eq_of_beq M,eq_of_beq O];rfl
def dW (q:Jy c):CG (QO K c) (aX K c):=by
 have J:=q.text;obtain⟨u,z⟩:=aPd (s:=c.Text) AA;unfold QO aFB aX;rw[u,z];have e:=aAV c.Text;by_cases j:K=9
 ·subst j;cases h:(c.Text.toList==BK.toList)with
  |false=>exact .ret _
  |true=>
   have I:(c.Text.size:Int)=0:=by rw[e]at h;exact eq_of_beq h
   rw[I];exact .ret _
 rw[show(K==9)=false from by simpa using j];cases K==12<;>cases(c.Text.toList==BK.toList)<;>cases decide ((c.Text.size:Int)>32)<;>cases decide ((c.Text.size:Int)>400)<;>exact .ret _
def apx (j:Jy c):CG (bF K c) (dI c):=by
 have z:=j.via;obtain⟨q,u⟩:=Xk (s:=c.Via) AA;unfold bF dI;rw[q,u];exact CG.bif (fun _=>.ret _) fun _=>CG.bif (fun _=>.ret _) fun _=>.ret _
def aMk (h:Bd K Ji=some true) (j:(!c.Thread)=true):CG (Ro K c) (ZF K c):=by
 unfold Ro ZF;rw[h,show c.Thread=false from by simpa using j];cases decide (c.Target<0)<;>cases c.Target==0<;>cases K != 11<;>exact .ret _
def aev (h:Bd K Ji=some true):CG (Gy (Ro K c) (ak K c)) (ZF K c):=by
 unfold Ro ak ZF Gy;rw[h];cases decide (c.Target<0)<;>cases c.Target==0<;>cases K != 11<;>cases c.Thread<;>exact .ret _
def abo (j:Jy c):CG (XC 6 c) (U4 c.Allow):=by
 have q:=j.allow;have :=aUg (l:=c.Allow) AA j.allows;show CG ((WA c.Allow).bind fun x=>some x) _;rw[aA3];exact this
end
def vg (a b:Int):decide (a≥b)= !decide (a<b):=by by_cases h:a<b<;>simp[h]<;>omega
def yU (a b:Int):decide (a≤b)= !decide (a>b):=by by_cases h:a>b<;>simp[h]<;>omega
def aeb {c:Bf} (hc:Jy c):CG (Ky 1 c) (Je 1 c):=by
 have u:Bd 1 Ju=some false:=A8
 have z:Bd 1 KN=some false:=A8
 have q:Bd 1 Ji=some false:=A8
 have I:Bd 1 N9=some false:=A8
 have J:Bd 1 Me=some false:=A8
 have L:Bd 1 Ln=some false:=A8
 have O:Bd 1 MK=some false:=A8
 have U:Bd 1 MQ=some false:=A8
 refine frame (M:=0) (kp:=0) (br:=false) rfl rfl rfl rfl u z q I J L O U NC (fun h=>Ie) (fun h h'=>rfl) fun j=>?_;unfold LC at j;simp only[Og,Ku,Na,GL,CZ]at j;obtain⟨⟨⟨⟨⟨⟨⟨Y,e1⟩,e2⟩,Z⟩,e4⟩,e5⟩,e6⟩,e7⟩:=j;have hL:LY 0 1 0 c=(some 0):=PY
 rw[hL];unfold Nb;rw[EL (text0 Y BJ),EL (show O1 1 c.N=some 0 from rfl),EL (Uc q Z),EL (Qm e4),show((1:Int)==4)=false from rfl,Am,EL (JZ e5),EL (JZ e6),RX e7];exact .ret _
def acR (c:Bf):CG (OJ 2 c) (O1 2 c.N):=by
 show CG ((bif decide (c.N<0)then some true else some (decide (c.N>4))).bind fun j=>(bif j then some 2 else some 0)) ((bif decide (c.N≥0)then some (decide (c.N≤4))else some false).bind fun q=>(bif (!q)then some 2 else some 0));rw[vg,yU];cases decide (c.N<0)<;>cases decide (c.N>4)<;>exact .ret _
def adR {c:Bf} (q:Jy c):CG (Ky 2 c) (Je 2 c):=by
 have z:Bd 2 Ju=some true:=A8
 have I:Bd 2 KN=some true:=A8
 have u:Bd 2 Ji=some false:=A8
 have J:Bd 2 N9=some false:=A8
 have L:Bd 2 Me=some true:=A8
 have O:Bd 2 Ln=some false:=A8
 have U:Bd 2 MK=some false:=A8
 have Y:Bd 2 MQ=some false:=A8
 refine frame (M:=19) (kp:=18) (br:=false) rfl rfl rfl rfl z I u J L O U Y NC (fun h=>Ie) (fun h h'=>Ie) fun j=>?_;unfold LC at j;simp only[Og,Ku,Na,GL,CZ]at j;obtain⟨⟨⟨⟨e2,Z⟩,e5⟩,e6⟩,e7⟩:=j;have hL:LY 19 2 0 c=(Gy (QO 2 c) (Gy (OJ 2 c) (Gy (bF 2 c) (some 0)))):=PY
 rw[hL];unfold Nb;rw[EL (Uc u Z),show((2:Int)==4)=false from rfl,Am,EL (JZ e5),EL (JZ e6),RX e7];exact ML (dW q) (ML (acR c) (ML (apx q) (.ret _)))
def anj {c:Bf} (j:Jy c):CG (Ky 3 c) (Je 3 c):=by
 have z:Bd 3 Ju=some false:=A8
 have I:Bd 3 KN=some false:=A8
 have u:Bd 3 Ji=some false:=A8
 have J:Bd 3 N9=some false:=A8
 have L:Bd 3 Me=some false:=A8
 have O:Bd 3 Ln=some false:=A8
 have U:Bd 3 MK=some false:=A8
 have Y:Bd 3 MQ=some true:=A8
 refine frame (M:=128) (kp:=128) (br:=false) rfl rfl rfl rfl z I u J L O U Y NC (fun h=>Ie) (fun h h'=>Ie) fun q=>?_;unfold LC at q;simp only[Og,Ku,Na,GL,CZ]at q;obtain⟨⟨⟨⟨⟨⟨Z,e1⟩,e2⟩,e3⟩,e4⟩,e5⟩,e6⟩:=q;have hL:LY 128 3 0 c=(bW c.Levels):=PY
 rw[hL];unfold Nb;rw[EL (text0 Z BJ),EL (show O1 3 c.N=some 0 from rfl),EL (Uc u e3),EL (Qm e4),show((3:Int)==4)=false from rfl,Am,EL (JZ e5),EL (JZ e6)];exact anQ j.users j.kinds j.names
def ac6 (c:Bf):CG (OJ 4 c) (O1 4 c.N):=by
 show CG ((bif decide (c.N<0)then some true else some (decide (c.N>3))).bind fun j=>(bif j then some 2 else some 0)) ((bif decide (c.N≥0)then some (decide (c.N≤3))else some false).bind fun q=>(bif (!q)then some 2 else some 0));rw[vg,yU];cases decide (c.N<0)<;>cases decide (c.N>3)<;>exact .ret _
def ak6 {c:Bf} (u:Jy c):CG (Ky 4 c) (Je 4 c):=by
 have z:Bd 4 Ju=some false:=A8
 have I:Bd 4 KN=some true:=A8
 have q:Bd 4 Ji=some false:=A8
 have J:Bd 4 N9=some false:=A8
 have L:Bd 4 Me=some false:=A8
 have O:Bd 4 Ln=some true:=A8
 have U:Bd 4 MK=some false:=A8
 have Y:Bd 4 MQ=some false:=A8
 refine frame (M:=34) (kp:=34) (br:=false) rfl rfl rfl rfl z I q J L O U Y NC (fun h=>Ie) (fun h h'=>Ie) fun j=>?_;unfold LC at j;simp only[Og,Ku,Na,GL,CZ]at j;obtain⟨⟨⟨⟨⟨Z,e2⟩,e3⟩,e4⟩,e6⟩,e7⟩:=j;have hL:LY 34 4 0 c=(Gy (OJ 4 c) (Gy (XC 4 c) (some 0))):=PY
 rw[hL];unfold Nb;rw[EL (text0 Z BJ),EL (Uc q e3),EL (Qm e4),show((4:Int)==4)=true from rfl,BD];rw[aC6];exact ML (ac6 c) (akg u)
def apZ (c:Bf):CG (OJ 5 c) (O1 5 c.N):=by
 show CG ((bif decide (c.N<0)then some true else some (decide (c.N>3))).bind fun j=>(bif j then some 2 else some 0)) ((bif decide (c.N≥0)then some (decide (c.N≤3))else some false).bind fun q=>(bif (!q)then some 2 else some 0));rw[vg,yU];cases decide (c.N<0)<;>cases decide (c.N>3)<;>exact .ret _
def akP {c:Bf} (hc:Jy c):CG (Ky 5 c) (Je 5 c):=by
 have u:Bd 5 Ju=some false:=A8
 have z:Bd 5 KN=some true:=A8
 have q:Bd 5 Ji=some false:=A8
 have I:Bd 5 N9=some false:=A8
 have J:Bd 5 Me=some false:=A8
 have L:Bd 5 Ln=some false:=A8
 have O:Bd 5 MK=some false:=A8
 have U:Bd 5 MQ=some false:=A8
 refine frame (M:=2) (kp:=2) (br:=false) rfl rfl rfl rfl u z q I J L O U NC (fun h=>Ie) (fun h h'=>Ie) fun j=>?_;unfold LC at j;simp only[Og,Ku,Na,GL,CZ]at j;obtain⟨⟨⟨⟨⟨⟨Y,e2⟩,Z⟩,e4⟩,e5⟩,e6⟩,e7⟩:=j;have hL:LY 2 5 0 c=(Gy (OJ 5 c) (some 0)):=PY
 rw[hL];unfold Nb;rw[EL (text0 Y BJ),EL (Uc q Z),EL (Qm e4),show((5:Int)==4)=false from rfl,Am,EL (JZ e5),EL (JZ e6),RX e7];exact ML (apZ c) (.ret _)
def acP {c:Bf} (j:Jy c):CG (Ky 6 c) (Je 6 c):=by
 have I:Bd 6 Ju=some false:=A8
 have u:Bd 6 KN=some false:=A8
 have z:Bd 6 Ji=some false:=A8
 have J:Bd 6 N9=some false:=A8
 have L:Bd 6 Me=some false:=A8
 have O:Bd 6 Ln=some true:=A8
 have U:Bd 6 MK=some true:=A8
 have Y:Bd 6 MQ=some false:=A8
 refine frame (M:=96) (kp:=96) (br:=false) rfl rfl rfl rfl I u z J L O U Y NC (fun h=>Ie) (fun h h'=>Ie) fun q=>?_;unfold LC at q;simp only[Og,Ku,Na,GL,CZ]at q;obtain⟨⟨⟨⟨⟨Z,e1⟩,e2⟩,e3⟩,e4⟩,e7⟩:=q;have hL:LY 96 6 0 c=(Gy (XC 6 c) (WA c.jd)):=PY
 rw[hL];unfold Nb;rw[EL (text0 Z BJ),EL (show O1 6 c.N=some 0 from rfl),EL (Uc z e3),EL (Qm e4),show((6:Int)==4)=false from rfl,Am,RX e7];have u:=j.deny;rw[aC6];exact ML (abo j) (aUg AA j.denies)
def ahK {c:Bf} (u:Jy c):CG (Ky 7 c) (Je 7 c):=by
 have z:Bd 7 Ju=some true:=A8
 have I:Bd 7 KN=some false:=A8
 have q:Bd 7 Ji=some false:=A8
 have J:Bd 7 N9=some false:=A8
 have L:Bd 7 Me=some false:=A8
 have O:Bd 7 Ln=some false:=A8
 have U:Bd 7 MK=some false:=A8
 have Y:Bd 7 MQ=some false:=A8
 refine frame (M:=1) (kp:=0) (br:=true) rfl rfl rfl rfl z I q J L O U Y NC (fun h=>rfl) (fun h h'=>dM) fun j=>?_;unfold LC at j;simp only[Og,Ku,Na,GL,CZ]at j;obtain⟨⟨⟨⟨⟨⟨e1,e2⟩,Z⟩,e4⟩,e5⟩,e6⟩,e7⟩:=j;have hL:LY 1 7 0 c=(Gy (QO 7 c) (some 0)):=PY
 rw[hL];unfold Nb;rw[EL (show O1 7 c.N=some 0 from rfl),EL (Uc q Z),EL (Qm e4),show((7:Int)==4)=false from rfl,Am,EL (JZ e5),EL (JZ e6),RX e7];exact ML (dW u) (.ret _)
def alr (c:Bf):CG (OJ 8 c) (O1 8 c.N):=by
 show CG ((bif decide (c.N<0)then some true else some (decide (c.N>1000000000))).bind fun j=>(bif j then some 2 else some 0)) ((bif decide (c.N≥0)then some (decide (c.N≤1000000000))else some false).bind fun q=>(bif (!q)then some 2 else some 0));rw[vg,yU];cases decide (c.N<0)<;>cases decide (c.N>1000000000)<;>exact .ret _
def agu {c:Bf} (hc:Jy c):CG (Ky 8 c) (Je 8 c):=by
 have u:Bd 8 Ju=some false:=A8
 have z:Bd 8 KN=some true:=A8
 have q:Bd 8 Ji=some false:=A8
 have I:Bd 8 N9=some false:=A8
 have J:Bd 8 Me=some false:=A8
 have L:Bd 8 Ln=some false:=A8
 have O:Bd 8 MK=some false:=A8
 have U:Bd 8 MQ=some false:=A8
 refine frame (M:=2) (kp:=0) (br:=true) rfl rfl rfl rfl u z q I J L O U NC (fun h=>rfl) (fun h h'=>dM) fun j=>?_;unfold LC at j;simp only[Og,Ku,Na,GL,CZ]at j;obtain⟨⟨⟨⟨⟨⟨Y,e2⟩,Z⟩,e4⟩,e5⟩,e6⟩,e7⟩:=j;have hL:LY 2 8 0 c=(Gy (OJ 8 c) (some 0)):=PY
 rw[hL];unfold Nb;rw[EL (text0 Y BJ),EL (Uc q Z),EL (Qm e4),show((8:Int)==4)=false from rfl,Am,EL (JZ e5),EL (JZ e6),RX e7];exact ML (alr c) (.ret _)
def adg (c:Bf):CG (OJ 9 c) (O1 9 c.N):=by
 show CG ((bif (c.N==1)then some true else some (c.N==2)).bind fun j=>(bif j then some true else some (c.N==6)).bind fun q=>(bif q then some 0 else some 2)) ((bif (c.N==1)then some true else some (c.N==2)).bind fun u=>(bif u then some true else some (c.N==6)).bind fun z=>(bif (!z)then some 2 else some 0));cases c.N==1<;>cases c.N==2<;>cases c.N==6<;>exact .ret _
def agn {c:Bf} (u:Jy c):CG (Ky 9 c) (Je 9 c):=by
 have z:Bd 9 Ju=some true:=A8
 have I:Bd 9 KN=some true:=A8
 have q:Bd 9 Ji=some false:=A8
 have J:Bd 9 N9=some false:=A8
 have L:Bd 9 Me=some false:=A8
 have O:Bd 9 Ln=some false:=A8
 have U:Bd 9 MK=some false:=A8
 have Y:Bd 9 MQ=some false:=A8
 refine frame (M:=3) (kp:=0) (br:=true) rfl rfl rfl rfl z I q J L O U Y NC (fun h=>rfl) (fun h h'=>dM) fun j=>?_;unfold LC at j;simp only[Og,Ku,Na,GL,CZ]at j;obtain⟨⟨⟨⟨⟨e2,Z⟩,e4⟩,e5⟩,e6⟩,e7⟩:=j;have hL:LY 3 9 0 c=(Gy (QO 9 c) (Gy (OJ 9 c) (some 0))):=PY
 rw[hL];unfold Nb;rw[EL (Uc q Z),EL (Qm e4),show((9:Int)==4)=false from rfl,Am,EL (JZ e5),EL (JZ e6),RX e7];exact ML (dW u) (ML (adg c) (.ret _))
def ac9 (c:Bf):CG (OJ 10 c) (O1 10 c.N):=by
 show CG ((bif decide (c.N<1)then some true else some (decide (c.N>10000))).bind fun j=>(bif j then some 2 else some 0)) ((bif decide (c.N≥1)then some (decide (c.N≤10000))else some false).bind fun q=>(bif (!q)then some 2 else some 0));rw[vg,yU];cases decide (c.N<1)<;>cases decide (c.N>10000)<;>exact .ret _
def anL {c:Bf} (hc:Jy c):CG (Ky 10 c) (Je 10 c):=by
 have u:Bd 10 Ju=some false:=A8
 have z:Bd 10 KN=some true:=A8
 have q:Bd 10 Ji=some false:=A8
 have I:Bd 10 N9=some false:=A8
 have J:Bd 10 Me=some false:=A8
 have L:Bd 10 Ln=some false:=A8
 have O:Bd 10 MK=some false:=A8
 have U:Bd 10 MQ=some false:=A8
 refine frame (M:=2) (kp:=0) (br:=true) rfl rfl rfl rfl u z q I J L O U NC (fun h=>rfl) (fun h h'=>dM) fun j=>?_;unfold LC at j;simp only[Og,Ku,Na,GL,CZ]at j;obtain⟨⟨⟨⟨⟨⟨Y,e2⟩,Z⟩,e4⟩,e5⟩,e6⟩,e7⟩:=j;have hL:LY 2 10 0 c=(Gy (OJ 10 c) (some 0)):=PY
 rw[hL];unfold Nb;rw[EL (text0 Y BJ),EL (Uc q Z),EL (Qm e4),show((10:Int)==4)=false from rfl,Am,EL (JZ e5),EL (JZ e6),RX e7];exact ML (ac9 c) (.ret _)
def alh {c:Bf} (u:Jy c):CG (Ky 11 c) (Je 11 c):=by
 have z:Bd 11 Ju=some true:=A8
 have I:Bd 11 KN=some false:=A8
 have q:Bd 11 Ji=some true:=A8
 have J:Bd 11 N9=some true:=A8
 have L:Bd 11 Me=some false:=A8
 have O:Bd 11 Ln=some false:=A8
 have U:Bd 11 MK=some false:=A8
 have Y:Bd 11 MQ=some false:=A8
 refine frame (M:=13) (kp:=0) (br:=true) rfl rfl rfl rfl z I q J L O U Y NC (fun h=>rfl) (fun h h'=>dM) fun j=>?_;unfold LC at j;simp only[Og,Ku,Na,GL,CZ]at j;obtain⟨⟨⟨⟨e1,Z⟩,e5⟩,e6⟩,e7⟩:=j;have hL:LY 13 11 0 c=(Gy (QO 11 c) (Gy (Ro 11 c) (Gy (ak 11 c) (some 0)))):=PY
 rw[hL];unfold Nb;rw[EL (show O1 11 c.N=some 0 from rfl),EL (Qm Z),show((11:Int)==4)=false from rfl,Am,EL (JZ e5),EL (JZ e6),RX e7];rw[aC6,aC6];exact ML (dW u) (aev q)
def ah8 {c:Bf} (u:Jy c):CG (Ky 12 c) (Je 12 c):=by
 have z:Bd 12 Ju=some true:=A8
 have I:Bd 12 KN=some false:=A8
 have q:Bd 12 Ji=some true:=A8
 have J:Bd 12 N9=some false:=A8
 have L:Bd 12 Me=some false:=A8
 have O:Bd 12 Ln=some false:=A8
 have U:Bd 12 MK=some false:=A8
 have Y:Bd 12 MQ=some false:=A8
 refine frame (M:=5) (kp:=0) (br:=true) rfl rfl rfl rfl z I q J L O U Y NC (fun h=>rfl) (fun h h'=>dM) fun j=>?_;unfold LC at j;simp only[Og,Ku,Na,GL,CZ]at j;obtain⟨⟨⟨⟨⟨e1,Z⟩,e4⟩,e5⟩,e6⟩,e7⟩:=j;have hL:LY 5 12 0 c=(Gy (QO 12 c) (Gy (Ro 12 c) (some 0))):=PY
 rw[hL];unfold Nb;rw[EL (show O1 12 c.N=some 0 from rfl),EL (Qm e4),show((12:Int)==4)=false from rfl,Am,EL (JZ e5),EL (JZ e6),RX e7];exact ML (dW u) (ML (aMk q Z) (.ret _))
def apH {c:Bf} (u:Jy c):CG (Ky 13 c) (Je 13 c):=by
 have z:Bd 13 Ju=some true:=A8
 have I:Bd 13 KN=some false:=A8
 have q:Bd 13 Ji=some true:=A8
 have J:Bd 13 N9=some false:=A8
 have L:Bd 13 Me=some false:=A8
 have O:Bd 13 Ln=some false:=A8
 have U:Bd 13 MK=some false:=A8
 have Y:Bd 13 MQ=some false:=A8
 refine frame (M:=5) (kp:=0) (br:=true) rfl rfl rfl rfl z I q J L O U Y NC (fun h=>rfl) (fun h h'=>dM) fun j=>?_;unfold LC at j;simp only[Og,Ku,Na,GL,CZ]at j;obtain⟨⟨⟨⟨⟨e1,Z⟩,e4⟩,e5⟩,e6⟩,e7⟩:=j;have hL:LY 5 13 0 c=(Gy (QO 13 c) (Gy (Ro 13 c) (some 0))):=PY
 rw[hL];unfold Nb;rw[EL (show O1 13 c.N=some 0 from rfl),EL (Qm e4),show((13:Int)==4)=false from rfl,Am,EL (JZ e5),EL (JZ e6),RX e7];exact ML (dW u) (ML (aMk q Z) (.ret _))
def ap6 {c:Bf} (u:Jy c):CG (Ky 14 c) (Je 14 c):=by
 have z:Bd 14 Ju=some true:=A8
 have I:Bd 14 KN=some false:=A8
 have q:Bd 14 Ji=some true:=A8
 have J:Bd 14 N9=some false:=A8
 have L:Bd 14 Me=some false:=A8
 have O:Bd 14 Ln=some false:=A8
 have U:Bd 14 MK=some false:=A8
 have Y:Bd 14 MQ=some false:=A8
 refine frame (M:=5) (kp:=4) (br:=false) rfl rfl rfl rfl z I q J L O U Y NC (fun h=>Ie) (fun h h'=>Ie) fun j=>?_;unfold LC at j;simp only[Og,Ku,Na,GL,CZ]at j;obtain⟨⟨⟨⟨⟨e1,Z⟩,e4⟩,e5⟩,e6⟩,e7⟩:=j;have hL:LY 5 14 0 c=(Gy (QO 14 c) (Gy (Ro 14 c) (some 0))):=PY
 rw[hL];unfold Nb;rw[EL (show O1 14 c.N=some 0 from rfl),EL (Qm e4),show((14:Int)==4)=false from rfl,Am,EL (JZ e5),EL (JZ e6),RX e7];exact ML (dW u) (ML (aMk q Z) (.ret _))
def acr (k:Int) {c:Bf} (j:Jy c):CG (Ky k c) (Je k c):=by
 cases q:decide (k≥1)&&decide (k≤14)with
 |false=>
  obtain⟨u,k2⟩:=aBW k;rw[q]at u k2
  have f:∀n:Int,1≤n→n≤14→(k==n)=false:=fun n z I=>by
   rw[PI];rintro rfl;rw[Gu (show k≥1 from z),Gu I]at q;cases q
  have hm:lD k=some 0:=by
   unfold lD mY vM;rw[f 2 BJ BJ,f 3 BJ BJ,f 4 BJ BJ,f 5 BJ BJ,f 8 BJ BJ,f 10 BJ BJ,f 6 BJ BJ,f 7 BJ BJ,f 9 BJ BJ,f 11 BJ BJ,f 12 BJ BJ,f 13 BJ BJ,f 14 BJ BJ];rfl
  unfold Ky Je;rw[hm,u,k2];exact .ret _
 |true=>
  simp only[CZ,GN]at q;have :k=1∨k=2∨k=3∨k=4∨k=5∨k=6∨k=7∨k=8∨k=9∨k=10∨k=11∨k=12∨k=13∨k=14:=AA
  rcases this with rfl|rfl|rfl|rfl|rfl|rfl|rfl|rfl|rfl|rfl|rfl|rfl|rfl|rfl
  ·exact aeb j
  ·exact adR j
  ·exact anj j
  ·exact ak6 j
  ·exact akP j
  ·exact acP j
  ·exact ahK j
  ·exact agu j
  ·exact agn j
  ·exact anL j
  ·exact alh j
  ·exact ah8 j
  ·exact apH j
  exact ap6 j
def OX {α:Type} (p:α→α→Bool) (a b:List α):Bool:=((a.length:Int)==(b.length:Int))&& !((a.zip b).any fun x=> !p x.1 x.2)
def kU {α R:Type} {body:(Int→Option R)→Int→Option R} (p:α→α→Bool) (a b:List α) (ha:a.length≤1000) (j:a.length=b.length) (bad:R) (rest:Option R)
 (q:∀k (i:Nat) (h:i<a.length) (h':i<b.length),body k (i:Int)=bif !p a[i] b[i]then some bad else k (Ai ((i:Int)+1))) (u:∀k,body k (a.length:Int)=rest):bI body Aj 0=bif (a.zip b).any fun x=> !p x.1 x.2 then some bad else rest:=by
 have hl:(a.zip b).length=a.length:=DW
 refine Gi (a.zip b) (by rw[hl];exact aOe AA) (fun x=> !p x.1 x.2) bad rest (fun k i h=>?_) (fun k=>by rw[hl];exact u k);have z:i<a.length:=AA
 have I:i<b.length:=AA
 rw[q k i z I,aP5]
def len_eq {α:Type} {a b:List α} (h:((a.length:Int)==(b.length:Int))=true):a.length=b.length:=aM9
def Ve (x y:ByteArray):Bool:=x.toList==y.toList
def VI (x y:IX):Bool:=x.User.toList==y.User.toList&&x.N==y.N
def Ux (x y:Jc):Bool:=x.Kind==y.Kind&&x.N==y.N
def aCg {a b:List ByteArray} (ha:a.length≤1000):oU a b=some (OX Ve a b)∧Yq a b=some (OX Ve a b):=by
 unfold oU Yq OX;simp only[bne];cases h:((a.length:Int)==(b.length:Int))with
 |false=>exact⟨rfl,rfl⟩
 |true=>
  have j:=len_eq h;simp only[EW,Am,GL];unfold aaX aHh
  rw[kU Ve a b ha j false (some true) (fun k i h h'=>by simp only[aOy,dec_lt h,BD,BZ h,BZ h',AP];rfl) (fun k=>by simp only[aOy,CX,Am]),
   kU Ve a b ha j false (some true) (fun k i h h'=>by simp only[nC,dec_lt h,BD,BZ h,BZ h',AP];rfl) (fun k=>by simp only[nC,CX,Am])]
  cases(a.zip b).any fun x=> !Ve x.1 x.2<;>exact⟨rfl,rfl⟩
def ady {a b:List IX} (ha:a.length≤1000):aGM a b=some (OX VI a b):=by
 unfold aGM OX;simp only[bne];cases h:((a.length:Int)==(b.length:Int))with
 |false=>rfl
 |true=>
  have j:=len_eq h;simp only[EW,Am,GL];unfold aUL;rw[kU VI a b ha j false (some true) (fun k i h h'=>by simp only[aHl,dec_lt h,BD,BZ h,BZ h',AP,aAO,VI,Na]) (fun k=>by simp only[aHl,CX,Am])];cases(a.zip b).any fun x=> !VI x.1 x.2<;>rfl
def alS {a b:List Jc} (ha:a.length≤1000):Sub a b=some (OX Ux a b):=by
 unfold Sub OX;simp only[bne];cases h:((a.length:Int)==(b.length:Int))with
 |false=>rfl
 |true=>
  have j:=len_eq h;simp only[EW,Am,GL];unfold aTU;rw[kU Ux a b ha j false (some true) (fun k i h h'=>by simp only[aK1,dec_lt h,BD,BZ h,BZ h',AP,aDe,Ux,Na]) (fun k=>by simp only[aK1,CX,Am])];cases(a.zip b).any fun x=> !Ux x.1 x.2<;>rfl
def aCz (a b:Ba):Bool:=(a.User==b.User)&&(a.Message==b.Message)&&(a.State==b.State)&&(a.gJ==b.gJ)&&(a.kP==b.kP)&&(a.oD==b.oD)&&(a.iw==b.iw)
def aBi (a b:Ba):Bool:=OX VI a.Users b.Users&&(OX Ux a.Kinds b.Kinds&&aCz a b)
def aen {a b:Ba} (j:a.Users.length≤1000) (q:a.Kinds.length≤1000):iW a b=some (aBi a b):=by
 unfold iW aBi OX;simp only[bne];cases u:((a.Users.length:Int)==(b.Users.length:Int))with
 |false=>rfl
 |true=>
  cases z:((a.Kinds.length:Int)==(b.Kinds.length:Int))with
  |false=>simp
  |true=>
   have I:=len_eq u;have ek:=len_eq z
   have J:jl a b 0=bif (a.Kinds.zip b.Kinds).any fun x=> !Ux x.1 x.2 then some false else some (aCz a b):=by
    unfold jl;refine kU Ux a.Kinds b.Kinds q ek false (some (aCz a b)) (fun k i h h'=>?_) (fun k=>?_)
    ·simp only[aFD,dec_lt h,BD,BZ h,BZ h',AP,aOG,Ux,bne];cases a.Kinds[i].Kind==b.Kinds[i].Kind<;>cases a.Kinds[i].N==b.Kinds[i].N<;>rfl
    simp only[aFD,CX,Am,Jw,AP,TD];rfl
   simp only[EW,Am,AP,GL];unfold aCp
   rw[kU VI a.Users b.Users j I false (jl a b 0) (fun k i h h'=>by
    simp only[aFd,dec_lt h,BD,BZ h,BZ h',AP,aLv,VI,bne]
    cases a.Users[i].User.toList==b.Users[i].User.toList<;>cases a.Users[i].N==b.Users[i].N<;>rfl) (fun k=>by simp only[aFd,CX,Am]),J]
   cases(a.Users.zip b.Users).any fun x=> !VI x.1 x.2<;>cases(a.Kinds.zip b.Kinds).any fun x=> !Ux x.1 x.2<;>rfl
def aCb (a b:Bf):Bool:=(a.Text.toList==b.Text.toList)&&(a.N==b.N)&&(a.Target==b.Target)&&(a.Thread==b.Thread)&&(a.Via.toList==b.Via.toList)&&OX Ve a.Allow b.Allow&&OX Ve a.jd b.jd&&aBi a.Levels b.Levels
def aoa {a:Bf} (b:Bf) (ha:QL a):Zh a b=some (aCb a b):=by
 have j:=ha.allow;have q:=ha.deny;have u:=ha.users;have z:=ha.kinds;unfold Zh aCb;rw[(aCg (a:=a.Allow) AA).2,(aCg (a:=a.jd) AA).2,aen (a:=a.Levels) AA AA];simp only[Jw,AP,TD]
def aor {a:Bf} (b:Bf) (ha:QL a):aEg a b=some (aCb a b):=by
 have M:=ha.allow;have O:=ha.deny;have U:=ha.users;have Y:=ha.kinds;unfold aEg aCb aBi aCz;rw[(aCg (a:=a.Allow) AA).1,(aCg (a:=a.jd) AA).1,ady (a:=a.Levels.Users) AA,alS (a:=a.Levels.Kinds) AA];simp only[Jw,AP,TD,jW,bne];generalize(a.Text.toList==b.Text.toList)=j;generalize(a.N==b.N)=q;generalize(a.Target==b.Target)=u;generalize(a.Thread==b.Thread)=z;generalize(a.Via.toList==b.Via.toList)=I;generalize OX Ve a.Allow b.Allow=J;generalize OX Ve a.jd b.jd=L;generalize OX VI a.Levels.Users b.Levels.Users=Z;generalize OX Ux a.Levels.Kinds b.Levels.Kinds=x9;cases j<;>cases q<;>cases u<;>cases z<;>cases I<;>cases J<;>cases L<;>first|rfl|(simp only[EW,Bool.or_self,Am,GL,Bool.and_self,Bool.and_assoc])
def aes {e:AB} (j:Wy e) (v:Bool):CG (XT e v) ((U1 e v).bind fun u=>(bif (u != 0)then some u else(Je e.Kind e.Content).bind fun J=>some J)):=by
 have h1:=j.room;have h2:=j.sender;have h3:=j.key;have h4:=j.prev;have h5:=j.auth;unfold XT U1;rw[ahX j,(oQ (s:=e.Room) AA).2,(Xk (s:=e.aU) AA).2,aYO AA];cases v with
 |true=>exact .ret _
 |false=>
  simp only[Am,AP,bne,Jw,jW];generalize(UR e.Room==0)=a;generalize(Qx e.aU==0)=b;generalize VA e.Kind e.Key=L;cases a with
  |false=>exact .ret _
  |true=>
   cases b with
   |false=>exact .ret _
   |true=>
    cases L with
    |false=>exact .ret _
    |true=>
     simp only[EW,Bool.or_self,Bool.and_self,Am,aEJ];refine CG.bif (fun _=>.ret _) fun _=>CG.bif (fun _=>.ret _) fun hlen=>?_;simp only[VL,NR]at hlen;obtain⟨M,O,U⟩:=aXs (l:=e.aZ) AA;obtain⟨Y,Z,q2⟩:=aXs (l:=e.bg) AA;rw[O,Z,U,q2];simp only[AP,Jw,jW,aEJ];cases M with
     |false=>exact .ret _
     |true=>
     cases Y with
     |false=>exact .ret _
     |true=>
     simp only[EW,Am]
     have hs:decide ((Ai ((e.aZ.length:Int)+(e.bg.length:Int)))>0)=(decide ((e.aZ.length:Int)>0)||decide ((e.bg.length:Int)>0)):=by
      rw[MH AA AA];by_cases z:(e.aZ.length:Int)>0
      ·rw[Gu z,Gu AA];rfl
      by_cases I:(e.bg.length:Int)>0
      ·rw[Gu I,Gu AA,Og]
      rw[Gv z,Gv I,Gv AA];rfl
     rw[hs];generalize(bif ((e.aZ.length:Int)==0)then !e.Kind==1 else false)=p;generalize(bif (e.Kind==1)then(decide ((e.aZ.length:Int)>0)||decide ((e.bg.length:Int)>0))else false)=q;cases p with
     |true=>exact .ret _
     |false=>
      cases q with
      |true=>exact .ret _
      |false=>exact CG.bind (acr e.Kind j.content) fun x=>.ret _
def aPy {e:AB} (q:Wy e):CG (St e) (N7 e):=by
 have j:=aes q;unfold St N7 aKS;rw[show Z4 e.Kind=TF e.Kind from rfl];simp only[aEJ,bne,Jw,AP];refine CG.bif (fun _=>j _) fun _=>CG.bif (fun _=>j _) fun _=>?_;have hs:∃b,TF e.Kind=some b:=by unfold TF;cases decide (e.Kind≥1)<;>cases decide (e.Kind≤10)<;>exact⟨_,rfl⟩
 obtain⟨b,u⟩:=hs;rw[u];simp only[AP,aEJ];refine CG.bif (fun _=>j _) fun _=>CG.bif (fun _=>?_) fun _=>j _;cases e.Kind==2 with
 |true=>exact j _
 |false=>exact j _
def aIl {e:AB} (j:Tn e):Uz e=some (Oj e==e.Hash)∧kT e=some (Oj e==e.Hash):=by
 unfold Uz kT;rw[(aK5 j).1,(aK5 j).2];exact⟨rfl,rfl⟩
def afJ {e:AB} (j:Tn e) (v:Bool):CG (Zy e v) (l9 e v):=by
 have J:e.aU.size≤2000:=j.sender;unfold Zy l9;obtain⟨q,u⟩:=aEH j;obtain⟨z,I⟩:=Ri (s:=e.aU) AA;rw[q,u,z,I];refine CG.bif (fun _=>.ret _) fun _=>?_;simp only[AP];refine CG.bif (fun _=>.ret _) fun _=>?_;unfold aAe aF7;show CG (bif !((e.su.Server.toList==(splitB e.aU (JY e.aU)).2.1.toList)&&((e.su.Sum==e.Id)&&true))then some 12 else some 0) _;simp only[bne];cases(e.su.Server.toList==(splitB e.aU (JY e.aU)).2.1.toList)<;>cases(e.su.Sum==e.Id)<;>exact .ret _
end Go.Proofs.YtkkdimcnpacjhaaGreat
end
