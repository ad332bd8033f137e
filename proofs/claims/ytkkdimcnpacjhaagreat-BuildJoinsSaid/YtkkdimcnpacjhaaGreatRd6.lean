/- Part 6 of what the laws' proofs lean on: states of the walk, typed functions of the program and their laws (short forms written by wip/shrink.py; no condition). -/
import Derived.Test.YtkkdimcnpacjhaaGreatRd5
set_option linter.defProp false
set_option linter.unnecessarySimpa false
set_option linter.unusedVariables false
set_option linter.unusedSimpArgs false
section
namespace Go.Proofs.YtkkdimcnpacjhaaGreat
open Go.RowKit
def aHw {R A α:Type} {body:(Int→A→Option R)→Int→A→Option R} (l:List α) (hl:l.length<Ag) (p:α→Bool) (g:Nat→Option R) (rest:Option R) (a0:A)
 (u:∀k (i:Nat) (h:i<l.length),body k (i:Int) a0=bif p l[i]then g i else k (Ai ((i:Int)+1)) a0) (z:∀k,body k (l.length:Int) a0=rest):
 aV body Ag 0 a0=if l.findIdx p<l.length then g (l.findIdx p)else rest:=by
 have J:Ag=9223372036854775808:=rfl
 have key:∀n (i:Nat),i+n=l.length→∀m,n<m→aV body m (i:Int) a0=if(l.drop i).findIdx p+i<l.length then g ((l.drop i).findIdx p+i)else rest:=by
  intro n
  induction n with
  |zero=>
   intro i hi m hm;obtain⟨m,rfl⟩:∃q,m=q+1:=⟨m-1,AA⟩
   have :i=l.length:=AA
   subst this;show body (aV body m) _ _=_;rw[z,PU,CY BF]
  |succ n I=>
   intro i hi m hm;obtain⟨m,rfl⟩:∃q,m=q+1:=⟨m-1,AA⟩
   have j:i<l.length:=AA
   show body (aV body m) _ _=_;rw[u _ i j,wrap_succ i AA,I (i+1) AA m AA,Kw j,UF];cases p l[i]with
   |true=>simp only[Az,JJ];rw[CS j]
   |false=>
    simp only[Aj];rw[show(l.drop (i+1)).findIdx p+(i+1)=(l.drop (i+1)).findIdx p+1+i by omega]
 have :=key l.length 0 AA Ag hl;simpa using this
def Gx (l:List AL):AL×Bool:=match l.find? fun x=>x.Kind==1 with |some x=>(x,true)|none=>(Bv,false)
def aGD (l:List AL) (p:AL→Bool):(if l.findIdx p<l.length then(some (match l[l.findIdx p]? with |some x=>(x,true)|none=>(Bv,false)))else some (Bv,false))=some (match l.find? p with |some x=>(x,true)|none=>(Bv,false)):=by
 rw[KN];by_cases h:l.findIdx p<l.length
 ·rw[CS h]
 rw[CY h,Ib AA]
def aRC (l:List AL) (hl:l.length≤1000):nR l=some (Gx l):=by
 unfold nR aQU;rw[aHw l (fuel_lt AA) (fun x=>x.Kind==1) (fun i=>some (match l[i]? with |some x=>(x,true)|none=>(Bv,false))) (some (Bv,false))]
 ·exact aGD l _
 ·intro k i h;unfold aLx;rw[Bo h,D8 h]
 intro k;unfold aLx;rw[DC]
def aXe (l:List AL) (hl:l.length≤1000):aEQ l=some (Gx l):=by
 unfold aEQ aQR;rw[aHw l (fuel_lt AA) (fun x=>x.Kind==1) (fun i=>some (match l[i]? with |some x=>(x,true)|none=>(Bv,false))) (some (Bv,false))]
 ·exact aGD l _
 ·intro k i h;unfold aPc;rw[Bo h,Bd h,D8 h];rfl
 intro k;unfold aPc;rw[DC]
def Jb (u:ByteArray) (x:AL):Bool:=x.Kind==2&&decide (x.Key=u)
def I7 (l:List AL) (u:ByteArray):Int:=match l.find? (Jb u)with |some x=>x.Content.N|none=>0
def EvC (u:ByteArray) (x:AL):(bif (x.Kind==2)then some (x.Key.toList==u.toList)else some false)=some (Jb u x):=by
 unfold Jb;rw[Ie];cases x.Kind==2<;>rfl
def aM0 (l:List AL) (u:ByteArray) (hl:l.length≤1000):lW l u=some (I7 l u):=by
 unfold lW abG I7;rw[Jc l (fuel_lt AA) (Jb u) (fun i=>some (match l[i]? with |some x=>x.Content.N|none=>0)) (some 0)]
 ·rw[KN];by_cases h:l.findIdx (Jb u)<l.length
  ·rw[CS h]
  rw[CY h,Ib AA]
 ·intro k i h;unfold aHK;rw[Bo h,Bd h,D8 h];simp only[AO];rw[EvC];rfl
 intro k;unfold aHK;rw[DC]
def aHp (l:List AL) (u:ByteArray) (hl:l.length≤1000):oJ l u=some (I7 l u):=by
 unfold oJ aRQ I7;rw[Jc l (fuel_lt AA) (Jb u) (fun i=>some (match l[i]? with |some x=>x.Content.N|none=>0)) (some 0)]
 ·rw[KN];by_cases h:l.findIdx (Jb u)<l.length
  ·rw[CS h]
  rw[CY h,Ib AA]
 ·intro k i h;unfold aIH;rw[Bo h,Bd h,D8 h];simp only[AO];rw[EvC];rfl
 intro k;unfold aIH;rw[DC]
def RQ (e:AL) (l:List AL):Bool:=
 (Gx l).2&&(e.aU.length==1&&(e.aU.getD 0 0==(Gx l).1.Id&&(decide (e.aQ=(Gx l).1.aQ)&&(decide (e.Key=(Gx l).1.aQ)&&(e.Content.N==3&& !l.any (Jb e.Key))))))
def alj (e:AL) (l:List AL) (hl:l.length≤1000):aCw e l=some (RQ e l):=by
 have z:aPu l e 0=some (!l.any (Jb e.Key)):=by
  unfold aPu;rw[Gs l (fuel_lt AA) (Jb e.Key) false (some true)]
  ·cases l.any (Jb e.Key)<;>rfl
  ·intro k i h;unfold aLW;rw[Bo h,EvC];rfl
  intro k;unfold aLW;rw[DC]
 unfold aCw RQ ZF;rw[aRC l hl];simp only[AO];rw[z,Ie,Ie];cases(Gx l).2 with
 |false=>rfl
 |true=>
  by_cases hp:e.aU.length=1
  ·have u:0<e.aU.length:=AA
   have j:((e.aU.length:Int) != 1)=false:=by rw[hp];rfl
   have q:(e.aU.length==1)=true:=aFG
   have I:Af e.aU 0=some (e.aU.getD 0 0):=by
    have :Af e.aU ((0:Nat):Int)=some e.aU[0]:=Bd u;rw[show((0:Nat):Int)=0 from rfl]at this;rw[this];simp[List.getD,u]
   rw[j,q,I];simp only[AO,bne];cases e.aU.getD 0 0==(Gx l).1.Id<;>cases decide (e.aQ=(Gx l).1.aQ)<;>cases decide (e.Key=(Gx l).1.aQ)<;>cases e.Content.N==3<;>rfl
  have j:((e.aU.length:Int) != 1)=true:=Dh
  have q:(e.aU.length==1)=false:=aFG
  rw[j,q];rfl
def acu (e:AL) (l:List AL) (hl:l.length≤1000):aMT e l=some (RQ e l):=by
 have z:aJ0 l e.Key=some (l.any (Jb e.Key)):=by
  unfold aJ0 aSC;rw[Gs l (fuel_lt AA) (Jb e.Key) true (some false)]
  ·cases l.any (Jb e.Key)<;>rfl
  ·intro k i h;unfold aKT;rw[Bo h,Bd h];simp only[AO];rw[EvC];rfl
  intro k;unfold aKT;rw[DC]
 unfold aMT RQ Y4;rw[aXe l hl];simp only[AO];rw[z,Ie,Ie];cases(Gx l).2 with
 |false=>rfl
 |true=>
  by_cases hp:e.aU.length=1
  ·have u:0<e.aU.length:=AA
   have j:((e.aU.length:Int)==1)=true:=by rw[hp];rfl
   have q:(e.aU.length==1)=true:=aFG
   have I:Af e.aU 0=some (e.aU.getD 0 0):=by
    have :Af e.aU ((0:Nat):Int)=some e.aU[0]:=Bd u;rw[show((0:Nat):Int)=0 from rfl]at this;rw[this];simp[List.getD,u]
   rw[j,q,I];simp only[AO];cases e.aU.getD 0 0==(Gx l).1.Id<;>cases decide (e.aQ=(Gx l).1.aQ)<;>cases decide (e.Key=(Gx l).1.aQ)<;>cases e.Content.N==3<;>rfl
  have j:((e.aU.length:Int)==1)=false:=Dh
  have q:(e.aU.length==1)=false:=aFG
  rw[j,q];rfl
def moveB (f t:Int) (s:Bool):Bool:=
 bif decide (f<0)||decide (f>4)then false else bif t==3 then s&&f != 4 else bif t==0 then f==1||f==2||f==3||(f==4&& !s)else bif t==2 then s&&(f==0||f==2)else bif t==1 then !s&&(f==0||f==2||f==1)else bif t==4 then !s else false
def aRe (f t:Int) (s:Bool):Zl f t s=some (moveB f t s):=by
 unfold Zl moveB;simp only[Jf,AO,dK,Ty]
def aeJ (f t:Int) (s:Bool):dH f t s=some (moveB f t s):=by
 rw[←aRe];by_cases j:f<0
 ·unfold dH Zl;rw[Gi j];rfl
 by_cases q:f>4
 ·unfold dH Zl;rw[Gi q];cases decide (f<0)<;>rfl
 by_cases u:t<0
 ·unfold dH Zl;rw[Gi u,H7 j,H7 q,show(t==3)=false by simp;omega,show(t==0)=false by simp;omega,show(t==2)=false by simp;omega,show(t==1)=false by simp;omega,show(t==4)=false by simp;omega];rfl
 by_cases z:t>4
 ·unfold dH Zl;rw[Gi z,H7 u,H7 j,H7 q,show(t==3)=false by simp;omega,show(t==0)=false by simp;omega,show(t==2)=false by simp;omega,show(t==1)=false by simp;omega,show(t==4)=false by simp;omega];rfl
 have I:f=0∨f=1∨f=2∨f=3∨f=4:=AA
 have ht:t=0∨t=1∨t=2∨t=3∨t=4:=AA
 rcases I with rfl|rfl|rfl|rfl|rfl<;>rcases ht with rfl|rfl|rfl|rfl|rfl<;>cases s<;>decide
def U9 (l:List AL):Int×List ByteArray:=match l.find? fun x=>x.Kind==4 with |some x=>(x.Content.N,x.Content.Allow)|none=>(0,[])
def apB (l:List AL) (hl:l.length≤1000) (hs:D5 l):aFx l=some (U9 l):=by
 unfold aFx abP U9;rw[Jc l (fuel_lt AA) (fun x=>x.Kind==4) (fun i=>some (match l[i]? with |some x=>(x.Content.N,x.Content.Allow)|none=>(0,[]))) (some (0,[]))]
 ·rw[KN];by_cases h:l.findIdx (fun x=>x.Kind==4)<l.length
  ·rw[CS h]
  rw[CY h,Ib AA]
 ·intro k i h;have ha:=(hs _ (EJ h)).allow;unfold aIR;rw[Bo h,D8 h,D6 UE];rfl
 intro k;unfold aIR;rw[DC]
def akN (l:List AL) (hl:l.length≤1000) (hs:D5 l):aJx l=some (U9 l):=by
 unfold aJx aS0 U9;rw[Jc l (fuel_lt AA) (fun x=>x.Kind==4) (fun i=>some (match l[i]? with |some x=>(x.Content.N,x.Content.Allow)|none=>(0,[]))) (some (0,[]))]
 ·rw[KN];by_cases h:l.findIdx (fun x=>x.Kind==4)<l.length
  ·rw[CS h]
  rw[CY h,Ib AA]
 ·intro k i h;have ha:=(hs _ (EJ h)).allow;unfold aNR;rw[Bo h,Bd h,D8 h];simp only[AO];rw[D6 UE];rfl
 intro k;unfold aNR;rw[DC]
def wC (j now:Int):Int:=bif now==3||j==1 then 0 else bif now==1&&(j==0||j==2||j==3)then 0 else 21
def rG (j now:Int):Int:=bif j==2&&(now==0||now==2)then 0 else 21
def af5 (r n:Int):aC4 r n=some (wC r n):=by
 unfold aC4 tX zH wC;cases n==3<;>cases r==1<;>cases r==2<;>cases r==3<;>cases r==0<;>cases n==1<;>rfl
def anb (r n:Int):aPJ r n=some (wC r n):=by
 unfold aPJ wC;cases n==3<;>cases r==1<;>cases r==2<;>cases r==3<;>cases r==0<;>cases n==1<;>rfl
def am4 (r n:Int):aEE r n=some (rG r n):=by
 unfold aEE aDq rG bne;cases r==2<;>cases n==0<;>cases n==2<;>rfl
def abo (r n:Int):aPF r n=some (rG r n):=by
 unfold aPF rG;cases r==2<;>cases n==0<;>cases n==2<;>rfl
def U7 (m now:Int) (l:List AL):Int:=bif m==3 then wC (U9 l).1 now else bif m==2 then rG (U9 l).1 now else 0
def akQ (m now:Int) (l:List AL) (hl:l.length≤1000) (hs:D5 l):aFM m now l=some (U7 m now l):=by
 unfold aFM U7;rw[apB l hl hs];simp only[AO];rw[af5,am4];cases m==3<;>cases m==2<;>rfl
def afO (e:AL) (now:Int) (l:List AL) (hl:l.length≤1000) (hs:D5 l):aPy e l now=some (U7 e.Content.N now l):=by
 unfold aPy U7;rw[akN l hl hs];simp only[AO];rw[anb,abo];cases e.Content.N==3<;>cases e.Content.N==2<;>rfl
def GZ (k:Int):Bool:=decide (k≥1)&&decide (k≤10)
def aO6 (k:Int):Yl k=some (GZ k):=by
 unfold Yl GZ;cases decide (k≥1)<;>rfl
def sK (k:Int):TN k=some (GZ k):=by
 unfold TN GZ;cases decide (k≥1)<;>rfl
def Vq (v:Bf) (k:Int):Int:=match v.Kinds.find? fun x=>x.Kind==k with |some x=>x.N|none=>bif GZ k then v.State else v.Message
def aIW (v:Bf) (k:Int) (h:v.Kinds.length≤1000):jY v k=some (Vq v k):=by
 unfold jY aRj Vq;rw[Jc v.Kinds (fuel_lt AA) (fun x=>x.Kind==k) (fun i=>some (match v.Kinds[i]? with |some x=>x.N|none=>0)) (some (bif GZ k then v.State else v.Message))]
 ·rw[KN];by_cases h:v.Kinds.findIdx (fun x=>x.Kind==k)<v.Kinds.length
  ·rw[CS h,D8 h]
  rw[CY h,Ib AA]
 ·intro k2 i h;unfold aKf;rw[Bo h,D8 h]
 intro k2;unfold aKf;rw[DC,aO6];cases GZ k<;>rfl
def rE (v:Bf) (k:Int) (h:v.Kinds.length≤1000):y8 v k=some (Vq v k):=by
 unfold y8 aYq Vq;rw[Jc v.Kinds (fuel_lt AA) (fun x=>x.Kind==k) (fun i=>some (match v.Kinds[i]? with |some x=>x.N|none=>0)) (some (bif GZ k then v.State else v.Message))]
 ·rw[KN];by_cases h:v.Kinds.findIdx (fun x=>x.Kind==k)<v.Kinds.length
  ·rw[CS h,D8 h]
  rw[CY h,Ib AA]
 ·intro k2 i h;unfold aOM;rw[Bo h,Bd h,D8 h];rfl
 intro k2;unfold aOM;rw[DC,sK];cases GZ k<;>rfl
def VA (j q u:Int):Bool:=q==u||(decide (q≤j)&&decide (u≤j))
def numsOf (v:Bf):List Int:=[v.User,v.Message,v.State,v.fG,v.jR,v.mZ,v.gB]
def yh (j:Int) (p:Int×Int):Bool:= !VA j p.1 p.2
def Um (j:Int) (q new:Bf) (x:J8):Bool:= !VA j (Vq q x.Kind) (Vq new x.Kind)
def Iw (q:Int) (j new:Bf) (u:ByteArray) (x:Hz):Bool:= !(VA q (EH j x.User) (EH new x.User)&&(EH j x.User==EH new x.User||decide (x.User=u)||decide (EH j x.User<q)))
def uw (j new:Bf) (q:ByteArray):Int:=
 bif ((numsOf j).zip (numsOf new)).any (yh (EH j q))then 20 else bif (j.Kinds++new.Kinds).any (Um (EH j q) j new)then 20 else bif (j.Users++new.Users).any (Iw (EH j q) j new q)then 20 else 0
def aKy (j q u:Int):XD q u j=some (!VA j q u):=by
 unfold XD VA;have z:(q != u)= !(q==u):=rfl;have I:decide (q>j)= !decide (q≤j):=by by_cases h:q≤j<;>simp[h]<;>omega
 have J:decide (u>j)= !decide (u≤j):=by by_cases h:u≤j<;>simp[h]<;>omega
 rw[z,I,J];cases q==u<;>cases decide (q≤j)<;>cases decide (u≤j)<;>rfl
def zS (q j u:Int):vJ j u q=some (VA q j u):=by
 unfold vJ VA;cases j==u<;>cases decide (j≤q)<;>rfl
structure Y5 (v:Bf):Prop where
 users:v.Users.length≤100
 kinds:v.Kinds.length≤100
def pq (a b:Bf):((numsOf a).zip (numsOf b)).length=7:=rfl
def ahw (q new:Bf) (u:ByteArray) (Z:Y5 q) (hn:Y5 new):mW q new u=some (uw q new u):=by
 have o1:=Z.users;have o2:=Z.kinds;have n1:=hn.users;have n2:=hn.kinds;unfold mW;rw[dO q u AA];unfold aDW;simp only[AO];unfold uw;generalize hown:EH q u=z
 have hU:aAO q new z u false 0=some (bif (q.Users++new.Users).any (Iw z q new u)then 20 else 0):=by
  unfold aAO;rw[aOX ([q.Users,new.Users]:List (List Hz)) (fuel_lt BF) (fun us=>us.any (Iw z q new u)) (fun _=>some 20) (some 0) false]
  ·have e:(q.Users++new.Users).any (Iw z q new u)=([q.Users,new.Users]:List (List Hz)).any (fun us=>us.any (Iw z q new u)):=BF
   rw[e]
   have hf:∀L:List (List Hz),(if L.findIdx (fun us=>us.any (Iw z q new u))<L.length then some (20:Int)else some 0)=some (bif L.any (fun us=>us.any (Iw z q new u))then 20 else 0):=fun L=>by
    by_cases h:L.findIdx (fun us=>us.any (Iw z q new u))<L.length
    ·rw[CS h];have :L.any (fun us=>us.any (Iw z q new u))=true:=Gn.2 ((gW).1 h);rw[this];rfl
    rw[CY h]
    have :L.any (fun us=>us.any (Iw z q new u))=false:=by
     rw[Bool.eq_false_iff];exact fun k=>h (gW.2 (Gn.1 k))
    rw[this];rfl
   exact hf _
  ·intro k i h
   have O:([q.Users,new.Users]:List (List Hz))[i].length≤100:=by
    have :([q.Users,new.Users]:List (List Hz))[i]∈[q.Users,new.Users]:=EJ h;simp only[EX,Ei,iU]at this;rcases this with e|e<;>rw[e]<;>assumption
   unfold zu;rw[show decide ((i:Int)<2)=true by simp only[G7,LY]at h;simp;omega,Bd h];simp only[Az,AO];generalize([q.Users,new.Users]:List (List Hz))[i]=us at O;unfold aUX;rw[aOX us (fuel_lt AA) (Iw z q new u) (fun _=>some 20) (k false (Ai ((i:Int)+1))) false]
   ·by_cases J:us.findIdx (Iw z q new u)<us.length
    ·rw[CS J];have :us.any (Iw z q new u)=true:=Gn.2 ((gW).1 J);rw[this];rfl
    rw[CY J]
    have :us.any (Iw z q new u)=false:=by
     rw[Bool.eq_false_iff];exact fun k=>J (gW.2 (Gn.1 k))
    rw[this];rfl
   ·intro k2 j U;unfold aDz lJ;rw[Bo U,dO q _ AA,dO new _ AA];simp only[AO];rw[aKy,Ie];unfold Iw;have J:decide (EH q us[j].User≥z)= !decide (EH q us[j].User<z):=by by_cases h:EH q us[j].User<z<;>simp[h]<;>omega
    have h3:(EH q us[j].User != EH new us[j].User)= !(EH q us[j].User==EH new us[j].User):=rfl;simp only[AO];rw[J,h3];cases VA z (EH q us[j].User) (EH new us[j].User)<;>cases EH q us[j].User==EH new us[j].User<;>cases decide (us[j].User=u)<;>cases decide (EH q us[j].User<z)<;>rfl
   intro k2;unfold aDz;rw[DC]
  intro k;unfold zu lJ;rw[show decide (((([q.Users,new.Users]:List (List Hz)).length:Nat):Int)<2)=false from rfl];rfl
 have hK:aDN q new z u 0=some (bif (q.Kinds++new.Kinds).any (Um z q new)then 20 else bif (q.Users++new.Users).any (Iw z q new u)then 20 else 0):=by
  unfold aDN;rw[Gs ([q.Kinds,new.Kinds]:List (List J8)) (fuel_lt BF) (fun I=>I.any (Um z q new)) 20 (aAO q new z u false 0)]
  ·rw[hU];have e:(q.Kinds++new.Kinds).any (Um z q new)=([q.Kinds,new.Kinds]:List (List J8)).any (fun I=>I.any (Um z q new)):=BF
   rw[e];cases([q.Kinds,new.Kinds]:List (List J8)).any (fun I=>I.any (Um z q new))<;>rfl
  ·intro k i h
   have Y:([q.Kinds,new.Kinds]:List (List J8))[i].length≤100:=by
    have :([q.Kinds,new.Kinds]:List (List J8))[i]∈[q.Kinds,new.Kinds]:=EJ h;simp only[EX,Ei,iU]at this;rcases this with e|e<;>rw[e]<;>assumption
   unfold aBv;rw[show decide ((i:Int)<2)=true by simp only[G7,LY]at h;simp;omega,Bd h];simp only[Az,AO];generalize([q.Kinds,new.Kinds]:List (List J8))[i]=I at Y;unfold aXt;rw[Gs I (fuel_lt AA) (Um z q new) 20 (k (Ai ((i:Int)+1)))]
   ·intro k2 j U;unfold aEy;rw[Bo U,aIW q _ AA,aIW new _ AA];simp only[AO];rw[aKy];rfl
   intro k2;unfold aEy;rw[DC]
  intro k;unfold aBv;rw[show decide (((([q.Kinds,new.Kinds]:List (List J8)).length:Nat):Int)<2)=false from rfl];rfl
 unfold aXI;rw[Gs ((numsOf q).zip (numsOf new)) aWO (yh z) 20 (aDN q new z u 0)]
 ·rw[hK];cases((numsOf q).zip (numsOf new)).any (yh z)<;>rfl
 ·intro k i h;have M:i<7:=by rw[pq]at h;exact h
  have e1:Af [q.User,q.Message,q.State,q.fG,q.jR,q.mZ,q.gB] (i:Int)=some ((numsOf q)[i]'(M)):=Bd (l:=numsOf q) M;have e2:Af [new.User,new.Message,new.State,new.fG,new.jR,new.mZ,new.gB] (i:Int)=some ((numsOf new)[i]'(M)):=Bd (l:=numsOf new) M;unfold aAZ;rw[show decide ((i:Int)<7)=true by simp;omega,e1,e2];simp only[Az,AO];rw[aKy,aHf];rfl
 intro k;unfold aAZ;rw[pq,show decide (((7:Nat):Int)<7)=false from rfl];rfl
def abq (j new:Bf) (u q:ByteArray) (z:Y5 j) (I:Y5 new):qh j new u q=some (VA (EH j q) (EH j u) (EH new u)&&(EH j u==EH new u||decide (u=q)||decide (EH j u<EH j q))):=by
 have J:=z.users;have L:=I.users;unfold qh;rw[Y8 j q AA,Y8 j u AA,Y8 new u AA];simp only[AO];rw[zS,Ie];simp only[AO];cases VA (EH j q) (EH j u) (EH new u)<;>cases EH j u==EH new u<;>cases decide (u=q)<;>cases decide (EH j u<EH j q)<;>rfl
def akb (j new:Bf) (q:ByteArray) (J:Y5 j) (L:Y5 new):aPm j new q=some (uw j new q):=by
 have o1:=J.users;have o2:=J.kinds;have n1:=L.users;have n2:=L.kinds;unfold aPm;rw[Y8 j q AA];unfold aMB;simp only[AO];unfold uw
 have z:∀x:Hz,(qh j new x.User q)=some (!Iw (EH j q) j new q x):=fun x=>by
  rw[abq j new _ _ J L];unfold Iw;rw[qP]
 generalize O:EH j q=u at z
 have M:aL9 new j q 0=some (bif new.Users.any (Iw u j new q)then 20 else 0):=by
  unfold aL9;rw[Gs new.Users (fuel_lt AA) (Iw u j new q) 20 (some 0)]
  ·cases new.Users.any (Iw u j new q)<;>rfl
  ·intro k i h;unfold aLl;rw[Bo h,z];simp only[AO,qP]
  intro k;unfold aLl;rw[DC]
 have Y:aIm j new q 0=some (bif (j.Users++new.Users).any (Iw u j new q)then 20 else 0):=by
  unfold aIm;rw[Gs j.Users (fuel_lt AA) (Iw u j new q) 20 (some (bif new.Users.any (Iw u j new q)then 20 else 0))]
  ·rw[aMV];cases j.Users.any (Iw u j new q)<;>rfl
  ·intro k i h;unfold aH0;rw[Bo h,z];simp only[AO,qP]
  intro k;unfold aH0;rw[DC,M]
 have Z:aEj j new u q 0=some (bif (j.Kinds++new.Kinds).any (Um u j new)then 20 else bif (j.Users++new.Users).any (Iw u j new q)then 20 else 0):=by
  unfold aEj;have U:Ai ((j.Kinds.length:Int)+(new.Kinds.length:Int))=(((j.Kinds++new.Kinds).length:Nat):Int):=by rw[EI,ay];omega
  rw[Gs (j.Kinds++new.Kinds) (fuel_lt KU) (Um u j new) 20 (some (bif (j.Users++new.Users).any (Iw u j new q)then 20 else 0))]
  ·cases(j.Kinds++new.Kinds).any (Um u j new)<;>rfl
  ·intro k i h;unfold aIn aPR;rw[U,dec_lt h];simp only[Az];by_cases hi:i<j.Kinds.length
   ·rw[dec_lt hi,Bd hi];simp only[Az,AO];rw[rE j _ AA,rE new _ AA];simp only[AO];rw[zS,aLF hi];rfl
   have hj:i-j.Kinds.length<new.Kinds.length:=by rw[EI]at h;omega
   have w:Ai ((i:Int)-(j.Kinds.length:Int))=((i-j.Kinds.length:Nat):Int):=by rw[EI]at h;rw[ay];omega
   rw[show decide ((i:Int)<(j.Kinds.length:Int))=false by simp;omega,w,Bd hj];simp only[Aj,AO];rw[rE j _ AA,rE new _ AA];simp only[AO];rw[zS,aWx AA];rfl
  intro k;unfold aIn;rw[U,Ce,Y];rfl
 unfold aXk;rw[Gs ((numsOf j).zip (numsOf new)) aWO (yh u) 20 (aEj j new u q 0)]
 ·rw[Z];cases((numsOf j).zip (numsOf new)).any (yh u)<;>rfl
 ·intro k i h;have I:i<7:=by rw[pq]at h;exact h
  have e1:Af [j.User,j.Message,j.State,j.fG,j.jR,j.mZ,j.gB] (i:Int)=some ((numsOf j)[i]'(I)):=Bd (l:=numsOf j) I;have e2:Af [new.User,new.Message,new.State,new.fG,new.jR,new.mZ,new.gB] (i:Int)=some ((numsOf new)[i]'(I)):=Bd (l:=numsOf new) I;unfold aMX;rw[show decide ((i:Int)<(([j.User,j.Message,j.State,j.fG,j.jR,j.mZ,j.gB]:List Int).length:Int))=true from dec_lt (n:=7) I,e1,e2];simp only[Az,AO];rw[zS,aHf];rfl
 intro k;unfold aMX;rw[pq];rfl
def WZ (e:AL) (l:List AL) (now:Int):Int:=
 bif !(I7 l e.aQ==3)then 18 else
 bif e.Content.N==1&&decide (EH (FK l) e.aQ<(FK l).fG)then 20 else
 bif e.Content.N==0&&((now==4&&decide (EH (FK l) e.aQ<(FK l).mZ))||decide (EH (FK l) e.aQ<(FK l).jR)||decide (EH (FK l) e.Key≥EH (FK l) e.aQ))then 20 else
 bif e.Content.N==4&&(decide (EH (FK l) e.aQ<(FK l).mZ)||decide (EH (FK l) e.Key≥EH (FK l) e.aQ))then 20 else 0
def Vt (e:AL) (l:List AL):Int:=
 bif RQ e l then 0 else
 bif decide (e.Key=e.aQ)&&I7 l e.Key==4 then 19 else
 bif !moveB (I7 l e.Key) e.Content.N (decide (e.Key=e.aQ))then 18 else
 bif decide (e.Key=e.aQ)then U7 e.Content.N (I7 l e.Key) l else WZ e l (I7 l e.Key)
def Va (e:AL) (l:List AL):Int:=
 bif decide (EH (FK l) e.aQ<Vq (FK l) e.Kind)then 20 else bif e.Kind==3 then uw (FK l) e.Content.Levels e.aQ else 0
def J4 (s:ByteArray):ByteArray:=(splitB s (J7 s)).2.1
def GY (e:AL) (l:List AL):Int:=
 bif e.Kind==1 then(bif !(Gx l).2&&(J4 e.aQ).toList==(J4 e.Room).toList then 0 else 17)else
 bif !(Gx l).2 then 17 else bif e.Kind==2 then Vt e l else bif !(I7 l e.aQ==3)then 18 else Va e l
def aX3 {l:List AL} (h:D5 l):Y5 (FK l):=⟨(gI h).1,(gI h).2⟩
def Ea.levels {e:AL} (h:Ea e):Y5 e.Content.Levels:=⟨h.users,h.kinds⟩
def aoo (e:AL) (l:List AL) (hl:l.length≤1000) (hs:D5 l) (q:Ea e):aEw e l=some (Va e l):=by
 have j:=aX3 hs;have u:=j.users;have z:=j.kinds;unfold aEw Va;rw[aHy l hl hs];simp only[AO];rw[dO _ _ AA,aIW _ _ AA];simp only[AO];rw[ahw _ _ _ j q.levels];cases decide (EH (FK l) e.aQ<Vq (FK l) e.Kind)<;>cases e.Kind==3<;>rfl
def abe (e:AL) (l:List AL) (hl:l.length≤1000) (hs:D5 l) (q:Ea e):aKo e l=some (Va e l):=by
 have j:=aX3 hs;have u:=j.users;have z:=j.kinds;unfold aKo Va;rw[aKd l hl];simp only[AO];rw[Y8 _ _ AA,rE _ _ AA];simp only[AO];rw[akb _ _ _ j q.levels];cases decide (EH (FK l) e.aQ<Vq (FK l) e.Kind)<;>cases e.Kind==3<;>rfl
def jg (x:Int):Except Value Unit:=.error (.iface 165 (.agg #[.int .i64 x]))
def aaM (x:Int):dR x=some (jg x):=rfl
def aMx (b:Bool) (x:Int):Qk b x=some (bif b then .ok ()else jg x):=by cases b<;>rfl
def aHn (b:Bool) (x:Int) (f:Unit→Option (Except Value Unit)):Ky (bif b then .ok ()else jg x) f=bif b then f ()else some (jg x):=by cases b<;>rfl
def aVU (x:Int) (f:Unit→Option (Except Value Unit)):Ky (jg x) f=some (jg x):=rfl
def aip (a b:Int):decide (a≥b)= !decide (a<b):=by by_cases h:a<b<;>simp[h]<;>omega
def acs (e:AL) (l:List AL) (now:Int) (hl:l.length≤1000) (hs:D5 l):(fB l e now).bind TQ=some (WZ e l now):=by
 have z:=(gI hs).1;unfold fB WZ;rw[aM0 l _ hl,aHy l hl hs];simp only[AO];rw[dO _ _ AA,dO _ _ AA];simp only[aMx,AO,aHn,aip]
 have I:decide (EH (FK l) e.Key<EH (FK l) e.aQ)= !decide (EH (FK l) e.aQ≤EH (FK l) e.Key):=by
  by_cases h:EH (FK l) e.Key<EH (FK l) e.aQ<;>simp[h]<;>omega
 have u:(now != 4)= !(now==4):=rfl;rw[u];generalize decide (EH (FK l) e.Key<EH (FK l) e.aQ)=t;generalize decide (EH (FK l) e.aQ<(FK l).fG)=i;generalize decide (EH (FK l) e.aQ<(FK l).mZ)=b;generalize decide (EH (FK l) e.aQ<(FK l).jR)=k;generalize(now==4)=n;cases I7 l e.aQ==3 with
 |false=>rfl
 |true=>
  by_cases j:e.Content.N=1
  ·rw[j];cases i<;>rfl
  rw[show(e.Content.N==1)=false by simpa using j];by_cases q:e.Content.N=0
  ·rw[q];cases n<;>cases b<;>cases k<;>cases t<;>rfl
  rw[show(e.Content.N==0)=false by simpa using q];cases e.Content.N==4<;>cases b<;>cases t<;>rfl
def ak6 (e:AL) (l:List AL) (now:Int) (hl:l.length≤1000) (hs:D5 l):aPo e l now=some (WZ e l now):=by
 have j:=(gI hs).1;unfold aPo WZ;rw[aHp l _ hl,aKd l hl];simp only[AO];rw[Y8 _ _ AA,Y8 _ _ AA];simp only[AO,Jf,dK,Ty,bne]
def an7 (e:AL) (l:List AL) (hl:l.length≤1000) (hs:D5 l):aCY e l=some (Vt e l):=by
 unfold aCY Vt;rw[alj e l hl];simp only[AO];cases RQ e l with
 |true=>rfl
 |false=>
  simp only[Aj]
  have q:∀o:Option (Except Value Unit),(o.bind fun u=>(TQ u).bind fun z=>some z)=o.bind TQ:=fun o=>by
   cases o with
   |none=>rfl
   |some x=>cases h:TQ x<;>simp[h]
  rw[q];have j:=acs e l (I7 l e.Key) hl hs;unfold aNe;rw[aM0 l _ hl,Ie];simp only[AO];rw[aeJ,akQ _ _ _ hl hs];simp only[AO,aMx,aaM,aHn,aVU,Jf];have I:(I7 l e.Key != 4)= !(I7 l e.Key==4):=rfl;rw[I];generalize fB l e (I7 l e.Key)=J at j;generalize decide (e.Key=e.aQ)=s;cases s with
  |true=>
   cases I7 l e.Key==4 with
   |true=>rfl
   |false=>cases moveB (I7 l e.Key) e.Content.N true<;>rfl
  |false=>
   cases moveB (I7 l e.Key) e.Content.N false with
   |false=>rfl
   |true=>exact j
def aiU (e:AL) (l:List AL) (hl:l.length≤1000) (hs:D5 l):aK6 e l=some (Vt e l):=by
 unfold aK6 Vt;rw[acu e l hl,aHp l _ hl];simp only[AO];rw[aRe,afO e _ l hl hs,ak6 e l _ hl hs,Ie];simp only[AO,Jf,Ty]
def nI (e:AL) (l:List AL) (hl:l.length≤1000) (hs:D5 l) (j:Ea e):TF e l=some (GY e l):=by
 have I:=j.sender;have J:=j.room;unfold TF GY
 have q:∀o:Option (Except Value Unit),(o.bind fun u=>(TQ u).bind fun z=>some z)=o.bind TQ:=fun o=>by
  cases o with
  |none=>rfl
  |some x=>cases h:TQ x<;>simp[h]
 rw[q];unfold aJB aBZ aFt yx;rw[aRC l hl,(UM (s:=e.aQ) AA).1,(UM (s:=e.Room) AA).1,aM0 l _ hl,aoo e l hl hs j,an7 e l hl hs];simp only[AO,aMx,aaM,aHn,aVU];show _=some (bif e.Kind==1 then(bif !(Gx l).2&&(splitB e.aQ (J7 e.aQ)).2.1.toList==(splitB e.Room (J7 e.Room)).2.1.toList then 0 else 17)else _);cases e.Kind==1 with
 |true=>
  cases(Gx l).2 with
  |true=>rfl
  |false=>cases(splitB e.aQ (J7 e.aQ)).2.1.toList==(splitB e.Room (J7 e.Room)).2.1.toList<;>rfl
 |false=>
  cases(Gx l).2 with
  |false=>rfl
  |true=>
   cases e.Kind==2 with
   |true=>rfl
   |false=>cases I7 l e.aQ==3<;>rfl
def aDw (e:AL) (l:List AL) (hl:l.length≤1000) (hs:D5 l) (j:Ea e):dc e l=some (GY e l):=by
 have q:=j.sender;have u:=j.room;unfold dc aPw GY;rw[aXe l hl,(UM (s:=e.aQ) AA).2,(UM (s:=e.Room) AA).2,aHp l _ hl,abe e l hl hs j,aiU e l hl hs];simp only[AO];show _=some (bif e.Kind==1 then(bif !(Gx l).2&&(splitB e.aQ (J7 e.aQ)).2.1.toList==(splitB e.Room (J7 e.Room)).2.1.toList then 0 else 17)else _);cases e.Kind==1 with
 |true=>
  cases(Gx l).2 with
  |true=>rfl
  |false=>cases(splitB e.aQ (J7 e.aQ)).2.1.toList==(splitB e.Room (J7 e.Room)).2.1.toList<;>rfl
 |false=>
  cases(Gx l).2 with
  |false=>rfl
  |true=>
   cases e.Kind==2 with
   |true=>rfl
   |false=>unfold bne;cases I7 l e.aQ==3<;>rfl
def Zh (named:List AL) (k:Ah):AL×Bool:=match named.find? (DJ k)with |some x=>(x,true)|none=>(Bv,false)
def Zv (l:List AL) (s:List Ah) (e:AL) (k:Ah):AL×Bool:=bif (G8 s k.Kind k.Key).2 then Fz l (G8 s k.Kind k.Key).1 else Zh (ofIds l e.aZ) k
def Rt (l:List AL) (s:List Ah) (e:AL) (k:Ah):List AL:=bif (Zv l s e k).2 then[(Zv l s e k).1]else[]
def Rf (l:List AL) (s:List Ah) (e:AL):List AL:=(keysOf e).flatMap (Rt l s e)
def aJy (l:List AL) (s:List Ah) (e:AL) (k:Ah):(Rt l s e k).length≤1:=by
 unfold Rt;cases(Zv l s e k).2<;>simp
def aXP (l:List AL) (s:List Ah) (e:AL):(Rf l s e).length≤5:=by
 have j:=flat_length (f:=Rt l s e) (n:=1) (aJy l s e) (keysOf e);have q:=QI e;unfold Rf;omega
def adI {l:List AL} {s:List Ah} {e x:AL} (h:x∈Rf l s e):x∈l:=by
 obtain⟨k,_,h⟩:=SI.1 h;unfold Rt Zv Zh at h;cases q:(G8 s k.Kind k.Key).2 with
 |true=>
  rw[q]at h;simp only[Az]at h;cases hp:Dw l (G8 s k.Kind k.Key).1 with
  |none=>rw[SN hp]at h;exact absurd h Ei
  |some y=>rw[Nl hp]at h;rw[IY.1 h];exact I9 hp
 |false=>
  rw[q]at h;simp only[Aj]at h;cases j:(ofIds l e.aZ).find? (DJ k)with
  |none=>rw[j]at h;exact absurd h Ei
  |some y=>rw[j]at h;rw[IY.1 h];exact aFA (O7 j)
def D5.base {l:List AL} (h:D5 l) (s:List Ah) (e:AL):D5 (Rf l s e):=fun x j=>h x (adI j)
def afN (named:List AL) (k:Ah) (j:named.length≤1000):aAP named k=some (Zh named k):=by
 unfold aAP;rw[Rep named AA (fun a0=>pK a0 k) (DJ k) fun e=>by unfold pK DJ;rw[Ie];cases e.Kind==k.Kind<;>rfl];exact found_eq named (DJ k) rfl
def aiR (named:List AL) (k:Ah) (j:named.length≤1000):aHv named k.Kind k.Key=some (Zh named k):=by
 unfold aHv aQD;rw[aHw named (fuel_lt AA) (DJ k) (fun i=>some (match named[i]? with |some x=>(x,true)|none=>(Bv,false))) (some (Bv,false))]
 ·exact aGD named _
 ·intro k2 i h;unfold aO3;rw[Bo h,Bd h,D8 h];simp only[AO];rw[Ie];unfold DJ;cases named[i].Kind==k.Kind<;>cases decide (named[i].Key=k.Key)<;>rfl
 intro k2;unfold aO3;rw[DC]
def alc (l:List AL) (s:List Ah) (e:AL) (hl:l.length≤1000) (q:e.aZ.length≤40) (hs:JB s) (j:s.length≤1000000):zF l s e=some (Rf l s e):=by
 unfold zF;have u:=Yw l e.aZ;have z:=QI e;have hm:Ia 376 Bv 0 5=some []:=by unfold Ia;rw[CS aCv];rfl
 rw[aX1 l _ hl AA,hm,aar];simp only[AO];unfold aWY;rw[Hu (keysOf e) AA (fun r k=>r++Rt l s e k) (fun i r=>r.length≤i) (fun r=>some r) (Dq _)]
 ·rw[foldl_append (Rt l s e),II];rfl
 ·intro k r i h I;have hp:=aJy l s e (keysOf e)[i];refine⟨KU,?_⟩;unfold aGy aAM aB0;rw[Bo h,afN _ _ AA,aGp s _ _ j hs];simp only[AO];rw[Np l _ AA,D6 Fa];simp only[AO];rw[D6 Fa];unfold Rt Zv;cases(G8 s (keysOf e)[i].Kind (keysOf e)[i].Key).2 with
  |true=>
   simp only[Az];cases(Fz l (G8 s (keysOf e)[i].Kind (keysOf e)[i].Key).1).2 with
   |true=>rfl
   |false=>simp
  |false=>
   simp only[Aj];cases(Zh (ofIds l e.aZ) (keysOf e)[i]).2 with
   |true=>rfl
   |false=>simp
 intro k r _;unfold aGy;rw[DC]
def anx (l:List AL) (s:List Ah) (e:AL) (hl:l.length≤1000) (q:e.aZ.length≤40) (j:s.length≤1000000):aNX l s e=some (Rf l s e):=by
 unfold aNX;have u:=Yw l e.aZ;have z:=QI e;rw[aFf,aLG l _ hl AA];simp only[AO];unfold aav;rw[Hu (a0:=[]) (keysOf e) AA (fun r k=>r++Rt l s e k) (fun i r=>r.length≤i) (fun r=>some r) (Dq _)]
 ·rw[foldl_append (Rt l s e),II];rfl
 ·intro k r i h I;have hp:=aJy l s e (keysOf e)[i];refine⟨KU,?_⟩;unfold aPI aLe aMW;rw[dec_lt h,Bd h];simp only[Az,AO];rw[aiR _ _ AA,aLE s _ _ j];simp only[AO];rw[KR l _ AA,D6 Fa];simp only[AO];rw[D6 Fa];unfold Rt Zv;cases(G8 s (keysOf e)[i].Kind (keysOf e)[i].Key).2 with
  |true=>
   simp only[Az];cases(Fz l (G8 s (keysOf e)[i].Kind (keysOf e)[i].Key).1).2 with
   |true=>rfl
   |false=>simp
  |false=>
   simp only[Aj];cases(Zh (ofIds l e.aZ) (keysOf e)[i]).2 with
   |true=>rfl
   |false=>simp
 intro k r _;unfold aPI;rw[Ce];rfl
def Rl (l:List AL) (s:List Ah) (id:Int):Bool:=bW l id&&(GZ (ev l id).Kind&&GY (ev l id) (Rf l s (ev l id))==0)
def OT (l:List AL) (s:List Ah) (id:Int):List Ah:=bif Rl l s id then Ey s (ev l id).Kind (ev l id).Key (ev l id).Id else s
def Oa (l:List AL) (s:List Ah) (ids:List Int):List Ah:=ids.foldl (OT l) s
def aVd {l:List AL} {s:List Ah} (h:JB s) (id:Int):JB (OT l s id):=by
 unfold OT;cases Rl l s id with
 |true=>exact WA h _ _ _
 |false=>exact h
def aPj {l:List AL}:∀{ids:List Int} {s:List Ah},JB s→JB (Oa l s ids)
 | [],_,h=>h
 |id::ids,s,h=>aPj (ids:=ids) (aVd h id)
def aPA (l:List AL) (s:List Ah) (id:Int):(OT l s id).length≤s.length+1:=by
 unfold OT;cases Rl l s id with
 |true=>exact Pj _ _ _ _
 |false=>exact Nat.le_succ _
def zq (l:List AL):∀(ids:List Int) (s:List Ah),(Oa l s ids).length≤s.length+ids.length
 | [],s=>Dq _
 |id::ids,s=>by
  have j:=zq l ids (OT l s id);have q:=aPA l s id;show(Oa l (OT l s id) ids).length≤_;rw[G7];omega
def aXN {l:List AL} (hs:D5 l) {id:Int} (h:bW l id=true):Ea (ev l id):=hs _ (I9 (GH h).1)
def anf (l:List AL) (s:List Ah) (id:Int) (hl:l.length≤1000) (hs:D5 l) (z:JB s) (q:s.length≤1000000):aFX l s id=some (OT l s id):=by
 unfold aFX aHi oh OT Rl;have j:aG4 s (.error (.iface 331 (.agg #[])):Except Value (List Ah))=some s:=rfl;rw[Np l _ AA];simp only[AO];rw[NZ];cases J:(Dw l id).isSome with
 |false=>rw[show bW l id=false from J];exact j
 |true=>
  have u:bW l id=true:=J;have L:=aXN hs u;have I:(Fz l id).1=ev l id:=rfl;rw[u,I,aO6];simp only[AO,EF,Aj,GL];cases GZ (ev l id).Kind with
  |false=>exact j
  |true=>
   have M:=aXP l s (ev l id);rw[alc l s _ hl L.auth z q];simp only[AO,EF,Aj,GL];rw[nI _ _ AA (hs.base s _) L];simp only[AO];rw[YE s _ _ _ q];unfold bne;cases GY (ev l id) (Rf l s (ev l id))==0 with
   |true=>rfl
   |false=>exact j
def aS2 (l:List AL) (s:List Ah) (ids:List Int) (hl:l.length≤1000) (hs:D5 l) (j:JB s) (u:s.length+ids.length≤1000000):cD l s ids=some (Oa l s ids):=by
 unfold cD aER;rw[D6 UE];simp only[AO,II];unfold aYF;rw[Hu ids AA (OT l) (fun i r=>JB r∧r.length≤s.length+i) (fun r=>some r) ⟨j,Dq _⟩]
 ·rfl
 ·intro k r i h q;have z:=aPA l r ids[i];refine⟨⟨aVd q.1 _,AA⟩,?_⟩;unfold aNW;rw[Bo h,anf l r _ hl hs q.1 AA];rfl
 intro k r _;unfold aNW;rw[DC]
def aR6 (l:List AL) (s:List Ah) (ids:List Int) (hl:l.length≤1000) (hs:D5 l) (I:s.length+ids.length≤1000000):jl l s ids=some (Oa l s ids):=by
 unfold jl;rw[D6 UE];simp only[AO,II];unfold abA;rw[Hu ids AA (OT l) (fun i r=>r.length≤s.length+i) (fun r=>some r) (Dq _)]
 ·rfl
 ·intro k r i h J;have L:=aPA l r ids[i];refine⟨AA,?_⟩;unfold aHr aDO aKx OT Rl;rw[Bo h,KR l _ AA];simp only[AO];rw[NZ];cases u:(Dw l ids[i]).isSome with
  |false=>rw[show bW l ids[i]=false from u];rfl
  |true=>
   have j:bW l ids[i]=true:=u;have z:=aXN hs j;have q:(Fz l ids[i]).1=ev l ids[i]:=rfl;rw[j,q,sK];simp only[AO,Az,GL];cases GZ (ev l ids[i]).Kind with
   |false=>rfl
   |true=>
    have M:=aXP l r (ev l ids[i]);rw[anx l r _ hl z.auth AA];simp only[AO,Az,GL];rw[aDw _ _ AA (hs.base r _) z];simp only[AO];rw[aIq r _ _ _ AA];cases GY (ev l ids[i]) (Rf l r (ev l ids[i]))==0<;>rfl
 intro k r _;unfold aHr;rw[DC]
def Jv (l:List AL) (aJ:List (List Ah)):List Int:=TD l (Iq l aJ)
def KH (l:List AL) (aJ:List (List Ah)):List Int:=rY l (gG l (Jv l aJ)).length (gG l (Jv l aJ))
def Hy (l:List AL) (aJ:List (List Ah)):List Ah:=Oa l (Ho aJ) (KH l aJ)
def UJ (l:List AL) (aJ:List (List Ah)):List Int:=bif (G8 (Hy l aJ) 3 BP).2 then YR l (G8 (Hy l aJ) 3 BP).1 else[]
def Jm (l:List AL) (aJ:List (List Ah)):List Int:=zK l (UJ l aJ) (Ob (Iq l aJ) (Jv l aJ))
def oI (s a:List Ah):List Ah:=a.foldl (fun s x=>Ey s x.Kind x.Key x.Id) s
def lastOf (l:List AL) (aJ:List (List Ah)):List Ah:=oI (Oa l (Hy l aJ) (Jm l aJ)) (Ho aJ)
structure MH (l:List AL) (aJ:List (List Ah)):Prop where
 len:l.length≤100
 small:D5 l
 states:O4 aJ
def kC {l:List AL} {aJ:List (List Ah)} (h:MH l aJ):(Iq l aJ).length≤40000:=by
 have z:=h.len;have I:=aA6 h.states;have J:=KJ (Pg aJ);have j:=aF5 l aJ [] fun s hs=>(h.states.2 s hs).1;have q:=h.states.1;have u:=JH (fun x=>decide (Iu l aJ x<aJ.length)) (allOf l aJ);have L:aJ.length*(100+l.length)≤100*200:=zC q AA;have M:=aGH (EG (Pg aJ)) (OE l aJ)
 have O:(OE l aJ).length≤20000:=by
  unfold OE;unfold allOf at u ⊢;simp only[LY]at j;omega
 unfold Iq;omega
def ain {l:List AL} {aJ:List (List Ah)} (h:MH l aJ):(Dp l (Iq l aJ)).length≤40000:=Ed (JH _ _) (kC h)
def aHP {l:List AL} {aJ:List (List Ah)} (h:MH l aJ):(KH l aJ).length≤100:=by
 have q:=aTE l (gG l (Jv l aJ)).length (gG l (Jv l aJ));have u:(gG l (Jv l aJ)).length≤l.length:=lq (Zj _ _) fun x j=>(Lp.1 j).2;have z:=h.len;unfold KH;omega
def aAK {l:List AL} {aJ:List (List Ah)} (h:MH l aJ):(Hy l aJ).length≤200:=by
 have j:=zq l (KH l aJ) (Ho aJ);have q:=aHP h;have u:=dZ h.states;unfold Hy;omega
def aLt {l:List AL} {aJ:List (List Ah)} (h:MH l aJ):JB (Hy l aJ):=aPj (aQw h.states)
def aaz {l:List AL} {aJ:List (List Ah)} (h:MH l aJ):(UJ l aJ).length≤100:=by
 have j:=aQx l (G8 (Hy l aJ) 3 BP).1;have q:=h.len;unfold UJ;cases(G8 (Hy l aJ) 3 BP).2 with
 |true=>simp only[Az];omega
 |false=>exact Du _
def aSN {l:List AL} {aJ:List (List Ah)} (h:MH l aJ):(Jm l aJ).length≤40000:=by
 have j:=apq l (UJ l aJ) (Ob (Iq l aJ) (Jv l aJ));have q:=aN7 (Iq l aJ) (Jv l aJ);have u:=kC h;unfold Jm;omega
def af7 {l:List AL} {aJ:List (List Ah)} (h:MH l aJ):vk (Iq l aJ) (Jv l aJ) l (Hy l aJ,KH l aJ) (Ho aJ,EG (Pg aJ)) (UJ l aJ)=some ⟨lastOf l aJ,KH l aJ,Jm l aJ⟩:=by
 have u:=h.len;have z:=kC h;have I:=aFO l (Iq l aJ);have J:=aaz h;have L:=aN7 (Iq l aJ) (Jv l aJ);have M:=aAK h;have O:=aSN h;have U:=dZ h.states;unfold vk aNy aIP;rw[acM _ _ AA (by unfold Jv;omega)];simp only[AO];rw[apG l _ _ AA h.small AA AA (Tn (aIB _ _))];simp only[AO];show((cD l (Hy l aJ) (Jm l aJ)).bind _).bind _=_;rw[aS2 l _ _ AA h.small (aLt h) AA];simp only[AO];unfold aU7;have Y:=zq l (Jm l aJ) (Hy l aJ);show aV _ Ag 0 (⟨Oa l (Hy l aJ) (Jm l aJ),KH l aJ,Jm l aJ⟩:OY)=_;rw[gQ (Ho aJ) AA (fun v x=>({ v with DZ:=Ey v.DZ x.Kind x.Key x.Id }:OY)) (fun i v=>v.DZ.length≤(Oa l (Hy l aJ) (Jm l aJ)).length+i) (fun v=>some v) (Dq _)]
 ·congr 1;unfold lastOf oI
  have key:∀(a:List Ah) (v:OY),a.foldl (fun v x=>({ v with DZ:=Ey v.DZ x.Kind x.Key x.Id }:OY)) v=⟨a.foldl (fun s x=>Ey s x.Kind x.Key x.Id) v.DZ,v.ajJ,v.asN⟩:=by
   intro a
   induction a with
   |nil=>intro v;rfl
   |cons x a j=>intro v;rw[F5,j];rfl
  rw[key]
 ·intro k v i hi Z;have q:=Pj v.DZ (Ho aJ)[i].Kind (Ho aJ)[i].Key (Ho aJ)[i].Id;refine⟨by show(Ey _ _ _ _).length≤_;omega,?_⟩;unfold aIy;rw[Bo hi,YE _ _ _ _ AA];rfl
 intro k v _;unfold aIy;rw[DC]
def aoC {l:List AL} {aJ:List (List Ah)} (h:MH l aJ):zU l aJ=some ⟨lastOf l aJ,KH l aJ,Jm l aJ⟩:=by
 have q:=h.len;have u:=kC h;have z:=aFO l (Iq l aJ);have I:=ain h;have J:=aAK h;have L:=aHP h;have M:=dZ h.states;have ht:=af7 h;unfold zU;rw[ab9 aJ h.states,ajI l aJ AA h.small.ajT h.states];simp only[AO];rw[ajd l _ AA h.small AA AA];simp only[AO];unfold aLy aIt;rw[aco l _ AA h.small AA];simp only[AO];have ha:cD l (Ho aJ) (KH l aJ)=some (Hy l aJ):=aS2 l _ _ AA h.small (aQw h.states) AA;unfold KH Jv at ha;rw[ha];simp only[AO];rw[aGp _ _ _ AA (aLt h)];simp only[AO];rw[aij l _ AA h.small];unfold UJ at ht;cases j:(G8 (Hy l aJ) 3 BP).2 with
 |true=>rw[j]at ht;exact ht
 |false=>rw[j]at ht;exact ht
def abn {l:List AL} {aJ:List (List Ah)} (h:MH l aJ):aED (Iq l aJ) (Jv l aJ) l (Ho aJ,EG (Pg aJ)) (KH l aJ) (Hy l aJ) (UJ l aJ)=some ⟨Ho aJ,KH l aJ,Hy l aJ,Jm l aJ,lastOf l aJ⟩:=by
 have z:=h.len;have I:=kC h;have J:=aFO l (Iq l aJ);have L:=aaz h;have M:=aN7 (Iq l aJ) (Jv l aJ);have O:=aAK h;have U:=aSN h;have Y:=dZ h.states;unfold aED;rw[zY _ _ AA (by unfold Jv;omega)];simp only[AO];rw[ahR l _ _ AA h.small AA AA (Tn (aIB _ _))];simp only[AO];show(jl l (Hy l aJ) (Jm l aJ)).bind _=_;rw[aR6 l _ _ AA h.small AA];simp only[AO];unfold aYa;have Z:=zq l (Jm l aJ) (Hy l aJ);show aV _ Ag 0 (⟨Ho aJ,KH l aJ,Hy l aJ,Jm l aJ,Oa l (Hy l aJ) (Jm l aJ)⟩:P9)=_;rw[gQ (Ho aJ) AA (fun v x=>({ v with Last:=Ey v.Last x.Kind x.Key x.Id }:P9)) (fun i v=>v.Same=Ho aJ∧v.Last.length≤(Oa l (Hy l aJ) (Jm l aJ)).length+i) (fun v=>some v) ⟨rfl,Dq _⟩]
 ·congr 1;unfold lastOf oI
  have key:∀(a:List Ah) (v:P9),a.foldl (fun v x=>({ v with Last:=Ey v.Last x.Kind x.Key x.Id }:P9)) v=⟨v.Same,v.Power,v.First,v.Others,a.foldl (fun s x=>Ey s x.Kind x.Key x.Id) v.Last⟩:=by
   intro a
   induction a with
   |nil=>intro v;rfl
   |cons x a q=>intro v;rw[F5,q];rfl
  rw[key]
 ·intro k v i hi j;have u:=Pj v.Last (Ho aJ)[i].Kind (Ho aJ)[i].Key (Ho aJ)[i].Id;refine⟨⟨j.1,by show(Ey _ _ _ _).length≤_;omega⟩,?_⟩;unfold aMh;rw[j.1,dec_lt hi,Bd hi];simp only[Az,AO];rw[aIq _ _ _ _ AA];rfl
 intro k v j;unfold aMh;rw[j.1,Ce];rfl
def apb {l:List AL} {aJ:List (List Ah)} (h:MH l aJ):aJ5 l aJ=some ⟨Ho aJ,KH l aJ,Hy l aJ,Jm l aJ,lastOf l aJ⟩:=by
 have q:=h.len;have u:=kC h;have z:=aFO l (Iq l aJ);have I:=aAK h;have J:=aHP h;have L:=dZ h.states;have ht:=abn h;unfold aJ5;rw[aR7 aJ h.states,abZ l aJ AA h.small.ajT h.states];simp only[AO];rw[acw l _ AA h.small AA];simp only[AO];rw[acF l _ AA h.small AA];simp only[AO];have ha:jl l (Ho aJ) (KH l aJ)=some (Hy l aJ):=aR6 l _ _ AA h.small AA;unfold KH Jv at ha;rw[ha];simp only[AO];rw[aLE _ _ _ AA];simp only[AO];rw[aaL l _ AA h.small];unfold UJ at ht;cases j:(G8 (Hy l aJ) 3 BP).2 with
 |true=>rw[j]at ht;exact ht
 |false=>rw[j]at ht;exact ht
def WU (l:List AL) (aJ:List (List Ah)):List Ah:=match aJ with
 | []=>[]
 | [s]=>s
 |_=>lastOf l aJ
def aUQ {l:List AL} {aJ:List (List Ah)} (h:MH l aJ):eP l aJ=some (WU l aJ):=by
 match aJ,h with
 | [],_=>rfl
 | [s],h=>
   have hs:=(h.states.2 s (EU ..)).1;have j:Af [s] 0=some s:=rfl;show((Af [s] 0).bind fun q=>(C9 32 [] q).bind fun u=>some u)=some s;rw[j];simp only[AO];rw[D6 UE];rfl
 |s::t::aJ,h=>
  unfold eP;have j:(((s::t::aJ).length:Int)==0)=false:=aCP
  have z:(((s::t::aJ).length:Int)==1)=false:=aCP
  rw[j,z,aoC h];rfl
def aYo {l:List AL} {aJ:List (List Ah)} (h:MH l aJ):aE3 l aJ=some (WU l aJ):=by
 match aJ,h with
 | [],_=>rfl
 | [s],_=>rfl
 |s::t::aJ,h=>
  unfold aE3;have j:(((s::t::aJ).length:Int)==0)=false:=aCP
  have q:(((s::t::aJ).length:Int)==1)=false:=aCP
  rw[j,q,apb h];rfl
def apK (l:List AL):dL (aEb l 14) (fun b=>b=false→l.length≤14∧D5 l):=by
 unfold aEb;refine dL.bif (fun _=>.ret fun h=>Gy) fun e=>?_;have hl:l.length≤14:=by have :=Je e;omega
 unfold aV6;refine jF l.length (fuel_lt AA) (fun i=>∀j,(u:j<i)→(z:j<l.length)→Ea l[j]) (fun j u=>AA) ?_ ?_
 ·intro i k hi q I;unfold aKW;rw[Bo hi,wrap_succ i AA];refine(ab5 l[i]).bind fun b J=>dL.bif (fun _=>.ret fun h=>Gy) fun L=>I fun j u z=>?_;by_cases M:j=i
  ·subst M;exact J L
  exact q j AA z
 intro k q;unfold aKW;rw[DC];exact .ret fun _=>⟨hl,aKp fun j h=>q j h h⟩
def ZN (s:List Ah) (k:Int) (key:ByteArray) (id:Int):(⟨k,key,id⟩:Ah)∈Ey s k key id:=by
 unfold Ey;exact jJ _ (EU ..)
def aD7 {s:List Ah} {k:Int} {key:ByteArray} {id:Int} {y:Ah} (z:y∈s) (I:El y ⟨k,key,0⟩=false):y∈Ey s k key id:=by
 unfold Ey;obtain⟨i,hi,rfl⟩:=Fv z;by_cases J:i<Eb s ⟨k,key,0⟩
 ·refine aj _ ?_;rw[aMv];exact⟨i,aKt,by rw[WJ]⟩
 refine jJ _ (FB _ ?_)
 have q:JD s ⟨k,key,0⟩=true→i≠Eb s ⟨k,key,0⟩:=fun j e=>by
  subst e;unfold JD at j;rw[D8 hi]at j;have u:El s[Eb s ⟨k,key,0⟩] ⟨k,key,0⟩=true:=j;rw[I]at u;cases u
 rw[aMv];cases j:JD s ⟨k,key,0⟩with
 |true=>
  have :=q j;refine⟨i-(Eb s ⟨k,key,0⟩+1),by rw[IV];simp only[Az];omega,?_⟩;rw[Xv];simp only[Az];congr 1;omega
 |false=>
  refine⟨i-Eb s ⟨k,key,0⟩,by rw[IV];simp only[Aj];omega,?_⟩;rw[Xv];simp only[Aj];congr 1;omega
def aMF {x:Ah}:∀(a s:List Ah),x∈oI s a→x∈a∨x∈s
 | [],_,h=>.inr h
 |y::a,s,h=>by
  rcases aMF a _ h with h|h
  ·exact .inl (FB _ h)
  rcases QM h with h|h
  ·left;rw[h];cases y;exact EU ..
  exact .inr h
def aTC (l:List AL) (ids:List Int) (x:Ah):Prop:=∃id∈ids,bW l id=true∧GZ (ev l id).Kind=true∧x=⟨(ev l id).Kind,(ev l id).Key,(ev l id).Id⟩
def aP3 {l:List AL} {x:Ah}:∀(ids:List Int) (s:List Ah),x∈Oa l s ids→x∈s∨aTC l ids x
 | [],_,h=>.inl h
 |id::ids,s,h=>by
  rcases aP3 ids _ h with h|⟨j,u,h⟩
  ·have q:x∈bif Rl l s id then Ey s (ev l id).Kind (ev l id).Key (ev l id).Id else s:=h
   cases hm:Rl l s id with
   |false=>rw[hm]at q;exact .inl q
   |true=>
    rw[hm]at q;rcases QM q with q|q
    ·unfold Rl at hm;simp only[CW]at hm;exact .inr ⟨id,EU ..,hm.1,hm.2.1,q⟩
    exact .inl q
  exact .inr ⟨j,FB _ u,h⟩
def agn {l:List AL} {aJ:List (List Ah)} {x:Int} (h:x∈Jv l aJ):x∈Iq l aJ:=(aFN.1 h).1
def aQY {l:List AL} {aJ:List (List Ah)} {x:Ah} (h:x∈lastOf l aJ):x∈Ho aJ∨aTC l (Iq l aJ) x:=by
 unfold lastOf at h;rcases aMF _ _ h with h|h
 ·exact .inl h
 rcases aP3 _ _ h with h|⟨j,q,h⟩
 ·unfold Hy at h;rcases aP3 _ _ h with h|⟨j,q,h⟩
  ·exact .inl h
  exact .inr ⟨j,agn (Lp.1 (aNE _ _ _ q)).1,h⟩
 exact .inr ⟨j,(aLR.1 (amK.1 q).1).1,h⟩
def aWk :∀(a s:List Ah),JB s→JB (oI s a)
 | [],_,h=>h
 |x::a,s,h=>aWk a _ (WA h x.Kind x.Key x.Id)
def aiS {l:List AL} {aJ:List (List Ah)} (h:MH l aJ):JB (lastOf l aJ):=aWk _ _ (aPj (aLt h))
structure IC (l:List AL) (s:List Ah):Prop where
 sorted:JB s
 named:∀x∈s,bW l x.Id=true∧GZ x.Kind=true∧(ev l x.Id).Kind=x.Kind∧(ev l x.Id).Key=x.Key
def IC.nil (l:List AL):IC l []:=⟨List.Pairwise.nil,fun _ h=>absurd h Ei⟩
def IC.nodup {l:List AL} {s:List Ah} (h:IC l s):(s.map (·.Id)).Nodup:=by
 rw[ZH,Yp];refine List.Pairwise.imp_of_mem ?_ h.sorted;intro a b ha j hp e;obtain⟨_,_,q,k2⟩:=h.named a ha;obtain⟨_,_,u,z⟩:=h.named b j;have I:a.Kind=b.Kind:=by rw[←q,←u,e]
 have J:a.Key=b.Key:=by rw[←k2,←z,e]
 rw[dn (NQ.2 ⟨I,J⟩)]at hp;cases hp
def IC.length {l:List AL} {s:List Ah} (h:IC l s):s.length≤l.length:=by
 have :UY l (s.map (·.Id)):=⟨h.nodup,fun x j=>by
  obtain⟨y,q,rfl⟩:=E5.1 j
  exact(h.named y q).1⟩
 have :=this.length
 rwa [CG]at this
def IC.okay {l:List AL} {aJ:List (List Ah)} (hl:l.length≤100) (hs:D5 l) (j:aJ.length≤100) (h:∀s∈aJ,IC l s):MH l aJ:=
 ⟨hl,hs,j,fun s hm=>⟨Ed (h s hm).length hl,(h s hm).sorted⟩⟩
def IC.resolve {l:List AL} {aJ:List (List Ah)} (j:MH l aJ) (h:∀s∈aJ,IC l s):IC l (WU l aJ):=by
 match aJ,j,h with
 | [],_,_=>exact .nil l
 | [s],_,h=>exact h s (EU ..)
 |s::t::aJ,j,h=>
  refine⟨aiS j,fun x I=>?_⟩;rcases aQY I with hm|⟨id,_,z,hst,q⟩
  ·exact(h s (EU ..)).named x ((aUC j.states (aHQ _ _)).1 hm s (EU ..))
  have u:=GH z;have J:x.Id=id:=by rw[q];exact u.2
  rw[J];exact⟨z,by rw[q];exact hst,by rw[q],by rw[q]⟩
def IC.set {l:List AL} {s:List Ah} (h:IC l s) {e:AL} (u:bW l e.Id=true) (q:ev l e.Id=e) (hst:GZ e.Kind=true):IC l (Ey s e.Kind e.Key e.Id):=
 ⟨WA h.sorted _ _ _,fun x j=>by
  rcases QM j with rfl|j
  ·exact⟨u,hst,by rw[q],by rw[q]⟩
  exact h.named x j⟩
def UG (l:List AL) (e:AL):Bool:=e.aU.all (bW l)&&e.aZ.all (bW l)
def QN (l:List AL):Bool:=l.all (UG l)
def ZP {α:Type} {l:List α} {p:α→Bool} {x:α} (h:x∈l) (j:p x=false):l.all p=false:=by
 rw[←PE,DY];exact fun q=>by rw[q x h]at j;cases j
def all_good {α:Type} {l:List α} {p:α→Bool} (h:∀j,(hj:j<l.length)→p l[j]=true):l.all p=true:=DY.2 (aKp h)
def aaJ (j:List Int) (l:List AL) (m:List (Int×Int)) (h:ZE l m) (q:j.length≤1000):yB j m=some (j.all (bW l)):=by
 unfold yB ab4;rw[Gs j (fuel_lt AA) (fun x=> !bW l x) false (some true)]
 ·rw[List.all_eq_not_any_not];cases(j.any fun x=> !bW l x)<;>rfl
 ·intro k i hi;unfold aKI;rw[Bo hi,h.isSome]
 intro k;unfold aKI;rw[DC]
def akc (l:List AL) (hl:l.length≤100) (hs:D5 l):aEW l=some (QN l):=by
 refine dL.eq ?_;unfold aEW;refine(oq l AA).bind fun m hm=>?_;unfold aaT;refine Z8 (body:=aGF l) (Q:=fun b=>b=QN l) (fun n a b=>∃i:Nat,a=i∧i+n=l.length∧b=m∧∀j,(q:j<i)→(hl:j<l.length)→UG l l[j]=true) ?_ Ag l.length 0 m (fuel_lt AA) ⟨0,rfl,AA,rfl,fun j q=>AA⟩;rintro n a b k ⟨i,rfl,L,rfl,z⟩ J;unfold aGF;by_cases hi:i<l.length
 ·have I:=hs l[i] (EJ hi);have M:=I.prev;have O:=I.auth;rw[Bo hi,aaJ _ l b hm AA,AO,Bd hi,AO,aaJ _ l b hm AA];cases hp:l[i].aU.all (bW l)with
  |false=>exact .ret (ZP (EJ hi) (by unfold UG;rw[hp];rfl)).symm
  |true=>
   cases ha:l[i].aZ.all (bW l)with
   |false=>exact .ret (ZP (EJ hi) (by unfold UG;rw[hp,ha];rfl)).symm
   |true=>
    refine J (n-1) _ _ AA ⟨i+1,wrap_succ i AA,AA,rfl,fun j q u=>?_⟩;by_cases e:j=i
    ·subst e;unfold UG;rw[hp,ha];rfl
    exact z j AA u
 have :i=l.length:=AA
 subst this;rw[DC];exact .ret (all_good fun j q=>z j q q).symm
def bH (l:List AL):List Int:=l.foldl (fun r e=>e.aZ.foldl put (e.aU.foldl put r)) []
def akJ {l:List AL} {i:Nat} (hi:i<l.length) (q:List Int→Int→Option (List Int)) (v:List Int) (I:Inc v) (hl:v.length≤900000) (ha:l[i].aZ.length≤40):
 aAB l (i:Int) q v 0=q (l[i].aZ.foldl put v) (Ai ((i:Int)+1)):=by
 unfold aAB;rw[Hu l[i].aZ AA put (fun j a=>Inc a∧a.length≤v.length+j) (fun a=>q a (Ai ((i:Int)+1))) ⟨I,AA⟩]
 ·intro k a j u z;have hp:=l7 a l[i].aZ[j];refine⟨⟨Si z.1,AA⟩,?_⟩;unfold aOo;rw[Bd hi,AO,dec_lt u,Az,AO,Bd u,AO,aIS a _ z.1 AA,AO]
 intro k a _;unfold aOo;rw[Bd hi,AO,Ce];rfl
def amF {l:List AL} {i:Nat} (hi:i<l.length) (q:List Int→Int→Option (List Int)) (v:List Int) (u:Inc v) (hl:v.length≤800000) (hp:l[i].aU.length≤40) (ha:l[i].aZ.length≤40):
 aJ4 l (i:Int) q v 0=q (l[i].aZ.foldl put (l[i].aU.foldl put v)) (Ai ((i:Int)+1)):=by
 unfold aJ4;rw[Hu l[i].aU AA put (fun j a=>Inc a∧a.length≤v.length+j) (fun a=>aAB l (i:Int) q a 0) ⟨u,AA⟩]
 ·have h:=iw l[i].aU v;exact akJ hi q _ (aCd u) AA ha
 ·intro k a j z I;have hp:=l7 a l[i].aU[j];refine⟨⟨Si I.1,AA⟩,?_⟩;unfold aOy;rw[Bd hi,AO,dec_lt z,Az,AO,Bd z,AO,aIS a _ I.1 AA,AO]
 intro k a _;unfold aOy;rw[Bd hi,AO,Ce];rfl
def aAL :∀(l:List AL) (r:List Int),Inc r→(∀e∈l,e.aU.length≤40∧e.aZ.length≤40)→
 Inc (l.foldl (fun r e=>e.aZ.foldl put (e.aU.foldl put r)) r)∧(l.foldl (fun r e=>e.aZ.foldl put (e.aU.foldl put r)) r).length≤r.length+l.length*80∧
 ∀x,x∈l.foldl (fun r e=>e.aZ.foldl put (e.aU.foldl put r)) r↔x∈r∨∃e∈l,x∈e.aU∨x∈e.aZ
 | [],r,h,_=>⟨h,BF,fun x=>BF⟩
 |e::l,r,h,hs=>by
  have I:=hs e (EU ..);obtain⟨q,J,u⟩:=aAL l (e.aZ.foldl put (e.aU.foldl put r)) (aCd (aCd h)) fun x z=>hs x (FB _ z);have L:=iw e.aU r;have M:=iw e.aZ (e.aU.foldl put r);rw[F5];refine⟨q,by rw[G7];omega,fun x=>(u x).trans ?_⟩;rw[aK1,aK1];constructor
  ·rintro(((h|h)|h)|⟨y,j,h⟩)
   ·exact .inl h
   ·exact .inr ⟨e,EU ..,.inl h⟩
   ·exact .inr ⟨e,EU ..,.inr h⟩
   exact .inr ⟨y,FB _ j,h⟩
  rintro(h|⟨y,j,h⟩)
  ·exact .inl (.inl (.inl h))
  rcases EX.1 j with rfl|j
  ·exact h.elim (fun h=>.inl (.inl (.inr h))) fun h=>.inl (.inr h)
  exact .inr ⟨y,j,h⟩
def D5.lists {l:List AL} (hs:D5 l):∀e∈l,e.aU.length≤40∧e.aZ.length≤40:=fun e j=>⟨(hs e j).prev,(hs e j).auth⟩
def akj {l:List AL} {i:Nat} (h:i<l.length):(l.take (i+1)).foldl (fun r e=>e.aZ.foldl put (e.aU.foldl put r)) ([]:List Int)=l[i].aZ.foldl put (l[i].aU.foldl put ((l.take i).foldl (fun r e=>e.aZ.foldl put (e.aU.foldl put r)) [])):=by
 rw[Tc,D8 h,RH,TY];rfl
def af4 (l:List AL) (hl:l.length≤1000) (hs:D5 l):aGJ l=some (bH l):=by
 unfold aGJ abD;refine dL.eq (J5 l.length (fuel_lt AA) (fun i a=>a=(l.take i).foldl (fun r e=>e.aZ.foldl put (e.aU.foldl put r)) []) rfl (fun i a k hi ha q=>?_) fun a k ha=>?_)
 ·subst ha;obtain⟨u,j,_⟩:=aAL (l.take i) [] .nil fun e z=>hs.lists e (YC z);have hp:=hs.lists l[i] (EJ hi);unfold aG9;rw[dec_lt hi,Az,amF hi k _ u (by rw[FD]at j;simp only[LY]at j;omega) hp.1 hp.2,wrap_succ i AA];exact q _ (akj hi).symm
 unfold aG9;rw[Ce];refine .ret ?_;rw[ha,FV];rfl
def akW {l:List AL} (hs:D5 l):(bH l).length≤l.length*80:=by
 have :=(aAL l [] .nil hs.lists).2.1;unfold bH;simpa using this
def aWt {l:List AL} (hs:D5 l) {x:Int}:x∈bH l↔∃e∈l,x∈e.aU∨x∈e.aZ:=by
 have :=(aAL l [] .nil hs.lists).2.2 x;unfold bH;rw[this];simp
def amD {l:List AL}:QN l=true↔∀e∈l,(∀x∈e.aU,bW l x=true)∧∀x∈e.aZ,bW l x=true:=by
 unfold QN UG;simp only[DY,CW]
def ac6 (l:List AL) (hl:l.length≤1000) (hs:D5 l):aJH l=some (QN l):=by
 have M:=akW hs;unfold aJH;rw[af4 l hl hs,AO,aLV l _ hl AA,AO];refine Aq some ?_;rw[Jq,amD];constructor
 ·intro h e q;have u:YL l (bH l)=[]:=Gf aNr
  have key:∀x,x∈e.aU∨x∈e.aZ→bW l x=true:=fun x j=>by
   cases I:bW l x with
   |true=>rfl
   |false=>have :=aMP.2 ⟨(aWt hs).2 ⟨e,q,j⟩,I⟩;rw[u]at this;cases this
  exact⟨fun x j=>key x (.inl j),fun x j=>key x (.inr j)⟩
 intro h
 have u:YL l (bH l)=[]:=List.eq_nil_iff_forall_not_mem.2 fun x j=>by
  obtain⟨J,z⟩:=aMP.1 j;obtain⟨e,q,L⟩:=(aWt hs).1 J;rw[L.elim ((h e q).1 x) ((h e q).2 x)]at z;cases z
 rw[u];rfl
def jy (l:List AL):Prop:=∀e∈l,1≤e.Depth∧e.Depth≤100000
def FQ (l:List AL) (x:Int):Int:=(Fz l x).1.Depth
def NP (l:List AL) (e:AL):Bool:=e.aZ.all (fun x=>decide (FQ l x<e.Depth))&&bif (e.aU.length:Int)==0 then e.Depth==1 else e.aU.all (fun x=>decide (FQ l x<e.Depth))&&e.aU.any fun x=>FQ l x==e.Depth-1
def H6 (l:List AL):Int:=bif QN l then bif l.all (NP l)then 0 else 15 else 14
def aYL {l:List AL} (h:jy l) (x:Int):0≤FQ l x∧FQ l x≤100000:=by
 unfold FQ Fz;cases j:Dw l x with
 |none=>exact⟨Yk 0,BK⟩
 |some e=>have :=h e (I9 j);exact⟨by show 0≤e.Depth;omega,this.2⟩
def aPZ (a b:Int):decide (a≥b)= !decide (a<b):=by by_cases h:a<b<;>simp[h];omega
def wO {α:Type} (l:List α) (p:α→Bool):l.any (fun x=> !p x)= !l.all p:=by rw[List.all_eq_not_any_not,qP]
def amj (l:List AL) (e:AL) (hl:l.length≤1000) (M:Ea e) (hd:jy l) (O:1≤e.Depth∧e.Depth≤100000):aHT l e=some (NP l e):=by
 have h1:=M.prev;have h2:=M.auth;have w:Ai (e.Depth-1)=e.Depth-1:=NG AA AA
 have z:aCf e l ((e.aU.length:Int)==0) 0=some (bif (e.aU.length:Int)==0 then true else e.aU.all (fun x=>decide (FQ l x<e.Depth))&&e.aU.any fun x=>FQ l x==e.Depth-1):=by
  unfold aCf;refine dL.eq (J5 e.aU.length (fuel_lt AA) (fun i a=>(∀j,(u:j<i)→(hl:j<e.aU.length)→decide (FQ l e.aU[j]<e.Depth)=true)∧a=(((e.aU.length:Int)==0)||(e.aU.take i).any fun x=>FQ l x==e.Depth-1)) ⟨fun j u=>AA,BF⟩ (fun i a k hi ha U=>?_) fun a k ha=>?_)
  ·have Y:((e.aU.length:Int)==0)=false:=by simp;intro Z;rw[Z]at hi;simp at hi
   unfold aNG;rw[Bo hi,KR l _ AA,AO,aPZ];refine dL.bif (fun q=>.ret ?_) fun q=>?_
   ·have q:decide (FQ l e.aU[i]<e.Depth)=false:=by unfold FQ;simpa using q
    rw[Y,ZP (EJ hi) q];rfl
   have q:decide (FQ l e.aU[i]<e.Depth)=true:=by unfold FQ;simpa using q
   rw[show(bif a then some true else some ((Fz l e.aU[i]).1.Depth==Ai (e.Depth-1)))=some (a||(FQ l e.aU[i]==e.Depth-1)) by rw[w];cases a<;>rfl,AO,wrap_succ i AA];refine U _ ⟨fun j u I=>?_,?_⟩
   ·by_cases ej:j=i
    ·subst ej;exact q
    exact ha.1 j AA I
   rw[ha.2,Tc,D8 hi,RH,aMV,Bool.or_assoc];simp
  unfold aNG;rw[DC];refine .ret ?_;rw[ha.2,FV,all_good fun j u=>ha.1 j u u];cases((e.aU.length:Int)==0)<;>simp
 unfold aHT
 have J:aHt e l 0=some (e.aZ.all (fun x=>decide (FQ l x<e.Depth))&&(bif (e.aU.length:Int)==0 then true else e.aU.all (fun x=>decide (FQ l x<e.Depth))&&e.aU.any fun x=>FQ l x==e.Depth-1)):=by
  unfold aHt;rw[Gs e.aZ (fuel_lt AA) (fun x=> !decide (FQ l x<e.Depth)) false (aCf e l ((e.aU.length:Int)==0) 0)]
  ·rw[z,wO];cases e.aZ.all (fun x=>decide (FQ l x<e.Depth))<;>rfl
  ·intro k i hi;unfold aM7;rw[Bo hi,KR l _ AA,AO,aPZ];rfl
  intro k;unfold aM7;rw[DC]
 rw[J];unfold NP;have L:(e.Depth != 1)= !(e.Depth==1):=rfl;rw[L];cases((e.aU.length:Int)==0)<;>cases(e.Depth==1)<;>cases e.aZ.all (fun x=>decide (FQ l x<e.Depth))<;>rfl
def aH1 {l:List AL} {m:List (Int×Int)} (h:ZE l m) {x:Int} (j:bW l x=true):∃e,Af l ((CB m x).getD 0)=some e∧e.Depth=FQ l x:=⟨_,h.get (GH j).1,rfl⟩
def ak2 (p:List Int) (f:Int→Int) (d a:Int) (j:∃y∈p,f y=a) (ha:∀y∈p,f y≤a):(p.all (fun x=>decide (f x<d))&&p.any fun x=>f x==d-1)=bif decide (d>a)then d-a==1 else false:=by
 obtain⟨y,j,e⟩:=j;by_cases h:d>a
 ·have z:p.all (fun x=>decide (f x<d))=true:=DY.2 fun x q=>by have :=ha x q;simp;omega
  rw[z,GL,Gi h,Az,Jq,Gn];constructor
  ·rintro⟨x,q,u⟩;have :=ha x q;have :=eq_of_beq u;simp;omega
  intro u;have :=eq_of_beq u;exact⟨y,j,Dh⟩
 rw[H7 h,Aj,ZP j Dh];rfl
def adn (l:List AL) (m:List (Int×Int)) (e:AL) (hm:ZE l m) (U:Ea e) (J:UG l e=true) (hd:jy l) (Y:1≤e.Depth∧e.Depth≤100000):aEa l m e=some (NP l e,m):=by
 have h1:=U.prev;have h2:=U.auth;unfold UG at J;simp only[CW,DY]at J;unfold aEa aUp;rw[Gs e.aZ (fuel_lt AA) (fun x=> !decide (FQ l x<e.Depth)) (false,m) (some ((bif (e.aU.length:Int)==0 then e.Depth==1 else e.aU.all (fun x=>decide (FQ l x<e.Depth))&&e.aU.any fun x=>FQ l x==e.Depth-1),m))]
 ·rw[wO];unfold NP;cases e.aZ.all (fun x=>decide (FQ l x<e.Depth))<;>rfl
 ·intro k i hi;unfold aH9;obtain⟨x,O,q⟩:=aH1 hm (J.2 _ (EJ hi));rw[Bo hi,O,AO,aPZ,q]
 intro k;unfold aH9;rw[DC];cases u:((e.aU.length:Int)==0)with
 |true=>rfl
 |false=>
  have hp:0<e.aU.length:=by
   rcases WT e.aU.length with h|h
   ·rw[h]at u;cases u
   exact h
  obtain⟨x,O,q⟩:=aH1 hm (J.1 _ (EJ hp));have Z:Af e.aU 0=some e.aU[0]:=Bd (i:=0) hp;rw[Aj,Aj,Z,AO,O,AO,q];unfold aWg;refine dL.eq (J5 e.aU.length (fuel_lt AA) (fun i a=>(0≤a∧a≤100000)∧(∃y∈e.aU,FQ l y=a)∧∀y∈e.aU.take i,FQ l y≤a) ⟨aYL hd _,⟨_,EJ hp,rfl⟩,fun y L=>by simp at L⟩ (fun i a k2 hi ha hk=>?_) fun a k2 ha=>?_)
  ·unfold aOx;obtain⟨y,L,I⟩:=aH1 hm (J.1 _ (EJ hi));have hb:=aYL hd e.aU[i];rw[Bo hi,L,AO,wrap_succ i AA,I]
   have M:QE a (FQ l e.aU[i])=a∧FQ l e.aU[i]≤a∨QE a (FQ l e.aU[i])=FQ l e.aU[i]∧a≤FQ l e.aU[i]:=by
    unfold QE;by_cases h:FQ l e.aU[i]>a
    ·rw[Gi h];exact .inr ⟨rfl,AA⟩
    rw[H7 h];exact .inl ⟨rfl,AA⟩
   refine hk _ ⟨AA,?_,fun z u=>?_⟩
   ·rcases M with h|h
    ·rw[h.1];exact ha.2.1
    rw[h.1];exact⟨_,EJ hi,rfl⟩
   rw[Tc,D8 hi,RH,Hd,IY]at u;rcases u with u|rfl
   ·have :=ha.2.2 z u;omega
   omega
  obtain⟨hb,⟨y,L,I⟩,j⟩:=ha;rw[FV]at j;unfold aOx;rw[DC,NG AA AA,ak2 e.aU (FQ l) e.Depth a ⟨y,L,I⟩ j];cases decide (e.Depth>a)<;>exact .ret rfl
def ako (l:List AL) (hl:l.length≤100) (hs:D5 l) (hd:jy l):aEI l=some (H6 l):=by
 unfold aEI H6;rw[akc l hl hs,AO];cases L:QN l with
 |false=>rfl
 |true=>
  have M:∀e∈l,UG l e=true:=DY.1 L;refine dL.eq ((oq l AA).bind fun m hm=>?_);unfold aX2;refine Z8 (body:=aLA l) (Q:=fun b=>b=bif l.all (NP l)then 0 else 15) (fun n a b=>∃i:Nat,a=i∧i+n=l.length∧b=m∧∀j,(u:j<i)→(hl:j<l.length)→NP l l[j]=true) ?_ Ag l.length 0 m (fuel_lt AA) ⟨0,rfl,AA,rfl,fun j u=>AA⟩;rintro n a b k ⟨i,rfl,U,rfl,I⟩ O;unfold aLA;by_cases hi:i<l.length
  ·have q:=EJ hi;rw[Bo hi,adn l b l[i] hm (hs _ q) (M _ q) hd (hd _ q),AO];cases J:NP l l[i]with
   |false=>exact .ret (by rw[ZP q J];rfl)
   |true=>
    refine O (n-1) _ _ AA ⟨i+1,wrap_succ i AA,AA,rfl,fun j u z=>?_⟩;by_cases e:j=i
    ·subst e;exact J
    exact I j AA z
  have :i=l.length:=AA
  subst this;rw[DC];exact .ret (by rw[all_good fun j u=>I j u u];rfl)
def aTh (l:List AL) (hl:l.length≤100) (hs:D5 l) (hd:jy l):aH6 l=some (H6 l):=by
 unfold aH6 H6;rw[ac6 l AA hs,AO];cases M:QN l with
 |false=>rfl
 |true=>
  show aKb l 0=_;unfold aKb;refine dL.eq (jF l.length (fuel_lt AA) (fun i=>∀j,(u:j<i)→(hl:j<l.length)→NP l l[j]=true) (fun j u=>AA) (fun i k hi z L=>?_) fun k z=>?_)
  ·have q:=EJ hi;unfold aJD;rw[Bo hi,amj l l[i] AA (hs _ q) hd (hd _ q),AO,wrap_succ i AA];cases J:NP l l[i]with
   |false=>exact .ret (by rw[ZP q J];rfl)
   |true=>
    refine L fun j u I=>?_;by_cases e:j=i
    ·subst e;exact J
    exact z j AA I
  unfold aJD;rw[Ce];exact .ret (by rw[all_good fun j u=>z j u u];rfl)
section
variable {α β R : Type} {lt : α → α → Bool}
def Ji (lt:α→α→Bool) (A:List α) (x:α):List α:=(A.reverse.dropWhile (lt x)).reverse++x::(A.reverse.takeWhile (lt x)).reverse
def aPz {A:List α} {a x:α} (h:lt x a=true):Ji lt (A++[a]) x=Ji lt A x++[a]:=by
 unfold Ji;rw[aJ9,List.reverse_singleton,List.singleton_append,aXR h,List.takeWhile_cons_of_pos h,List.reverse_cons,Hw];rfl
def aUz {A:List α} {a x:α} (h:lt x a=false):Ji lt (A++[a]) x=A++a::[x]:=by
 have h':¬lt x a=true:=by rw[h];simp
 unfold Ji;rw[aJ9,List.reverse_singleton,List.singleton_append,aQy h',List.takeWhile_cons_of_neg h'];simp
def anA (A:List α) (x:α):(Ji lt A x).length=A.length+1:=by
 unfold Ji;have :=Aq List.length (nE (p:=lt x) (l:=A.reverse));simp only[EI,List.length_reverse,G7]at this ⊢;omega
def aW7 (A:List α) (x:α):(Ji lt A x).Perm (x::A):=by
 unfold Ji;refine aA4.trans (List.Perm.cons x ?_);rw[←aJ9,nE,List.reverse_reverse]
def agQ {lt':β→β→Bool} {f:α→β} (h:∀x a,lt x a=lt' (f x) (f a)) (A:List α) (x:α):(Ji lt A x).map f=Ji lt' (A.map f) (f x):=by
 have e:lt x=lt' (f x)∘f:=funext fun a=>h x a;unfold Ji;have j:(A.map f).reverse=A.reverse.map f:=aPO.symm;rw[j,List.dropWhile_map,List.takeWhile_map,KL,Ip,aPO,aPO,e]
def aTw {lt':β→β→Bool} {f:α→β} (h:∀x a,lt x a=lt' (f x) (f a)):∀(l A:List α),(l.foldl (Ji lt) A).map f=(l.map f).foldl (Ji lt') (A.map f)
 | [],A=>rfl
 |x::l,A=>by rw[F5,aTw h l,Ip,F5,agQ h]
def aFE :∀(l A:List α),(l.foldl (Ji lt) A).length=A.length+l.length
 | [],A=>rfl
 |x::l,A=>by rw[F5,aFE l,anA,G7];omega
def aXY :∀(l A:List α),(l.foldl (Ji lt) A).Perm (A++l)
 | [],A=>by rw[Oe];exact .refl _
 |x::l,A=>by
  rw[F5];exact(aXY l (Ji lt A x)).trans (((aW7 A x).append_right l).trans (aA4 (l₁:=A) (l₂:=l) (a:=x)).symm)
def aA5 (A:List α) (x:α) (B:List α):Af (A++x::B) (A.length:Int)=some x:=by rw[aDf];simp
def aKY (A:List α) (a x:α) (B:List α):Af (A++a::x::B) ((A.length+1:Nat):Int)=some x:=by rw[aDf];simp
def set_mid (A:List α) (x y:α) (B:List α):(A++x::B).set A.length y=A++y::B:=BF
def aTU (A:List α) (a x y:α) (B:List α):(A++a::x::B).set (A.length+1) y=A++a::y::B:=by
 have :=set_mid (A++[a]) x y B;simpa using this
def bubble {body:(Int→List α→Option R)→Int→List α→Option R} (j:List α→Option R) (N:Nat) (U:∀k x B,(x::B).length=N→body k 0 (x::B)=j (x::B))
 (hs:∀k A a x B,(A++a::x::B).length=N→body k ((A.length+1:Nat):Int) (A++a::x::B)=bif lt x a then k (A.length:Int) (A++x::a::B)else j (A++a::x::B)):
 ∀n (A:List α) (x:α) (B:List α),A.length=n→(A++x::B).length=N→∀m,n<m→aV body m (A.length:Int) (A++x::B)=j (Ji lt A x++B):=by
 intro n
 induction n with
 |zero=>
  intro A x B I J m hm;obtain⟨m,rfl⟩:∃L,m=L+1:=⟨m-1,AA⟩
  obtain rfl:=Gf I;exact U _ x B J
 |succ n Y=>
  intro A x B I J m hm;obtain⟨m,rfl⟩:∃L,m=L+1:=⟨m-1,AA⟩
  have q:A≠[]:=fun e=>by subst e;cases I
  obtain⟨A',a,rfl⟩:∃A' a,A=A'++[a]:=⟨A.dropLast,A.getLast q,(List.dropLast_concat_getLast q).symm⟩
  have M:A'.length=n:=SV
  have O:A'++[a]++x::B=A'++a::x::B:=BF
  have u:(A'++a::x::B).length=N:=by rw[←O];exact J
  have Z:(A'++[a]).length=A'.length+1:=BF
  rw[O,Z];show body (aV body m) _ _=_;rw[hs _ A' a x B u];cases z:lt x a with
  |true=>
   rw[Az,Y A' x (a::B) M (by simp at u ⊢;omega) m AA,aPz z];simp
  |false=>rw[Aj,aUz z];simp
end
def GN (a b:AL):Bool:=decide (a.Depth<b.Depth)||((a.Depth==b.Depth)&&decide (a.Id<b.Id))
def TW (l:List AL):List AL:=l.foldl (Ji GN) []
def GV (l:List AL):List Int:=(TW l).map (·.Id)
def aPd (l:List AL):(TW l).length=l.length:=by unfold TW;rw[aFE];simp
def aJK (l:List AL):(TW l).Perm l:=by have :=aXY (lt:=GN) l [];rwa [II]at this
def alN (a b:AL):aJj a b=some (GN a b):=by
 unfold aJj GN;cases decide (a.Depth<b.Depth)<;>cases(a.Depth==b.Depth)<;>rfl
def aaj {α β:Type} {f:β→α→β} {b:β} {l:List α} {i:Nat} (h:i<l.length):(l.take (i+1)).foldl f b=f ((l.take i).foldl f b) l[i]:=by
 rw[Tc,D8 h,RH,TY];rfl
def map_take {α β:Type} {f:α→β} {l:List α} {i:Nat} (h:i<l.length):(l.take (i+1)).map f=(l.take i).map f++[f l[i]]:=by
 rw[Tc,D8 h,RH,KL];rfl
def adV (l:List AL) (hl:l.length≤1000000):aKi l=some (l.map (·.Id)):=by
 unfold aKi aRp;refine dL.eq (J5 l.length (fuel_lt AA) (fun i a=>a=(l.take i).map (·.Id)) rfl (fun i a k hi ha j=>?_) fun a k ha=>?_)
 ·unfold aM1;have hlen:a.length≤i:=gZ
  rw[Bo hi,D6 Fa,AO,wrap_succ i AA];exact j _ vU
 unfold aM1;rw[DC];exact .ret ZQ
def adg (l:List AL) (hl:l.length≤1000):aOS l=some (GV l):=by
 unfold aOS aTD;refine dL.eq (J5 l.length (fuel_lt AA) (fun i a=>a=(l.take i).foldl (Ji GN) []) rfl (fun i a k hi ha u=>?_) fun a k ha=>?_)
 ·have hlen:a.length=i:=by rw[ha,aFE,FD];simp;omega
  unfold aJz;rw[Bo hi,D6 Fa,AO];unfold aRM;have j:=bubble (lt:=GN) (body:=aDF k (i:Int)) (fun v=>k v ((i+1:Nat):Int)) (i+1) (fun k2 x B q=>?_) (fun k2 A b x B q=>?_) i a l[i] [] hlen Dh Ag (fuel_lt AA)
  ·rw[hlen]at j;rw[j,Oe];exact u _ (by rw[aaj hi,ha])
  ·unfold aDF zi;rw[wrap_succ i AA];rfl
  have hA:A.length+2≤i+1:=by rw[←q];simp
  have z:Ai (((A.length+1:Nat):Int)-1)=(A.length:Int):=QH
  unfold aDF zi;rw[Gi (show((A.length+1:Nat):Int)>0 by omega),Az,aKY,AO,z,aA5,AO,alN,AO,wrap_succ i AA];cases GN x b with
  |false=>rfl
  |true=>
   simp only[Az,AO,Us];rw[aTU,aA5,AO,set_mid]
 unfold aJz;rw[Ce,Aj];have e:a=TW l:=by rw[ha,FV];rfl
 rw[e,adV _ (by rw[aPd];omega)];exact .ret rfl
def nZ (e:AL):SA:=⟨e.Depth,e.Id⟩
def iI (a b:SA):Bool:=decide (a.oQ<b.oQ)||((a.oQ==b.oQ)&&decide (a.ni<b.ni))
def ak0 (a x:SA):(bif decide (a.oQ<x.oQ)then some true else(bif (a.oQ==x.oQ)then some (decide (a.ni≤x.ni))else some false).bind fun j=>some j)=some (!iI x a):=by
 unfold iI;by_cases q:a.oQ<x.oQ
 ·rw[Gi q,Az,H7 AA,show(x.oQ==a.oQ)=false by simp;omega];rfl
 rw[H7 q,Aj];by_cases u:a.oQ=x.oQ
 ·rw[u,H7 (show ¬x.oQ<x.oQ by omega)];simp only[KI,Az,AO,NJ,GL];by_cases z:a.ni≤x.ni
  ·rw[Gi z,H7 AA];rfl
  rw[H7 z,Gi AA];rfl
 rw[show(a.oQ==x.oQ)=false by simpa using u,Gi (show x.oQ<a.oQ by omega)];rfl
def adb (l:List AL) (hl:l.length≤1000):aEV l=some (GV l):=by
 have J:Ia 16 aFo 0 (l.length:Int)=some []:=aU0
 unfold aEV;rw[J,AO];unfold aak;refine dL.eq (J5 l.length (fuel_lt AA) (fun i a=>a=((l.take i).map nZ).foldl (Ji iI) []) rfl (fun i a k hi ha L=>?_) fun a k ha=>?_)
 ·have hlen:a.length=i:=by rw[ha,aFE,CG,FD];simp;omega
  unfold aPC;rw[Bo hi,Bd hi,AO,D6 Fa,AO];unfold aXa;have M:Ai (((a++[(⟨l[i].Depth,l[i].Id⟩:SA)]).length:Int)-1)=(a.length:Int):=aLd
  rw[M];have O:=bubble (lt:=iI) (body:=qw k (i:Int)) (fun v=>k v ((i+1:Nat):Int)) (i+1) (fun k2 x B u=>?_) (fun k2 A b x B u=>?_) i a (nZ l[i]) [] hlen Dh Ag (fuel_lt AA)
  ·show dL (aV (qw k (i:Int)) Ag (a.length:Int) (a++[nZ l[i]])) _;rw[O,Oe];exact L _ (by rw[map_take hi,TY,ha];rfl)
  ·unfold qw tq;rw[wrap_succ i AA];rfl
  have hA:A.length+2≤i+1:=by rw[←u];simp
  have U:Ai (((A.length+1:Nat):Int)-1)=(A.length:Int):=QH
  unfold qw tq;rw[Gi (show((A.length+1:Nat):Int)>0 by omega),Az,U,aA5,AO,aKY,AO,ak0,AO,wrap_succ i AA];cases iI x b with
  |false=>rfl
  |true=>
   simp only[EF,Aj,Az,AO,Us];rw[set_mid,aKY,AO,aTU]
 unfold aPC;rw[DC];have e:a=(TW l).map nZ:=by rw[ha,FV];exact(aTw (lt:=GN) (lt':=iI) (f:=nZ) (fun _ _=>rfl) l []).symm
 have Y:a.length=l.length:=by rw[e,CG,aPd]
 have Z:Ia 8 0 (a.length:Int) (a.length:Int)=some (List.replicate a.length (0:Int)):=by unfold Ia;rw[CS ⟨AA,Yk _,AA⟩];simp
 have e2:GV l=a.map (·.ni):=by rw[e,Uh];rfl
 rw[Z,AO,e2];unfold aVg;refine QU (body:=aLT a) (Q:=fun r=>r=a.map (·.ni)) (fun n (x:Int) (o:List Int) (p:List SA)=>∃i:Nat,x=i∧i+n=a.length∧o=(a.take i).map (·.ni)++List.replicate (a.length-i) 0∧p=a) ?_ Ag a.length 0 (List.replicate a.length 0) a (fuel_lt AA) ⟨0,rfl,AA,BF,rfl⟩;rintro n x o p k2 ⟨i,rfl,hn,I,rfl⟩ q;unfold aLT;by_cases hi:i<p.length
 ·have hm:((p.take i).map (·.ni)).length=i:=by rw[CG,FD];omega
  obtain⟨z,hz⟩:∃z,p.length-i=z+1:=⟨p.length-i-1,AA⟩
  have j:o=(p.take i).map (·.ni)++0::List.replicate z 0:=by rw[I,hz,List.replicate_succ]
  have g2:Af o (i:Int)=some 0:=by have :=aA5 ((p.take i).map (·.ni)) 0 (List.replicate z 0);rw[hm]at this;rw[j];exact this
  have s2:o.set i p[i].ni=(p.take i).map (·.ni)++p[i].ni::List.replicate z 0:=by have :=set_mid ((p.take i).map (·.ni)) 0 p[i].ni (List.replicate z 0);rw[hm]at this;rw[j];exact this
  rw[Bo hi,g2,AO];refine q (n-1) _ _ _ AA ⟨i+1,wrap_succ i AA,AA,?_,rfl⟩;rw[Us,s2,map_take hi,show p.length-(i+1)=z by omega];simp
 have :i=p.length:=AA
 subst this;rw[DC];exact .ret (by rw[I];simp)
def Il (l:List AL) (x y:Int):Bool:=bW l y&&(y != x&&D9 (ev l y).aU x)
def Fr (l:List AL) (ids:List Int):List Int:=(EG ids).filter fun x=> !ids.any (Il l x)
def afB {α:Type} {a b:List α} (p:α→Bool) (h:∀x,x∈a↔x∈b):a.any p=b.any p:=by
 rw[Jq,Gn,Gn];exact⟨fun⟨x,j,k⟩=>⟨x,(h x).1 j,k⟩,fun⟨x,j,k⟩=>⟨x,(h x).2 j,k⟩⟩
def ajM (ids:List Int) (p:Int→Bool):EG (ids.filter p)=(EG ids).filter p:=
 Ak (Jo _) ((Jo ids).sublist Qp) fun x=>by rw[IQ,FU,FU,IQ]
def Y2 (l:List AL) (ids:List Int):(Fr l ids).length≤ids.length:=Ed (JH _ _) (KJ ids)
def xP {α:Type} {p:α→Bool} {l:List α} {i:Nat} (h:i<l.length):(l.take (i+1)).filter p=(l.take i).filter p++bif p l[i]then[l[i]]else[]:=by
 rw[Tc,D8 h,RH,Ol];cases hp:p l[i]<;>simp[hp]
def sS {α:Type} {p:α→Bool} {l:List α} {i:Nat} (h:i<l.length):(l.take (i+1)).any p=((l.take i).any p||p l[i]):=by
 rw[Tc,D8 h,RH,aMV];simp
def aUW (l:List AL) (ids:List Int) (hl:l.length≤100) (hs:D5 l) (hi0:ids.length≤1000):nP l ids=some (Fr l ids):=by
 unfold nP;refine dL.eq ((oq l AA).bind fun m hm=>?_);unfold aUs;refine QU (body:=aKM ids l) (Q:=fun r=>r=Fr l ids) (fun n a b c=>∃i:Nat,a=i∧i+n=ids.length∧b=m∧∀x,(CB c x).getD false=(ids.take i).any (Il l x)) ?_ Ag ids.length 0 m [] (fuel_lt AA) ⟨0,rfl,AA,rfl,fun x=>rfl⟩;rintro n a b c k ⟨i,rfl,hn,rfl,M⟩ O;unfold aKM;by_cases hi:i<ids.length
 ·have hj:∀Y,(∀x,(CB Y x).getD false=((ids.take i).any (Il l x)||Il l x ids[i]))→dL (aDh k (i:Int) b Y) (fun r=>r=Fr l ids):=fun Y h8=>O (n-1) _ _ _ AA ⟨i+1,wrap_succ i AA,AA,rfl,fun x=>by rw[h8,sS hi]⟩;rw[Bo hi,hm.isSome];cases q:bW l ids[i]with
  |false=>exact hj c fun x=>by rw[M];unfold Il;rw[q];simp
  |true=>
   obtain⟨hg,_⟩:=GH q;rw[hm.get hg,AO];have hp:=(hs _ (I9 hg)).prev;simp only[EF,Aj];unfold aYc;refine QU (body:=aOA (ev l ids[i]) ids[i] k (i:Int)) (Q:=fun r=>r=Fr l ids) (fun U a2 b2 c2=>∃j:Nat,a2=j∧j+U=(ev l ids[i]).aU.length∧b2=b∧∀x,(CB c2 x).getD false=((ids.take i).any (Il l x)||(ids[i] != x&&D9 ((ev l ids[i]).aU.take j) x))) ?_ Ag (ev l ids[i]).aU.length 0 b c (fuel_lt AA) ⟨0,rfl,AA,rfl,fun x=>by rw[M,vw];unfold D9;simp⟩;rintro U a2 b2 c2 k2 ⟨j,rfl,hn2,rfl,u⟩ z;unfold aOA;by_cases I:j<(ev l ids[i]).aU.length
   ·have J:∀x,D9 ((ev l ids[i]).aU.take (j+1)) x=(D9 ((ev l ids[i]).aU.take j) x||(x==(ev l ids[i]).aU[j])):=fun x=>by
     rw[Jq,XJ,JY,JY,Tc,D8 I,RH,Hd,IY,Lm]
    rw[Bo I];cases L:(ev l ids[i]).aU[j] != ids[i]with
    |true=>
     refine z (U-1) _ _ _ AA ⟨j+1,wrap_succ j AA,AA,rfl,fun x=>?_⟩;rw[Qw,J];cases Z:x==(ev l ids[i]).aU[j]with
     |true=>
      have e:=eq_of_beq Z;subst e;rw[show(ids[i] != (ev l ids[i]).aU[j])=true by rw[bne_comm];exact L];simp
     |false=>rw[Aj,u,LC]
    |false=>
     refine z (U-1) _ _ _ AA ⟨j+1,wrap_succ j AA,AA,rfl,fun x=>?_⟩;rw[J,u];have e:(ev l ids[i]).aU[j]=ids[i]:=Vm
     rw[e];cases Z:x==ids[i]with
     |false=>simp
     |true=>have e2:=eq_of_beq Z;subst e2;simp
   have :j=(ev l ids[i]).aU.length:=AA
   subst this;rw[DC];exact hj _ fun x=>by rw[u,FV];unfold Il;rw[q];rfl
 have :i=ids.length:=AA
 subst this;rw[DC];unfold aVe;rw[FV]at M;refine J5 ids.length (fuel_lt AA) (fun i a=>a=(ids.take i).filter fun x=> !ids.any (Il l x)) rfl (fun i a k2 hi ha O=>?_) fun a k2 ha=>?_
 ·have hal:a.length≤i:=aHH
  unfold aMt zB;rw[Bo hi,wrap_succ i AA,M];have hf:=xP (p:=fun x=> !ids.any (Il l x)) hi;cases hb:ids.any (Il l ids[i])with
  |true=>exact O _ (by rw[hf,ha,hb];simp)
  |false=>
   simp only[Io,Az];rw[D6 Fa,AO];exact O _ (by rw[hf,ha,hb];rfl)
 have hal:a.length≤ids.length:=aHH
 unfold aMt;rw[DC,Xn _ AA];exact .ret (by rw[ha,FV,ajM];rfl)
def ajU {l:List Int} (h:Inc l) {i j:Nat} (hi:i<l.length) (u:j<l.length) (e:l[i]=l[j]):i=j:=by
 rcases jH i j with q|q|q
 ·have :=IW.1 h i j hi u q;omega
 ·exact q
 have :=IW.1 h j i u hi q;omega
def aWN (l:List AL) (ids:List Int) (hl:l.length≤1000) (hs:D5 l) (hi0:ids.length≤1000):aIc l ids=some (Fr l ids):=by
 have I:=Jo ids;have hlen:=KJ ids;have J:∀x,(EG ids).any (Il l x)=ids.any (Il l x):=fun x=>afB _ fun _=>IQ;unfold aIc Fr;rw[aNM _ AA,AO];have q:(fun x=> !ids.any (Il l x))=fun x=> !(EG ids).any (Il l x):=funext fun x=>by rw[J]
 rw[q];generalize EG ids=S at I hlen;clear J q;unfold aVq;refine dL.eq (J5 S.length (fuel_lt AA) (fun i a=>a=(S.take i).filter fun x=> !S.any (Il l x)) rfl (fun i a k hi ha hk=>?_) fun a k ha=>?_)
 ·have hal:a.length≤i:=aHH
  have hf:=xP (p:=fun x=> !S.any (Il l x)) hi;unfold aLk;rw[dec_lt hi,Az];unfold aSL;refine QU (body:=aKF S l (i:Int) k) (Q:=_) (fun n b x c=>∃j:Nat,x=j∧j+n=S.length∧c=a∧b= !(S.take j).any (Il l S[i])) ?_ Ag S.length true 0 a (fuel_lt AA) ⟨0,rfl,AA,rfl,BF⟩;rintro n b x c k2 ⟨j,rfl,hn,rfl,M⟩ O;unfold aKF;by_cases U:j<S.length
  ·have u:∀Y,Y=(!((S.take j).any (Il l S[i])||Il l S[i] S[j]))→dL (aNm k2 (j:Int) Y c) (fun x=>x=(S.filter fun x=> !S.any (Il l x))):=fun Y h'=>O (n-1) _ _ _ AA ⟨j+1,wrap_succ j AA,AA,rfl,by rw[sS U];exact h'⟩;rw[Bo U,KR l _ AA,AO,NZ]
   have Z:(((j:Int) != (i:Int)))=(S[j] != S[i]):=by
    rw[Jq];simp only[Rz,ne_eq];constructor
    ·intro h e;exact h (by rw[ajU I U hi e])
    intro h e;have :j=i:=AA
    subst this;exact h rfl
   rw[Z];cases z:(Dw l S[j]).isSome with
   |false=>
    unfold jG;exact u b (by rw[M];unfold Il bW;rw[z];simp)
   |true=>
    cases hq:S[j] != S[i]with
    |false=>
     unfold jG;exact u b (by rw[M];unfold Il;rw[hq];simp)
    |true=>
     simp only[Az]
     have hpl:(Fz l S[j]).1.aU.length≤40:=by
      obtain⟨e,he⟩:=SG.1 z;rw[Nl he];exact(hs e (I9 he)).prev
     rw[Bd hi,AO,Wv _ _ AA,AO];unfold jG;cases hh:D9 (Fz l S[j]).1.aU S[i]with
     |true=>exact u false (by unfold Il bW ev;rw[z,hq,hh];simp)
     |false=>exact u b (by rw[M];unfold Il bW ev;rw[z,hq,hh];simp)
  have :j=S.length:=AA
  subst this;rw[DC,M,FV];unfold aPh;rw[wrap_succ i AA];cases L:S.any (Il l S[i])with
  |true=>exact hk _ (by rw[hf,ha,L];simp)
  |false=>
   simp only[Io,Az];rw[Bd hi,AO,D6 Fa,AO];exact hk _ (by rw[hf,ha,L];rfl)
 unfold aLk;rw[Ce];exact .ret ZQ
def Ov (x y:AL):Bool:=y.Kind==x.Kind&&decide (y.Key=x.Key)
def J9 (q:List Ah):List AL→List AL→Bool
 |_,[]=>true
 |j,x::xs=>(q.any fun k=>DJ k x)&& !j.any (Ov x)&&J9 q (j++[x]) xs
def OG (x:AL):Bool:=x.Kind==1&&decide (x.Key=BP)
def Nq (l:List AL) (e:AL):Int:=
 bif !e.aZ.all (bW l)then 14 else bif !(ofIds l e.aZ).all (fun x=>decide (x.Room=e.Room))then 13
 else bif J9 (keysOf e) [] (ofIds l e.aZ)&&(e.Kind==1||(ofIds l e.aZ).any OG)then 0 else 16
def PZ {k:Ah} {x:AL}:DJ k x=true↔x.Kind=k.Kind∧x.Key=k.Key:=by unfold DJ;simp
def aKl {x y:AL}:Ov x y=true↔y.Kind=x.Kind∧y.Key=x.Key:=by unfold Ov;simp
def abB {j:List Ah} {X:List AL} {i:Nat} (h:i<X.length):J9 j (X.take i) (X.drop i)=((j.any fun k=>DJ k X[i])&& !(X.take i).any (Ov X[i])&&J9 j (X.take (i+1)) (X.drop (i+1))):=by
 rw[Kw h,Tc,D8 h];rfl
def aRY {j:List Ah} (X:List AL):J9 j (X.take X.length) (X.drop X.length)=true:=by rw[PU];rfl
def aSi (X:List AL) (k:Int) (key:ByteArray) (h:X.length≤1000):Zz (X.map fun x=>(⟨x.Kind,x.Key,0⟩:Ah)) k key=some (X.any fun y=>y.Kind==k&&decide (y.Key=key)):=by
 unfold Zz aPk;rw[Gs (X.map fun x=>(⟨x.Kind,x.Key,0⟩:Ah)) (fuel_lt VT) (fun y=>y.Kind==k&&decide (y.Key=key)) true (some false)]
 ·rw[List.any_map];show(bif X.any (fun y=>y.Kind==k&&decide (y.Key=key))then some true else some false)=_;cases X.any (fun y=>y.Kind==k&&decide (y.Key=key))<;>rfl
 ·intro q i hi;unfold xO;rw[Bo hi,Bd hi,AO,Ie];cases((X.map fun x=>(⟨x.Kind,x.Key,0⟩:Ah))[i].Kind==k)<;>rfl
 intro q;unfold xO;rw[Ce];rfl
def ahm (j:List Ah) (x:AL) (h:j.length≤1000):Zz j x.Kind x.Key=some (j.any fun k=>DJ k x):=by
 unfold Zz aPk;rw[Gs j (fuel_lt AA) (fun k=>DJ k x) true (some false)]
 ·cases j.any (fun k=>DJ k x)<;>rfl
 ·intro q i hi;unfold xO;rw[Bo hi,Bd hi,AO,Ie];have u:(j[i].Kind==x.Kind)=(x.Kind==j[i].Kind):=by rw[Jq,Lm,Lm];exact eq_comm
  have z:decide (j[i].Key=x.Key)=decide (x.Key=j[i].Key):=jf.2 eq_comm;unfold DJ;rw[u,z];cases(x.Kind==j[i].Kind)<;>rfl
 intro q;unfold xO;rw[Ce];rfl
def aox (X:List AL) (e:AL) (O:X.length≤40):aLb X (keysOf e) e [] 0=some (bif J9 (keysOf e) [] X&&(e.Kind==1||X.any OG)then 0 else 16):=by
 have I:=QI e;unfold aLb;refine dL.eq (J5 X.length (fuel_lt AA) (fun i a=>a=(X.take i).map (fun x=>(⟨x.Kind,x.Key,0⟩:Ah))∧J9 (keysOf e) [] X=J9 (keysOf e) (X.take i) (X.drop i)) ⟨rfl,rfl⟩ (fun i a k hi ha J=>?_) fun a k ha=>?_)
 ·obtain⟨rfl,j⟩:=ha;unfold aOm;rw[Bo hi,Bd hi,AO,ahm _ _ AA,AO];rw[abB hi]at j
  have u:∀b,J9 (keysOf e) [] X=(!b&&J9 (keysOf e) (X.take (i+1)) (X.drop (i+1)))→dL (zk X (i:Int) ((X.take i).map fun x=>(⟨x.Kind,x.Key,0⟩:Ah)) k b) (· =bif J9 (keysOf e) [] X&&(e.Kind==1||X.any OG)then 0 else 16):=fun b z=>by
   unfold zk;cases b with
   |true=>exact .ret uh
   |false=>
    simp only[Aj];rw[Bd hi,AO,AO,D6 (by simp only[O6,CG,FD];omega),AO,wrap_succ i AA];exact J _ ⟨by rw[map_take hi],uh⟩
  cases hm:(keysOf e).any fun k=>DJ k X[i]with
  |false=>
   rw[Io,Az];exact u true (by rw[j,hm];rfl)
  |true=>
   rw[EF,Aj];have L:(fun y:AL=>y.Kind==X[i].Kind&&decide (y.Key=X[i].Key))=Ov X[i]:=rfl;rw[AO,AO,aSi _ _ _ aKt,AO,L];exact u _ (by rw[j,hm,GL])
 obtain⟨rfl,j⟩:=ha;rw[aRY]at j;unfold aOm;rw[Ce,Aj,FV,j,aSi _ _ _ AA];have M:(X.any fun y=>y.Kind==1&&decide (y.Key=BP))=X.any OG:=rfl;rw[M];have q:(e.Kind != 1)= !(e.Kind==1):=rfl;rw[q];cases e.Kind==1<;>cases X.any OG<;>exact .ret rfl
def anL (X:List AL) (e:AL) (j:X.length≤40):aMu X e 0=some (bif !X.all (fun x=>decide (x.Room=e.Room))then 13 else bif J9 (keysOf e) [] X&&(e.Kind==1||X.any OG)then 0 else 16):=by
 unfold aMu;rw[Gs X (fuel_lt AA) (fun x=> !decide (x.Room=e.Room)) 13 (some (bif J9 (keysOf e) [] X&&(e.Kind==1||X.any OG)then 0 else 16))]
 ·rw[wO];cases X.all (fun x=>decide (x.Room=e.Room))<;>rfl
 ·intro k i hi;unfold aKE;rw[Bo hi,Ie]
 intro k;unfold aKE;rw[DC,aFf,AO,aox X e j]
def apu (l:List AL) (e:AL) (hl:l.length≤100) (j:Ea e):aNq l e=some (Nq l e):=by
 have q:=j.auth;have u:=Yw l e.aZ;unfold aNq aaS Nq;rw[Gs e.aZ (fuel_lt AA) (fun x=> !bW l x) 14 (some (bif !(ofIds l e.aZ).all (fun x=>decide (x.Room=e.Room))then 13 else bif J9 (keysOf e) [] (ofIds l e.aZ)&&(e.Kind==1||(ofIds l e.aZ).any OG)then 0 else 16))]
 ·rw[wO];cases e.aZ.all (bW l)<;>rfl
 ·intro k i hi;unfold aLN;rw[Bo hi,KR l _ AA,AO,NZ];rfl
 intro k;unfold aLN;rw[Ce,Aj,aLG l _ AA AA,AO,anL _ e AA]
def akf (k:Ah) (e:AL):VZ (IU k) e=some (DJ k e):=by
 unfold VZ DJ IU;cases h:(e.Kind==k.Kind)with
 |false=>rfl
 |true=>show some (e.Key.toList==k.Key.toList)=_;rw[Ie,GL]
def aoe (j:List Ah) (x:AL) (h:j.length≤100):aC9 (j.map IU) x=some (if j.findIdx (fun k=>DJ k x)<j.length then((j.findIdx (fun k=>DJ k x):Nat):Int)else -1):=by
 unfold aC9 abH
 have u:∀k (i:Nat),i<j.length→aF9 (j.map IU) x k (i:Int)=bif DJ (j.getD i ⟨0,BP,0⟩) x then some (i:Int)else k (Ai ((i:Int)+1)):=fun k i hi=>by
  unfold aF9;have q:i<(j.map IU).length:=aPS
  rw[Bo q,Og];show((VZ (IU j[i]) x).bind _)=_;rw[akf,AO];simp[List.getD,hi]
 rw[Jc j (fuel_lt AA) (fun k=>DJ k x) (fun i=>some (i:Int)) (some (-1))]
 ·split<;>rfl
 ·intro k i hi;rw[u k i hi];simp[List.getD,hi]
 intro k;unfold aF9;rw[show((j.map IU).length:Int)=(j.length:Int) by rw[CG],Ce];rfl
def aWZ {α:Type} {p:α→Bool}:∀l:List α,l.Pairwise (fun a b=>¬(p a=true∧p b=true))→l.findIdx p<l.length→l.filter (fun x=> !p x)=l.take (l.findIdx p)++l.drop (l.findIdx p+1)
 | [],_,h=>absurd h (Nat.not_lt_zero _)
 |a::l,hp,h=>by
  obtain⟨j,q⟩:=OC.1 hp;rw[UF]at h ⊢;cases ha:p a with
  |true=>
   rw[List.filter_cons_of_neg (by simp[ha]),dW.2 fun b u=>by
    cases z:p b with
    |false=>rfl
    |true=>exact absurd ⟨ha,z⟩ (j b u)]
   rfl
  |false=>
   rw[ha]at h;rw[List.filter_cons_of_pos (by simp[ha]),aWZ l q JZ];rfl
def aSO {α:Type} {p:α→Bool}:∀l:List α,decide (l.findIdx p<l.length)=l.any p
 | []=>rfl
 |a::l=>by
  have j:=aSO (p:=p) l;rw[UF,Ze,←j];cases p a<;>simp
def aYk (e:AL):JB (keysOf e):=by
 have z:JB (JK e):=WA (WA (WA List.Pairwise.nil _ _ _) _ _ _) _ _ _;unfold keysOf;cases e.Kind==1<;>cases e.Kind==2<;>cases(e.Content.N==3||e.Content.N==1||e.Content.N==2)<;>simp only[Az,Aj]
 ·exact z
 ·exact z
 ·exact WA z _ _ _
 ·exact WA (WA z _ _ _) _ _ _
 all_goals exact List.Pairwise.nil
def ajo {e:AL} {k:Ah} (h:k∈keysOf e) (q:k.Kind=1):k.Key=BP:=by
 have z:∀x∈JK e,x.Kind=1→x.Key=BP:=fun x j I=>by
  unfold JK at j;rcases QM j with rfl|j
  ·cases I
  rcases QM j with rfl|j
  ·cases I
  rcases QM j with rfl|j
  ·rfl
  cases j
 unfold keysOf at h;cases u:e.Kind==1 with
 |true=>rw[u]at h;cases h
 |false=>
  cases J:e.Kind==2 with
  |false=>rw[u,J]at h;exact z k h q
  |true=>
   rw[u,J]at h;cases L:(e.Content.N==3||e.Content.N==1||e.Content.N==2)with
   |true=>
    rw[L]at h;rcases QM h with rfl|h
    ·cases q
    rcases QM h with rfl|h
    ·cases q
    exact z k h q
   |false=>
    rw[L]at h;rcases QM h with rfl|h
    ·cases q
    exact z k h q
def aXT {u:List Ah}:∀(X j:List AL),J9 u j X=true→∀x∈X,∃k∈u,DJ k x=true
 | [],_,_,_,h=>absurd h Ei
 |y::X,j,h,x,q=>by
  unfold J9 at h;simp only[CW]at h;rcases EX.1 q with rfl|q
  ·obtain⟨k,z,hm⟩:=Gn.1 h.1.1;exact⟨k,z,hm⟩
  exact aXT X _ h.2 x q
def any_congr {α:Type} {l:List α} {p q:α→Bool} (h:∀x∈l,p x=q x):l.any p=l.any q:=by
 rw[Jq,Gn,Gn];exact⟨fun⟨x,j,k⟩=>⟨x,j,by rw[←h x j];exact k⟩,fun⟨x,j,k⟩=>⟨x,j,by rw[h x j];exact k⟩⟩
def akd (l:List AL) (e:AL) (hl:l.length≤100) (he:Ea e):uO l e=some (Nq l e):=by
 have h1:=he.auth;have hk5:=QI e;have hsk:=aYk e;unfold uO aSo;refine dL.eq (J5 e.aZ.length (fuel_lt AA) (fun i a=>a=ofIds l (e.aZ.take i)∧∀x∈e.aZ.take i,bW l x=true) ⟨rfl,fun x U=>by simp at U⟩ (fun i a k hi ha J=>?_) fun a k ha=>?_)
 ·obtain⟨rfl,u⟩:=ha;have hal:=Yw l (e.aZ.take i);rw[FD]at hal;unfold aCR;rw[Bo hi,Np l _ AA,AO,wrap_succ i AA];cases Y:Dw l e.aZ[i]with
  |none=>
   rw[SN Y];refine .ret ?_;unfold Nq;rw[ZP (EJ hi) (show bW l e.aZ[i]=false by unfold bW;rw[Y];rfl)];rfl
  |some x=>
   rw[Nl Y];simp only[EF,Aj];rw[D6 Fa,AO];refine J _ ⟨?_,fun y I=>?_⟩
   ·unfold ofIds;rw[Tc,D8 hi,RH,dN,MP,Y];rfl
   rw[Tc,D8 hi,RH,Hd,IY]at I;rcases I with I|rfl
   ·exact u y I
   unfold bW;rw[Y];rfl
 obtain⟨rfl,u⟩:=ha;rw[FV]at u ⊢;have U:=Yw l e.aZ;have Z:e.aZ.all (bW l)=true:=DY.2 u;unfold aCR;rw[DC];unfold Nq;rw[Z];simp only[EF,Aj];generalize ofIds l e.aZ=X at U;unfold aa4;rw[Gs X (fuel_lt AA) (fun x=> !decide (x.Room=e.Room)) 13 (some (bif J9 (keysOf e) [] X&&(e.Kind==1||X.any OG)then 0 else 16))]
 ·rw[wO];cases X.all (fun x=>decide (x.Room=e.Room))<;>exact .ret rfl
 ·intro k2 i hi;unfold aBE;rw[Bo hi,Ie]
 intro k2;unfold aBE;rw[DC,aKC,AO];unfold aQg;refine dL.eq (QU (body:=aCn X) (Q:=(· =bif J9 (keysOf e) [] X&&(e.Kind==1||X.any OG)then 0 else 16)) (fun n b ks x=>∃i:Nat,x=i∧i+n=X.length∧ks=((keysOf e).filter fun k=> !(X.take i).any (DJ k)).map IU∧b=(e.Kind==1||(X.take i).any fun x=>x.Kind==1)∧J9 (keysOf e) [] X=J9 (keysOf e) (X.take i) (X.drop i)) ?_ Ag X.length (e.Kind==1) ((keysOf e).map IU) 0 (fuel_lt AA) ⟨0,rfl,AA,by rw[vw];exact Aq (List.map IU) (dW.2 fun _ _=>rfl).symm,BF,rfl⟩);rintro n b ks x k3 ⟨i,rfl,hn,hks,hb,z⟩ hk3;unfold aCn;by_cases hi:i<X.length
 ·rw[abB hi]at z;have hlk:((keysOf e).filter fun k=> !(X.take i).any (DJ k)).length≤5:=Ed (JH _ _) hk5;rw[Bo hi,hks,aoe _ _ AA,AO];have L:=aSO (p:=fun k=>DJ k X[i]) ((keysOf e).filter fun k=> !(X.take i).any (DJ k))
  have M:(((keysOf e).filter fun k=> !(X.take i).any (DJ k)).any fun k=>DJ k X[i])=((keysOf e).any (fun k=>DJ k X[i])&& !(X.take i).any (Ov X[i])):=by
   rw[Jq,Gn,CW,Gn,MF,←PE,Gn];constructor
   ·rintro⟨k,J,hm⟩;obtain⟨hk1,hk2⟩:=FU.1 J;refine⟨⟨k,hk1,hm⟩,?_⟩;rintro⟨y,I,hs⟩;obtain⟨m1,m2⟩:=PZ.1 hm;obtain⟨s1,s2⟩:=aKl.1 hs;rw[Gn.2 ⟨y,I,PZ.2 ⟨s1.trans m1,s2.trans m2⟩⟩]at hk2;cases hk2
   rintro⟨⟨k,J,hm⟩,hno⟩;refine⟨k,FU.2 ⟨J,?_⟩,hm⟩;rw[MF,←PE,Gn];rintro⟨y,I,hs⟩;obtain⟨m1,m2⟩:=PZ.1 hm;obtain⟨s1,s2⟩:=PZ.1 hs;exact hno ⟨y,I,aKl.2 ⟨s1.trans m1.symm,s2.trans m2.symm⟩⟩
  rw[←M,←L]at z;by_cases q:((keysOf e).filter fun k=> !(X.take i).any (DJ k)).findIdx (fun k=>DJ k X[i])<((keysOf e).filter fun k=> !(X.take i).any (DJ k)).length
  ·rw[CS q,H7 AA,Aj];rw[Gi q,GL]at z;have hlm:(((keysOf e).filter fun k=> !(X.take i).any (DJ k)).map IU).length=((keysOf e).filter fun k=> !(X.take i).any (DJ k)).length:=CG ..
   have hpw:((keysOf e).filter fun k=> !(X.take i).any (DJ k)).Pairwise (fun a b=>¬(DJ a X[i]=true∧DJ b X[i]=true)):=by
    refine(List.Pairwise.sublist Qp hsk).imp fun{a b} hab h=>?_;obtain⟨a1,a2⟩:=PZ.1 h.1;obtain⟨b1,b2⟩:=PZ.1 h.2;rw[dn (NQ.2 ⟨a1.symm.trans b1,a2.symm.trans b2⟩)]at hab;cases hab
   have hd:=aWZ _ hpw q
   have O:((keysOf e).filter fun k=> !(X.take i).any (DJ k)).filter (fun k=> !DJ k X[i])=(keysOf e).filter fun k=> !(X.take (i+1)).any (DJ k):=by
    rw[List.filter_filter];refine nD fun k _=>?_;rw[sS hi];cases(X.take i).any (DJ k)<;>cases DJ k X[i]<;>rfl
   rw[O]at hd;generalize((keysOf e).filter fun k=> !(X.take i).any (DJ k))=K at q hd hlm hlk;generalize K.findIdx (fun k=>DJ k X[i])=j at q hd;have s1:He (K.map IU) 0 (j:Int)=some (((K.map IU).drop 0).take (j-0)):=jq (lo:=0) (Du _) AA;have s2:He (K.map IU) (Ai ((j:Int)+1)) ((K.map IU).length:Int)=some (((K.map IU).drop (j+1)).take ((K.map IU).length-(j+1))):=by rw[wrap_succ j AA];exact jq AA (Dq _)
   rw[s1,AO,s2,AO,D6 (by simp only[FD,IV];omega),AO];have hb3:(bif b then some true else(Af X (i:Int)).bind fun x28=>some (x28.Kind==1))=some (b||X[i].Kind==1):=by rw[Bd hi];cases b<;>rfl
   rw[hb3,AO];refine hk3 (n-1) _ _ _ AA ⟨i+1,wrap_succ i AA,AA,?_,?_,z⟩
   ·rw[hd,KL,ZA,aF,Nat.sub_zero,gU,QB (l:=(K.map IU).drop (j+1)) aDa]
   rw[sS hi,hb,Bool.or_assoc]
  rw[CY q];rw[H7 q,aPv]at z;exact .ret uh
 have :i=X.length:=AA
 subst this;rw[aRY]at z;rw[DC,z,hb,FV,GL]
 have hc:(X.any fun x=>x.Kind==1)=X.any OG:=any_congr fun x U=>by
  obtain⟨k,J,hm⟩:=aXT X [] z x U;obtain⟨m1,m2⟩:=PZ.1 hm;unfold OG;cases hq:x.Kind==1 with
  |false=>rfl
  |true=>rw[m2,ajo J (by rw[←m1];exact eq_of_beq hq)];simp
 rw[hc];cases(e.Kind==1||X.any OG)<;>exact .ret rfl
def EW (l:List AL) (s:List Ah):List AL:=ofIds l (s.map (·.Id))
def mF (l:List AL) (s:List Ah):(EW l s).length≤s.length:=by have :=Yw l (s.map (·.Id));rwa [CG]at this
def aDn {l:List AL} (hs:D5 l) (ids:List Int):D5 (ofIds l ids):=fun x j=>hs x (aFA j)
def aAf {l:List AL} {s:List Ah} {i:Nat} (h:i<s.length):EW l (s.take (i+1))=EW l (s.take i)++(Dw l s[i].Id).toList:=by
 unfold EW ofIds;rw[map_take h,dN,MP,aG7];cases Dw l s[i].Id<;>rfl
def aOE (l:List AL) (s:List Ah) (hl:l.length≤100) (h:s.length≤1000):cu l s=some (EW l s):=by
 unfold cu vg;rw[AO];unfold aRf;refine dL.eq (aNQ (body:=aN4 s) (Q:=(· =EW l s)) (fun n a b c _ _=>∃i:Nat,b=i∧i+n=s.length∧c=l∧a=EW l (s.take i)) ?_ Ag s.length [] 0 l [] [] (fuel_lt AA) ⟨0,rfl,AA,rfl,rfl⟩);rintro n a b c d f k ⟨i,rfl,z,rfl,ha⟩ u;unfold aN4;by_cases hi:i<s.length
 ·have q:=mF c (s.take i);rw[FD]at q;rw[Bo hi,Np c _ AA,AO,wrap_succ i AA];cases j:Dw c s[i].Id with
  |none=>rw[SN j];exact u (n-1) _ _ _ _ _ AA ⟨i+1,rfl,AA,rfl,by rw[aAf hi,j,ha];simp⟩
  |some x=>
   rw[Nl j];simp only[Az];rw[D6 (by rw[ha];simp only[O6];omega),AO];exact u (n-1) _ _ _ _ _ AA ⟨i+1,rfl,AA,rfl,by rw[aAf hi,j,ha];rfl⟩
 have :i=s.length:=AA
 subst this;rw[DC];exact .ret ZQ
def aQL (l:List AL) (s:List Ah) (hl:l.length≤100) (h:s.length≤1000):zL l s=some (EW l s):=by
 unfold zL aQM;refine dL.eq (J5 s.length (fuel_lt AA) (fun i a=>a=EW l (s.take i)) rfl (fun i a k hi ha u=>?_) fun a k ha=>?_)
 ·have q:=mF l (s.take i);rw[FD]at q;unfold aHD aJ2;rw[Bo hi,KR l _ AA,AO,wrap_succ i AA];cases j:Dw l s[i].Id with
  |none=>rw[SN j];exact u _ (by rw[aAf hi,j,ha];simp)
  |some x=>
   rw[Nl j];simp only[Az];rw[D6 (by rw[ha];simp only[O6];omega),AO];exact u _ (by rw[aAf hi,j,ha];rfl)
 unfold aHD;rw[Ce];exact .ret ZQ
structure DR where
 id:Int
 before:List Ah
 after:List Ah
 err:Int
def EN (t:List DR) (x:Int):Option DR:=t.find? fun y=>y.id==x
def H8 (t:List DR) (x:Int):List Ah:=((EN t x).map (·.after)).getD []
def errOf (t:List DR) (x:Int):Int:=((EN t x).map (·.err)).getD 0
def Vp (l:List AL) (e:AL):Int:=bif Nq l e != 0 then Nq l e else GY e (LG l e)
def KD (l:List AL) (t:List DR) (e:AL) (s:List Ah):Int:=
 bif Vp l e != 0 then Vp l e else bif e.aZ.any (fun x=>errOf t x != 0)then 16 else GY e (EW l s)
def stB (l:List AL) (t:List DR) (e:AL):List Ah:=WU l (e.aU.map (H8 t))
def WG (e:AL) (s:List Ah) (r:Int):DR:=⟨e.Id,s,bif r==0&&GZ e.Kind then Ey s e.Kind e.Key e.Id else s,r⟩
def Hg (l:List AL) (t:List DR) (e:AL):DR:=WG e (stB l t e) (KD l t e (stB l t e))
def Gh (l:List AL) (ids:List Int):List DR:=ids.foldl (fun t id=>t++[Hg l t (ev l id)]) []
def Bz (l:List AL):List DR:=Gh l (GV l)
def aAj (l:List AL) {ids:List Int} {i:Nat} (h:i<ids.length):Gh l (ids.take (i+1))=Gh l (ids.take i)++[Hg l (Gh l (ids.take i)) (ev l ids[i])]:=aaj h
def iW {t:List DR} {x:Int}:EN t x=none↔x∉t.map (·.id):=by
 unfold EN;rw[VU,E5];exact⟨fun h ⟨y,j,e⟩=>h y j RY,fun h y j e=>h ⟨y,j,RY⟩⟩
def tC {t:List DR} {y:DR} (h:EN t y.id=none) (x:Int):EN (t++[y]) x=bif x==y.id then some y else EN t x:=by
 unfold EN at h ⊢;rw[YI];cases j:x==y.id with
 |true=>
  have e:=eq_of_beq j;subst e;rw[h];simp
 |false=>
  have :(y.id==x)=false:=by rw[←j,Jq,Lm,Lm];exact eq_comm
  simp[this]
def agz {t:List DR} {x:Int} {y:DR} (h:EN t x=some y):y.id=x:=by have :=VP h;simpa using this
def qR (l:List AL):∀(ids:List Int) (t:List DR),(∀x∈ids,bW l x=true)→(ids.foldl (fun t id=>t++[Hg l t (ev l id)]) t).map (·.id)=t.map (·.id)++ids
 | [],t,_=>BF
 |x::ids,t,h=>by
  have j:(Hg l t (ev l x)).id=x:=(GH (h x (EU ..))).2;rw[F5,qR l ids _ fun y q=>h y (FB _ q),KL,Ip,List.map_nil,j,Hw];rfl
def Ku (l:List AL) (t:List DR):Prop:=∀y∈t,IC l y.before∧IC l y.after
def Ku.after {l:List AL} {t:List DR} (h:Ku l t) (x:Int):IC l (H8 t x):=by
 unfold H8;cases hl:EN t x with
 |none=>exact .nil l
 |some y=>exact(h y (O7 hl)).2
def Ku.states {l:List AL} {t:List DR} (h:Ku l t) (ids:List Int):∀s∈ids.map (H8 t),IC l s:=fun s hs=>by
 obtain⟨x,_,rfl⟩:=E5.1 hs;exact h.after x
def Ku.okay {l:List AL} {t:List DR} (h:Ku l t) (hl:l.length≤100) (hs:D5 l) (ids:List Int) (hi:ids.length≤100):MH l (ids.map (H8 t)):=IC.okay hl hs aPS (h.states ids)
def Ku.stB {l:List AL} {t:List DR} (h:Ku l t) (hl:l.length≤100) (hs:D5 l) {e:AL} (j:e.aU.length≤40):IC l (stB l t e):=IC.resolve (h.okay hl hs _ AA) (h.states _)
def Ku.line {l:List AL} {t:List DR} (h:Ku l t) (hl:l.length≤100) (hs:D5 l) {e:AL} (u:e.aU.length≤40) (z:GZ e.Kind=true→bW l e.Id=true∧ev l e.Id=e):Ku l (t++[Hg l t e]):=fun y j=>by
 rcases Hd.1 j with j|j
 ·exact h y j
 rw[IY.1 j];have hp:=h.stB hl hs u;refine⟨hp,?_⟩;show IC l (bif KD l t e (Go.Proofs.YtkkdimcnpacjhaaGreat.stB l t e)==0&&GZ e.Kind then Ey _ e.Kind e.Key e.Id else _);cases q:(KD l t e (Go.Proofs.YtkkdimcnpacjhaaGreat.stB l t e)==0&&GZ e.Kind)with
 |false=>exact hp
 |true=>
  have hst:GZ e.Kind=true:=by rw[CW]at q;exact q.2
  obtain⟨I,k2⟩:=z hst;exact hp.set I k2 hst
def anU {l:List AL} {id:Int} (h:GZ (ev l id).Kind=true):bW l (ev l id).Id=true∧ev l (ev l id).Id=ev l id:=by
 cases j:Dw l id with
 |none=>unfold ev at h;rw[SN j]at h;exact absurd h BK
 |some e=>
  have q:bW l id=true:=by unfold bW;rw[j];rfl
  have :=(GH q).2;rw[this];exact⟨q,rfl⟩
def aHC :Ea Bv:=⟨Du _,Du _,Du _,Du _,Du _,Du _,Du _,Du _,Du _,Du _,Du _,Du _,fun _ h=>absurd h Ei,fun _ h=>absurd h Ei,fun _ h=>absurd h Ei⟩
def aAS {l:List AL} (hs:D5 l) (id:Int):Ea (ev l id):=by
 unfold ev Fz;cases h:Dw l id with
 |none=>exact aHC
 |some e=>exact hs e (I9 h)
def nY {l:List AL} (hl:l.length≤100) (hs:D5 l):∀(ids:List Int) (t:List DR),Ku l t→Ku l (ids.foldl (fun t id=>t++[Hg l t (ev l id)]) t)
 | [],t,h=>h
 |x::ids,t,h=>by rw[F5];exact nY hl hs ids _ (h.line hl hs (aAS hs x).prev anU)
structure Om (t:List DR) (m1 m2:List (Int×List Ah)) (m3:List (Int×Int)):Prop where
 b:∀x,CB m1 x=(EN t x).map (·.before)
 a:∀x,CB m2 x=(EN t x).map (·.after)
 r:∀x,CB m3 x=(EN t x).map (·.err)
def Om.after {t:List DR} {q j:List (Int×List Ah)} {u:List (Int×Int)} (h:Om t q j u) (x:Int):(CB j x).getD []=H8 t x:=by rw[h.a];rfl
def Om.err {t:List DR} {q u:List (Int×List Ah)} {j:List (Int×Int)} (h:Om t q u j) (x:Int):(CB j x).getD 0=errOf t x:=by rw[h.r];rfl
def aiH {t:List DR} {q u:List (Int×List Ah)} {z:List (Int×Int)} (h:Om t q u z) (l:List AL) (e:AL) (s:List Ah) (hl:l.length≤100) (hs:D5 l) (j:Ea e) (I:s.length≤100):
 aDs q u z l e s=some (KD l t e s):=by
 have L:=j.auth;have M:=mF l s;unfold aDs KD Vp;rw[akd l e hl j,AO];cases J:Nq l e != 0 with
 |true=>simp only[Az];rw[J];rfl
 |false=>
  simp only[Aj];rw[aYr l e AA AA,AO,nI e _ (Ed (zI l e) AA) (hs.from e) j,AO];cases ha:GY e (LG l e) != 0 with
  |true=>rfl
  |false=>
   simp only[Aj];unfold aQm;rw[Gs e.aZ (fuel_lt AA) (fun x=>errOf t x != 0) 16 (some (GY e (EW l s)))]
   ·cases e.aZ.any (fun x=>errOf t x != 0)<;>rfl
   ·intro k i hi;unfold aHB;rw[Bo hi,h.err]
   intro k;unfold aHB;rw[DC,aOE l s hl AA,AO,nI e (EW l s) AA (aDn hs _) j];rfl
def Om.snoc {t:List DR} {I J j q:List (Int×List Ah)} {L u:List (Int×Int)} (h:Om t I J L) {y:DR} (z:EN t y.id=none)
 (M:∀x,CB j x=bif x==y.id then some y.before else CB I x) (O:∀x,CB q x=bif x==y.id then some y.after else CB J x) (U:∀x,CB u x=bif x==y.id then some y.err else CB L x):Om (t++[y]) j q u:=by
 refine⟨fun x=>?_,fun x=>?_,fun x=>?_⟩
 ·rw[M,tC z,h.b];cases x==y.id<;>rfl
 ·rw[O,tC z,h.a];cases x==y.id<;>rfl
 rw[U,tC z,h.r];cases x==y.id<;>rfl
def add_eq {t:List DR} {z I:List (Int×List Ah)} {J:List (Int×Int)} (h:Om t z I J) (l:List AL) (e:AL) (hl:l.length≤100) (hs:D5 l) (L:Ea e) (ht:Ku l t) (M:EN t e.Id=none):
 dL (aBC z I J l e) (fun r=>Om (t++[Hg l t e]) r.1 r.2.1 r.2.2):=by
 have O:=L.prev;unfold aBC aRH;refine J5 e.aU.length (fuel_lt AA) (fun i a=>a=(e.aU.take i).map (H8 t)) rfl (fun i a k hi ha U=>?_) fun a k ha=>?_
 ·have Y:a.length≤i:=gZ
  unfold aGc;rw[Bo hi,D6 Fa,AO,wrap_succ i AA,h.after];exact U _ vU
 rw[FV]at ha;subst ha;unfold aGc;have hp:IC l (stB l t e):=ht.stB hl hs O;have Z:=hp.length;have u:eP l (e.aU.map (H8 t))=some (stB l t e):=aUQ (ht.okay hl hs _ AA);rw[DC,u,AO,aiH h l e _ hl hs L AA,AO];have j:Hg l t e=WG e (stB l t e) (KD l t e (stB l t e)):=rfl;rw[j];generalize KD l t e (stB l t e)=r;have q:∀(c d f:Bool) {R:Type} (g:Bool→Option R),((bif c then some d else some false).bind fun x9=>(bif x9 then some f else some false).bind g)=g (c&&(d&&f)):=fun c d f R g=>by cases c<;>cases d<;>rfl
 rw[q];show dL (bif (r==0&&GZ e.Kind)then _ else _) _;unfold WG;cases hc:(r==0&&GZ e.Kind)with
 |true=>
  simp only[Az];rw[YE _ _ _ _ AA,AO];refine .ret (h.snoc M (fun x=>Qw ..) (fun x=>?_) fun x=>Qw ..);rw[Qw,Qw];cases x==e.Id<;>rfl
 |false=>exact .ret (h.snoc M (fun x=>Qw ..) (fun x=>Qw ..) fun x=>Qw ..)
def run_go (l:List AL) (ids:List Int) (hl:l.length≤100) (hs:D5 l) (u:∀x∈ids,bW l x=true) (z:ids.Nodup) (J:ids.length≤1000):dL (aOB ids l 0 [] [] []) (fun o=>∃T,o=some T∧Om (Gh l ids) T.1 T.2.1 T.2.2):=by
 unfold aOB;refine aHX (body:=aLf ids l) (Q:=fun o=>∃T,o=some T∧Om (Gh l ids) T.1 T.2.1 T.2.2) (fun n a b c d=>∃i:Nat,a=i∧i+n=ids.length∧Om (Gh l (ids.take i)) b c d) ?_ Ag ids.length 0 [] [] [] (fuel_lt AA) ⟨0,rfl,AA,⟨fun x=>rfl,fun x=>rfl,fun x=>rfl⟩⟩;rintro n a b c d k ⟨i,rfl,Z,hm⟩ L;unfold aLf;by_cases hi:i<ids.length
 ·have I:=u _ (EJ hi)
  have q:EN (Gh l (ids.take i)) (ev l ids[i]).Id=none:=by
   rw[iW,(GH I).2];unfold Gh;rw[qR l _ _ fun x M=>u x (YC M),List.map_nil,II];intro hm;obtain⟨j,O,e⟩:=Fv hm;rw[FD]at O;rw[WJ]at e;have :=IW.1 (ZH.1 z) j i AA hi AA;exact this e
  rw[Bo hi,Np l _ AA,AO];refine(add_eq hm l _ hl hs (aAS hs ids[i]) (nY hl hs _ _ fun y U=>absurd U Ei) q).bind fun r Y=>?_;exact L (n-1) _ _ _ _ AA ⟨i+1,wrap_succ i AA,AA,by rw[aAj l hi];exact Y⟩
 have :i=ids.length:=AA
 subst this;rw[DC];exact .ret ⟨_,rfl,by rw[FV]at hm;exact hm⟩
structure Ik (l:List AL):Prop where
 len:l.length≤100
 small:D5 l
 nodup:(l.map (·.Id)).Nodup
 dep:jy l
def NY {l:List AL} {x:Int}:bW l x=true↔x∈l.map (·.Id):=by
 unfold bW Dw;rw[List.find?_isSome,E5];exact⟨fun⟨e,j,h⟩=>⟨e,j,JZ⟩,fun⟨e,j,h⟩=>⟨e,j,JZ⟩⟩
def aRk (l:List AL):(GV l).Perm (l.map (·.Id)):=(aJK l).map _
def cO {l:List AL} {x:Int}:x∈GV l↔bW l x=true:=by rw[(aRk l).mem_iff,NY]
def aK2 (l:List AL):(GV l).length=l.length:=by unfold GV;rw[CG,aPd]
def Ik.order {l:List AL} (h:Ik l):(GV l).Nodup:=(aRk l).nodup_iff.2 h.nodup
def Iz (l:List AL) (c:Int):List DR:=bif c==0&&H6 l==0 then Bz l else[]
def run_eq (l:List AL) {c:Int} (z:Md l=some c) (h:c=0→Ik l):
 dL (aS l) (fun o=>(Iz l c=[]∧o=none)∨(Iz l c=Bz l∧Ik l∧∃T,o=some T∧Om (Bz l) T.1 T.2.1 T.2.2)):=by
 unfold aS Iz;rw[z,AO];by_cases u:c=0
 ·subst u;have j:=h rfl;rw[ako l j.len j.small j.dep];cases hd:H6 l==0 with
  |false=>
   have q:(H6 l != 0)=true:=by unfold bne;rw[hd];rfl
   simp only[JA,Aj,AO,q,Az];exact .ret (.inl ⟨rfl,rfl⟩)
  |true=>
   have q:(H6 l != 0)=false:=by unfold bne;rw[hd];rfl
   simp only[JA,Aj,AO,q];rw[adb l (by have :=j.len;omega),AO];exact(run_go l (GV l) j.len j.small (fun x I=>cO.1 I) j.order (by rw[aK2];have :=j.len;omega)).mono fun o J=>.inr ⟨rfl,j,J⟩
 have L:(c != 0)=true:=TP
 have M:(c==0)=false:=TP
 rw[L,M];exact .ret (.inl ⟨rfl,rfl⟩)
def aFw {l:List AL} (h:Ik l):Ku l (Bz l):=nY h.len h.small _ _ fun y j=>absurd j Ei
def apz (l:List AL):(Bz l).map (·.id)=GV l:=by
 have :=qR l (GV l) [] fun x j=>cO.1 j;simpa[Bz,Gh]using this
def alu {l:List AL} {x:Int} (h:bW l x=true):∃y,EN (Bz l) x=some y:=by
 cases hl:EN (Bz l) x with
 |some y=>exact⟨y,rfl⟩
 |none=>rw[iW,apz]at hl;exact absurd (cO.2 h) hl
def JR (t:List DR) (x:Int):Bool:=match EN t x with
 |some y=>y.err==0
 |none=>false
def Dk (l:List AL) (t:List DR):List Int:=(l.filter fun e=>JR t e.Id).map (·.Id)
def En (l:List AL) (t:List DR):List Ah:=WU l ((Fr l (Dk l t)).map (H8 t))
def Ug (l:List AL) (t:List DR):(Dk l t).length≤l.length:=by unfold Dk;rw[CG];exact JH _ _
def aEv (l:List AL):Dk l []=[]:=by
 unfold Dk;rw[og.2 fun e _=>by unfold JR EN;simp];rfl
def aXB (l:List AL):En l []=[]:=by unfold En;rw[aEv];rfl
def aB9 {l:List AL} {t:List DR} {i:Nat} (h:i<l.length):Dk (l.take (i+1)) t=Dk (l.take i) t++bif JR t l[i].Id then[l[i].Id]else[]:=by
 unfold Dk;rw[xP h,KL];cases JR t l[i].Id<;>rfl
def apV {l:List AL} {x:Int} (h:bW l x=true):JR (Bz l) x=(errOf (Bz l) x==0):=by
 obtain⟨y,j⟩:=alu h;unfold JR errOf;rw[j];rfl
def aTt {l:List AL} {j q:List (Int×List Ah)} {u:List (Int×Int)} (h:Om (Bz l) j q u) (hl:l.length≤100):Zn j q u l=some (Dk l (Bz l)):=by
 unfold Zn
 have hp:aE0 l j q u=some (Dk l (Bz l)):=by
  unfold aE0 aaI;refine dL.eq (J5 l.length (fuel_lt AA) (fun i a=>a=Dk (l.take i) (Bz l)) rfl (fun i a k hi ha z=>?_) fun a k ha=>?_)
  ·have J:a.length≤i:=aWf
   unfold aMY aIZ aAa;rw[Bo hi,AO,h.err,←apV (NY.2 (E5.2 ⟨_,EJ hi,rfl⟩)),wrap_succ i AA];cases I:JR (Bz l) l[i].Id with
   |true=>
    rw[Az,Bd hi,AO,D6 Fa,AO];exact z _ (by rw[aB9 hi,I,ha];rfl)
   |false=>exact z _ (by rw[aB9 hi,I,ha];simp)
  unfold aMY;rw[DC];exact .ret ZQ
 rw[hp];rfl
def aS1 {l:List AL} {c:Int} (z:Md l=some c) (h:c=0→Ik l):XC l=some (En l (Iz l c)):=by
 unfold XC;refine dL.eq ((run_eq l z h).bind fun o j=>?_);rcases j with⟨q,rfl⟩|⟨q,j,T,rfl,u⟩
 ·rw[q,aXB];exact .ret rfl
 rw[q];have hl:=j.len;have ha:=Ug l (Bz l);have I:=Y2 l (Dk l (Bz l));show dL ((Zn T.1 T.2.1 T.2.2 l).bind _) _;rw[aTt u hl,AO,aUW l _ hl j.small AA,AO];unfold En;generalize Fr l (Dk l (Bz l))=H at I;unfold aYt;refine J5 H.length (fuel_lt AA) (fun i a=>a=(H.take i).map (H8 (Bz l))) rfl (fun i a k hi ha J=>?_) fun a k ha=>?_
 ·have L:a.length≤i:=gZ
  unfold aGx;rw[Bo hi,D6 Fa,AO,u.after,wrap_succ i AA];exact J _ vU
 rw[FV]at ha;unfold aGx;rw[DC,ha,aUQ ((aFw j).okay hl j.small _ AA),AO];exact .ret rfl
def aMO {l:List AL} {c:Int} (h:c=0→Ik l):IC l (En l (Iz l c)):=by
 unfold Iz;cases q:(c==0&&H6 l==0)with
 |false=>rw[Aj,aXB];exact .nil l
 |true=>
  rw[CW]at q;have j:=h (eq_of_beq q.1);have ht:=aFw j;have ha:=Ug l (Bz l);have u:=Y2 l (Dk l (Bz l));have hl:=j.len;rw[Az];exact IC.resolve (ht.okay hl j.small _ AA) (ht.states _)
def afP {α:Type} {lt:α→α→Bool} (ht:∀a b c,lt b a=false→lt c b=false→lt c a=false) (ha:∀a b,lt a b=true→lt b a=false) (x:α):
 ∀n (A:List α),A.length=n→A.Pairwise (fun a b=>lt b a=false)→(Ji lt A x).Pairwise fun a b=>lt b a=false:=by
 intro n
 induction n with
 |zero=>
  intro A q _;obtain rfl:=Gf q;exact aOH ..
 |succ n L=>
  intro A q hA;rcases List.eq_nil_or_concat A with rfl|⟨B,a,rfl⟩
  ·cases q
  rw[List.concat_eq_append]at q hA ⊢;have q:B.length=n:=MV
  obtain⟨M,_,J⟩:=Ur.1 hA;cases u:lt x a with
  |true=>
   rw[aPz u];refine Ur.2 ⟨L B q M,aOH ..,fun y j z I=>?_⟩;rw[IY.1 I];rcases EX.1 ((aW7 B x).mem_iff.1 j)with rfl|j
   ·exact ha _ _ u
   exact J y j a (IY.2 rfl)
  |false=>
   rw[aUz u,show B++a::[x]=(B++[a])++[x] by simp];refine Ur.2 ⟨hA,aOH ..,fun y j z I=>?_⟩;rw[IY.1 I];rcases Hd.1 j with j|j
   ·exact ht y a x (J y j a (IY.2 rfl)) u
   rw[IY.1 j];exact u
def aHU {a b:AL}:GN b a=false↔a.Depth<b.Depth∨(a.Depth=b.Depth∧a.Id≤b.Id):=by
 unfold GN;rw[X4,fP,P8,P8,Oz];omega
def alO (l:List AL):(TW l).Pairwise fun a b=>GN b a=false:=by
 have key:∀(l A:List AL),A.Pairwise (fun a b=>GN b a=false)→(l.foldl (Ji GN) A).Pairwise fun a b=>GN b a=false:=by
  intro l
  induction l with
  |nil=>exact fun A h=>h
  |cons x l j=>
   intro A h;rw[F5];refine j _ (afP (fun a b c q u=>?_) (fun a b h=>?_) x _ A rfl h)
   ·rw[aHU]at *;omega
   rw[aHU];unfold GN at h;rw[XJ,CW,Gg,Gg,Lm]at h;omega
 exact key l [] .nil
def rX {l:List AL} (M:(l.map (·.Id)).Nodup) {e:AL} (h:e∈l):ev l e.Id=e:=by
 have O:bW l e.Id=true:=NY.2 (E5.2 ⟨e,h,rfl⟩);obtain⟨U,I⟩:=GH O;have Y:=I9 U;obtain⟨i,hi,q⟩:=Fv Y;obtain⟨j,J,u⟩:=Fv h;have hp:=IW.1 (ZH.1 M)
 have hm:∀a b (ha:a<l.length) (L:b<l.length),a<b→l[a].Id≠l[b].Id:=fun a b ha L z=>by
  have :=hp a b (by simpa using ha) Vm z;simpa using this
 rcases jH i j with h|h|h
 ·exact absurd (by rw[q,u,I]) (hm i j hi J h)
 ·subst h;rw[←q,u]
 exact absurd (by rw[q,u,I]) (hm j i J hi h)
def aSA {l:List AL} (I:(l.map (·.Id)).Nodup) {i:Nat} (hi:i<(GV l).length) {a:Int} (J:bW l a=true) (hd:(ev l a).Depth<(ev l (GV l)[i]).Depth):a∈(GV l).take i:=by
 obtain⟨L,M⟩:=GH J;have hm:ev l a∈TW l:=(aJK l).mem_iff.2 (I9 L);obtain⟨j,O,u⟩:=Fv hm;have q:i<(TW l).length:=by simpa[GV]using hi
 have U:(GV l)[i]=(TW l)[i].Id:=Og (fun x:AL=>x.Id);have z:ev l (GV l)[i]=(TW l)[i]:=by rw[U];exact rX I ((aJK l).mem_iff.1 (EJ q))
 have Y:j<i:=by
  rcases jH j i with h|h|h
  ·exact h
  ·subst h;rw[z,←u]at hd;omega
  have :=IW.1 (alO l) i j q O h;rw[aHU]at this;rw[z,←u]at hd;omega
 refine aTH.2 ⟨j,AA,?_⟩;unfold GV;rw[Og,u,M]
def Qn (t:List DR) (s:List Ah):Prop:=∀x∈s,JR t x.Id=true
structure NR (l:List AL) (t:List DR):Prop where
 st:∀y∈t,Qn t y.before∧Qn t y.after
 au:∀y∈t,y.err=0→∀a∈iL l y.id,JR t a=true
def lG {t:List DR} {x:Int}:JR t x=true↔∃y,EN t x=some y∧y.err=0:=by
 unfold JR;cases EN t x with
 |none=>simp
 |some y=>simp
def aYM {t:List DR} {x:Int} {y:DR} (h:EN t x=some y) (z:DR):EN (t++[z]) x=some y:=by
 unfold EN at *;rw[YI,h];rfl
def aAm {t:List DR} {x:Int} (h:JR t x=true) (z:DR):JR (t++[z]) x=true:=by
 obtain⟨y,j,q⟩:=lG.1 h;exact lG.2 ⟨y,aYM j z,q⟩
def Qn.nil (t:List DR):Qn t []:=fun _ h=>absurd h Ei
def NR.after {l:List AL} {t:List DR} (h:NR l t) (x:Int):Qn t (H8 t x):=by
 unfold H8;cases hl:EN t x with
 |none=>exact .nil t
 |some y=>exact(h.st y (O7 hl)).2
def NR.auth {l:List AL} {t:List DR} (h:NR l t) {x:Int} (q:JR t x=true):∀a∈iL l x,JR t a=true:=by
 obtain⟨y,j,u⟩:=lG.1 q;have :=h.au y (O7 j) u
 rwa [agz j]at this
def NR.chain {l:List AL} {t:List DR} (h:NR l t) {ids:List Int} (hi:∀x∈ids,JR t x=true) {x:Int} (q:Jy l ids x):JR t x=true:=by
 induction q with
 |one u j _=>exact h.auth (hi _ u) _ j
 |more _ j _ z=>exact h.auth z _ j
def NR.full {l:List AL} {t:List DR} (h:NR l t) {aJ:List (List Ah)} (hs:∀s∈aJ,Qn t s) {x:Int} (j:x∈Iq l aJ):JR t x=true:=by
 have q:∀s∈aJ,∀y∈Rq s,JR t y=true:=fun s hm y I=>by
  obtain⟨z,u,rfl⟩:=E5.1 I;exact hs s hm z u
 unfold Iq at j;rcases UA.1 j with j|j
 ·rw[IQ]at j;unfold Pg at j;obtain⟨z,u,rfl⟩:=E5.1 j;obtain⟨s,hm,u⟩:=SI.1 u;exact hs s hm z (FU.1 u).1
 obtain⟨⟨s,hm,j⟩,_⟩:=aWB.1 j;unfold Ej at j;rcases UA.1 j with j|j
 ·exact q s hm x j
 exact h.chain (q s hm) (Zb.1 j)
def NR.resolve {l:List AL} {t:List DR} (h:NR l t) {aJ:List (List Ah)} (j:MH l aJ) (hs:∀s∈aJ,Qn t s):Qn t (WU l aJ):=by
 match aJ,j,hs with
 | [],_,_=>exact .nil t
 | [s],_,hs=>exact hs s (EU ..)
 |s::r::aJ,j,hs=>
  intro x u;rcases aQY u with hm|⟨id,q,z,_,I⟩
  ·exact hs s (EU ..) x ((aUC j.states (aHQ _ _)).1 hm s (EU ..))
  have J:x.Id=id:=by rw[I];exact(GH z).2
  rw[J];exact h.full hs q
def NR.line {l:List AL} {t:List DR} (h:NR l t) (ht:Ku l t) (hl:l.length≤100) (hs:D5 l) {id:Int} (Y:bW l id=true) (Z:EN t id=none) (ha:∀a∈iL l id,∃y,EN t a=some y):NR l (t++[Hg l t (ev l id)]):=by
 have z:(ev l id).Id=id:=(GH Y).2
 have L:Qn t (stB l t (ev l id)):=h.resolve (ht.okay hl hs _ (by have :=(aAS hs id).prev;omega)) fun s hm=>by
  obtain⟨x,_,rfl⟩:=E5.1 hm;exact h.after x
 have j:∀{s:List Ah},Qn t s→Qn (t++[Hg l t (ev l id)]) s:=fun hs x I=>aAm (hs x I) _;refine⟨fun y q=>?_,fun y q u a hm=>?_⟩
 ·rcases Hd.1 q with q|q
  ·exact⟨j (h.st y q).1,j (h.st y q).2⟩
  rw[IY.1 q];refine⟨j L,?_⟩;show Qn _ (bif KD l t (ev l id) (stB l t (ev l id))==0&&GZ (ev l id).Kind then Ey _ (ev l id).Kind (ev l id).Key (ev l id).Id else _);cases O:(KD l t (ev l id) (stB l t (ev l id))==0&&GZ (ev l id).Kind)with
  |false=>exact j L
  |true=>
   rw[CW]at O;intro x I;rcases QM I with rfl|I
   ·refine lG.2 ⟨Hg l t (ev l id),?_,eq_of_beq O.1⟩;show EN _ (ev l id).Id=_;have M:EN t (Hg l t (ev l id)).id=none:=by show EN t (ev l id).Id=none;rw[z];exact Z
    rw[tC M,show((ev l id).Id==(Hg l t (ev l id)).id)=true from KI _];rfl
   exact aAm (L x I) _
 rcases Hd.1 q with q|q
 ·exact aAm (h.au y q u a hm) _
 rw[IY.1 q]at u hm;have hm:a∈iL l id:=by rw[←z];exact hm
 have u:KD l t (ev l id) (stB l t (ev l id))=0:=u;obtain⟨y,q⟩:=ha a hm;refine aAm (lG.2 ⟨y,q,?_⟩) _;unfold KD at u;cases J:Vp l (ev l id) != 0 with
 |true=>rw[J,Az]at u;rw[u]at J;cases J
 |false=>
  rw[J,Aj]at u;cases U:(ev l id).aZ.any (fun x=>errOf t x != 0)with
  |true=>rw[U,Az]at u;cases u
  |false=>
   have h3:=lU.1 U a hm;have :errOf t a=0:=by simpa using h3
   unfold errOf at this;rw[q]at this;exact this
def Xu {l:List AL} (hd:H6 l=0) {e:AL} (z:e∈l):(∀a∈e.aZ,bW l a=true∧(ev l a).Depth<e.Depth)∧∀a∈e.aU,bW l a=true∧(ev l a).Depth<e.Depth:=by
 unfold H6 at hd;cases u:QN l with
 |false=>rw[u]at hd;cases hd
 |true=>
  rw[u,Az]at hd;cases I:l.all (NP l)with
  |false=>rw[I]at hd;cases hd
  |true=>
   have j:=DY.1 u e z;have q:=DY.1 I e z;unfold UG at j;unfold NP at q;rw[CW,DY,DY]at j;rw[CW,DY]at q;refine⟨fun a ha=>⟨j.2 a ha,Rk (q.1 a ha)⟩,fun a ha=>⟨j.1 a ha,?_⟩⟩
   have hp:((e.aU.length:Int)==0)=false:=by
    have :0<e.aU.length:=zl ha;rw[Oz];omega
   have J:=q.2;rw[hp,Aj,CW,DY]at J;exact Rk (J.1 a ha)
def aa7 {l:List AL} (u:Ik l) (hd:H6 l=0):∀i,i≤(GV l).length→NR l (Gh l ((GV l).take i))
 |0,_=>⟨fun y z=>absurd z Ei,fun y z=>absurd z Ei⟩
 |i+1,hi=>by
  have hi:i<(GV l).length:=hi;have I:bW l (GV l)[i]=true:=cO.1 (EJ hi)
  have q:∀j,(Gh l ((GV l).take j)).map (·.id)=(GV l).take j:=fun j=>by
   unfold Gh;rw[qR l _ _ fun x J=>cO.1 (YC J)];rfl
  rw[aAj l hi];refine(aa7 u hd i AA).line (nY u.len u.small _ _ fun y z=>absurd z Ei) u.len u.small I ?_ fun a ha=>?_
  ·rw[iW,q];intro hm;obtain⟨j,L,e⟩:=Fv hm;rw[FD]at L;rw[WJ]at e;exact IW.1 (ZH.1 u.order) j i AA hi AA e
  have hm:ev l (GV l)[i]∈l:=I9 (GH I).1;obtain⟨M,k2⟩:=(Xu hd hm).1 a ha;have :=aSA u.nodup hi M k2;cases hl:EN (Gh l ((GV l).take i)) a with
  |some y=>exact⟨y,rfl⟩
  |none=>rw[iW,q]at hl;exact absurd this hl
def ais {l:List AL} (j:Ik l) (hd:H6 l=0):NR l (Bz l):=by
 have :=aa7 j hd _ (Dq _)
 rwa [FV]at this
def NR.current {l:List AL} (j:Ik l) (hd:H6 l=0):Qn (Bz l) (En l (Bz l)):=by
 have h:=ais j hd;have ht:=aFw j;have ha:=Ug l (Bz l);have q:=Y2 l (Dk l (Bz l));have hl:=j.len
 exact h.resolve (ht.okay hl j.small _ AA) fun s hm=>by
  obtain⟨x,_,rfl⟩:=E5.1 hm;exact h.after x
structure Le (x y:AL):Prop where
 id:y.Id=x.Id
 room:y.Room=x.Room
 sender:y.aQ=x.aQ
 kind:y.Kind=x.Kind
 key:y.Key=x.Key
 time:y.Time=x.Time
 depth:y.Depth=x.Depth
 prev:y.aU=x.aU
 auth:y.aZ=x.aZ
 n:x.Kind=2∨x.Kind=4→y.Content.N=x.Content.N
 levels:x.Kind=3→y.Content.Levels=x.Content.Levels
def Le.refl (x:AL):Le x x:=⟨rfl,rfl,rfl,rfl,rfl,rfl,rfl,rfl,rfl,fun _=>rfl,fun _=>rfl⟩
inductive Hq :List AL→List AL→Prop
 |nil:Hq [] []
 |cons {x y:AL} {xs ys:List AL} (h:Le x y) (t:Hq xs ys):Hq (x::xs) (y::ys)
def Hq.append {a b c d:List AL} (h:Hq a b) (k:Hq c d):Hq (a++c) (b++d):=by
 induction h with
 |nil=>exact k
 |cons h _ j=>exact .cons h j
def Hq.flat {α:Type} {f g:α→List AL}:∀(l:List α),(∀x∈l,Hq (f x) (g x))→Hq (l.flatMap f) (l.flatMap g)
 | [],_=>.nil
 |x::l,h=>by
  rw[KO,KO];exact(h x (EU ..)).append (Hq.flat l fun y j=>h y (FB _ j))
def Hq.any {p:AL→Bool} (hp:∀x y,Le x y→p y=p x) {a b:List AL} (h:Hq a b):b.any p=a.any p:=by
 induction h with
 |nil=>rfl
 |cons h _ j=>rw[Ze,Ze,hp _ _ h,j]
def Hq.all {p:AL→Bool} (hp:∀x y,Le x y→p y=p x) {a b:List AL} (h:Hq a b):b.all p=a.all p:=by
 induction h with
 |nil=>rfl
 |cons h _ j=>rw[wP,wP,hp _ _ h,j]
def Hq.find {p:AL→Bool} (hp:∀x y,Le x y→p y=p x) {a b:List AL} (h:Hq a b):(a.find? p=none∧b.find? p=none)∨∃x y,a.find? p=some x∧b.find? p=some y∧Le x y∧p x=true:=by
 induction h with
 |nil=>exact .inl ⟨rfl,rfl⟩
 | @cons x y xs ys h _ j=>
   rw[OL,OL,hp _ _ h];cases q:p x with
   |true=>exact .inr ⟨x,y,rfl,rfl,h,q⟩
   |false=>exact j
def Hq.one {x y:AL} (h:Le x y):Hq [x] [y]:=.cons h .nil
def aMz {k:Ah} {x y:AL} (h:Le x y):DJ k y=DJ k x:=by unfold DJ;rw[h.kind,h.key]
def akl {x y:AL} (h:Le x y):Oi y=Oi x:=by
 unfold Oi;rw[h.kind,h.key,h.sender];cases j:x.Kind==2 with
 |false=>rfl
 |true=>rw[h.n (.inl (eq_of_beq j))]
def aKR {x y:AL} (h:Le x y):keysOf y=keysOf x:=by
 unfold keysOf JK;rw[h.kind,h.key,h.sender];cases j:x.Kind==2 with
 |false=>rfl
 |true=>rw[h.n (.inl (eq_of_beq j))]
section
variable {a b : List AL}
def ajt (h:Hq a b):(Gx b).2=(Gx a).2∧Le (Gx a).1 (Gx b).1:=by
 unfold Gx;rcases h.find (p:=fun x=>x.Kind==1) (fun x y h=>by rw[h.kind])with⟨j,q⟩|⟨x,y,j,q,u,_⟩
 ·rw[j,q];exact⟨rfl,.refl _⟩
 rw[j,q];exact⟨rfl,u⟩
def aSu {u:ByteArray} {x y:AL} (h:Le x y):Jb u y=Jb u x:=by unfold Jb;rw[h.kind,h.key]
def aHS (h:Hq a b) (u:ByteArray):I7 b u=I7 a u:=by
 unfold I7;rcases h.find (p:=Jb u) (fun x y h=>aSu h)with⟨j,q⟩|⟨x,y,j,q,I,z⟩
 ·rw[j,q]
 rw[j,q];unfold Jb at z;rw[CW]at z;exact I.n (.inl (eq_of_beq z.1))
def aiq (h:Hq a b):Ro b=Ro a:=by
 unfold Ro;rcases h.find (p:=fun x=>x.Kind==1) (fun x y h=>by rw[h.kind])with⟨j,q⟩|⟨x,y,j,q,u,_⟩
 ·rw[j,q]
 rw[j,q];exact u.sender
def aMM (h:Hq a b):FK b=FK a:=by
 unfold FK;rcases h.find (p:=fun x=>x.Kind==3) (fun x y h=>by rw[h.kind])with⟨j,q⟩|⟨x,y,j,q,u,z⟩
 ·rw[j,q,aiq h]
 rw[j,q];exact u.levels (eq_of_beq z)
def acp (h:Hq a b):(U9 b).1=(U9 a).1:=by
 unfold U9;rcases h.find (p:=fun x=>x.Kind==4) (fun x y h=>by rw[h.kind])with⟨j,q⟩|⟨x,y,j,q,u,z⟩
 ·rw[j,q]
 rw[j,q];exact u.n (.inr (eq_of_beq z))
def aLP {e f:AL} (j:Le e f) (h:Hq a b):GY f b=GY e a:=by
 unfold GY;obtain⟨c1,c2⟩:=ajt h;rw[j.kind,j.sender,j.room,c1];cases e.Kind==1 with
 |true=>rfl
 |false=>
 cases(Gx a).2 with
 |false=>rfl
 |true=>
 cases J:e.Kind==2 with
 |true=>
  have I:=j.n (.inl (eq_of_beq J));simp only[Aj,EF,Az]
  have q:RQ f b=RQ e a:=by
   unfold RQ;rw[c1,j.prev,j.sender,j.key,I,c2.id,c2.sender,h.any fun x y h=>aSu h]
  have u:∀m now,U7 m now b=U7 m now a:=fun m now=>by unfold U7;rw[acp h]
  have z:∀now,WZ f b now=WZ e a now:=fun now=>by
   unfold WZ;rw[aHS h,j.sender,j.key,I,aMM h]
  unfold Vt;rw[q,j.key,j.sender,I,aHS h,u,z]
 |false=>
  simp only[Aj,EF];rw[aHS h]
  have hl:Va f b=Va e a:=by
   unfold Va;rw[aMM h,j.sender,j.kind];cases L:e.Kind==3 with
   |false=>rfl
   |true=>rw[j.levels (eq_of_beq L)]
  rw[hl]
end
structure Gl (l l':List AL) (S:List Int):Prop where
 nodup:S.Nodup
 mem:∀x∈S,bW l x=true∧bW l' x=true∧Le (ev l x) (ev l' x)
 prev:∀x∈S,∀a∈(ev l x).aU,a∈S
 auth:∀x∈S,∀a∈(ev l x).aZ,a∈S
section
variable {l l' : List AL} {S : List Int} (h : Gl l l' S)
include h
def Gl.ids {ids:List Int} (hi:∀x∈ids,x∈S):Hq (ofIds l ids) (ofIds l' ids):=by
 induction ids with
 |nil=>exact .nil
 |cons x ids j=>
  obtain⟨q,k2,u⟩:=h.mem x (hi x (EU ..));unfold ofIds at j ⊢;rw[MP,MP,(GH q).1,(GH k2).1];exact .cons u (j fun y z=>hi y (FB _ z))
def Gl.iL {x:Int} (j:x∈S):iL l' x=iL l x:=(h.mem x j).2.2.auth
def Gl.ch {ids:List Int} (hi:∀x∈ids,x∈S) {x:Int} (z:Jy l ids x):x∈S∧Jy l' ids x:=by
 induction z with
 |one q j _=>
  have hs:=h.auth _ (hi _ q) _ j;exact⟨hs,.one q (by rw[h.iL (hi _ q)];exact j) (h.mem _ hs).2.1⟩
 |more _ j _ u=>
  have hs:=h.auth _ u.1 _ j;exact⟨hs,.more u.2 (by rw[h.iL u.1];exact j) (h.mem _ hs).2.1⟩
def Gl.ch' {ids:List Int} (hi:∀x∈ids,x∈S) {x:Int} (z:Jy l' ids x):x∈S∧Jy l ids x:=by
 induction z with
 |one q j _=>
  rw[h.iL (hi _ q)]at j;have hs:=h.auth _ (hi _ q) _ j;exact⟨hs,.one q j (h.mem _ hs).1⟩
 |more _ j _ u=>
  rw[h.iL u.1]at j;have hs:=h.auth _ u.1 _ j;exact⟨hs,.more u.2 j (h.mem _ hs).1⟩
def Gl.chain {ids:List Int} (hi:∀x∈ids,x∈S):chainOf l' ids=chainOf l ids:=Ak (aDZ _ _) (aDZ _ _) fun x=>by
 rw[Zb,Zb];exact⟨fun j=>(h.ch' hi j).2,fun j=>(h.ch hi j).2⟩
def Gl.azB {ids:List Int} (hi:∀x∈ids,x∈S):∀x∈chainOf l ids,x∈S:=fun _ j=>(h.ch hi (Zb.1 j)).1
def Gl.from {e f:AL} (u:Le e f) (hi:∀x∈e.aZ,x∈S):Hq (LG l e) (LG l' f):=by
 unfold LG;rw[aKR u,u.auth];refine Hq.flat _ fun k _=>?_;rcases(h.ids hi).find (p:=DJ k) (fun x y h=>aMz h)with⟨j,q⟩|⟨x,y,j,q,z,_⟩
 ·rw[j,q];exact .nil
 rw[j,q];exact .one z
def Gl.fits {e f:AL} (L:Le e f) (hi:∀x∈e.aZ,x∈S):Nq l' f=Nq l e:=by
 have hs:=h.ids hi
 have O:e.aZ.all (bW l')=e.aZ.all (bW l):=by
  rw[Jq,DY,DY];exact⟨fun _ x z=>(h.mem x (hi x z)).1,fun _ x z=>(h.mem x (hi x z)).2.1⟩
 have U:∀(I:List Ah) {xs ys:List AL},Hq xs ys→∀{q j:List AL},Hq q j→J9 I j ys=J9 I q xs:=by
  intro I xs ys M
  induction M with
  |nil=>intro q j _;rfl
  | @cons x y xs ys z _ Y=>
    intro q j hp;have hm:(I.any fun k=>DJ k y)=I.any fun k=>DJ k x:=Aq (fun p=>I.any p) (funext fun k=>aMz z)
    have hl:j.any (Ov y)=q.any (Ov x):=by
     rw[show Ov y=Ov x from funext fun u=>by unfold Ov;rw[z.kind,z.key]];exact hp.any fun u v J=>by unfold Ov;rw[J.kind,J.key]
    unfold J9;rw[Y (hp.append (.one z)),hm,hl]
 unfold Nq;rw[L.auth,L.kind,L.room,aKR L,O,hs.all (fun x y h=>by rw[h.room]),U _ hs .nil,hs.any (fun x y h=>by unfold OG;rw[h.kind,h.key])]
omit h in
def find_congr {p q:Int→Bool}:∀(l:List Int),(∀x∈l,p x=q x)→l.find? p=l.find? q
 | [],_=>rfl
 |x::l,h=>by rw[OL,OL,h x (EU ..),find_congr l fun y j=>h y (FB _ j)]
omit h in
def rO :∀{a b:List Int},a.Nodup→(∀x∈a,x∈b)→a.length≤b.length
 | [],_,_,_=>Du _
 |x::a,b,u,hs=>by
  have j:=hs x (EU ..);obtain⟨z,I⟩:=Kr.1 u;have :=rO (b:=b.erase x) I fun y q=>(List.mem_erase_of_ne fun e=>z (by rw[←e];exact q)).2 (hs y (FB _ q));rw[List.length_erase_of_mem j]at this;have J:0<b.length:=zl j;rw[G7];omega
def Gl.power {x:Int} (j:x∈S):OI l' (ev l' x)=OI l (ev l x):=by
 unfold OI;rw[(h.mem x j).2.2.auth];refine find_congr _ fun a ha=>?_;obtain⟨q,k2,u⟩:=h.mem a (h.auth x j a ha);rw[q,k2,u.kind]
def Gl.Ba:∀(n m:Nat) (seen:List Int) (id:Int),id∈S→seen.Nodup→(∀x∈seen,x∈S)→S.length≤seen.length+n→S.length≤seen.length+m→Ba l' m seen id=Ba l n seen id:=by
 have q:∀(seen:List Int) (id:Int),id∈S→seen.Nodup→(∀x∈seen,x∈S)→S.length≤seen.length→id∈seen:=fun seen id j I hs hl=>by
  refine Xa fun z=>?_
  have :=rO (a:=id::seen) (b:=S) (Kr.2 ⟨z,I⟩) fun x J=>by
   rcases EX.1 J with rfl|J
   ·exact j
   exact hs x J
  rw[G7]at this;omega
 have u:∀(l:List AL) (n:Nat) (seen:List Int) (id:Int),id∈seen→Go.Proofs.YtkkdimcnpacjhaaGreat.Ba l n seen id=seen:=fun l n seen id j=>by
  cases n with
  |zero=>rfl
  |succ n=>unfold Go.Proofs.YtkkdimcnpacjhaaGreat.Ba;rw[JY.2 j];rfl
 intro n
 induction n with
 |zero=>
  intro m seen id j I hs M _;have :=q seen id j I hs AA;rw[u l' m seen id this,u l 0 seen id this]
 |succ n O=>
  intro m seen id j I hs M h2;by_cases z:id∈seen
  ·rw[u l' m seen id z,u l (n+1) seen id z]
  obtain⟨m,rfl⟩:∃U,m=U+1:=by
   cases m with
   |zero=>exact absurd (q seen id j I hs AA) z
   |succ m=>exact⟨m,rfl⟩
  obtain⟨Y,k2,k3⟩:=h.mem id j;unfold Go.Proofs.YtkkdimcnpacjhaaGreat.Ba;rw[OO.2 z,Y,k2,h.power j];cases hp:OI l (ev l id)with
  |none=>rfl
  |some x=>
   have J:x∈S:=h.auth id j x (O7 hp);refine O m (seen++[id]) x J (s0.2 ⟨I,BF,fun a ha b Z=>?_⟩) (fun y L=>?_) (by rw[EI,O6];omega) (by rw[EI,O6];omega)
   ·rw[IY.1 Z];exact fun e=>z (e▸ha)
   rcases Hd.1 L with L|L
   ·exact hs y L
   rw[IY.1 L];exact j
def Gl.way {x:Int} (j:x∈S):YR l' x=YR l x:=by
 have q:S.length≤l.length:=by
  have :=rO (b:=l.map (·.Id)) h.nodup fun x j=>NY.1 (h.mem x j).1
  rwa [CG]at this
 have u:S.length≤l'.length:=by
  have :=rO (b:=l'.map (·.Id)) h.nodup fun x j=>NY.1 (h.mem x j).2.1
  rwa [CG]at this
 exact h.Ba _ _ [] x j .nil (fun _ h=>absurd h Ei) MV TP
def Gl.item {j:List Int} {x:Int} (q:x∈S):EY l' j x=EY l j x:=by
 unfold EY Lu;rw[h.way q,(h.mem x q).2.2.time]
def Gl.zK {j ids:List Int} (hi:∀x∈ids,x∈S):zK l' j ids=zK l j ids:=by
 unfold Go.Proofs.YtkkdimcnpacjhaaGreat.zK;rw[nD (q:=bW l) fun x u=>by rw[(h.mem x (hi x u)).1,(h.mem x (hi x u)).2.1],XZ fun x u=>h.item (hi x (FU.1 u).1)]
def Gl.Dp {full:List Int} (hi:∀x∈full,x∈S):Dp l' full=Dp l full:=by
 unfold Go.Proofs.YtkkdimcnpacjhaaGreat.Dp;refine nD fun x j=>?_;obtain⟨q,k2,u⟩:=h.mem x (hi x j);unfold WB;rw[q,k2,akl u]
def Gl.TD {full:List Int} (hi:∀x∈full,x∈S):TD l' full=TD l full:=by
 unfold Go.Proofs.YtkkdimcnpacjhaaGreat.TD;rw[h.Dp hi,h.chain (ids:=Go.Proofs.YtkkdimcnpacjhaaGreat.Dp l full) fun x j=>hi x (FU.1 j).1]
def Gl.gG {ids:List Int} (hi:∀x∈ids,x∈S):gG l' ids=gG l ids:=by
 unfold Go.Proofs.YtkkdimcnpacjhaaGreat.gG;exact nD fun x j=>by rw[(h.mem x (hi x (IQ.1 j))).1,(h.mem x (hi x (IQ.1 j))).2.1]
def Gl.one {x:Int} (j:x∈S):chainOf l' [x]=chainOf l [x]:=h.chain fun y q=>by rw[IY.1 q];exact j
def Gl.node {x:Int} (j:x∈S):Eu l' x=Eu l x:=by
 obtain⟨_,_,q⟩:=h.mem x j;unfold Eu fJ;rw[aMM (h.from q (h.auth x j)),q.sender,q.time,h.one j]
omit h in
def ah1 (l:List AL) (left:List Int) (b:Option Int) (x:Int):Gp l left b x=some x∨Gp l left b x=b:=by
 unfold Gp;cases b with
 |none=>cases Wy l left x<;>simp
 |some y=>
  simp only[];cases Wy l left x<;>cases YB (Eu l x) (Eu l y)<;>simp
def Gl.best {left:List Int}:∀(xs:List Int) (b:Option Int),(∀x∈xs,x∈S)→(∀y,b=some y→y∈S)→xs.foldl (Gp l' left) b=xs.foldl (Gp l left) b
 | [],_,_,_=>rfl
 |x::xs,b,z,I=>by
  have q:=z x (EU ..)
  have e:Gp l' left b x=Gp l left b x:=by
   unfold Gp Wy;rw[h.one q];cases b with
   |none=>rfl
   |some y=>simp only[h.node q,h.node (I y rfl)]
  rw[F5,F5,e];refine Gl.best xs _ (fun y j=>z y (FB _ j)) fun y j=>?_;rcases ah1 l left b x with u|u
  ·rw[u]at j;rw[←CV j];exact q
  rw[u]at j;exact I y j
def Gl.rY:∀(n:Nat) (left:List Int),(∀x∈left,x∈S)→rY l' n left=rY l n left
 |0,_,_=>rfl
 |n+1,left,hi=>by
  unfold Go.Proofs.YtkkdimcnpacjhaaGreat.rY U2;rw[h.best left none hi fun _ h=>Gy];cases left.foldl (Gp l left) none with
  |none=>rfl
  |some b=>exact Aq _ (Gl.rY n _ fun x j=>hi x (FU.1 j).1)
def Jw (S:List Int) (s:List Ah):Prop:=∀x∈s,x.Id∈S
def Gl.pick {s:List Ah} (hs:Jw S s) {e f:AL} (u:Le e f) (hi:∀x∈e.aZ,x∈S):Hq (Rf l s e) (Rf l' s f):=by
 unfold Rf;rw[aKR u];refine Hq.flat _ fun k _=>?_;unfold Rt Zv;cases z:(G8 s k.Kind k.Key).2 with
 |true=>
  have hm:=aIo (s:=s) (k:=k.Kind) (key:=k.Key) (n:=(G8 s k.Kind k.Key).1) (Prod.ext rfl z);obtain⟨I,k2,J⟩:=h.mem _ (hs _ hm)
  have L:Fz l (G8 s k.Kind k.Key).1=(ev l (G8 s k.Kind k.Key).1,true):=by
   have :=(GH I).1;unfold ev Fz at this ⊢;rw[this]
  have M:Fz l' (G8 s k.Kind k.Key).1=(ev l' (G8 s k.Kind k.Key).1,true):=by
   have :=(GH k2).1;unfold ev Fz at this ⊢;rw[this]
  simp only[Az];rw[L,M];exact .one J
 |false=>
  simp only[Aj];unfold Zh;rw[u.auth];rcases(h.ids hi).find (p:=DJ k) (fun x y h=>aMz h)with⟨j,q⟩|⟨x,y,j,q,O,_⟩
  ·rw[j,q];exact .nil
  rw[j,q];exact .one O
def Gl.apply {s:List Ah} (hs:Jw S s) {x:Int} (q:x∈S):OT l' s x=OT l s x∧Jw S (OT l s x):=by
 obtain⟨z,k2,j⟩:=h.mem x q
 have e:Rl l' s x=Rl l s x:=by
  unfold Rl;rw[z,k2,j.kind,aLP j (h.pick hs j (h.auth x q))]
 unfold OT;rw[e,j.kind,j.key,j.id];refine⟨rfl,?_⟩;cases Rl l s x with
 |false=>exact hs
 |true=>
  intro y u;rcases QM u with rfl|u
  ·show(ev l x).Id∈S;rw[(GH z).2];exact q
  exact hs y u
def Gl.applies:∀(ids:List Int) (s:List Ah),Jw S s→(∀x∈ids,x∈S)→Oa l' s ids=Oa l s ids∧Jw S (Oa l s ids)
 | [],_,hs,_=>⟨rfl,hs⟩
 |x::ids,s,hs,hi=>by
  obtain⟨j,q⟩:=h.apply hs (hi x (EU ..));unfold Oa;rw[F5,F5,j];exact Gl.applies ids _ q fun y u=>hi y (FB _ u)
def Gl.closure {s:List Ah} (hs:Jw S s):Ej l' s=Ej l s∧∀x∈Ej l s,x∈S:=by
 have hi:∀x∈Rq s,x∈S:=fun x j=>by
  obtain⟨y,q,rfl⟩:=E5.1 j;exact hs y q
 unfold Ej;refine⟨by rw[h.chain hi],fun x j=>?_⟩;rcases UA.1 j with j|j
 ·exact hi x j
 exact h.azB hi x j
def Gl.full {aJ:List (List Ah)} (hs:∀s∈aJ,Jw S s):Iq l' aJ=Iq l aJ∧∀x∈Iq l aJ,x∈S:=by
 have u:∀(q:List (List Ah)) (a:List Int),(∀s∈q,Jw S s)→q.foldl (fun a s=>Hr a (Ej l' s)) a=q.foldl (fun a s=>Hr a (Ej l s)) a:=by
  intro q
  induction q with
  |nil=>exact fun _ _=>rfl
  |cons s q L=>
   intro a ht;rw[F5,F5,(h.closure (ht s (EU ..))).1];exact L _ fun s hm=>ht s (FB _ hm)
 have I:∀x,Iu l' aJ x=Iu l aJ x:=fun x=>by
  unfold Iu;exact List.countP_congr fun s hm=>by rw[(h.closure (hs s hm)).1]
 have hd:OE l' aJ=OE l aJ:=by
  unfold OE allOf;rw[u aJ [] hs];exact nD fun x _=>by rw[I]
 unfold Iq;rw[hd];refine⟨rfl,fun x j=>?_⟩;rcases UA.1 j with j|j
 ·rw[IQ]at j;unfold Pg at j;obtain⟨z,J,rfl⟩:=E5.1 j;obtain⟨s,hm,J⟩:=SI.1 J;exact hs s hm z (FU.1 J).1
 obtain⟨⟨s,hm,j⟩,_⟩:=aWB.1 j;exact(h.closure (hs s hm)).2 x j
omit h in
def alV {aJ:List (List Ah)} (hs:∀s∈aJ,Jw S s):Jw S (Ho aJ):=by
 cases aJ with
 |nil=>exact fun _ h=>absurd h Ei
 |cons s aJ=>exact fun x j=>hs s (EU ..) x (FU.1 j).1
def Gl.last {aJ:List (List Ah)} (hs:∀s∈aJ,Jw S s):lastOf l' aJ=lastOf l aJ∧Jw S (lastOf l aJ):=by
 obtain⟨f1,Z⟩:=h.full hs;have u:=alV hs;have J:Jv l' aJ=Jv l aJ:=by unfold Jv;rw[f1,h.TD Z]
 have I:∀x∈Jv l aJ,x∈S:=fun x j=>Z x (aFN.1 j).1
 have hpo:KH l' aJ=KH l aJ:=by
  unfold KH;rw[J,h.gG I];exact h.rY _ _ fun x j=>I x (Lp.1 j).1
 have M:∀x∈KH l aJ,x∈S:=fun x j=>I x (Lp.1 (aNE l _ _ j)).1;obtain⟨a1,a2⟩:=h.applies (KH l aJ) (Ho aJ) u M;have q:Hy l' aJ=Hy l aJ:=by unfold Hy;rw[hpo,a1]
 have O:UJ l' aJ=UJ l aJ:=by
  unfold UJ;rw[q];cases hg:(G8 (Hy l aJ) 3 BP).2 with
  |false=>rfl
  |true=>exact h.way (a2 _ (aIo (n:=(G8 (Hy l aJ) 3 BP).1) (Prod.ext rfl hg)))
 have L:∀x∈Ob (Iq l aJ) (Jv l aJ),x∈S:=fun x j=>Z x (aLR.1 j).1
 have U:Jm l' aJ=Jm l aJ:=by
  unfold Jm;rw[O,f1,J,h.zK L]
 have Y:∀x∈Jm l aJ,x∈S:=fun x j=>by
  unfold Jm Go.Proofs.YtkkdimcnpacjhaaGreat.zK at j;obtain⟨y,hy,rfl⟩:=E5.1 j;obtain⟨z,hz,rfl⟩:=E5.1 ((TM ..).mem_iff.1 hy);exact L z (FU.1 hz).1
 obtain⟨b1,b2⟩:=h.applies (Jm l aJ) (Hy l aJ) a2 Y;unfold lastOf;rw[q,U,b1];refine⟨rfl,fun x j=>?_⟩;rcases aMF _ _ j with j|j
 ·exact u x j
 exact b2 x j
def Gl.resolve {aJ:List (List Ah)} (hs:∀s∈aJ,Jw S s):WU l' aJ=WU l aJ∧Jw S (WU l aJ):=by
 match aJ,hs with
 | [],_=>exact⟨rfl,fun _ h=>absurd h Ei⟩
 | [s],hs=>exact⟨rfl,hs s (EU ..)⟩
 |s::r::aJ,hs=>exact h.last hs
def Gl.verdict {t t':List DR} {x:Int} (u:x∈S) {s:List Ah} (hs:Jw S s) (ht:∀a∈(ev l x).aZ,errOf t' a=errOf t a):KD l' t' (ev l' x) s=KD l t (ev l x) s:=by
 obtain⟨O,k2,j⟩:=h.mem x u
 have J:Vp l' (ev l' x)=Vp l (ev l x):=by
  unfold Vp;rw[h.fits j (h.auth x u),aLP j (h.from j (h.auth x u))]
 have q:(ev l' x).aZ.any (fun x=>errOf t' x != 0)=(ev l x).aZ.any (fun x=>errOf t x != 0):=by
  rw[j.auth,Jq,Gn,Gn];exact⟨fun⟨a,ha,e⟩=>⟨a,ha,by rw[←ht a ha];exact e⟩,fun⟨a,ha,e⟩=>⟨a,ha,by rw[ht a ha];exact e⟩⟩
 have I:GY (ev l' x) (EW l' s)=GY (ev l x) (EW l s):=aLP j (h.ids fun y L=>by
  obtain⟨z,M,rfl⟩:=E5.1 L
  exact hs z M)
 unfold KD;rw[J,q,I]
def Gl.line {t t':List DR} {x:Int} (u:x∈S) (hp:∀a∈(ev l x).aU,H8 t' a=H8 t a∧Jw S (H8 t a)) (ht:∀a∈(ev l x).aZ,errOf t' a=errOf t a):
 Hg l' t' (ev l' x)=Hg l t (ev l x)∧Jw S (Hg l t (ev l x)).before∧Jw S (Hg l t (ev l x)).after:=by
 obtain⟨I,k2,q⟩:=h.mem x u
 have j:stB l' t' (ev l' x)=stB l t (ev l x)∧Jw S (stB l t (ev l x)):=by
  have hm:(ev l x).aU.map (H8 t')=(ev l x).aU.map (H8 t):=XZ fun a ha=>(hp a ha).1;unfold stB;rw[q.prev,hm]
  exact h.resolve fun s hs=>by
   obtain⟨a,ha,rfl⟩:=E5.1 hs;exact(hp a ha).2
 unfold Hg WG;rw[j.1,h.verdict u j.2 ht,q.id,q.kind,q.key];refine⟨rfl,j.2,?_⟩;show Jw S (bif KD l t (ev l x) (stB l t (ev l x))==0&&GZ (ev l x).Kind then _ else _);cases(KD l t (ev l x) (stB l t (ev l x))==0&&GZ (ev l x).Kind)with
 |false=>exact j.2
 |true=>
  intro y z;rcases QM z with rfl|z
  ·show(ev l x).Id∈S;rw[(GH I).2];exact u
  exact j.2 y z
end
def aiO (l:List AL) {t t':List DR} {e:AL} (hp:∀a∈e.aU,H8 t' a=H8 t a) (ht:∀a∈e.aZ,errOf t' a=errOf t a):Hg l t' e=Hg l t e:=by
 have q:stB l t' e=stB l t e:=by
  unfold stB;rw[show e.aU.map (H8 t')=e.aU.map (H8 t)from XZ hp]
 have j:e.aZ.any (fun x=>errOf t' x != 0)=e.aZ.any (fun x=>errOf t x != 0):=by
  rw[Jq,Gn,Gn];exact⟨fun⟨a,ha,e⟩=>⟨a,ha,by rw[←ht a ha];exact e⟩,fun⟨a,ha,e⟩=>⟨a,ha,by rw[ht a ha];exact e⟩⟩
 unfold Hg KD;rw[q,j]
def aVw (l:List AL):∀(ids:List Int) {t:List DR} {x:Int} {y:DR},EN t x=some y→EN (ids.foldl (fun t id=>t++[Hg l t (ev l id)]) t) x=some y
 | [],_,_,_,h=>h
 |id::ids,_,_,_,h=>by rw[F5];exact aVw l ids (aYM h _)
def aTX {l:List AL} {ids:List Int} {i:Nat} {x:Int} {y:DR} (h:EN (Gh l (ids.take i)) x=some y):EN (Gh l ids) x=some y:=by
 have :Gh l ids=(ids.drop i).foldl (fun t id=>t++[Hg l t (ev l id)]) (Gh l (ids.take i)):=by
  unfold Gh;rw[←TY,Qb]
 rw[this];exact aVw l _ h
def aCU {l:List AL} (Y:Ik l) (hd:H6 l=0) {x:Int} (M:bW l x=true):EN (Bz l) x=some (Hg l (Bz l) (ev l x)):=by
 obtain⟨i,hi,J⟩:=Fv (cO.2 M)
 have u:∀j,(Gh l ((GV l).take j)).map (·.id)=(GV l).take j:=fun j=>by
  unfold Gh;rw[qR l _ _ fun x hx=>cO.1 (YC hx)];rfl
 have z:(ev l x).Id=x:=(GH M).2;have hm:ev l x∈l:=I9 (GH M).1
 have I:∀a,bW l a=true→(ev l a).Depth<(ev l x).Depth→∃y,EN (Gh l ((GV l).take i)) a=some y∧EN (Bz l) a=some y:=fun a k1 k2=>by
  have :=aSA Y.nodup hi k1 (by rw[J];exact k2);cases hl:EN (Gh l ((GV l).take i)) a with
  |some y=>exact⟨y,rfl,aTX hl⟩
  |none=>rw[iW,u]at hl;exact absurd this hl
 have q:EN (Gh l ((GV l).take i)) (Hg l (Gh l ((GV l).take i)) (ev l x)).id=none:=by
  show EN _ (ev l x).Id=none;rw[z,iW,u];intro L;obtain⟨j,hj,e⟩:=Fv L;rw[FD]at hj;rw[WJ,←J]at e;exact IW.1 (ZH.1 Y.order) j i AA hi AA e
 have h1:EN (Gh l ((GV l).take (i+1))) x=some (Hg l (Gh l ((GV l).take i)) (ev l x)):=by
  rw[aAj l hi,J,tC q];have :(x==(Hg l (Gh l ((GV l).take i)) (ev l x)).id)=true:=by show(x==(ev l x).Id)=true;rw[z];exact KI _
  rw[this];rfl
 have h2:=aTX h1
 have h3:Hg l (Bz l) (ev l x)=Hg l (Gh l ((GV l).take i)) (ev l x):=by
  obtain⟨Z,dp⟩:=Xu hd hm;refine aiO l (fun a ha=>?_) fun a ha=>?_
  ·obtain⟨y,O,U⟩:=I a (dp a ha).1 (dp a ha).2;unfold H8;rw[O,U]
  obtain⟨y,O,U⟩:=I a (Z a ha).1 (Z a ha).2;unfold errOf;rw[O,U]
 rw[h3];exact h2
def aRc {l l':List AL} {S:List Int} (h:Gl l l' S) (q:Ik l) (hd:H6 l=0) (u:Ik l') (z:H6 l'=0):∀x∈S,EN (Bz l') x=EN (Bz l) x∧Jw S (H8 (Bz l) x):=by
 have key:∀(n:Nat) (x:Int),x∈S→(ev l x).Depth<(n:Int)→EN (Bz l') x=EN (Bz l) x∧Jw S (H8 (Bz l) x):=by
  intro n
  induction n with
  |zero=>
   intro x j M;have :=(q.dep _ (I9 (GH (h.mem x j).1).1)).1;omega
  |succ n L=>
   intro x j M;obtain⟨I,k2,k3⟩:=h.mem x j;obtain⟨O,U⟩:=Xu hd (I9 (GH I).1)
   obtain⟨Y,q2,Z⟩:=h.line j (t:=Bz l) (t':=Bz l') (fun a ha=>by
    obtain⟨J,e2⟩:=L a (h.prev x j a ha) (by have :=(U a ha).2;omega)
    exact⟨by unfold H8;rw[J],e2⟩) fun a ha=>by
    obtain⟨J,_⟩:=L a (h.auth x j a ha) (by have :=(O a ha).2;omega);unfold errOf;rw[J]
   rw[aCU q hd I,aCU u z k2,Y];exact⟨rfl,by unfold H8;rw[aCU q hd I];exact Z⟩
 intro x j;have :=(q.dep _ (I9 (GH (h.mem x j).1).1)).2;exact key 100001 x j AA
def apA (l:List AL) (t:List DR):Dk l t=(l.map (·.Id)).filter (JR t):=by
 unfold Dk;rw[List.filter_map];rfl
end Go.Proofs.YtkkdimcnpacjhaaGreat
end
section
namespace Go.Proofs.YtkkdimcnpacjhaaGreat
def Sr (n:Int):Int:=if n<0 then bits .xor .u64 IntKind.u64.max (IntKind.u64.wrap (IntKind.u64.wrap n*2))else IntKind.u64.wrap (IntKind.u64.wrap n*2)
def uV (n:Int):0≤Sr n∧Sr n<18446744073709551616:=by
 unfold Sr;have j:∀x:Int,0≤IntKind.u64.wrap x∧IntKind.u64.wrap x<18446744073709551616:=fun x=>by rw[iF];omega
 split
 ·obtain⟨q,z⟩:=j (IntKind.u64.wrap n*2);generalize IntKind.u64.wrap (IntKind.u64.wrap n*2)=y at *;obtain⟨k,rfl⟩:=Int.eq_ofNat_of_zero_le q;have :(IntKind.u64.max:Int)=((18446744073709551615:Nat):Int):=BK
  rw[this,bits_xor_u64_nat _ _ AA AA];have :18446744073709551615^^^k<2^64:=Nat.xor_lt_two_pow AA AA;constructor
  ·exact aMp _
  have u:(2:Nat)^64=18446744073709551616:=BK
  omega
 exact j _
def OD (u:Nat):List Int:=if u<128 then[(u:Int)]else((u % 128+128:Nat):Int)::OD (u/128)
termination_by u
decreasing_by omega
def er {u:Nat} (h:u<128):OD u=[(u:Int)]:=by rw[OD,CS h]
def aNU {u:Nat} (h:¬u<128):OD u=((u % 128+128:Nat):Int)::OD (u/128):=by rw[OD,CY h]
def aUH :∀(j u:Nat),u<128^(j+1)→(OD u).length≤j+1
 |0,u,h=>by rw[er JZ];simp
 |j+1,u,h=>by
  by_cases q:u<128
  ·rw[er q];simp
  rw[aNU q]
  have :u/128<128^(j+1):=by
   rw[Nat.div_lt_iff_lt_mul AA];rw[Nat.pow_succ]at h;exact h
  have :=aUH j (u/128) this;simp;omega
def enc (n:Int):List Int:=OD (Sr n).toNat
def Oh (n:Int):(enc n).length≤10:=by
 have h:=(uV n).2;refine aUH 9 _ ?_;have :(128:Nat)^10=1180591620717411303424:=BK
 rw[this];have :=(uV n).1;omega
def am5 (k:Nat):bits .or .u8 ((k:Int) % 256) 128=((k % 128+128:Nat):Int):=by
 have h:=u8_or_nat (k % 256) 128 AA AA;rw[show((k:Int) % 256)=((k % 256:Nat):Int)from by omega];have j:(128:Int)=((128:Nat):Int):=rfl;rw[j,h];congr 1;have key:∀x,x<256→x|||128=x % 128+128:=OX
 rw[key _ AA];omega
def yc (u c:Int):Int:=(IntKind.u64.wrap (bits .xor .u64 u (IntKind.u64.wrap c)*1099511628211)).tmod 4611686018427387904
def aXK (x:Int):bits .and .u64 (IntKind.u64.wrap x) 4611686018427387903=(IntKind.u64.wrap x).tmod 4611686018427387904:=by
 rw[iF];have h:=bits_mask .u64 64 BK (fun n q u=>by rw[iF];omega) 62 BK (x % 18446744073709551616) AA AA;have e:((2:Int)^62-1)=4611686018427387903:=BK
 have j:((2:Int)^62)=4611686018427387904:=BK
 rw[aTn AA];simpa[e,j]using h
def apE (u c:Int):bits .and .u64 (IntKind.u64.wrap (bits .xor .u64 u (IntKind.u64.wrap c)*1099511628211)) 4611686018427387903=yc u c:=aXK _
def aC5 (op:BinOp) (k:IntKind) (x y:Int) (h:op=.and∨op=.or∨op=.xor):ET op k x y=bits op k x y:=by
 rcases h with rfl|rfl|rfl<;>rfl
def Nj {α:Type} {b:Nat} {l m:List α} (j:b≤100) (h:(l++m).length≤1099511627776):C9 b l m=some (l++m):=by
 refine D6 ?_;rw[EI]at h;have :(l.length+m.length)*b≤1099511627776*100:=zC h j;omega
def ame (u:Nat):ET .or .u8 (IntKind.u8.wrap (u:Int)) 128=((u % 128+128:Nat):Int):=by
 rw[aC5 _ _ _ _ (.inr (.inl rfl)),show IntKind.u8.wrap (u:Int)=(u:Int) % 256 from by rw[fV],am5]
def alr (u:Nat):Ox .shr .u64 (u:Int) 7=some ((u/128:Nat):Int):=by
 unfold Ox;rw[CY AA];show some ((u:Int).fdiv (2^7))=_;rw[aT0 _ BK];congr 1
def aX0 {u n:Nat} (h:u<128^(n+1+1)):u/128<128^(n+1):=by
 rw[Nat.div_lt_iff_lt_mul AA];rw[Nat.pow_succ]at h;exact h
def aoH :∀(n u:Nat),u<128^(n+1)→∀m b,n<m→(b++OD u).length≤1099511627776→aV Vk m b (u:Int)=some (b++OD u):=by
 intro n
 induction n with
 |zero=>
  intro u q m b hm j;obtain⟨m,rfl⟩:∃z,m=z+1:=⟨m-1,AA⟩
  have h:u<128:=MV
  rw[er h]at j ⊢;show Vk (aV Vk m) b (u:Int)=_;simp only[Vk,show decide ((u:Int)≥128)=false from by simp;omega,Aj];rw[show IntKind.u8.wrap (u:Int)=(u:Int)from by rw[fV];omega,Nj AA j];rfl
 |succ n J=>
  intro u q m b hm j;obtain⟨m,rfl⟩:∃z,m=z+1:=⟨m-1,AA⟩
  show Vk (aV Vk m) b (u:Int)=_;by_cases h:u<128
  ·rw[er h]at j ⊢;simp only[Vk,show decide ((u:Int)≥128)=false from by simp;omega,Aj];rw[show IntKind.u8.wrap (u:Int)=(u:Int)from by rw[fV];omega,Nj AA j];rfl
  rw[aNU h]at j ⊢;have e:(b++((u % 128+128:Nat):Int)::OD (u/128))=(b++[((u % 128+128:Nat):Int)])++OD (u/128):=BF
  have I:(b++[((u % 128+128:Nat):Int)]).length≤1099511627776:=by simp only[EI,G7,LY]at j ⊢;omega
  simp only[Vk,show decide ((u:Int)≥128)=true from by simp;omega,Az,ame,Nj (show 1≤100 by omega) I,alr,AO];rw[e];exact J (u/128) (aX0 q) m _ AA (by rw[←e];exact j)
def anV :∀(n u:Nat),u<128^(n+1)→u<18446744073709551616→∀m b,n<m→(b++OD u).length≤1099511627776→aV VY m (u:Int) b=some (b++OD u):=by
 intro n
 induction n with
 |zero=>
  intro u q _ m b hm j;obtain⟨m,rfl⟩:∃z,m=z+1:=⟨m-1,AA⟩
  have h:u<128:=MV
  rw[er h]at j ⊢;show VY (aV VY m) (u:Int) b=_;simp only[VY,show decide ((u:Int)≥128)=false from by simp;omega,Aj];rw[show IntKind.u8.wrap (u:Int)=(u:Int)from by rw[fV];omega,Nj AA j];rfl
 |succ n J=>
  intro u q L m b hm j;obtain⟨m,rfl⟩:∃z,m=z+1:=⟨m-1,AA⟩
  show VY (aV VY m) (u:Int) b=_;by_cases h:u<128
  ·rw[er h]at j ⊢;simp only[VY,show decide ((u:Int)≥128)=false from by simp;omega,Aj];rw[show IntKind.u8.wrap (u:Int)=(u:Int)from by rw[fV];omega,Nj AA j];rfl
  rw[aNU h]at j ⊢;have e:(b++((u % 128+128:Nat):Int)::OD (u/128))=(b++[((u % 128+128:Nat):Int)])++OD (u/128):=BF
  have I:(b++[((u % 128+128:Nat):Int)]).length≤1099511627776:=by simp only[EI,G7,LY]at j ⊢;omega
  have M:aO (u:Int) 128=some ((u % 128:Nat):Int):=by unfold aO;rw[CY AA,aTn AA];congr 1
  have O:aJG .u64 (u:Int) 128=some ((u/128:Nat):Int):=by
   unfold aJG;rw[CY AA,Int.tdiv_eq_ediv_of_nonneg AA];congr 1;rw[iF];omega
  have U:IntKind.u8.wrap (IntKind.u64.wrap (((u % 128:Nat):Int)+128))=((u % 128+128:Nat):Int):=by rw[iF,fV];omega
  simp only[VY,show decide ((u:Int)≥128)=true from by simp;omega,Az,M,U,O,Nj (show 1≤100 by omega) I,AO];rw[e];exact J (u/128) (aX0 q) AA m _ AA (by rw[←e];exact j)
def aWe (x:Int):Ox .shl .u64 x 1=some (IntKind.u64.wrap (x*2)):=rfl
def aTG (x:Int):jX .u64 x=bits .xor .u64 IntKind.u64.max x:=rfl
def aRD (n:Int):(Sr n).toNat<128^(9+1):=by
 have j:=uV n;have :(128:Nat)^(9+1)=1180591620717411303424:=BK
 rw[this];omega
def aXg :9<Ag:=jO
def number_eq {b:List Int} {n:Int} (h:(b++enc n).length≤1099511627776):Y9 b n=some (b++enc n):=by
 have u:=uV n
 have j:aRi b (Sr n)=some (b++enc n):=by
  have :=aoH 9 (Sr n).toNat (aRD n) Ag b aXg h
  rwa [Int.toNat_of_nonneg u.1]at this
 unfold Y9;rw[aWe,AO];unfold aA3;unfold Sr at j;by_cases q:n<0
 ·rw[CS q]at j;rw[show decide (n<0)=true by simpa using q,Az,aTG];exact j
 rw[CY q]at j;rw[show decide (n<0)=false by simpa using q,Aj];exact j
def ajq (n:Int):([]++enc n).length≤1099511627776:=by have :=Oh n;simp only[II];omega
def aSa (n:Int):aAF n=some (enc n):=by
 have u:=uV n
 have j:aTp (Sr n) []=some (enc n):=by
  have :=anV 9 (Sr n).toNat (aRD n) AA Ag [] aXg (ajq n)
  rwa [Int.toNat_of_nonneg u.1]at this
 unfold aAF;rw[aWe,AO];unfold aLc;unfold Sr at j;by_cases q:n<0
 ·rw[CS q]at j;rw[show decide (n<0)=true by simpa using q,Az,aTG];exact j
 rw[CY q]at j;rw[show decide (n<0)=false by simpa using q,Aj];exact j
def yD {b:List Int} {m:Nat} (h:b.length+m≤1099511627776):Xj b (m:Int)=some b:=by
 unfold Xj;rw[NG AA AA];unfold Ia;rw[CS ⟨AA,AA,AA⟩];simp[gCopy]
def aEo {a b:List Int} (h:(a++b).length≤1099511627776):a.length≤1099511627776:=by rw[EI]at h;omega
def JW (s:ByteArray):List Int:=enc s.size++BX s
def text_eq {b:List Int} {s:ByteArray} (h:(b++JW s).length≤1099511627776):ql b s=some (b++JW s):=by
 unfold JW at h ⊢;rw[←Hw]at h ⊢;unfold ql;rw[number_eq (aEo h),AO,Nj AA h];rfl
def mP {b:List Int} {n:Int} (h:b.length+10≤1099511627776):NT b n=some (b++enc n):=by
 have :=Oh n;unfold NT;rw[show(10:Int)=((10:Nat):Int)from rfl,yD AA,AO,number_eq KU];rfl
def Xy {b:List Int} {n:Int} (h:b.length+10≤1099511627776):LJ b n=some (b++enc n):=by
 have :=Oh n;unfold LJ;rw[Nj AA aF0,AO,aSa,AO,II,Nj AA KU];rfl
def jL (s:ByteArray):(JW s).length≤s.size+10:=by
 have :=Oh s.size;unfold JW;rw[EI,Ic];omega
def aoj {b:List Int} {s:ByteArray} (h:b.length+s.size+10≤1099511627776):SE b s=some (b++JW s):=by
 have :=jL s;unfold SE;rw[NG AA AA,show(s.size:Int)+10=((s.size+10:Nat):Int) by omega,yD AA,AO,text_eq KU];rfl
def aVL {b:List Int} {s:ByteArray} (h:b.length+s.size+10≤1099511627776):RS b s=some (b++JW s):=by
 have :=jL s;unfold RS;rw[Xy AA,AO,Nj AA (by unfold JW at this;rw[EI]at this;rw[EI,EI];omega)];simp[JW]
def amm {b:List Int} {j:Bool} (h:b.length+10≤1099511627776):Yb b j=some (b++[bif j then 1 else 0]):=by
 unfold Yb;rw[show(1:Int)=((1:Nat):Int)from rfl,yD AA,AO];cases j<;>simp only[Az,Aj]<;>rw[Nj AA aLY]<;>rfl
def alz {b:List Int} {j:Bool} (h:b.length+10≤1099511627776):yP b j=some (b++[bif j then 1 else 0]):=by
 unfold yP;rw[Nj AA aF0,AO,II];cases j<;>simp only[Az,Aj]<;>rw[Nj AA aLY]<;>rfl
def aIk {α:Type} {body:(List Int→Int→Option (List Int))→List Int→Int→Option (List Int)} (l:List α) (hl:l.length<Ag) (g:α→List Int)
 (z:∀k b (i:Nat) (h:i<l.length),(b++g l[i]).length≤1099511627776→body k b (i:Int)=k (b++g l[i]) (Ai ((i:Int)+1))) (I:∀k b,body k b (l.length:Int)=some b) (b:List Int) (j:(b++l.flatMap g).length≤1099511627776):
 aV body Ag b 0=some (b++l.flatMap g):=by
 have L:Ag=9223372036854775808:=rfl
 have key:∀n (i:Nat) b,i+n=l.length→(b++(l.drop i).flatMap g).length≤1099511627776→∀m,n<m→aV body m b (i:Int)=some (b++(l.drop i).flatMap g):=by
  intro n
  induction n with
  |zero=>
   intro i b hi j m hm;obtain⟨m,rfl⟩:∃u,m=u+1:=⟨m-1,AA⟩
   have :i=l.length:=AA
   subst this;show body (aV body m) _ _=_;rw[I,PU];simp
  |succ n J=>
   intro i b hi j m hm;obtain⟨m,rfl⟩:∃u,m=u+1:=⟨m-1,AA⟩
   have q:i<l.length:=AA
   rw[Kw q,KO,←Hw]at j ⊢;show body (aV body m) _ _=_;rw[z _ _ i q (aEo j),wrap_succ i AA];exact J (i+1) _ AA j m AA
 exact key l.length 0 b AA j Ag hl
def Pm (l:List Int):List Int:=enc l.length++l.flatMap enc
def PY (l:List ByteArray):List Int:=enc l.length++l.flatMap JW
def ac8 {b:List Int} {l:List Int} (h:(b++Pm l).length≤1099511627776) (hl:l.length≤1000):aD6 b l=some (b++Pm l):=by
 have q:Ag=9223372036854775808:=rfl;unfold Pm at h ⊢;rw[←Hw]at h ⊢;unfold aD6;rw[number_eq (aEo h),AO];unfold aTV;refine aIk l AA enc (fun k b i hi j=>?_) (fun k b=>?_) _ h
 ·simp only[aN3,dec_lt hi,Az,Bd hi,number_eq j,AO]
 simp only[aN3,Ce,Aj]
def alJ {b:List Int} {l:List ByteArray} (h:(b++PY l).length≤1099511627776) (hl:l.length≤1000000000):aDd b l=some (b++PY l):=by
 have q:Ag=9223372036854775808:=rfl;unfold PY at h ⊢;rw[←Hw]at h ⊢;unfold aDd;rw[number_eq (aEo h),AO];unfold aQz;refine aIk l AA JW (fun k b i hi j=>?_) (fun k b=>?_) _ h
 ·simp only[aNt,dec_lt hi,Az,Bd hi,text_eq j,AO]
 simp only[aNt,Ce,Aj]
def aEH {α:Type} {g:α→List Int} {m:Nat}:∀{l:List α},(∀x∈l,(g x).length≤m)→(l.flatMap g).length≤l.length*m
 | [],_=>BF
 |x::l,h=>by
  rw[KO,EI,G7,VR];have :=h x EU;have :=aEH (l:=l) (fun y j=>h y (FB _ j));omega
def aKg (l:List Int):(Pm l).length≤l.length*10+10:=by
 have j:=Oh l.length;have q:=aEH (g:=enc) (m:=10) (l:=l) (fun x _=>Oh x);unfold Pm;rw[EI];omega
def aK4 {l:List ByteArray} {m:Nat} (h:∀s∈l,s.size≤m):(PY l).length≤l.length*(m+10)+10:=by
 have j:=Oh l.length;have q:=aEH (g:=JW) (m:=m+10) (l:=l) (fun s hs=>by have :=jL s;have :=h s hs;omega);unfold PY;rw[EI];omega
def ad5 {b:List Int} {l:List Int} (j:b.length+20000≤1099511627776) (hl:l.length≤1000):Xi b l=some (b++Pm l):=by
 have q:=aKg l;unfold Xi;rw[NG (x:=2*(l.length:Int)) AA AA,NG AA AA,show 2*(l.length:Int)+10=((2*l.length+10:Nat):Int) by omega,yD AA,AO,ac8 KU hl];rfl
def aie {b:List Int} {l:List Int} (q:b.length+20000≤1099511627776) (hl:l.length≤1000):xH b l=some (b++Pm l):=by
 have u:Ag=9223372036854775808:=rfl;have z:=aKg l;have h:(b++Pm l).length≤1099511627776:=KU
 unfold Pm at h ⊢;rw[←Hw]at h ⊢;unfold xH;rw[Xy AA,AO];unfold aa5;refine aIk l AA enc (fun k b i hi j=>?_) (fun k b=>?_) _ h
 ·simp only[aO8,dec_lt hi,Az,Bd hi,aSa,Nj (show 1≤100 by omega) j,AO]
 simp only[aO8,Ce,Aj]
def afU {b:List Int} {l:List ByteArray} (j:b.length+3000000≤1099511627776) (hl:l.length≤1000) (hs:∀s∈l,s.size≤2000):fZ b l=some (b++PY l):=by
 have q:=aK4 hs;unfold fZ;rw[NG (x:=8*(l.length:Int)) AA AA,NG AA AA,show 8*(l.length:Int)+10=((8*l.length+10:Nat):Int) by omega,yD AA,AO,alJ KU AA];rfl
def aeE {b:List Int} {l:List ByteArray} (I:b.length+3000000≤1099511627776) (hl:l.length≤1000) (hs:∀s∈l,s.size≤2000):qJ b l=some (b++PY l):=by
 have J:Ag=9223372036854775808:=rfl;have L:=aK4 hs;have h:(b++PY l).length≤1099511627776:=KU
 have key:∀n (i:Nat) b,i+n=l.length→b.length+(n*2020)≤1099511620000→∀m,n<m→aV (Xx l) m b (i:Int)=some (b++(l.drop i).flatMap JW):=by
  intro n
  induction n with
  |zero=>
   intro i b hi u m hm;obtain⟨m,rfl⟩:∃q,m=q+1:=⟨m-1,AA⟩
   have :i=l.length:=AA
   subst this;show Xx l (aV (Xx l) m) _ _=_;simp only[Xx,Ce,Aj,PU];simp
  |succ n z=>
   intro i b hi u m hm;obtain⟨m,rfl⟩:∃q,m=q+1:=⟨m-1,AA⟩
   have j:i<l.length:=AA
   have M:=hs l[i] (EJ j);have O:=jL l[i];rw[Kw j,KO,←Hw];show Xx l (aV (Xx l) m) _ _=_;simp only[Xx,dec_lt j,Az,Bd j,AO];rw[aVL AA,AO,wrap_succ i AA];exact z (i+1) _ AA KU m AA
 unfold PY;rw[←Hw];unfold qJ;rw[Xy AA,AO];unfold aQI;have :=key l.length 0 (b++enc l.length) AA (by have :=Oh l.length;rw[EI];omega) Ag AA;exact this
structure QS (c:Bj):Prop where
 allow:c.Allow.length≤100
 deny:c.gJ.length≤100
 users:c.Levels.Users.length≤100
 kinds:c.Levels.Kinds.length≤100
 text:c.Text.size≤2000
 via:c.Via.size≤2000
 allows:∀x∈c.Allow,x.size≤2000
 denies:∀x∈c.gJ,x.size≤2000
 names:∀x∈c.Levels.Users,x.User.size≤2000
def Ea.content {e:AL} (h:Ea e):QS e.Content:=⟨h.allow,h.deny,h.users,h.kinds,h.text,h.via,h.allows,h.denies,h.names⟩
section
variable {b : List Int} {k : Nat}
def TJ (h:b.length≤k) (j:k≤1000000000) (n:Int):NT b n=some (b++enc n)∧LJ b n=some (b++enc n)∧(b++enc n).length≤k+10:=by
 have :=Oh n;exact⟨mP AA,Xy AA,KU⟩
def aRI (h:b.length≤k) (q:k≤1000000000) (j:Bool):Yb b j=some (b++[bif j then 1 else 0])∧yP b j=some (b++[bif j then 1 else 0])∧(b++[bif j then(1:Int)else 0]).length≤k+10:=
 ⟨amm AA,alz AA,aLY⟩
def Ws (h:b.length≤k) (j:k≤1000000000) {s:ByteArray} (m:Nat) (hs:s.size≤m) (hm:m≤1000000000):SE b s=some (b++JW s)∧RS b s=some (b++JW s)∧(b++JW s).length≤k+m+10:=by
 have :=jL s;exact⟨aoj AA,aVL AA,KU⟩
def aSf (h:b.length≤k) (j:k≤1000000000) {l:List Int} (hl:l.length≤100):Xi b l=some (b++Pm l)∧xH b l=some (b++Pm l)∧(b++Pm l).length≤k+1010:=by
 have :=aKg l;exact⟨ad5 AA AA,aie AA AA,KU⟩
def aQn (h:b.length≤k) (j:k≤1000000000) {l:List ByteArray} (hl:l.length≤100) (hs:∀s∈l,s.size≤2000):fZ b l=some (b++PY l)∧qJ b l=some (b++PY l)∧(b++PY l).length≤k+201010:=by
 have :=aK4 hs;exact⟨afU AA AA hs,aeE AA AA hs,KU⟩
end
def SB (u:Hz):List Int:=JW u.User++enc u.N
def S9 (u:J8):List Int:=enc u.Kind++enc u.N
def JQ (l:Bf):List Int:=[l.User,l.Message,l.State,l.fG,l.jR,l.mZ,l.gB]
def anS (b:List Int) (l:Bf):List Int:=b++enc l.Users.length++l.Users.flatMap SB++enc l.Kinds.length++l.Kinds.flatMap S9++(JQ l).flatMap enc
def kV (c:Bj):List Int:=anS ([]++JW c.Text++enc c.N++enc c.Target++[bif c.Thread then 1 else 0]++JW c.Via++PY c.Allow++PY c.gJ) c.Levels
def amx {u:Hz} (h:u.User.size≤2000):(SB u).length≤2020:=by
 have :=jL u.User;have :=Oh u.N;unfold SB;rw[EI];omega
def aSM (u:J8):(S9 u).length≤20:=by
 have :=Oh u.Kind;have :=Oh u.N;unfold S9;rw[EI];omega
def lX {R α:Type} {body:(List Int→Int→Option R)→List Int→Int→Option R} (l:List α) (hl:l.length≤1000) (g:α→List Int) (m:Nat) (hm:∀x∈l,(g x).length≤m) (j:List Int→Option R) (b:List Int)
 (q:∀k a (i:Nat) (h:i<l.length),a.length≤b.length+i*m→body k a (i:Int)=k (a++g l[i]) (Ai ((i:Int)+1)))
 (u:∀k a,a.length≤b.length+l.length*m→body k a (l.length:Int)=j a):aV body Ag b 0=j (b++l.flatMap g)∧(b++l.flatMap g).length≤b.length+l.length*m:=by
 constructor
 ·rw[Hu l AA (fun a x=>a++g x) (fun i a=>a.length≤b.length+i*m) j AA (fun k a i h z=>⟨?_,q k a i h z⟩) u,foldl_append g];have :=hm l[i] (EJ h);rw[EI,VR];omega
 have :=aEH hm;rw[EI];omega
def aiK (c:Bj) (b:List Int) (J:b.length≤900000):(aKk c b 0=some (b++(JQ c.Levels).flatMap enc)∧aI6 (JQ c.Levels) b 0=some (b++(JQ c.Levels).flatMap enc))∧(b++(JQ c.Levels).flatMap enc).length≤b.length+70:=by
 have u:∀i:Nat,(h:i<(JQ c.Levels).length)→Af ([c.Levels.User,c.Levels.Message,c.Levels.State,c.Levels.fG,c.Levels.jR,c.Levels.mZ,c.Levels.gB]:List Int) (i:Int)=some (JQ c.Levels)[i]:=fun i h=>Bd h
 have q:=lX (body:=aKj c) (JQ c.Levels) (by simp[JQ]) enc 10 (fun x _=>Oh x) some b (fun k a i h j=>by
  have z:i<7:=h;unfold aKj
  rw[Gi (show(i:Int)<7 by omega),Az,u i h,AO,mP AA,AO]) fun k a j=>rfl
 have I:=lX (body:=aAk (JQ c.Levels)) (JQ c.Levels) (by simp[JQ]) enc 10 (fun x _=>Oh x) some b (fun k a i h j=>by
  have z:i<7:=h;unfold aAk
  rw[Bo h,Xy AA,AO]) fun k a j=>by unfold aAk;rw[Ce];rfl
 exact⟨⟨q.1,I.1⟩,q.2⟩
def agD (c:Bj) (b:List Int) (L:b.length≤800000) (M:c.Levels.Kinds.length≤100):(aON c b 0=some (b++c.Levels.Kinds.flatMap S9++(JQ c.Levels).flatMap enc)∧aLn c b 0=some (b++c.Levels.Kinds.flatMap S9++(JQ c.Levels).flatMap enc))∧(b++c.Levels.Kinds.flatMap S9++(JQ c.Levels).flatMap enc).length≤b.length+2070:=by
 have u:=lX (body:=aFr c) c.Levels.Kinds AA S9 20 (fun x _=>aSM x) (fun a=>aKk c a 0) b (fun k a i h j=>by
  obtain⟨q,_,I⟩:=TJ (b:=a) (k:=900000) AA AA c.Levels.Kinds[i].Kind;unfold aFr
  rw[Bo h,q,AO,mP AA,AO,Hw];rfl) fun k a j=>by unfold aFr;rw[Ce];rfl
 have J:=lX (body:=aBt c) c.Levels.Kinds AA S9 20 (fun x _=>aSM x) (fun a=>aI6 (JQ c.Levels) a 0) b (fun k a i h j=>by
  obtain⟨_,q,I⟩:=TJ (b:=a) (k:=900000) AA AA c.Levels.Kinds[i].Kind;unfold aBt
  rw[Bo h,q,AO,Bd h,AO,Xy AA,AO,Hw];rfl) fun k a j=>by unfold aBt aUv;rw[Ce,Aj,AO];rfl
 have hl:=u.2;have z:=aiK c (b++c.Levels.Kinds.flatMap S9) AA;exact⟨⟨u.1.trans z.1.1,J.1.trans z.1.2⟩,AA⟩
def ael (c:Bj) (b:List Int) (Z:b.length≤500000) (j:QS c):(aQs c b 0=some (b++c.Levels.Users.flatMap SB++enc c.Levels.Kinds.length++c.Levels.Kinds.flatMap S9++(JQ c.Levels).flatMap enc)∧aVj c b 0=some (b++c.Levels.Users.flatMap SB++enc c.Levels.Kinds.length++c.Levels.Kinds.flatMap S9++(JQ c.Levels).flatMap enc))∧(b++c.Levels.Users.flatMap SB++enc c.Levels.Kinds.length++c.Levels.Kinds.flatMap S9++(JQ c.Levels).flatMap enc).length≤b.length+204080:=by
 have hu:=j.users;have I:∀x∈c.Levels.Users,(SB x).length≤2020:=fun x L=>amx (j.names x L)
 have J:=lX (body:=aAi c) c.Levels.Users AA SB 2020 I (fun a=>aON c (a++enc c.Levels.Kinds.length) 0) b (fun k a i h q=>by
  have hs:=j.names _ (EJ h);obtain⟨u,_,M⟩:=Ws (b:=a) (k:=900000) AA AA (s:=c.Levels.Users[i].User) 2000 hs AA;unfold aAi
  rw[Bo h,u,AO,mP AA,AO,Hw];rfl) fun k a q=>by unfold aAi;rw[Ce,Aj,mP AA,AO]
 have O:=lX (body:=aG5 c) c.Levels.Users AA SB 2020 I (fun a=>aLn c (a++enc c.Levels.Kinds.length) 0) b (fun k a i h q=>by
  have hs:=j.names _ (EJ h);obtain⟨_,u,M⟩:=Ws (b:=a) (k:=900000) AA AA (s:=c.Levels.Users[i].User) 2000 hs AA;unfold aG5
  rw[Bo h,u,AO,Bd h,AO,Xy AA,AO,Hw];rfl) fun k a q=>by unfold aG5;rw[Ce,Aj,Xy AA,AO]
 have hl:=J.2;have he:=Oh (c.Levels.Kinds.length:Int);have U:(b++c.Levels.Users.flatMap SB++enc c.Levels.Kinds.length).length=(b++c.Levels.Users.flatMap SB).length+(enc c.Levels.Kinds.length).length:=EI ..;have z:=agD c (b++c.Levels.Users.flatMap SB++enc c.Levels.Kinds.length) AA j.kinds;have Y:=z.2;rw[U]at Y;exact⟨⟨J.1.trans z.1.1,O.1.trans z.1.2⟩,AA⟩
def aXl {c:Bj} (j:QS c):tV c=some (kV c)∧Mid c=some (kV c)∧(kV c).length≤700000:=by
 obtain⟨q,u,z⟩:=Ws (b:=[]) (k:=0) (Dq _) AA 2000 j.text AA;obtain⟨I,J,L⟩:=TJ z AA c.N;obtain⟨M,O,U⟩:=TJ L AA c.Target;obtain⟨Y,Z,h4⟩:=aRI U AA c.Thread;obtain⟨a5,b5,h5⟩:=Ws h4 AA 2000 j.via AA;obtain⟨a6,b6,h6⟩:=aQn h5 AA j.allow j.allows;obtain⟨a7,b7,h7⟩:=aQn h6 AA j.deny j.denies;obtain⟨a8,b8,h8⟩:=TJ h7 AA (c.Levels.Users.length:Int);obtain⟨⟨a9,b9⟩,h9⟩:=ael c _ (Ed h8 AA) j;refine⟨?_,?_,Ed h9 AA⟩
 ·unfold tV;rw[q,AO,I,AO,M,AO,Y,AO,a5,AO,a6,AO,a7,AO,a8,AO];exact a9
 unfold Mid;rw[u,AO,J,AO,O,AO,Z,AO,b5,AO,b6,AO,b7,AO,b8,AO];exact b9
def lY (e:AL):List Int:=
 []++enc e.Id++JW e.Room++JW e.aQ++enc e.Kind++[bif e.State then 1 else 0]++JW e.Key++enc e.Time++enc e.Depth++Pm e.aU++Pm e.aZ++JW (Qg (kV e.Content))++enc e.Hash++JW e.ng.Server++enc e.ng.Sum
def adO (l:List Int):(Qg l).size=l.length:=by
 have key:∀(l:List Int) (r:ByteArray),(l.foldl (fun r n=>r.push (UInt8.ofNat n.toNat)) r).size=r.size+l.length:=by
  intro l
  induction l with
  |nil=>intro r;rfl
  |cons x l j=>intro r;rw[F5,j,ByteArray.size_push,G7];omega
 unfold Qg;rw[key];simp
def aBU {S α:Type} {body:(Int→S→Option S)→Int→S→Option S} (l:List α) (hl:l.length<1000) (f:S→α→Option S)
 (u:∀k (i:Nat) (h:i<l.length) s,body k (i:Int) s=(f s l[i]).bind fun x=>k (Ai ((i:Int)+1)) x) (z:∀k s,body k (l.length:Int) s=some s) (s:S):aV body Ag 0 s=l.foldlM f s:=by
 have J:Ag=9223372036854775808:=rfl
 have key:∀n (i:Nat) s,i+n=l.length→∀m,n<m→aV body m (i:Int) s=(l.drop i).foldlM f s:=by
  intro n
  induction n with
  |zero=>
   intro i s hi m hm;obtain⟨m,rfl⟩:∃q,m=q+1:=⟨m-1,AA⟩
   have :i=l.length:=AA
   subst this;rw[PU];exact z _ _
  |succ n I=>
   intro i s hi m hm;obtain⟨m,rfl⟩:∃q,m=q+1:=⟨m-1,AA⟩
   have j:i<l.length:=AA
   rw[Kw j,V3];show body (aV body m) _ _=(f s l[i]).bind _;rw[u _ i j,wrap_succ i AA];congr 1;funext x;exact I (i+1) x AA m AA
 exact key l.length 0 s AA Ag AA
def aSl (w:F9) (l:List Int) (hl:l.length<1000):UO w l=l.foldlM eY w:=by
 unfold UO aUo;exact aBU l hl _ (fun k i h s=>by simp only[aJE,dec_lt h,Az,Bd h,AO]) (fun k s=>by simp only[aJE,Ce,Aj]) w
def aYC (w:F9) (l:List ByteArray) (hl:l.length<1000):X0 w l=l.foldlM kL w:=by
 unfold X0 aWP;exact aBU l hl _ (fun k i h s=>by simp only[aIu,dec_lt h,Az,Bd h,AO]) (fun k s=>by simp only[aIu,Ce,Aj]) w
def aoL (w:F9) (l:List Bool) (hl:l.length<1000):mY w l=l.foldlM vY w:=by
 unfold mY aU4;exact aBU l hl _ (fun k i h s=>by simp only[aHJ,dec_lt h,Az,Bd h,AO]) (fun k s=>by simp only[aHJ,Ce,Aj]) w
def ap7 (w:F9) (l:List (List Int)) (hl:l.length<1000):xM w l=l.foldlM lF w:=by
 unfold xM aV5;exact aBU l hl _ (fun k i h s=>by simp only[aO7,dec_lt h,Az,Bd h,AO]) (fun k s=>by simp only[aO7,Ce,Aj]) w
def aNO {b c:List Int} {n:Int} (h:NT b n=some c):eY ⟨b⟩ n=some ⟨c⟩:=by unfold eY;rw[h];rfl
def aKc {b c:List Int} {n:ByteArray} (h:SE b n=some c):kL ⟨b⟩ n=some ⟨c⟩:=by unfold kL;rw[h];rfl
def afr {b c:List Int} {n:Bool} (h:Yb b n=some c):vY ⟨b⟩ n=some ⟨c⟩:=by unfold vY;rw[h];rfl
def aTl {b c:List Int} {n:List Int} (h:Xi b n=some c):lF ⟨b⟩ n=some ⟨c⟩:=by unfold lF;rw[h];rfl
def aAG {b c:List Int} {n:Int} (h:NT b n=some c):UO ⟨b⟩ [n]=some ⟨c⟩:=by
 rw[aSl _ _ BF,V3,aNO h];rfl
def ac9 {b c d:List Int} {n m:Int} (h:NT b n=some c) (k:NT c m=some d):UO ⟨b⟩ [n,m]=some ⟨d⟩:=by
 rw[aSl _ _ BF,V3,aNO h];show(eY ⟨c⟩ m).bind _=_;rw[aNO k];rfl
def aLO {b c:List Int} {n:ByteArray} (h:SE b n=some c):X0 ⟨b⟩ [n]=some ⟨c⟩:=by
 rw[aYC _ _ BF,V3,aKc h];rfl
def anW {b c d:List Int} {n m:ByteArray} (h:SE b n=some c) (k:SE c m=some d):X0 ⟨b⟩ [n,m]=some ⟨d⟩:=by
 rw[aYC _ _ BF,V3,aKc h];show(kL ⟨c⟩ m).bind _=_;rw[aKc k];rfl
def aeA {b c:List Int} {n:Bool} (h:Yb b n=some c):mY ⟨b⟩ [n]=some ⟨c⟩:=by
 rw[aoL _ _ BF,V3,afr h];rfl
def ahT {b c d:List Int} {n m:List Int} (h:Xi b n=some c) (k:Xi c m=some d):xM ⟨b⟩ [n,m]=some ⟨d⟩:=by
 rw[ap7 _ _ BF,V3,aTl h];show(lF ⟨c⟩ m).bind _=_;rw[aTl k];rfl
def adq {e:AL} (j:Ea e):qC e=some (lY e)∧Opn e=some (lY e)∧(lY e).length≤1000000:=by
 obtain⟨ac,bc,hc⟩:=aXl j.content;obtain⟨a1,b1,h1⟩:=TJ (b:=[]) (k:=0) (Dq _) AA e.Id;obtain⟨a2,b2,h2⟩:=Ws h1 AA 2000 j.room AA;obtain⟨a3,b3,h3⟩:=Ws h2 AA 2000 j.sender AA;obtain⟨a4,b4,h4⟩:=TJ h3 AA e.Kind;obtain⟨a5,b5,h5⟩:=aRI h4 AA e.State;obtain⟨a6,b6,h6⟩:=Ws h5 AA 2000 j.key AA;obtain⟨a7,b7,h7⟩:=TJ h6 AA e.Time;obtain⟨a8,b8,h8⟩:=TJ h7 AA e.Depth;obtain⟨a9,b9,h9⟩:=aSf h8 AA (Ed j.prev AA);obtain⟨q,u,z⟩:=aSf h9 AA (Ed j.auth AA);obtain⟨I,J,L⟩:=Ws z AA (s:=Qg (kV e.Content)) 700000 (by rw[adO];exact hc) AA;obtain⟨M,O,U⟩:=TJ L AA e.Hash;obtain⟨Y,Z,h13⟩:=Ws U AA 2000 j.server AA;obtain⟨a14,b14,h14⟩:=TJ h13 AA e.ng.Sum;refine⟨?_,?_,Ed h14 AA⟩
 ·unfold qC
  rw[show UO aFj [e.Id]=_ from aAG a1,AO,anW a2 a3,AO,aAG a4,AO,aeA a5,AO,aLO a6,AO,ac9 a7 a8,AO,ahT a9 q,AO,
   ac,AO,aLO I,AO,aAG M,AO,aLO Y,AO,aAG a14,AO]
  rfl
 unfold Opn;rw[b1,AO,b2,AO,b3,AO,b4,AO,b5,AO,b6,AO,b7,AO,b8,AO,b9,AO,u,AO,bc,AO,J,AO,O,AO,Z,AO,b14,AO];rfl
def gX (l:List Int):Int:=Ai (l.foldl yc ((IntKind.u64.wrap 860922984064492325).tmod 4611686018427387904))
def aWG {l:List Int} (hl:l.length≤1000000):sJ l=some (gX l):=by
 unfold sJ aOn;rw[AO];unfold aO0 aU6
 rw[aC5 _ _ _ _ (.inl rfl),aXK,Hu l AA yc (fun _ _=>True) (fun s=>some (Ai s)) trivial (fun k s i h _=>⟨trivial,by
  simp only[aIK,dec_lt h,Az,Bd h,AO,aC5 _ _ _ _ (.inl rfl),aC5 _ _ _ _ (.inr (.inr rfl)),apE]⟩) fun k s _=>by
  simp only[aIK,Ce,Aj]]
 rfl
def aUK {l:List Int} (hl:l.length≤1000000):aBb l=some (gX l):=by
 unfold aBb;rw[show aRo=some 860922984064492325 from rfl,AO];unfold aaC aUl
 rw[show aO (IntKind.u64.wrap 860922984064492325) 4611686018427387904=some ((IntKind.u64.wrap 860922984064492325).tmod 4611686018427387904)from rfl,AO,Hu l AA yc (fun _ _=>True) (fun s=>some (Ai s)) trivial (fun k s i h _=>⟨trivial,by
  have e:aO (IntKind.u64.wrap ((ET .xor .u64 s (IntKind.u64.wrap l[i]))*1099511628211)) 4611686018427387904=some (yc s l[i]):=rfl
  simp only[aJn,dec_lt h,Az,Bd h,AO,e]⟩) fun k s _=>by
  simp only[aJn,Ce,Aj]]
 rfl
def Z5 (k:Int) (c:Bj):Bj:=
 if k=1 then c else if k=2 then{ EL with N:=c.N,Via:=c.Via }else if k=3 then{ EL with Levels:=c.Levels }else if k=4 then{ EL with N:=c.N,Allow:=c.Allow }else
 if k=5 then{ EL with N:=c.N }else if k=6 then{ EL with Allow:=c.Allow,gJ:=c.gJ }else if k=14 then{ EL with Target:=c.Target }else EL
def aaZ {R:Type} (a b:Int) (x y:R):(bif a==b then x else y)=if a=b then x else y:=by
 by_cases h:a=b
 ·subst h;simp
 have :(a==b)=false:=JZ
 rw[this,CY h];rfl
def aad {R:Type} (p:Prop) [Decidable p] (x y:R):(if p then some x else some y)=some (if p then x else y):=by split<;>rfl
def aSZ (k:Int) (c:Bj):aDv k c=some (Z5 k c):=by
 unfold aDv Z5;simp only[aaZ,aad]
def texts_eq {l:List ByteArray} (h:l.length≤100):Ru l=some l:=by
 unfold Ru;rw[Nj AA aF0];rfl
def aSq {l:Bf} (q:l.Users.length≤100) (j:l.Kinds.length≤100):Zu l=some l:=by
 unfold Zu;rw[Nj AA aF0,AO,Nj AA (by rw[II];exact Ed j AA)];rfl
def aEl (k:Int):Int:=if k=2 then 18 else if k=3 then 128 else if k=4 then 34 else if k=5 then 2 else if k=6 then 96 else if k=14 then 4 else 0
def aeg (k:Int):kZ k=some (aEl k):=by
 by_cases q:k=2
 ·subst q;rfl
 by_cases u:k=3
 ·subst u;rfl
 by_cases z:k=4
 ·subst z;rfl
 by_cases I:k=5
 ·subst I;rfl
 by_cases j:k=6
 ·subst j;rfl
 unfold kZ kQ aEl;simp only[aaZ,q,u,z,I,j,Jh,show(k==6)=false from by simpa using j,Aj,aad]
def aW1 (k:Int) {c:Bj} (j:QS c):qA k c=some (Z5 k c):=by
 by_cases u:k=1
 ·subst u;show(Ru c.Allow).bind (fun O=>(Ru c.gJ).bind fun U=>(Zu c.Levels).bind fun Y=>some ({ { { c with Allow:=O }with gJ:=U }with Levels:=Y }))=_;rw[texts_eq j.allow,AO,texts_eq j.deny,AO,aSq j.users j.kinds];rfl
 unfold qA;rw[show(k==1)=false from by simpa using u,Aj,aeg,AO];by_cases z:k=2
 ·subst z;rfl
 by_cases I:k=3
 ·subst I;show(Zu c.Levels).bind (fun x=>some { EL with Levels:=x })=_;rw[aSq j.users j.kinds];rfl
 by_cases J:k=4
 ·subst J;show(Ru c.Allow).bind (fun x=>some { EL with N:=c.N,Allow:=x })=_;rw[texts_eq j.allow];rfl
 by_cases L:k=5
 ·subst L;rfl
 by_cases M:k=6
 ·subst M;show(Ru c.Allow).bind (fun x=>(Ru c.gJ).bind fun y=>some { EL with Allow:=x,gJ:=y })=_;rw[texts_eq j.allow,AO,texts_eq j.deny];rfl
 by_cases q:k=14
 ·subst q;rfl
 have Z:aEl k=0:=by unfold aEl;simp only[z,I,J,L,M,q,Jh]
 have e2:Z5 k c=EL:=by unfold Z5;simp only[u,z,I,J,L,M,q,Jh]
 rw[Z,e2];rfl
def QS.strip {c:Bj} (h:QS c) (k:Int):QS (Z5 k c):=by
 have j:(0:Nat)≤2000:=AA
 unfold Z5
 repeat' split
 all_goals first|exact h|exact⟨by simp[EL,KX,h.allow],by simp[EL,KX,h.deny],by simp[EL,KX,h.users],by simp[EL,KX,h.kinds],by first|exact h.text|exact j,by first|exact h.via|exact j,by first|exact h.allows|simp[EL],by first|exact h.denies|simp[EL],by first|exact h.names|simp[EL,KX]⟩
def aI8 (e:AL):AL:={ e with Content:=Z5 e.Kind e.Content }
def TK (e:AL):Prop:=Ea { e with ng:=aB }
def TK.content {e:AL} (h:TK e):QS e.Content:=Ea.content (e:={ e with ng:=aB }) h
def Ea.x {e:AL} (h:Ea e):TK e:=⟨h.prev,h.auth,h.allow,h.deny,h.users,h.kinds,h.room,h.sender,h.key,h.text,h.via,Du _,h.allows,h.denies,h.names⟩
def amf {e:AL} (j:TK e):aC7 e=some (aI8 e)∧aJ3 e=some (aI8 e):=by
 unfold aC7 aJ3;rw[aW1 _ j.content,aSZ];exact⟨rfl,rfl⟩
def Oq (e:AL):Int:=gX (kV e.Content)
def YV (e:AL):AL:={ { aI8 e with Id:=0 }with ng:=aB }
def Zy (e:AL):Int:=gX (lY (YV e))
def TK.bare {e:AL} (h:TK e):Ea (YV e):=by
 have j:=h.content.strip e.Kind;exact⟨h.prev,h.auth,j.allow,j.deny,j.users,j.kinds,h.room,h.sender,h.key,j.text,j.via,by show(0:Nat)≤2000;omega,j.allows,j.denies,j.names⟩
def aIf {e:AL} (j:TK e):qX e=some (Oq e)∧aCD e=some (Oq e):=by
 obtain⟨a,b,h⟩:=aXl j.content;unfold qX aCD;rw[a,b,AO,AO,aWG AA,aUK AA];exact⟨rfl,rfl⟩
def aCW {e:AL} (j:TK e):sG e=some (Zy e)∧zV e=some (Zy e):=by
 obtain⟨a,b⟩:=amf j;obtain⟨c,d,h⟩:=adq j.bare;unfold sG zV;rw[a,b,AO,AO];show(qC (YV e)).bind _=_∧(Opn (YV e)).bind _=_;rw[c,d,AO,AO,aWG AA,aUK AA];exact⟨rfl,rfl⟩
def IB (e:AL) (s:ByteArray):AL:={ e with Hash:=Oq e,Id:=Zy { e with Hash:=Oq e },ng:=⟨s,Zy { e with Hash:=Oq e }⟩ }
def Ea.hash {e:AL} (h:Ea e) (n:Int):Ea { e with Hash:=n }:=⟨h.prev,h.auth,h.allow,h.deny,h.users,h.kinds,h.room,h.sender,h.key,h.text,h.via,h.server,h.allows,h.denies,h.names⟩
def aNw {e:AL} (j:Ea e) (s:ByteArray):jk e s=some (IB e s)∧aBN e s=some (IB e s):=by
 obtain⟨a,b⟩:=aIf j.x;obtain⟨c,d⟩:=aCW (j.hash (Oq e)).x;unfold jk aBN IB;rw[a,b,AO,AO];obtain⟨n,q⟩:∃n,n=Zy { e with Hash:=Oq e }:=⟨_,rfl⟩
 obtain⟨m,hm⟩:∃m,m=Oq e:=⟨_,rfl⟩
 rw[←q]at c d ⊢;rw[←hm]at c d ⊢;rw[c,d];exact⟨rfl,rfl⟩
def QY (s:ByteArray):Int:=bif Gv s 64 then 0 else 3
def Ut (s:ByteArray):Int:=bif Gv s 33 then 0 else 3
def XQ {s:ByteArray} (hs:s.size≤9223372036854775807):aH s=some (QY s)∧bD s=some (QY s):=by
 unfold aH oD bD QY;rw[aNH hs (marks:=uI) (by rw[show BX uI=[64]from rfl];intro m hm;simp only[EX,Ei,iU]at hm;omega),aFP hs BK,show((BX uI).any fun m=>Gv s m)=(Gv s 64||false)from rfl];cases Gv s 64<;>exact⟨rfl,rfl⟩
def rC {s:ByteArray} (hs:s.size≤9223372036854775807):vK s=some (Ut s)∧rD s=some (Ut s):=by
 unfold vK oD rD Ut;rw[aNH hs (marks:=nM) (by rw[show BX nM=[33]from rfl];intro m hm;simp only[EX,Ei,iU]at hm;omega),aFP hs BK,show((BX nM).any fun m=>Gv s m)=(Gv s 33||false)from rfl];cases Gv s 33<;>exact⟨rfl,rfl⟩
def apX {l:List Int} (h:XF l=true):(58:Int)∉l:=by
 intro hm;unfold XF QK at h;simp only[CW,DY]at h;have :=h.2 58 hm;exact absurd this BK
def aeH (s:ByteArray) (hs:s.size≤2000):(splitB s (J7 s)).1.size≤2000∧(58:Int)∉BX (splitB s (J7 s)).1∧(splitB s (J7 s)).2.1.size≤2000:=by
 have q:BP.size≤2000:=BK
 cases h:J7 s with
 |false=>exact⟨q,by show(58:Int)∉BX BP;decide,q⟩
 |true=>
  have j:TR s=true:=by
   unfold J7 Gv at h;cases j:TR s with
   |true=>rfl
   |false=>rw[j]at h;simp at h
  refine⟨Ed (extract_size _ _ _) hs,apX ?_,Ed (extract_size _ _ _) hs⟩;unfold TR at j;simp only[CW]at j;exact j.1.2
def any_false {α:Type} (l:List α):(l.any fun _=>false)=false:=BF
def aII {α:Type} {body:(Int→Option Bool)→Int→Option Bool} (l:List α) (hl:l.length≤1000) (rest:Option Bool) (j:∀k (i:Nat) (h:i<l.length),body k (i:Int)=k (Ai ((i:Int)+1))) (q:∀k,body k (l.length:Int)=rest):bI body Ag 0=rest:=by
 rw[Gs l (aI5 AA) (fun _=>false) false rest (fun k i h=>by rw[j k i h];rfl) q,any_false];rfl
def af6 {l:List ByteArray} (h:l.length≤1000):St l l=some true:=by
 unfold St aE1;rw[show((l.length:Int) != (l.length:Int))=false from by simp,Aj];exact aII l h _ (fun k i h=>aaX) (fun k=>aNC)
structure Jp (c:Bj):Prop where
 allow:c.Allow.length≤9223372036854775807
 deny:c.gJ.length≤9223372036854775807
 users:c.Levels.Users.length≤9223372036854775807
 kinds:c.Levels.Kinds.length≤9223372036854775807
 text:c.Text.size≤9223372036854775807
 via:c.Via.size≤9223372036854775807
 allows:∀x∈c.Allow,x.size≤9223372036854775807
 denies:∀x∈c.gJ,x.size≤9223372036854775807
 names:∀x∈c.Levels.Users,x.User.size≤9223372036854775807
structure Vu (e:AL):Prop where
 prev:e.aU.length≤9223372036854775807
 auth:e.aZ.length≤9223372036854775807
 room:e.Room.size≤9223372036854775807
 sender:e.aQ.size≤9223372036854775807
 key:e.Key.size≤9223372036854775807
 server:e.ng.Server.size≤9223372036854775807
 content:Jp e.Content
def QS.wide {c:Bj} (h:QS c):Jp c:=by
 obtain⟨I,J,L,M,O,U,q,u,z⟩:=h;exact⟨AA,AA,AA,AA,AA,AA,fun x j=>by have :=q x j;omega,fun x j=>by have :=u x j;omega,fun x j=>by have :=z x j;omega⟩
def Ea.wide {e:AL} (h:Ea e):Vu e:=by
 have j:=h.prev;have q:=h.auth;have u:=h.room;have z:=h.sender;have I:=h.key;have J:=h.server;exact⟨AA,AA,AA,AA,AA,AA,h.content.wide⟩
def aB7 (k:Int):uN k=some (decide (k≥1)&&decide (k≤14))∧uH k=some (decide (k≥1)&&decide (k≤14)):=by
 unfold uN uH;cases decide (k≥1)<;>cases decide (k≤14)<;>exact⟨rfl,rfl⟩
def RZ (n:Int):Bool:=decide (n< -1000)||decide (n>1000)
def aEX (n:Int):iO n=some (RZ n)∧TI n=some (RZ n):=by
 unfold iO TI RZ;cases decide (n< -1000)<;>cases decide (n>1000)<;>exact⟨rfl,rfl⟩
def PI (c:Int):Bool:=decide (c<33)||decide (c>126)
def aDi (s:ByteArray):(s.toList==BP.toList)=((s.size:Int)==0):=by
 rw[Ie];by_cases h:s=BP
 ·subst h;rfl
 have :¬s.size=0:=fun j=>h (bytes_inj (by
  have q:BX s=[]:=Gf (by rw[Ic];exact j)
  rw[q];rfl))
 rw[H7 h];symm;rw[Oz];omega
def aBJ (s:ByteArray):Int:=if s.size=0 then 9 else if s.size>64 then 7 else bif (BX s).any PI then 3 else 0
def aGz {s:ByteArray} (hs:s.size≤9223372036854775807):wZ s=some (aBJ s)∧qZ s=some (aBJ s):=by
 have u:aI4 s 0=some (bif (BX s).any PI then 3 else 0):=by
  unfold aI4;rw[Gs (BX s) Y3 PI 3 (some 0) (fun k i h=>?_) (fun k=>?_),Jf]
  ·have h':i<s.size:=Vg
   simp only[aKU,dec_lt h',Az,VJ h,AO,PI];cases decide ((BX s)[i]<33)<;>cases decide ((BX s)[i]>126)<;>rfl
  simp only[aKU,Ic,Ce,Aj]
 have z:aPK s 0=some (bif (BX s).any PI then 3 else 0):=by
  unfold aPK;rw[Gs (BX s) Y3 PI 3 (some 0) (fun k i h=>?_) (fun k=>?_),Jf]
  ·have h':i<s.size:=Vg
   simp only[aPY,dec_lt h',Az,VJ h,AO,PI];cases decide ((BX s)[i]<33)<;>cases decide ((BX s)[i]>126)<;>rfl
  simp only[aPY,Ic,Ce,Aj]
 unfold wZ qZ aBJ;rw[aDi,u,z];by_cases j:s.size=0
 ·simp[j]
 have :((s.size:Int)==0)=false:=by rw[Oz];omega
 rw[this,CY j];by_cases q:s.size>64
 ·have :decide ((s.size:Int)>64)=true:=Dh
  rw[this,CS q];exact⟨rfl,rfl⟩
 have :decide ((s.size:Int)>64)=false:=Dh
 rw[this,CY q];exact⟨rfl,rfl⟩
def qH (s:ByteArray):Bool:=decide ((s.size:Int)≥1)&&decide ((s.size:Int)≤32)&& !(BX s).any PI
def aku {s:ByteArray} (hs:s.size≤9223372036854775807):aCG s=some (qH s):=by
 unfold aCG aV9;rw[Gs (BX s) Y3 PI false (some (decide ((s.size:Int)≥1)&&decide ((s.size:Int)≤32))) (fun k i h=>?_) (fun k=>?_)]
 ·unfold qH;cases(BX s).any PI<;>cases decide ((s.size:Int)≥1)<;>cases decide ((s.size:Int)≤32)<;>rfl
 ·have h':i<s.size:=Vg
  simp only[aN9,dec_lt h',Az,VJ h,AO,PI];cases decide ((BX s)[i]<33)<;>cases decide ((BX s)[i]>126)<;>rfl
 simp only[aN9,Ic,Ce,Aj];cases decide ((s.size:Int)≥1)<;>cases decide ((s.size:Int)≤32)<;>rfl
def Uw (k:Int) (s:ByteArray):Bool:=if k=2 then QY s==0 else if k=9 then qH s else true
def aSW {k:Int} {s:ByteArray} (hs:s.size≤9223372036854775807):aIj k s=some (Uw k s):=by
 have u:aPG s 0=some (bif (BX s).any PI then false else true):=by
  unfold aPG;rw[Gs (BX s) Y3 PI false (some true) (fun k i h=>?_) (fun k=>?_),Jf]
  ·have h':i<s.size:=Vg
   simp only[aNd,dec_lt h',Az,VJ h,AO,PI];cases decide ((BX s)[i]<33)<;>cases decide ((BX s)[i]>126)<;>rfl
  simp only[aNd,Ic,Ce,Aj]
 unfold aIj Uw;rw[(XQ hs).2,u];by_cases j:k=2
 ·subst j;rfl
 rw[show(k==2)=false from by simpa using j,CY j,Aj];by_cases q:k=9
 ·subst q;unfold qH;have z:decide ((s.size:Int)≥1)= !decide ((s.size:Int)<1):=aJ7
  have I:decide ((s.size:Int)≤32)= !decide ((s.size:Int)>32):=aL5
  rw[z,I];cases decide ((s.size:Int)<1)<;>cases decide ((s.size:Int)>32)<;>cases(BX s).any PI<;>rfl
 rw[show(k != 9)=true from by simpa using q,CY q];rfl
def ajj {e:AL} (j:Vu e):aBL e=some (Ut e.Room==0&&QY e.aQ==0&&Uw e.Kind e.Key):=by
 have u:=j.room;have z:=j.sender;have I:=j.key;unfold aBL Uw;rw[(rC AA).1,(XQ (s:=e.aQ) AA).1,(XQ (s:=e.Key) AA).1,aku AA];simp only[AO,bne];cases Ut e.Room==0 with
 |false=>rfl
 |true=>
  cases QY e.aQ==0 with
  |false=>rfl
  |true=>
   by_cases k2:e.Kind=2
   ·rw[k2];rfl
   by_cases q:e.Kind=9
   ·rw[q];rfl
   rw[show(e.Kind==2)=false from by simpa using k2,show(e.Kind==9)=false from by simpa using q,CY k2,CY q];rfl
def CJ {R:Type} (x y:Option R):Prop:=∃r,x=some r∧y=some r
section
variable {A R : Type}
def CJ.ret (r:R):CJ (some r) (some r):=⟨r,rfl,rfl⟩
def CJ.bind {a b:Option A} {f g:A→Option R} (h:CJ a b) (k:∀x,CJ (f x) (g x)):CJ (a.bind f) (b.bind g):=by
 obtain⟨x,rfl,rfl⟩:=h;exact k x
def CJ.bif {c:Bool} {x y j q:Option R} (u:c=true→CJ x j) (z:c=false→CJ y q):CJ (bif c then x else y) (bif c then j else q):=by
 cases c with
 |true=>exact u rfl
 |false=>exact z rfl
def CJ.loop {f g:(Int→Option R)→Int→Option R} (n:Nat) (u:n≤9223372036854775807) (hs:∀k k' (i:Nat),i<n→CJ (k ((i+1:Nat):Int)) (k' ((i+1:Nat):Int))→CJ (f k (i:Int)) (g k' (i:Int))) (j:∀k k',CJ (f k (n:Int)) (g k' (n:Int))):CJ (bI f Ag 0) (bI g Ag 0):=by
 have z:Ag=9223372036854775808:=rfl
 have key:∀m (i:Nat),i+m=n→∀a,m<a→CJ (bI f a (i:Int)) (bI g a (i:Int)):=by
  intro m
  induction m with
  |zero=>
   intro i hi a ha;obtain⟨a,rfl⟩:∃a',a=a'+1:=⟨a-1,AA⟩
   have :i=n:=AA
   subst this;exact j _ _
  |succ m q=>
   intro i hi a ha;obtain⟨a,rfl⟩:∃a',a=a'+1:=⟨a-1,AA⟩
   exact hs _ _ i AA (q (i+1) AA a AA)
 exact key n 0 AA Ag AA
end
def qE {i:Nat} (h:i≤9223372036854775806):Ai ((i:Int)+1)=((i+1:Nat):Int):=wrap_succ i AA
def sV {α:Type} {l:List α} {i:Nat} (h:i<l.length) (hl:l.length≤9223372036854775807) (j:decide ((i:Int)>0)=true):Af l (Ai ((i:Int)-1))=some (l[i-1]' AA):=by
 have j:0<i:=WS
 rw[NG AA AA,show(i:Int)-1=((i-1:Nat):Int) by omega];exact Bd AA
def aYs {l:List Int} (hl:l.length≤9223372036854775807):CJ (nS l) (iC l):=by
 unfold nS abN iC aL4;refine CJ.loop l.length hl (fun k k' i h j=>?_) (fun k k'=>?_)
 ·simp only[aIN,aCI,kW,dec_lt h,Az,Bd h,AO,qE (show i≤9223372036854775806 by omega)];cases decide (l[i]<0)with
  |true=>exact .ret _
  |false=>
   simp only[Aj];cases q:decide ((i:Int)>0)with
   |true=>
    simp only[Az,sV h hl q,AO,ge_iff_le];cases decide (l[i]≤l[i-1])with
    |true=>exact .ret _
    |false=>exact j
   |false=>exact j
 simp only[aIN,aCI,Ce,Aj];exact .ret _
def aTy {l:List ByteArray} (hl:l.length≤9223372036854775807) (hs:∀s∈l,s.size≤9223372036854775807):CJ (Wx l) (TU l):=by
 unfold Wx TU;refine CJ.bif (fun _=>.ret _) fun _=>?_;unfold aTQ aO2;refine CJ.loop l.length hl (fun k k' i h j=>?_) (fun k k'=>?_)
 ·obtain⟨q,u⟩:=aGz (s:=l[i]) (by have :=hs _ (EJ h);omega);simp only[aOJ,vP,dec_lt h,Az,Bd h,AO,q,u,qE (show i≤9223372036854775806 by omega)];exact CJ.bif (fun _=>.ret _) fun _=>j
 simp only[aOJ,vP,Ce,Aj];exact .ret _
def afw {c:Bj} (j:Jp c):CJ (WL 4 c) (fQ c):=by
 have hl:=j.allow;unfold WL fQ;rw[show((4:Int)==6)=false from rfl,Aj];refine CJ.bind (CJ.bif (fun _=>.ret _) fun _=>.ret _) fun x=>CJ.bif (fun _=>.ret _) fun _=>CJ.bif (fun _=>.ret _) fun _=>?_;unfold abI aWj;refine CJ.loop c.Allow.length AA (fun k k' i h q=>?_) (fun k k'=>?_)
 ·obtain⟨u,z⟩:=rC (s:=c.Allow[i]) (by have :=j.allows _ (EJ h);omega);simp only[aLK,aD9,aG2,dec_lt h,Az,Bd h,AO,u,z,qE (show i≤9223372036854775806 by omega)];refine CJ.bif (fun _=>.ret _) fun _=>?_;cases I:decide ((i:Int)>0)with
  |true=>
   simp only[Az,sV h (show c.Allow.length≤9223372036854775807 by omega) I,AO];exact CJ.bif (fun _=>.ret _) fun _=>q
  |false=>exact q
 simp only[aLK,aD9,Ce,Aj];exact .ret _
def abh {l:List Hz} (hl:l.length≤9223372036854775807) (hs:∀u∈l,u.User.size≤9223372036854775807):CJ (aCk l) (Zt l):=by
 unfold aCk Zt;refine CJ.bif (fun _=>.ret _) fun _=>?_;unfold aXD aOr;refine CJ.loop l.length hl (fun k k' i h j=>?_) (fun k k'=>?_)
 ·obtain⟨q,z⟩:=XQ (s:=l[i].User) (by have :=hs _ (EJ h);omega);obtain⟨I,J⟩:=aEX l[i].N;simp only[aG8,xX,aAX,uS,dec_lt h,Az,Bd h,AO,q,z,I,J,qE (show i≤9223372036854775806 by omega)];refine CJ.bif (fun _=>.ret _) fun _=>?_;cases L:decide ((i:Int)>0)with
  |true=>
   simp only[Az,sV h hl L,AO];exact CJ.bif (fun _=>.ret _) fun _=>CJ.bif (fun _=>.ret _) fun _=>j
  |false=>
   simp only[Aj];exact CJ.bif (fun _=>.ret _) fun _=>j
 simp only[aG8,xX,Ce,Aj];exact .ret _
def ajX {l:List J8} (hl:l.length≤9223372036854775807):CJ (aFT l) (cV l):=by
 unfold aFT cV;refine CJ.bif (fun _=>.ret _) fun _=>?_;unfold aWJ aPX;refine CJ.loop l.length hl (fun k k' i h j=>?_) (fun k k'=>?_)
 ·obtain⟨q,u⟩:=aB7 l[i].Kind;obtain⟨z,I⟩:=aEX l[i].N;simp only[aHs,aAd,SPr,aHq,dec_lt h,Az,Bd h,AO,q,u,z,I,qE (show i≤9223372036854775806 by omega)];refine CJ.bif (fun _=>.ret _) fun _=>?_;cases J:decide ((i:Int)>0)with
  |true=>
   simp only[Az,sV h hl J,AO];exact CJ.bif (fun _=>.ret _) fun _=>CJ.bif (fun _=>.ret _) fun _=>j
  |false=>
   simp only[Aj];exact CJ.bif (fun _=>.ret _) fun _=>j
 simp only[aHs,aAd,Ce,Aj];exact .ret _
def amg {l:Bf} (I:l.Users.length≤9223372036854775807) (J:l.Kinds.length≤9223372036854775807) (j:∀u∈l.Users,u.User.size≤9223372036854775807):CJ (cG l) (aI l):=by
 have q:aH7 l 0=some (bif (JQ l).any RZ then 2 else 0):=by
  unfold aH7;rw[Gs (JQ l) (by have :Ag=9223372036854775808:=rfl;simp[JQ,this]) RZ 2 (some 0) (fun k i h=>?_) (fun k=>rfl),Jf];have L:i<7:=h;have z:Af ([l.User,l.Message,l.State,l.fG,l.jR,l.mZ,l.gB]:List Int) (i:Int)=some ((JQ l)[i]'(h)):=Bd h;simp only[aVV,show decide ((i:Int)<7)=true from by simp;omega,Az,z,AO,(aEX _).1]
 unfold cG aI;refine CJ.bind (abh AA j) fun x=>CJ.bif (fun _=>.ret _) fun _=>CJ.bind (ajX AA) fun y=>CJ.bif (fun _=>.ret _) fun _=>?_;rw[q];simp only[(aEX _).2,AO,JQ,Ze,List.any_nil];cases RZ l.User<;>cases RZ l.Message<;>cases RZ l.State<;>cases RZ l.fG<;>cases RZ l.jR<;>cases RZ l.mZ<;>cases RZ l.gB<;>exact .ret _
def Tz {α:Type} {l:List α} (h:((l.length:Int)==0)=true):l=[]:=Gf aNr
def Na (l:Bf):Bool:=((l.Users.length:Int)==0)&&((l.Kinds.length:Int)==0)&&(l.User==0)&&(l.Message==0)&&(l.State==0)&&(l.fG==0)&&(l.jR==0)&&(l.mZ==0)&&(l.gB==0)
def bare_eq (l:Bf):aDp l=some (Na l):=by
 unfold aDp Na;simp only[Jf,AO,Ty]
def aRT (l:Bf):Wn l KX=some (Na l):=by
 unfold Wn Na;show(bif ((l.Users.length:Int) != 0)then some true else some ((l.Kinds.length:Int) != 0)).bind _=_;simp only[bne];cases u:((l.Users.length:Int)==0)with
 |false=>rfl
 |true=>
  cases z:((l.Kinds.length:Int)==0)with
  |false=>rfl
  |true=>
   have j:=Tz u;have q:=Tz z
   have I:YD l KX 0=some ((l.User==0)&&(l.Message==0)&&(l.State==0)&&(l.fG==0)&&(l.jR==0)&&(l.mZ==0)&&(l.gB==0)):=by
    unfold YD;refine aII l.Kinds (by rw[q];simp) _ (fun k i h=>by rw[q]at h;simp at h) (fun k=>?_);simp only[jM,Ce,Aj,Jf,AO,Ty];rfl
   have J:qQ l KX 0=some ((l.User==0)&&(l.Message==0)&&(l.State==0)&&(l.fG==0)&&(l.jR==0)&&(l.mZ==0)&&(l.gB==0)):=by
    unfold qQ;refine aII l.Users (by rw[j];simp) _ (fun k i h=>by rw[j]at h;simp at h) (fun k=>?_);simp only[jc,Ce,Aj];exact I
   simp only[EF,Aj,AO,J,GL]
def ao6 (l:Bf):aMI l=some (Na l):=by
 unfold aMI;rw[aRT];rfl
def abg (l:List ByteArray):St l []=some ((l.length:Int)==0):=by
 cases h:((l.length:Int)==0)with
 |true=>rw[Tz h];exact af6 (l:=[]) BF
 |false=>
  unfold St;show(bif ((l.length:Int) != 0)then some false else _)=_;simp only[bne,h,Io,Az]
def kX (a0 j q u z I J L:Bool):Bool:=a0&&j&&q&&u&&z&&I&&J&&L
def aUa (c:Bj):U0 c EL=some (kX (c.Text.toList==BP.toList) (c.N==0) (c.Target==0) (!c.Thread) (c.Via.toList==BP.toList) ((c.Allow.length:Int)==0) ((c.gJ.length:Int)==0) (Na c.Levels)):=by
 unfold U0 kX;show(bif c.Text.toList==BP.toList then some (c.N==0)else some false).bind _=_;simp only[show EL.Allow=[]from rfl,show EL.gJ=[]from rfl,show EL.Levels=KX from rfl,show EL.Target=0 from rfl,show EL.Thread=false from rfl,show EL.Via=BP from rfl,abg,aRT,Jf,AO,Ty];congr 1;cases c.Thread<;>simp
def aA8 (a0 j q u z I J L:Bool):Int:=
 let v:=bif !a0 then ET .or .i64 0 1 else 0
 let v:=bif !j then ET .or .i64 v 2 else v
 let v:=bif !q then ET .or .i64 v 4 else v
 let v:=bif !u then ET .or .i64 v 8 else v
 let v:=bif !z then ET .or .i64 v 16 else v
 let v:=bif !I then ET .or .i64 v 32 else v
 let v:=bif !J then ET .or .i64 v 64 else v
 bif !L then ET .or .i64 v 128 else v
def pos_eq {α:Type} (l:List α):decide ((l.length:Int)>0)= !((l.length:Int)==0):=by
 cases h:((l.length:Int)==0)with
 |true=>have :=eq_of_beq h;rw[EF,P8];omega
 |false=>have :=ne_of_beq_false h;rw[Io,Gg];omega
def afG (c:Bj):uZ c=some (aA8 (c.Text.toList==BP.toList) (c.N==0) (c.Target==0) (!c.Thread) (c.Via.toList==BP.toList) ((c.Allow.length:Int)==0) ((c.gJ.length:Int)==0) (Na c.Levels)):=by
 unfold uZ aET aBB aBH aEF zJ aAw aDu aB3 aA8;rw[bare_eq,pos_eq,pos_eq];simp only[AO,bne,qP];generalize(c.Text.toList==BP.toList)=j;generalize(c.N==0)=q;generalize(c.Target==0)=u;generalize c.Thread=z;generalize(c.Via.toList==BP.toList)=I;generalize((c.Allow.length:Int)==0)=J;generalize((c.gJ.length:Int)==0)=L;generalize Na c.Levels=M;cases j<;>cases q<;>cases u<;>cases z<;>cases I<;>cases J<;>cases L<;>cases M<;>rfl
def akZ :∀a0 j q u z I J L:Bool,(aA8 a0 j q u z I J L==0)=kX a0 j q u z I J L:=OX
def Kv (j q u z I J L M a0 O U Y Z a5 a6 a7:Bool):Bool:=(a0||j)&&(O||q)&&(U||u)&&(Y||z)&&(Z||I)&&(a5||J)&&(a6||L)&&(a7||M)
def aap {K:Int} {c:Bj} {j q u z I J L M:Bool} (O:Bg K Jr=some j) (U:Bg K KG=some q) (Y:Bg K Jj=some u) (Z:Bg K MW=some z) (h4:Bg K MS=some I) (h5:Bg K Ln=some J) (h6:Bg K ND=some L) (h7:Bg K NC=some M):lR K c=some (Kv j q u z I J L M (c.Text.toList==BP.toList) (c.N==0) (c.Target==0) (!c.Thread) (c.Via.toList==BP.toList) ((c.Allow.length:Int)==0) ((c.gJ.length:Int)==0) (Na c.Levels)):=by
 unfold lR Kv;simp only[O,U,Y,Z,h4,h5,h6,h7,ao6,Jf,AO,dK,Ty]
def Gu (x r:Option Int):Option Int:=x.bind fun v=>bif v != 0 then some v else r
def EO {x r:Option Int} (h:x=some 0):Gu x r=r:=by rw[h];rfl
def MZ {x y r s:Option Int} (h:CJ x y) (k:CJ r s):CJ (Gu x r) (Gu y s):=CJ.bind h fun _=>CJ.bif (fun _=>.ret _) fun _=>k
def aDx (x:Option Int):Gu x (some 0)=x:=by
 cases x with
 |none=>rfl
 |some v=>
  show(bif v != 0 then some v else some 0)=some v;by_cases h:v=0
  ·subst h;rfl
  rw[show(v != 0)=true from by simpa using h];rfl
def aDY {A:Type} (x:Option A):(x.bind fun v=>some v)=x:=by cases x<;>rfl
def Nk (K:Int) (c:Bj):Option Int:=Gu (dA K c) (Gu (O9 K c.N) (Gu (YW K c) (Gu (aY c) (bif K==4 then fQ c else Gu (TU c.Allow) (Gu (TU c.gJ) (aI c.Levels))))))
def frame {K M kp:Int} {br:Bool} {c:Bj} {q u z I J L O U:Bool} (hU:fF K=some M) (hk:(decide (K≥1)&&decide (K≤14))=true) (Y:kZ K=some kp) (hb:aHN K=some br) (h0:Bg K Jr=some q) (h1:Bg K KG=some u) (h2:Bg K Jj=some z) (h3:Bg K MW=some I) (h4:Bg K MS=some J) (h5:Bg K Ln=some L) (h6:Bg K ND=some O) (h7:Bg K NC=some U)
 (hM:∀a0 a1 a2 a3 a4 a5 a6 a7:Bool,(ET .andNot .i64 (aA8 a0 a1 a2 a3 a4 a5 a6 a7) M != 0)= !Kv q u z I J L O U a0 a1 a2 a3 a4 a5 a6 a7) (Z:(br=true→kp=0)) (hA:kp=0→br=false→Lh M K 0 c=some 0)
 (j:Kv q u z I J L O U (c.Text.toList==BP.toList) (c.N==0) (c.Target==0) (!c.Thread) (c.Via.toList==BP.toList) ((c.Allow.length:Int)==0) ((c.gJ.length:Int)==0) (Na c.Levels)=true→CJ (Lh M K 0 c) (Nk K c)):CJ (L9 K c) (JV K c):=by
 have ht:JV K c=(uH K).bind fun x1=>(bif (!x1)then some true else(lR K c).bind fun x4=>some (!x4)).bind fun x2=>(bif x2 then some 1 else(aHN K).bind fun x6=>(bif x6 then(U0 c EL).bind fun x9=>some x9 else some false).bind fun x7=>(bif x7 then some 0 else Nk K c)):=by
  unfold JV Nk Gu;simp only[aDY]
 rw[ht];unfold L9;obtain⟨k1,k2⟩:=aB7 K;rw[hk]at k1 k2;rw[hU,k1,k2,afG,Y,hb,aap h0 h1 h2 h3 h4 h5 h6 h7,aUa];simp only[AO,EF,Aj,hM,akZ];cases ho:Kv q u z I J L O U (c.Text.toList==BP.toList) (c.N==0) (c.Target==0) (!c.Thread) (c.Via.toList==BP.toList) ((c.Allow.length:Int)==0) ((c.gJ.length:Int)==0) (Na c.Levels)with
 |false=>exact .ret _
 |true=>
  simp only[EF,Aj];have j:=j ho;cases ha:kX (c.Text.toList==BP.toList) (c.N==0) (c.Target==0) (!c.Thread) (c.Via.toList==BP.toList) ((c.Allow.length:Int)==0) ((c.gJ.length:Int)==0) (Na c.Levels)with
  |false=>
   simp only[Aj,AO];cases br<;>exact j
  |true=>
   simp only[Az,AO];cases hz:kp==0 with
   |false=>
    cases br with
    |false=>exact j
    |true=>rw[Z rfl]at hz;cases hz
   |true=>
    cases br with
    |true=>exact .ret _
    |false=>
     have e:=hA (eq_of_beq hz) rfl;rw[e]at j;exact j
def RP (M b:Int) (x r:Option Int):Option Int:=bif ET .and .i64 M b==0 then r else Gu x r
def ZX {S B R:Type} (body:(S→B→Option R)→S→B→Option R) (n:Nat) (a:S) (b:B):aV body (n+1) a b=body (aV body n) a b:=rfl
def afW (M K:Int) (c:Bj):Lh M K 0 c=RP M 1 (Qd K c) (RP M 2 (OQ K c) (RP M 4 (SH K c) (RP M 8 (dJ K c) (RP M 16 (aC K c) (RP M 32 (WL K c)
 (bif ET .and .i64 M 64 != 0 then Wx c.gJ else bif ET .and .i64 M 128 != 0 then cG c.Levels else some 0)))))):=by
 have j:Ag=9223372036854775801+1+1+1+1+1+1+1:=rfl;have q:∀k,YK M K k 0 c=RP M 1 (Qd K c) (k 1 c):=fun k=>rfl;have u:∀k,YK M K k 1 c=RP M 2 (OQ K c) (k 2 c):=fun k=>rfl;have z:∀k,YK M K k 2 c=RP M 4 (SH K c) (k 3 c):=fun k=>rfl;have I:∀k,YK M K k 3 c=RP M 8 (dJ K c) (k 4 c):=fun k=>rfl;have J:∀k,YK M K k 4 c=RP M 16 (aC K c) (k 5 c):=fun k=>rfl;have L:∀k,YK M K k 5 c=RP M 32 (WL K c) (k 6 c):=fun k=>rfl;have O:∀k,YK M K k 6 c=(bif ET .and .i64 M 64 != 0 then(Wx c.gJ).bind fun x=>some x else bif ET .and .i64 M 128 != 0 then(cG c.Levels).bind fun x=>some x else some 0):=fun k=>rfl;unfold Lh;rw[j,ZX,q,ZX,u,ZX,z,ZX,I,ZX,J,ZX,L,ZX,O,aDY,aDY]
section
variable {c : Bj} {K : Int}
def text0 (h:(c.Text.toList==BP.toList)=true) (j:K≠12):dA K c=some 0:=by
 have q:(c.Text.size:Int)=0:=by rw[aDi]at h;exact eq_of_beq h
 unfold dA;rw[h,q,show(K==12)=false from by simpa using j];cases K==9<;>rfl
def VL (h:Bg K Jj=some false) (j:(!c.Thread)=true):YW K c=some 0:=by
 unfold YW;rw[h,show c.Thread=false from by simpa using j];rfl
def RD (h:(c.Via.toList==BP.toList)=true):aY c=some 0:=by unfold aY;rw[h];rfl
def JL {l:List ByteArray} (h:((l.length:Int)==0)=true):TU l=some 0:=by
 rw[Tz h];unfold TU aO2;show bI (vP []) Ag 0=some 0;rw[Gs ([]:List ByteArray) BK (fun _=>false) 0 (some 0) (fun k i h=>IK) (fun k=>rfl)];rfl
def SC {l:Bf} (h:Na l=true):aI l=some 0:=by
 unfold Na at h;simp only[CW]at h;obtain⟨⟨⟨⟨⟨⟨⟨⟨j,q⟩,u⟩,z⟩,I⟩,J⟩,L⟩,M⟩,O⟩:=h
 have U:Zt []=some 0:=by
  unfold Zt aOr;show bI (xX []) Ag 0=some 0;rw[Gs ([]:List ByteArray) BK (fun _=>false) 0 (some 0) (fun k i h=>IK) (fun k=>rfl)];rfl
 have Y:cV []=some 0:=by
  unfold cV aPX;show bI (aAd []) Ag 0=some 0;rw[Gs ([]:List ByteArray) BK (fun _=>false) 0 (some 0) (fun k i h=>IK) (fun k=>rfl)];rfl
 unfold aI;rw[Tz j,Tz q,U,Y,eq_of_beq u,eq_of_beq z,eq_of_beq I,eq_of_beq J,eq_of_beq L,eq_of_beq M,eq_of_beq O];rfl
def ZR (q:Jp c):CJ (Qd K c) (dA K c):=by
 have J:=q.text;obtain⟨u,z⟩:=aGz (s:=c.Text) AA;unfold Qd aF3 dA;rw[u,z];have e:=aDi c.Text;by_cases j:K=9
 ·subst j;cases h:(c.Text.toList==BP.toList)with
  |false=>exact .ret _
  |true=>
   have I:(c.Text.size:Int)=0:=by rw[e]at h;exact eq_of_beq h
   rw[I];exact .ret _
 rw[show(K==9)=false from by simpa using j];cases K==12<;>cases(c.Text.toList==BP.toList)<;>cases decide ((c.Text.size:Int)>32)<;>cases decide ((c.Text.size:Int)>400)<;>exact .ret _
def akv (j:Jp c):CJ (aC K c) (aY c):=by
 have z:=j.via;obtain⟨q,u⟩:=XQ (s:=c.Via) AA;unfold aC aY;rw[q,u];exact CJ.bif (fun _=>.ret _) fun _=>CJ.bif (fun _=>.ret _) fun _=>.ret _
def aME (h:Bg K Jj=some true) (j:(!c.Thread)=true):CJ (SH K c) (YW K c):=by
 unfold SH YW;rw[h,show c.Thread=false from by simpa using j];cases decide (c.Target<0)<;>cases c.Target==0<;>cases K != 11<;>exact .ret _
def apa (h:Bg K Jj=some true):CJ (Gu (SH K c) (dJ K c)) (YW K c):=by
 unfold SH dJ YW Gu;rw[h];cases decide (c.Target<0)<;>cases c.Target==0<;>cases K != 11<;>cases c.Thread<;>exact .ret _
def akk (j:Jp c):CJ (WL 6 c) (TU c.Allow):=by
 have q:=j.allow;have :=aTy (l:=c.Allow) AA j.allows;show CJ ((Wx c.Allow).bind fun x=>some x) _;rw[aDY];exact this
end
def xu (a b:Int):decide (a≥b)= !decide (a<b):=by by_cases h:a<b<;>simp[h]<;>omega
def wU (a b:Int):decide (a≤b)= !decide (a>b):=by by_cases h:a>b<;>simp[h]<;>omega
def aop {c:Bj} (hc:Jp c):CJ (L9 1 c) (JV 1 c):=by
 have u:Bg 1 Jr=some false:=A8
 have z:Bg 1 KG=some false:=A8
 have q:Bg 1 Jj=some false:=A8
 have I:Bg 1 MW=some false:=A8
 have J:Bg 1 MS=some false:=A8
 have L:Bg 1 Ln=some false:=A8
 have O:Bg 1 ND=some false:=A8
 have U:Bg 1 NC=some false:=A8
 refine frame (M:=0) (kp:=0) (br:=false) rfl rfl rfl rfl u z q I J L O U OX (fun h=>Gy) (fun h h'=>rfl) fun j=>?_;unfold Kv at j;simp only[Oo,LC,Nb,GL,CW]at j;obtain⟨⟨⟨⟨⟨⟨⟨Y,e1⟩,e2⟩,Z⟩,e4⟩,e5⟩,e6⟩,e7⟩:=j;have hL:Lh 0 1 0 c=(some 0):=QF
 rw[hL];unfold Nk;rw[EO (text0 Y BK),EO (show O9 1 c.N=some 0 from rfl),EO (VL q Z),EO (RD e4),show((1:Int)==4)=false from rfl,Aj,EO (JL e5),EO (JL e6),SC e7];exact .ret _
def anG (c:Bj):CJ (OQ 2 c) (O9 2 c.N):=by
 show CJ ((bif decide (c.N<0)then some true else some (decide (c.N>4))).bind fun j=>(bif j then some 2 else some 0)) ((bif decide (c.N≥0)then some (decide (c.N≤4))else some false).bind fun q=>(bif (!q)then some 2 else some 0));rw[xu,wU];cases decide (c.N<0)<;>cases decide (c.N>4)<;>exact .ret _
def anl {c:Bj} (q:Jp c):CJ (L9 2 c) (JV 2 c):=by
 have z:Bg 2 Jr=some true:=A8
 have I:Bg 2 KG=some true:=A8
 have u:Bg 2 Jj=some false:=A8
 have J:Bg 2 MW=some false:=A8
 have L:Bg 2 MS=some true:=A8
 have O:Bg 2 Ln=some false:=A8
 have U:Bg 2 ND=some false:=A8
 have Y:Bg 2 NC=some false:=A8
 refine frame (M:=19) (kp:=18) (br:=false) rfl rfl rfl rfl z I u J L O U Y OX (fun h=>Gy) (fun h h'=>Gy) fun j=>?_;unfold Kv at j;simp only[Oo,LC,Nb,GL,CW]at j;obtain⟨⟨⟨⟨e2,Z⟩,e5⟩,e6⟩,e7⟩:=j;have hL:Lh 19 2 0 c=(Gu (Qd 2 c) (Gu (OQ 2 c) (Gu (aC 2 c) (some 0)))):=QF
 rw[hL];unfold Nk;rw[EO (VL u Z),show((2:Int)==4)=false from rfl,Aj,EO (JL e5),EO (JL e6),SC e7];exact MZ (ZR q) (MZ (anG c) (MZ (akv q) (.ret _)))
def amh {c:Bj} (j:Jp c):CJ (L9 3 c) (JV 3 c):=by
 have z:Bg 3 Jr=some false:=A8
 have I:Bg 3 KG=some false:=A8
 have u:Bg 3 Jj=some false:=A8
 have J:Bg 3 MW=some false:=A8
 have L:Bg 3 MS=some false:=A8
 have O:Bg 3 Ln=some false:=A8
 have U:Bg 3 ND=some false:=A8
 have Y:Bg 3 NC=some true:=A8
 refine frame (M:=128) (kp:=128) (br:=false) rfl rfl rfl rfl z I u J L O U Y OX (fun h=>Gy) (fun h h'=>Gy) fun q=>?_;unfold Kv at q;simp only[Oo,LC,Nb,GL,CW]at q;obtain⟨⟨⟨⟨⟨⟨Z,e1⟩,e2⟩,e3⟩,e4⟩,e5⟩,e6⟩:=q;have hL:Lh 128 3 0 c=(cG c.Levels):=QF
 rw[hL];unfold Nk;rw[EO (text0 Z BK),EO (show O9 3 c.N=some 0 from rfl),EO (VL u e3),EO (RD e4),show((3:Int)==4)=false from rfl,Aj,EO (JL e5),EO (JL e6)];exact amg j.users j.kinds j.names
def afM (c:Bj):CJ (OQ 4 c) (O9 4 c.N):=by
 show CJ ((bif decide (c.N<0)then some true else some (decide (c.N>3))).bind fun j=>(bif j then some 2 else some 0)) ((bif decide (c.N≥0)then some (decide (c.N≤3))else some false).bind fun q=>(bif (!q)then some 2 else some 0));rw[xu,wU];cases decide (c.N<0)<;>cases decide (c.N>3)<;>exact .ret _
def ajE {c:Bj} (u:Jp c):CJ (L9 4 c) (JV 4 c):=by
 have z:Bg 4 Jr=some false:=A8
 have I:Bg 4 KG=some true:=A8
 have q:Bg 4 Jj=some false:=A8
 have J:Bg 4 MW=some false:=A8
 have L:Bg 4 MS=some false:=A8
 have O:Bg 4 Ln=some true:=A8
 have U:Bg 4 ND=some false:=A8
 have Y:Bg 4 NC=some false:=A8
 refine frame (M:=34) (kp:=34) (br:=false) rfl rfl rfl rfl z I q J L O U Y OX (fun h=>Gy) (fun h h'=>Gy) fun j=>?_;unfold Kv at j;simp only[Oo,LC,Nb,GL,CW]at j;obtain⟨⟨⟨⟨⟨Z,e2⟩,e3⟩,e4⟩,e6⟩,e7⟩:=j;have hL:Lh 34 4 0 c=(Gu (OQ 4 c) (Gu (WL 4 c) (some 0))):=QF
 rw[hL];unfold Nk;rw[EO (text0 Z BK),EO (VL q e3),EO (RD e4),show((4:Int)==4)=true from rfl,Az];rw[aDx];exact MZ (afM c) (afw u)
def ahA (c:Bj):CJ (OQ 5 c) (O9 5 c.N):=by
 show CJ ((bif decide (c.N<0)then some true else some (decide (c.N>3))).bind fun j=>(bif j then some 2 else some 0)) ((bif decide (c.N≥0)then some (decide (c.N≤3))else some false).bind fun q=>(bif (!q)then some 2 else some 0));rw[xu,wU];cases decide (c.N<0)<;>cases decide (c.N>3)<;>exact .ret _
def amA {c:Bj} (hc:Jp c):CJ (L9 5 c) (JV 5 c):=by
 have u:Bg 5 Jr=some false:=A8
 have z:Bg 5 KG=some true:=A8
 have q:Bg 5 Jj=some false:=A8
 have I:Bg 5 MW=some false:=A8
 have J:Bg 5 MS=some false:=A8
 have L:Bg 5 Ln=some false:=A8
 have O:Bg 5 ND=some false:=A8
 have U:Bg 5 NC=some false:=A8
 refine frame (M:=2) (kp:=2) (br:=false) rfl rfl rfl rfl u z q I J L O U OX (fun h=>Gy) (fun h h'=>Gy) fun j=>?_;unfold Kv at j;simp only[Oo,LC,Nb,GL,CW]at j;obtain⟨⟨⟨⟨⟨⟨Y,e2⟩,Z⟩,e4⟩,e5⟩,e6⟩,e7⟩:=j;have hL:Lh 2 5 0 c=(Gu (OQ 5 c) (some 0)):=QF
 rw[hL];unfold Nk;rw[EO (text0 Y BK),EO (VL q Z),EO (RD e4),show((5:Int)==4)=false from rfl,Aj,EO (JL e5),EO (JL e6),SC e7];exact MZ (ahA c) (.ret _)
def apU {c:Bj} (j:Jp c):CJ (L9 6 c) (JV 6 c):=by
 have I:Bg 6 Jr=some false:=A8
 have u:Bg 6 KG=some false:=A8
 have z:Bg 6 Jj=some false:=A8
 have J:Bg 6 MW=some false:=A8
 have L:Bg 6 MS=some false:=A8
 have O:Bg 6 Ln=some true:=A8
 have U:Bg 6 ND=some true:=A8
 have Y:Bg 6 NC=some false:=A8
 refine frame (M:=96) (kp:=96) (br:=false) rfl rfl rfl rfl I u z J L O U Y OX (fun h=>Gy) (fun h h'=>Gy) fun q=>?_;unfold Kv at q;simp only[Oo,LC,Nb,GL,CW]at q;obtain⟨⟨⟨⟨⟨Z,e1⟩,e2⟩,e3⟩,e4⟩,e7⟩:=q;have hL:Lh 96 6 0 c=(Gu (WL 6 c) (Wx c.gJ)):=QF
 rw[hL];unfold Nk;rw[EO (text0 Z BK),EO (show O9 6 c.N=some 0 from rfl),EO (VL z e3),EO (RD e4),show((6:Int)==4)=false from rfl,Aj,SC e7];have u:=j.deny;rw[aDx];exact MZ (akk j) (aTy AA j.denies)
def aq5 {c:Bj} (u:Jp c):CJ (L9 7 c) (JV 7 c):=by
 have z:Bg 7 Jr=some true:=A8
 have I:Bg 7 KG=some false:=A8
 have q:Bg 7 Jj=some false:=A8
 have J:Bg 7 MW=some false:=A8
 have L:Bg 7 MS=some false:=A8
 have O:Bg 7 Ln=some false:=A8
 have U:Bg 7 ND=some false:=A8
 have Y:Bg 7 NC=some false:=A8
 refine frame (M:=1) (kp:=0) (br:=true) rfl rfl rfl rfl z I q J L O U Y OX (fun h=>rfl) (fun h h'=>aK) fun j=>?_;unfold Kv at j;simp only[Oo,LC,Nb,GL,CW]at j;obtain⟨⟨⟨⟨⟨⟨e1,e2⟩,Z⟩,e4⟩,e5⟩,e6⟩,e7⟩:=j;have hL:Lh 1 7 0 c=(Gu (Qd 7 c) (some 0)):=QF
 rw[hL];unfold Nk;rw[EO (show O9 7 c.N=some 0 from rfl),EO (VL q Z),EO (RD e4),show((7:Int)==4)=false from rfl,Aj,EO (JL e5),EO (JL e6),SC e7];exact MZ (ZR u) (.ret _)
def apZ (c:Bj):CJ (OQ 8 c) (O9 8 c.N):=by
 show CJ ((bif decide (c.N<0)then some true else some (decide (c.N>1000000000))).bind fun j=>(bif j then some 2 else some 0)) ((bif decide (c.N≥0)then some (decide (c.N≤1000000000))else some false).bind fun q=>(bif (!q)then some 2 else some 0));rw[xu,wU];cases decide (c.N<0)<;>cases decide (c.N>1000000000)<;>exact .ret _
def an4 {c:Bj} (hc:Jp c):CJ (L9 8 c) (JV 8 c):=by
 have u:Bg 8 Jr=some false:=A8
 have z:Bg 8 KG=some true:=A8
 have q:Bg 8 Jj=some false:=A8
 have I:Bg 8 MW=some false:=A8
 have J:Bg 8 MS=some false:=A8
 have L:Bg 8 Ln=some false:=A8
 have O:Bg 8 ND=some false:=A8
 have U:Bg 8 NC=some false:=A8
 refine frame (M:=2) (kp:=0) (br:=true) rfl rfl rfl rfl u z q I J L O U OX (fun h=>rfl) (fun h h'=>aK) fun j=>?_;unfold Kv at j;simp only[Oo,LC,Nb,GL,CW]at j;obtain⟨⟨⟨⟨⟨⟨Y,e2⟩,Z⟩,e4⟩,e5⟩,e6⟩,e7⟩:=j;have hL:Lh 2 8 0 c=(Gu (OQ 8 c) (some 0)):=QF
 rw[hL];unfold Nk;rw[EO (text0 Y BK),EO (VL q Z),EO (RD e4),show((8:Int)==4)=false from rfl,Aj,EO (JL e5),EO (JL e6),SC e7];exact MZ (apZ c) (.ret _)
def ae1 (c:Bj):CJ (OQ 9 c) (O9 9 c.N):=by
 show CJ ((bif (c.N==1)then some true else some (c.N==2)).bind fun j=>(bif j then some true else some (c.N==6)).bind fun q=>(bif q then some 0 else some 2)) ((bif (c.N==1)then some true else some (c.N==2)).bind fun u=>(bif u then some true else some (c.N==6)).bind fun z=>(bif (!z)then some 2 else some 0));cases c.N==1<;>cases c.N==2<;>cases c.N==6<;>exact .ret _
def ap9 {c:Bj} (u:Jp c):CJ (L9 9 c) (JV 9 c):=by
 have z:Bg 9 Jr=some true:=A8
 have I:Bg 9 KG=some true:=A8
 have q:Bg 9 Jj=some false:=A8
 have J:Bg 9 MW=some false:=A8
 have L:Bg 9 MS=some false:=A8
 have O:Bg 9 Ln=some false:=A8
 have U:Bg 9 ND=some false:=A8
 have Y:Bg 9 NC=some false:=A8
 refine frame (M:=3) (kp:=0) (br:=true) rfl rfl rfl rfl z I q J L O U Y OX (fun h=>rfl) (fun h h'=>aK) fun j=>?_;unfold Kv at j;simp only[Oo,LC,Nb,GL,CW]at j;obtain⟨⟨⟨⟨⟨e2,Z⟩,e4⟩,e5⟩,e6⟩,e7⟩:=j;have hL:Lh 3 9 0 c=(Gu (Qd 9 c) (Gu (OQ 9 c) (some 0))):=QF
 rw[hL];unfold Nk;rw[EO (VL q Z),EO (RD e4),show((9:Int)==4)=false from rfl,Aj,EO (JL e5),EO (JL e6),SC e7];exact MZ (ZR u) (MZ (ae1 c) (.ret _))
def alq (c:Bj):CJ (OQ 10 c) (O9 10 c.N):=by
 show CJ ((bif decide (c.N<1)then some true else some (decide (c.N>10000))).bind fun j=>(bif j then some 2 else some 0)) ((bif decide (c.N≥1)then some (decide (c.N≤10000))else some false).bind fun q=>(bif (!q)then some 2 else some 0));rw[xu,wU];cases decide (c.N<1)<;>cases decide (c.N>10000)<;>exact .ret _
def aeI {c:Bj} (hc:Jp c):CJ (L9 10 c) (JV 10 c):=by
 have u:Bg 10 Jr=some false:=A8
 have z:Bg 10 KG=some true:=A8
 have q:Bg 10 Jj=some false:=A8
 have I:Bg 10 MW=some false:=A8
 have J:Bg 10 MS=some false:=A8
 have L:Bg 10 Ln=some false:=A8
 have O:Bg 10 ND=some false:=A8
 have U:Bg 10 NC=some false:=A8
 refine frame (M:=2) (kp:=0) (br:=true) rfl rfl rfl rfl u z q I J L O U OX (fun h=>rfl) (fun h h'=>aK) fun j=>?_;unfold Kv at j;simp only[Oo,LC,Nb,GL,CW]at j;obtain⟨⟨⟨⟨⟨⟨Y,e2⟩,Z⟩,e4⟩,e5⟩,e6⟩,e7⟩:=j;have hL:Lh 2 10 0 c=(Gu (OQ 10 c) (some 0)):=QF
 rw[hL];unfold Nk;rw[EO (text0 Y BK),EO (VL q Z),EO (RD e4),show((10:Int)==4)=false from rfl,Aj,EO (JL e5),EO (JL e6),SC e7];exact MZ (alq c) (.ret _)
def aot {c:Bj} (u:Jp c):CJ (L9 11 c) (JV 11 c):=by
 have z:Bg 11 Jr=some true:=A8
 have I:Bg 11 KG=some false:=A8
 have q:Bg 11 Jj=some true:=A8
 have J:Bg 11 MW=some true:=A8
 have L:Bg 11 MS=some false:=A8
 have O:Bg 11 Ln=some false:=A8
 have U:Bg 11 ND=some false:=A8
 have Y:Bg 11 NC=some false:=A8
 refine frame (M:=13) (kp:=0) (br:=true) rfl rfl rfl rfl z I q J L O U Y OX (fun h=>rfl) (fun h h'=>aK) fun j=>?_;unfold Kv at j;simp only[Oo,LC,Nb,GL,CW]at j;obtain⟨⟨⟨⟨e1,Z⟩,e5⟩,e6⟩,e7⟩:=j;have hL:Lh 13 11 0 c=(Gu (Qd 11 c) (Gu (SH 11 c) (Gu (dJ 11 c) (some 0)))):=QF
 rw[hL];unfold Nk;rw[EO (show O9 11 c.N=some 0 from rfl),EO (RD Z),show((11:Int)==4)=false from rfl,Aj,EO (JL e5),EO (JL e6),SC e7];rw[aDx,aDx];exact MZ (ZR u) (apa q)
def aps {c:Bj} (u:Jp c):CJ (L9 12 c) (JV 12 c):=by
 have z:Bg 12 Jr=some true:=A8
 have I:Bg 12 KG=some false:=A8
 have q:Bg 12 Jj=some true:=A8
 have J:Bg 12 MW=some false:=A8
 have L:Bg 12 MS=some false:=A8
 have O:Bg 12 Ln=some false:=A8
 have U:Bg 12 ND=some false:=A8
 have Y:Bg 12 NC=some false:=A8
 refine frame (M:=5) (kp:=0) (br:=true) rfl rfl rfl rfl z I q J L O U Y OX (fun h=>rfl) (fun h h'=>aK) fun j=>?_;unfold Kv at j;simp only[Oo,LC,Nb,GL,CW]at j;obtain⟨⟨⟨⟨⟨e1,Z⟩,e4⟩,e5⟩,e6⟩,e7⟩:=j;have hL:Lh 5 12 0 c=(Gu (Qd 12 c) (Gu (SH 12 c) (some 0))):=QF
 rw[hL];unfold Nk;rw[EO (show O9 12 c.N=some 0 from rfl),EO (RD e4),show((12:Int)==4)=false from rfl,Aj,EO (JL e5),EO (JL e6),SC e7];exact MZ (ZR u) (MZ (aME q Z) (.ret _))
def alb {c:Bj} (u:Jp c):CJ (L9 13 c) (JV 13 c):=by
 have z:Bg 13 Jr=some true:=A8
 have I:Bg 13 KG=some false:=A8
 have q:Bg 13 Jj=some true:=A8
 have J:Bg 13 MW=some false:=A8
 have L:Bg 13 MS=some false:=A8
 have O:Bg 13 Ln=some false:=A8
 have U:Bg 13 ND=some false:=A8
 have Y:Bg 13 NC=some false:=A8
 refine frame (M:=5) (kp:=0) (br:=true) rfl rfl rfl rfl z I q J L O U Y OX (fun h=>rfl) (fun h h'=>aK) fun j=>?_;unfold Kv at j;simp only[Oo,LC,Nb,GL,CW]at j;obtain⟨⟨⟨⟨⟨e1,Z⟩,e4⟩,e5⟩,e6⟩,e7⟩:=j;have hL:Lh 5 13 0 c=(Gu (Qd 13 c) (Gu (SH 13 c) (some 0))):=QF
 rw[hL];unfold Nk;rw[EO (show O9 13 c.N=some 0 from rfl),EO (RD e4),show((13:Int)==4)=false from rfl,Aj,EO (JL e5),EO (JL e6),SC e7];exact MZ (ZR u) (MZ (aME q Z) (.ret _))
def ahg {c:Bj} (u:Jp c):CJ (L9 14 c) (JV 14 c):=by
 have z:Bg 14 Jr=some true:=A8
 have I:Bg 14 KG=some false:=A8
 have q:Bg 14 Jj=some true:=A8
 have J:Bg 14 MW=some false:=A8
 have L:Bg 14 MS=some false:=A8
 have O:Bg 14 Ln=some false:=A8
 have U:Bg 14 ND=some false:=A8
 have Y:Bg 14 NC=some false:=A8
 refine frame (M:=5) (kp:=4) (br:=false) rfl rfl rfl rfl z I q J L O U Y OX (fun h=>Gy) (fun h h'=>Gy) fun j=>?_;unfold Kv at j;simp only[Oo,LC,Nb,GL,CW]at j;obtain⟨⟨⟨⟨⟨e1,Z⟩,e4⟩,e5⟩,e6⟩,e7⟩:=j;have hL:Lh 5 14 0 c=(Gu (Qd 14 c) (Gu (SH 14 c) (some 0))):=QF
 rw[hL];unfold Nk;rw[EO (show O9 14 c.N=some 0 from rfl),EO (RD e4),show((14:Int)==4)=false from rfl,Aj,EO (JL e5),EO (JL e6),SC e7];exact MZ (ZR u) (MZ (aME q Z) (.ret _))
def ahU (k:Int) {c:Bj} (j:Jp c):CJ (L9 k c) (JV k c):=by
 cases q:decide (k≥1)&&decide (k≤14)with
 |false=>
  obtain⟨u,k2⟩:=aB7 k;rw[q]at u k2
  have f:∀n:Int,1≤n→n≤14→(k==n)=false:=fun n z I=>by
   rw[Oz];rintro rfl;rw[Gi (show k≥1 from z),Gi I]at q;cases q
  have hm:fF k=some 0:=by
   unfold fF qV vT;rw[f 2 BK BK,f 3 BK BK,f 4 BK BK,f 5 BK BK,f 8 BK BK,f 10 BK BK,f 6 BK BK,f 7 BK BK,f 9 BK BK,f 11 BK BK,f 12 BK BK,f 13 BK BK,f 14 BK BK];rfl
  unfold L9 JV;rw[hm,u,k2];exact .ret _
 |true=>
  simp only[CW,Gg]at q;have :k=1∨k=2∨k=3∨k=4∨k=5∨k=6∨k=7∨k=8∨k=9∨k=10∨k=11∨k=12∨k=13∨k=14:=AA
  rcases this with rfl|rfl|rfl|rfl|rfl|rfl|rfl|rfl|rfl|rfl|rfl|rfl|rfl|rfl
  ·exact aop j
  ·exact anl j
  ·exact amh j
  ·exact ajE j
  ·exact amA j
  ·exact apU j
  ·exact aq5 j
  ·exact an4 j
  ·exact ap9 j
  ·exact aeI j
  ·exact aot j
  ·exact aps j
  ·exact alb j
  exact ahg j
def OM {α:Type} (p:α→α→Bool) (a b:List α):Bool:=((a.length:Int)==(b.length:Int))&& !((a.zip b).any fun x=> !p x.1 x.2)
def l9 {α R:Type} {body:(Int→Option R)→Int→Option R} (p:α→α→Bool) (a b:List α) (ha:a.length≤1000) (j:a.length=b.length) (bad:R) (rest:Option R)
 (q:∀k (i:Nat) (h:i<a.length) (h':i<b.length),body k (i:Int)=bif !p a[i] b[i]then some bad else k (Ai ((i:Int)+1))) (u:∀k,body k (a.length:Int)=rest):bI body Ag 0=bif (a.zip b).any fun x=> !p x.1 x.2 then some bad else rest:=by
 have hl:(a.zip b).length=a.length:=Dh
 refine Gs (a.zip b) (by rw[hl];exact aI5 AA) (fun x=> !p x.1 x.2) bad rest (fun k i h=>?_) (fun k=>by rw[hl];exact u k);have z:i<a.length:=AA
 have I:i<b.length:=AA
 rw[q k i z I,aHf]
def len_eq {α:Type} {a b:List α} (h:((a.length:Int)==(b.length:Int))=true):a.length=b.length:=aNr
def Ve (x y:ByteArray):Bool:=x.toList==y.toList
def Vo (x y:Hz):Bool:=x.User.toList==y.User.toList&&x.N==y.N
def Uc (x y:J8):Bool:=x.Kind==y.Kind&&x.N==y.N
def aEY {a b:List ByteArray} (ha:a.length≤1000):vI a b=some (OM Ve a b)∧St a b=some (OM Ve a b):=by
 unfold vI St OM;simp only[bne];cases h:((a.length:Int)==(b.length:Int))with
 |false=>exact⟨rfl,rfl⟩
 |true=>
  have j:=len_eq h;simp only[EF,Aj,GL];unfold aQh aE1
  rw[l9 Ve a b ha j false (some true) (fun k i h h'=>by simp only[aLv,dec_lt h,Az,Bd h,Bd h',AO];rfl) (fun k=>by simp only[aLv,Ce,Aj]),
   l9 Ve a b ha j false (some true) (fun k i h h'=>by simp only[aCo,dec_lt h,Az,Bd h,Bd h',AO];rfl) (fun k=>aNC)]
  cases(a.zip b).any fun x=> !Ve x.1 x.2<;>exact⟨rfl,rfl⟩
def akV {a b:List Hz} (ha:a.length≤1000):aAb a b=some (OM Vo a b):=by
 unfold aAb OM;simp only[bne];cases h:((a.length:Int)==(b.length:Int))with
 |false=>rfl
 |true=>
  have j:=len_eq h;simp only[EF,Aj,GL];unfold aUY;rw[l9 Vo a b ha j false (some true) (fun k i h h'=>by simp only[aK9,dec_lt h,Az,Bd h,Bd h',AO,aCp,Vo,Nb]) (fun k=>by simp only[aK9,Ce,Aj])];cases(a.zip b).any fun x=> !Vo x.1 x.2<;>rfl
def ali {a b:List J8} (ha:a.length≤1000):aEA a b=some (OM Uc a b):=by
 unfold aEA OM;simp only[bne];cases h:((a.length:Int)==(b.length:Int))with
 |false=>rfl
 |true=>
  have j:=len_eq h;simp only[EF,Aj,GL];unfold aS4;rw[l9 Uc a b ha j false (some true) (fun k i h h'=>by simp only[aL7,dec_lt h,Az,Bd h,Bd h',AO,aEm,Uc,Nb]) (fun k=>by simp only[aL7,Ce,Aj])];cases(a.zip b).any fun x=> !Uc x.1 x.2<;>rfl
def aEz (a b:Bf):Bool:=(a.User==b.User)&&(a.Message==b.Message)&&(a.State==b.State)&&(a.fG==b.fG)&&(a.jR==b.jR)&&(a.mZ==b.mZ)&&(a.gB==b.gB)
def aC2 (a b:Bf):Bool:=OM Vo a.Users b.Users&&(OM Uc a.Kinds b.Kinds&&aEz a b)
def apw {a b:Bf} (j:a.Users.length≤1000) (q:a.Kinds.length≤1000):Wn a b=some (aC2 a b):=by
 unfold Wn aC2 OM;simp only[bne];cases u:((a.Users.length:Int)==(b.Users.length:Int))with
 |false=>rfl
 |true=>
  cases z:((a.Kinds.length:Int)==(b.Kinds.length:Int))with
  |false=>simp
  |true=>
   have I:=len_eq u;have ek:=len_eq z
   have J:YD a b 0=bif (a.Kinds.zip b.Kinds).any fun x=> !Uc x.1 x.2 then some false else some (aEz a b):=by
    unfold YD;refine l9 Uc a.Kinds b.Kinds q ek false (some (aEz a b)) (fun k i h h'=>?_) (fun k=>?_)
    ·simp only[jM,dec_lt h,Az,Bd h,Bd h',AO,wo,Uc,bne];cases a.Kinds[i].Kind==b.Kinds[i].Kind<;>cases a.Kinds[i].N==b.Kinds[i].N<;>rfl
    simp only[jM,Ce,Aj,Jf,AO,Ty];rfl
   simp only[EF,Aj,AO,GL];unfold qQ
   rw[l9 Vo a.Users b.Users j I false (YD a b 0) (fun k i h h'=>by
    simp only[jc,dec_lt h,Az,Bd h,Bd h',AO,wW,Vo,bne]
    cases a.Users[i].User.toList==b.Users[i].User.toList<;>cases a.Users[i].N==b.Users[i].N<;>rfl) (fun k=>by simp only[jc,Ce,Aj]),J]
   cases(a.Users.zip b.Users).any fun x=> !Vo x.1 x.2<;>cases(a.Kinds.zip b.Kinds).any fun x=> !Uc x.1 x.2<;>rfl
def aCs (a b:Bj):Bool:=(a.Text.toList==b.Text.toList)&&(a.N==b.N)&&(a.Target==b.Target)&&(a.Thread==b.Thread)&&(a.Via.toList==b.Via.toList)&&OM Ve a.Allow b.Allow&&OM Ve a.gJ b.gJ&&aC2 a.Levels b.Levels
def ajg {a:Bj} (b:Bj) (ha:QS a):U0 a b=some (aCs a b):=by
 have j:=ha.allow;have q:=ha.deny;have u:=ha.users;have z:=ha.kinds;unfold U0 aCs;rw[(aEY (a:=a.Allow) AA).2,(aEY (a:=a.gJ) AA).2,apw (a:=a.Levels) AA AA];simp only[Jf,AO,Ty]
def apO {a:Bj} (b:Bj) (ha:QS a):Res a b=some (aCs a b):=by
 have M:=ha.allow;have O:=ha.deny;have U:=ha.users;have Y:=ha.kinds;unfold Res aCs aC2 aEz;rw[(aEY (a:=a.Allow) AA).1,(aEY (a:=a.gJ) AA).1,akV (a:=a.Levels.Users) AA,ali (a:=a.Levels.Kinds) AA];simp only[Jf,AO,Ty,dK,bne];generalize(a.Text.toList==b.Text.toList)=j;generalize(a.N==b.N)=q;generalize(a.Target==b.Target)=u;generalize(a.Thread==b.Thread)=z;generalize(a.Via.toList==b.Via.toList)=I;generalize OM Ve a.Allow b.Allow=J;generalize OM Ve a.gJ b.gJ=L;generalize OM Vo a.Levels.Users b.Levels.Users=Z;generalize OM Uc a.Levels.Kinds b.Levels.Kinds=x9;cases j<;>cases q<;>cases u<;>cases z<;>cases I<;>cases J<;>cases L<;>first|rfl|(simp only[EF,Bool.or_self,Aj,GL,Bool.and_self,Bool.and_assoc])
def ai9 {e:AL} (j:Vu e) (v:Bool):CJ (Y0 e v) ((Sm e v).bind fun u=>(bif (u != 0)then some u else(JV e.Kind e.Content).bind fun J=>some J)):=by
 have h1:=j.room;have h2:=j.sender;have h3:=j.key;have h4:=j.prev;have h5:=j.auth;unfold Y0 Sm;rw[ajj j,(rC (s:=e.Room) AA).2,(XQ (s:=e.aQ) AA).2,aSW AA];cases v with
 |true=>exact .ret _
 |false=>
  simp only[Aj,AO,bne,Jf,dK];generalize(Ut e.Room==0)=a;generalize(QY e.aQ==0)=b;generalize Uw e.Kind e.Key=L;cases a with
  |false=>exact .ret _
  |true=>
   cases b with
   |false=>exact .ret _
   |true=>
    cases L with
    |false=>exact .ret _
    |true=>
     simp only[EF,Bool.or_self,Bool.and_self,Aj,aDH];refine CJ.bif (fun _=>.ret _) fun _=>CJ.bif (fun _=>.ret _) fun hlen=>?_;simp only[X4,P8]at hlen;obtain⟨M,O,U⟩:=aYs (l:=e.aU) AA;obtain⟨Y,Z,q2⟩:=aYs (l:=e.aZ) AA;rw[O,Z,U,q2];simp only[AO,Jf,dK,aDH];cases M with
     |false=>exact .ret _
     |true=>
     cases Y with
     |false=>exact .ret _
     |true=>
     simp only[EF,Aj]
     have hs:decide ((Ai ((e.aU.length:Int)+(e.aZ.length:Int)))>0)=(decide ((e.aU.length:Int)>0)||decide ((e.aZ.length:Int)>0)):=by
      rw[NG AA AA];by_cases z:(e.aU.length:Int)>0
      ·rw[Gi z,Gi AA];rfl
      by_cases I:(e.aZ.length:Int)>0
      ·rw[Gi I,Gi AA,Oo]
      rw[H7 z,H7 I,H7 AA];rfl
     rw[hs];generalize(bif ((e.aU.length:Int)==0)then !e.Kind==1 else false)=p;generalize(bif (e.Kind==1)then(decide ((e.aU.length:Int)>0)||decide ((e.aZ.length:Int)>0))else false)=q;cases p with
     |true=>exact .ret _
     |false=>
      cases q with
      |true=>exact .ret _
      |false=>exact CJ.bind (ahU e.Kind j.content) fun x=>.ret _
def aaK {e:AL} (q:Vu e):CJ (QW e) (Oy e):=by
 have j:=ai9 q;unfold QW Oy aN0;rw[show Yl e.Kind=TN e.Kind from rfl];simp only[aDH,bne,Jf,AO];refine CJ.bif (fun _=>j _) fun _=>CJ.bif (fun _=>j _) fun _=>?_;have hs:∃b,TN e.Kind=some b:=by unfold TN;cases decide (e.Kind≥1)<;>cases decide (e.Kind≤10)<;>exact⟨_,rfl⟩
 obtain⟨b,u⟩:=hs;rw[u];simp only[AO,aDH];refine CJ.bif (fun _=>j _) fun _=>CJ.bif (fun _=>?_) fun _=>j _;cases e.Kind==2 with
 |true=>exact j _
 |false=>exact j _
def aK8 {e:AL} (j:TK e):Uz e=some (Oq e==e.Hash)∧aGA e=some (Oq e==e.Hash):=by
 unfold Uz aGA;rw[(aIf j).1,(aIf j).2];exact⟨rfl,rfl⟩
def ajn {e:AL} (j:TK e) (v:Bool):CJ (Zq e v) (lQ e v):=by
 have J:e.aQ.size≤2000:=j.sender;unfold Zq lQ;obtain⟨q,u⟩:=aCW j;obtain⟨z,I⟩:=UM (s:=e.aQ) AA;rw[q,u,z,I];refine CJ.bif (fun _=>.ret _) fun _=>?_;simp only[AO];refine CJ.bif (fun _=>.ret _) fun _=>?_;unfold aCF Fn2;show CJ (bif !((e.ng.Server.toList==(splitB e.aQ (J7 e.aQ)).2.1.toList)&&((e.ng.Sum==e.Id)&&true))then some 12 else some 0) _;simp only[bne];cases(e.ng.Server.toList==(splitB e.aQ (J7 e.aQ)).2.1.toList)<;>cases(e.ng.Sum==e.Id)<;>exact .ret _
end Go.Proofs.YtkkdimcnpacjhaaGreat
end
