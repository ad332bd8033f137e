/- Part 6 of what the laws' proofs lean on: states of the walk, typed functions of the program and their laws (short forms written by wip/shrink.py; no condition). -/
import Derived.Test.YtolgdkhlelfpoaaGreatRi5
set_option linter.defProp false
set_option linter.unnecessarySimpa false
set_option linter.unusedVariables false
set_option linter.unusedSimpArgs false
section
namespace Go.Proofs.YtolgdkhlelfpoaaGreat
open Go.RowKit
def RD (l:List AP) (e:AP):Bool:=e.bD.all (dM l)&&e.bM.all (dM l)
def Qa (l:List AP):Bool:=l.all (RD l)
def Y0 {α:Type} {l:List α} {p:α→Bool} {x:α} (h:x∈l) (f:p x=false):l.all p=false:=by
 rw[←Jg,DZ];exact fun j=>by rw[j x h]at f;cases f
def all_good {α:Type} {l:List α} {p:α→Bool} (h:∀j,(hj:j<l.length)→p l[j]=true):l.all p=true:=DZ.2 (anK h)
def acP (f:List Int) (l:List AP) (m:List (Int×Int)) (h:WU l m) (j:f.length≤1000):jE f m=some (f.all (dM l)):=by
 unfold jE aMG;rw[Ic f (fuel_lt AA) (fun x=> !dM l x) false (some true)]
 ·rw[List.all_eq_not_any_not];cases(f.any fun x=> !dM l x)<;>rfl
 ·intro k i hi;unfold aCD;rw[DR hi,h.isSome]
 intro k;unfold aCD;rw[EL]
def arQ (l:List AP) (J:l.length≤100) (L:EI l):vg l=some (Qa l):=by
 refine gK.eq ?_;unfold vg;refine(lC l AA).bind fun m u=>?_;unfold aLo;refine Vl (body:=aHz l) (Q:=fun b=>b=Qa l) (fun n a b=>∃i:Nat,a=i∧i+n=l.length∧b=m∧∀j,(f:j<i)→(J:j<l.length)→RD l l[j]=true) ?_ BA l.length 0 m (fuel_lt AA) ⟨0,rfl,AA,rfl,fun j f=>AA⟩;rintro n a b k ⟨i,rfl,O,rfl,z⟩ M;unfold aHz;by_cases hi:i<l.length
 ·have I:=L l[i] (EC hi);have U:=I.prev;have Y:=I.auth;rw[DR hi,acP _ l b u AA,Af,D6 hi,Af,acP _ l b u AA];cases q:l[i].bD.all (dM l)with
  |false=>exact .ret (Y0 (EC hi) (by unfold RD;rw[q];rfl)).symm
  |true=>
   cases ha:l[i].bM.all (dM l)with
   |false=>exact .ret (Y0 (EC hi) (by unfold RD;rw[q,ha];rfl)).symm
   |true=>
    refine M (n-1) _ _ AA ⟨i+1,wrap_succ i AA,AA,rfl,fun j f s=>?_⟩;by_cases e:j=i
    ·subst e;unfold RD;rw[q,ha];rfl
    exact z j AA s
 have :i=l.length:=AA
 subst this;rw[EL];exact .ret (all_good fun j f=>z j f f).symm
def Yh (l:List AP):List Int:=l.foldl (fun r e=>e.bM.foldl put (e.bD.foldl put r)) []
def arl {l:List AP} {i:Nat} (hi:i<l.length) (f:List Int→Int→Option (List Int)) (v:List Int) (s:Inc v) (u:v.length≤900000) (ha:l[i].bM.length≤40):
 wB l (i:Int) f v 0=f (l[i].bM.foldl put v) (BJ ((i:Int)+1)):=by
 unfold wB;rw[Kr l[i].bM AA put (fun j a=>Inc a∧a.length≤v.length+j) (fun a=>f a (BJ ((i:Int)+1))) ⟨s,AA⟩]
 ·intro k a j m q;have z:=nE a l[i].bM[j];refine⟨⟨aj q.1,AA⟩,?_⟩;unfold aHQ;rw[D6 hi,Af,dec_lt m,Bj,Af,D6 m,Af,aDp a _ q.1 AA,Af]
 intro k a _;unfold aHQ;rw[D6 hi,Af,EP];rfl
def alv {l:List AP} {i:Nat} (hi:i<l.length) (f:List Int→Int→Option (List Int)) (v:List Int) (m:Inc v) (z:v.length≤800000) (u:l[i].bD.length≤40) (ha:l[i].bM.length≤40):
 aH9 l (i:Int) f v 0=f (l[i].bM.foldl put (l[i].bD.foldl put v)) (BJ ((i:Int)+1)):=by
 unfold aH9;rw[Kr l[i].bD AA put (fun j a=>Inc a∧a.length≤v.length+j) (fun a=>wB l (i:Int) f a 0) ⟨m,AA⟩]
 ·have h:=aAi l[i].bD v;exact arl hi f _ (aAh m) AA ha
 ·intro k a j q s;have u:=nE a l[i].bD[j];refine⟨⟨aj s.1,AA⟩,?_⟩;unfold aGN;rw[D6 hi,Af,dec_lt q,Bj,Af,D6 q,Af,aDp a _ s.1 AA,Af]
 intro k a _;unfold aGN;rw[D6 hi,Af,EP];rfl
def aBM :∀(l:List AP) (r:List Int),Inc r→(∀e∈l,e.bD.length≤40∧e.bM.length≤40)→
 Inc (l.foldl (fun r e=>e.bM.foldl put (e.bD.foldl put r)) r)∧(l.foldl (fun r e=>e.bM.foldl put (e.bD.foldl put r)) r).length≤r.length+l.length*80∧
 ∀x,x∈l.foldl (fun r e=>e.bM.foldl put (e.bD.foldl put r)) r↔x∈r∨∃e∈l,x∈e.bD∨x∈e.bM
 | [],r,h,_=>⟨h,BM,fun x=>BM⟩
 |e::l,r,h,j=>by
  have u:=j e (Ez ..);obtain⟨m,z,q⟩:=aBM l (e.bM.foldl put (e.bD.foldl put r)) (aAh (aAh h)) fun x s=>j x (G9 _ s);have I:=aAi e.bD r;have J:=aAi e.bM (e.bD.foldl put r);rw[Fh];refine⟨m,by rw[FV];omega,fun x=>(q x).trans ?_⟩;rw[aFF,aFF];constructor
  ·rintro(((h|h)|h)|⟨y,f,h⟩)
   ·exact .inl h
   ·exact .inr ⟨e,Ez ..,.inl h⟩
   ·exact .inr ⟨e,Ez ..,.inr h⟩
   exact .inr ⟨y,G9 _ f,h⟩
  rintro(h|⟨y,f,h⟩)
  ·exact .inl (.inl (.inl h))
  rcases F5.1 f with rfl|f
  ·exact h.elim (fun h=>.inl (.inl (.inr h))) fun h=>.inl (.inr h)
  exact .inr ⟨y,f,h⟩
def EI.lists {l:List AP} (f:EI l):∀e∈l,e.bD.length≤40∧e.bM.length≤40:=fun e j=>⟨(f e j).prev,(f e j).auth⟩
def ap4 {l:List AP} {i:Nat} (h:i<l.length):(l.take (i+1)).foldl (fun r e=>e.bM.foldl put (e.bD.foldl put r)) ([]:List Int)=l[i].bM.foldl put (l[i].bD.foldl put ((l.take i).foldl (fun r e=>e.bM.foldl put (e.bD.foldl put r)) [])):=by
 rw[RQ,Df h,Qc,Yn];rfl
def am0 (l:List AP) (z:l.length≤1000) (f:EI l):aBf l=some (Yh l):=by
 unfold aBf aL8;refine gK.eq (TG l.length (fuel_lt AA) (fun i a=>a=(l.take i).foldl (fun r e=>e.bM.foldl put (e.bD.foldl put r)) []) rfl (fun i a k hi ha q=>?_) fun a k ha=>?_)
 ·subst ha;obtain⟨s,j,_⟩:=aBM (l.take i) [] .nil fun e u=>f.lists e (ou u);have m:=f.lists l[i] (EC hi);unfold aGr;rw[dec_lt hi,Bj,alv hi k _ s (by rw[Gt]at j;simp only[OB]at j;omega) m.1 m.2,wrap_succ i AA];exact q _ (ap4 hi).symm
 unfold aGr;rw[EP];refine .ret ?_;rw[ha,Il];rfl
def asq {l:List AP} (f:EI l):(Yh l).length≤l.length*80:=by
 have :=(aBM l [] .nil f.lists).2.1;unfold Yh;simpa using this
def aJa {l:List AP} (f:EI l) {x:Int}:x∈Yh l↔∃e∈l,x∈e.bD∨x∈e.bM:=by
 have :=(aBM l [] .nil f.lists).2.2 x;unfold Yh;rw[this];simp
def arf {l:List AP}:Qa l=true↔∀e∈l,(∀x∈e.bD,dM l x=true)∧∀x∈e.bM,dM l x=true:=by
 unfold Qa RD;simp only[DZ,CZ]
def apM (l:List AP) (s:l.length≤1000) (j:EI l):aBy l=some (Qa l):=by
 have L:=asq j;unfold aBy;rw[am0 l s j,Af,ajh l _ s AA,Af];refine Ba some ?_;rw[Oa,arf];constructor
 ·intro h e m;have q:pJ l (Yh l)=[]:=GR aHX
  have key:∀x,x∈e.bD∨x∈e.bM→dM l x=true:=fun x f=>by
   cases z:dM l x with
   |true=>rfl
   |false=>have :=aLY.2 ⟨(aJa j).2 ⟨e,m,f⟩,z⟩;rw[q]at this;cases this
  exact⟨fun x f=>key x (.inl f),fun x f=>key x (.inr f)⟩
 intro h
 have q:pJ l (Yh l)=[]:=List.eq_nil_iff_forall_not_mem.2 fun x f=>by
  obtain⟨I,u⟩:=aLY.1 f;obtain⟨e,m,J⟩:=(aJa j).1 I;rw[J.elim ((h e m).1 x) ((h e m).2 x)]at u;cases u
 rw[q];rfl
def Zw (l:List AP):Prop:=∀e∈l,1≤e.Depth∧e.Depth≤100000
def FC (l:List AP) (x:Int):Int:=(IU l x).1.Depth
def Nb (l:List AP) (e:AP):Bool:=e.bM.all (fun x=>decide (FC l x<e.Depth))&&bif (e.bD.length:Int)==0 then e.Depth==1 else e.bD.all (fun x=>decide (FC l x<e.Depth))&&e.bD.any fun x=>FC l x==e.Depth-1
def II (l:List AP):Int:=bif Qa l then bif l.all (Nb l)then 0 else 15 else 14
def aaV {l:List AP} (h:Zw l) (x:Int):0≤FC l x∧FC l x≤100000:=by
 unfold FC IU;cases f:EM l x with
 |none=>exact⟨Int.le_refl 0,BU⟩
 |some e=>have :=h e (Le f);exact⟨by show 0≤e.Depth;omega,this.2⟩
def aDf (a b:Int):decide (a≥b)= !decide (a<b):=by by_cases h:a<b<;>simp[h];omega
def aHR {α:Type} (l:List α) (p:α→Bool):l.any (fun x=> !p x)= !l.all p:=by rw[List.all_eq_not_any_not,Bool.not_not]
def am7 (l:List AP) (e:AP) (J:l.length≤1000) (I:Gq e) (hd:Zw l) (L:1≤e.Depth∧e.Depth≤100000):kC l e=some (Nb l e):=by
 have Z:=I.prev;have h2:=I.auth;have w:BJ (e.Depth-1)=e.Depth-1:=NM AA AA
 have q:sJ e l ((e.bD.length:Int)==0) 0=some (bif (e.bD.length:Int)==0 then true else e.bD.all (fun x=>decide (FC l x<e.Depth))&&e.bD.any fun x=>FC l x==e.Depth-1):=by
  unfold sJ;refine gK.eq (TG e.bD.length (fuel_lt AA) (fun i a=>(∀j,(m:j<i)→(J:j<e.bD.length)→decide (FC l e.bD[j]<e.Depth)=true)∧a=(((e.bD.length:Int)==0)||(e.bD.take i).any fun x=>FC l x==e.Depth-1)) ⟨fun j m=>AA,BM⟩ (fun i a k hi ha M=>?_) fun a k ha=>?_)
  ·have O:((e.bD.length:Int)==0)=false:=by simp;intro U;rw[U]at hi;simp at hi
   unfold zL;rw[DR hi,aK8 l _ AA,Af,aDf];refine gK.bif (fun f=>.ret ?_) fun f=>?_
   ·have f:decide (FC l e.bD[i]<e.Depth)=false:=by unfold FC;simpa using f
    rw[O,Y0 (EC hi) f];rfl
   have f:decide (FC l e.bD[i]<e.Depth)=true:=by unfold FC;simpa using f
   rw[show(bif a then some true else some ((IU l e.bD[i]).1.Depth==BJ (e.Depth-1)))=some (a||(FC l e.bD[i]==e.Depth-1)) by rw[w];cases a<;>rfl,Af,wrap_succ i AA];refine M _ ⟨fun j m s=>?_,?_⟩
   ·by_cases Y:j=i
    ·subst Y;exact f
    exact ha.1 j AA s
   rw[ha.2,RQ,Df hi,Qc,List.any_append,Bool.or_assoc];simp
  unfold zL;rw[EL];refine .ret ?_;rw[ha.2,Il,all_good fun j m=>ha.1 j m m];cases((e.bD.length:Int)==0)<;>simp
 unfold kC
 have u:aHk e l 0=some (e.bM.all (fun x=>decide (FC l x<e.Depth))&&(bif (e.bD.length:Int)==0 then true else e.bD.all (fun x=>decide (FC l x<e.Depth))&&e.bD.any fun x=>FC l x==e.Depth-1)):=by
  unfold aHk;rw[Ic e.bM (fuel_lt AA) (fun x=> !decide (FC l x<e.Depth)) false (sJ e l ((e.bD.length:Int)==0) 0)]
  ·rw[q,aHR];cases e.bM.all (fun x=>decide (FC l x<e.Depth))<;>rfl
  ·intro k i hi;unfold aB5;rw[DR hi,aK8 l _ AA,Af,aDf];rfl
  intro k;unfold aB5;rw[EL]
 rw[u];unfold Nb;have z:(e.Depth != 1)= !(e.Depth==1):=rfl;rw[z];cases((e.bD.length:Int)==0)<;>cases(e.Depth==1)<;>cases e.bM.all (fun x=>decide (FC l x<e.Depth))<;>rfl
def aH1 {l:List AP} {m:List (Int×Int)} (h:WU l m) {x:Int} (f:dM l x=true):∃e,BK l ((Bq m x).getD 0)=some e∧e.Depth=FC l x:=⟨_,h.get (J6 f).1,rfl⟩
def apK (p:List Int) (f:Int→Int) (d a:Int) (j:∃y∈p,f y=a) (ha:∀y∈p,f y≤a):(p.all (fun x=>decide (f x<d))&&p.any fun x=>f x==d-1)=bif decide (d>a)then d-a==1 else false:=by
 obtain⟨y,j,e⟩:=j;by_cases h:d>a
 ·have s:p.all (fun x=>decide (f x<d))=true:=DZ.2 fun x m=>by have :=ha x m;simp;omega
  rw[s,Fr,I5 h,Bj,Oa,GI];constructor
  ·rintro⟨x,m,q⟩;have :=ha x m;have :=eq_of_beq q;simp;omega
  intro q;have :=eq_of_beq q;exact⟨y,j,E5⟩
 rw[Ht h,BO,Y0 j E5];rfl
def aio (l:List AP) (m:List (Int×Int)) (e:AP) (L:WU l m) (U:Gq e) (u:RD l e=true) (hd:Zw l) (Y:1≤e.Depth∧e.Depth≤100000):vV l m e=some (Nb l e,m):=by
 have h1:=U.prev;have h2:=U.auth;unfold RD at u;simp only[CZ,DZ]at u;unfold vV aKg;rw[Ic e.bM (fuel_lt AA) (fun x=> !decide (FC l x<e.Depth)) (false,m) (some ((bif (e.bD.length:Int)==0 then e.Depth==1 else e.bD.all (fun x=>decide (FC l x<e.Depth))&&e.bD.any fun x=>FC l x==e.Depth-1),m))]
 ·rw[aHR];unfold Nb;cases e.bM.all (fun x=>decide (FC l x<e.Depth))<;>rfl
 ·intro k i hi;unfold aI1;obtain⟨x,M,j⟩:=aH1 L (u.2 _ (EC hi));rw[DR hi,M,Af,aDf,j]
 intro k;unfold aI1;rw[EL];cases q:((e.bD.length:Int)==0)with
 |true=>rfl
 |false=>
  have O:0<e.bD.length:=by
   rcases Z7 e.bD.length with h|h
   ·rw[h]at q;cases q
   exact h
  obtain⟨x,M,j⟩:=aH1 L (u.1 _ (EC O));have Z:BK e.bD 0=some e.bD[0]:=D6 (i:=0) O;rw[BO,BO,Z,Af,M,Af,j];unfold aJ8;refine gK.eq (TG e.bD.length (fuel_lt AA) (fun i a=>(0≤a∧a≤100000)∧(∃y∈e.bD,FC l y=a)∧∀y∈e.bD.take i,FC l y≤a) ⟨aaV hd _,⟨_,EC O,rfl⟩,fun y I=>by simp at I⟩ (fun i a k2 hi ha hk=>?_) fun a k2 ha=>?_)
  ·unfold aGC;obtain⟨y,I,s⟩:=aH1 L (u.1 _ (EC hi));have hb:=aaV hd e.bD[i];rw[DR hi,I,Af,wrap_succ i AA,s]
   have J:Ui a (FC l e.bD[i])=a∧FC l e.bD[i]≤a∨Ui a (FC l e.bD[i])=FC l e.bD[i]∧a≤FC l e.bD[i]:=by
    unfold Ui;by_cases h:FC l e.bD[i]>a
    ·rw[I5 h];exact .inr ⟨rfl,AA⟩
    rw[Ht h];exact .inl ⟨rfl,AA⟩
   refine hk _ ⟨AA,?_,fun z q=>?_⟩
   ·rcases J with h|h
    ·rw[h.1];exact ha.2.1
    rw[h.1];exact⟨_,EC hi,rfl⟩
   rw[RQ,Df hi,Qc,Gp,Ho]at q;rcases q with q|rfl
   ·have :=ha.2.2 z q;omega
   omega
  obtain⟨hb,⟨y,I,s⟩,f⟩:=ha;rw[Il]at f;unfold aGC;rw[EL,NM AA AA,apK e.bD (FC l) e.Depth a ⟨y,I,s⟩ f];cases decide (e.Depth>a)<;>exact .ret rfl
def aix (l:List AP) (u:l.length≤100) (z:EI l) (hd:Zw l):vG l=some (II l):=by
 unfold vG II;rw[arQ l u z,Af];cases L:Qa l with
 |false=>rfl
 |true=>
  have M:∀e∈l,RD l e=true:=DZ.1 L;refine gK.eq ((lC l AA).bind fun m O=>?_);unfold aaH;refine Vl (body:=aEL l) (Q:=fun b=>b=bif l.all (Nb l)then 0 else 15) (fun n a b=>∃i:Nat,a=i∧i+n=l.length∧b=m∧∀j,(q:j<i)→(u:j<l.length)→Nb l l[j]=true) ?_ BA l.length 0 m (fuel_lt AA) ⟨0,rfl,AA,rfl,fun j q=>AA⟩;rintro n a b k ⟨i,rfl,Y,rfl,I⟩ U;unfold aEL;by_cases hi:i<l.length
  ·have f:=EC hi;rw[DR hi,aio l b l[i] O (z _ f) (M _ f) hd (hd _ f),Af];cases J:Nb l l[i]with
   |false=>exact .ret (by rw[Y0 f J];rfl)
   |true=>
    refine U (n-1) _ _ AA ⟨i+1,wrap_succ i AA,AA,rfl,fun j q s=>?_⟩;by_cases e:j=i
    ·subst e;exact J
    exact I j AA s
  have :i=l.length:=AA
  subst this;rw[EL];exact .ret (by rw[all_good fun j q=>I j q q];rfl)
def aji (l:List AP) (I:l.length≤100) (u:EI l) (hd:Zw l):aBQ l=some (II l):=by
 unfold aBQ II;rw[apM l AA u,Af];cases L:Qa l with
 |false=>rfl
 |true=>
  show aFR l 0=_;unfold aFR;refine gK.eq (aGT l.length (fuel_lt AA) (fun i=>∀j,(m:j<i)→(I:j<l.length)→Nb l l[j]=true) (fun j m=>AA) (fun i k hi q J=>?_) fun k q=>?_)
  ·have f:=EC hi;unfold aHF;rw[DR hi,am7 l l[i] AA (u _ f) hd (hd _ f),Af,wrap_succ i AA];cases z:Nb l l[i]with
   |false=>exact .ret (by rw[Y0 f z];rfl)
   |true=>
    refine J fun j m s=>?_;by_cases e:j=i
    ·subst e;exact z
    exact q j AA s
  unfold aHF;rw[EP];exact .ret (by rw[all_good fun j m=>q j m m];rfl)
section
variable {α β R : Type} {lt : α → α → Bool}
def Ir (lt:α→α→Bool) (A:List α) (x:α):List α:=(A.reverse.dropWhile (lt x)).reverse++x::(A.reverse.takeWhile (lt x)).reverse
def aIX {A:List α} {a x:α} (h:lt x a=true):Ir lt (A++[a]) x=Ir lt A x++[a]:=by
 unfold Ir;rw[aGF,List.reverse_singleton,List.singleton_append,abS h,List.takeWhile_cons_of_pos h,List.reverse_cons,Gy];rfl
def ada {A:List α} {a x:α} (h:lt x a=false):Ir lt (A++[a]) x=A++a::[x]:=by
 have h':¬lt x a=true:=by rw[h];simp
 unfold Ir;rw[aGF,List.reverse_singleton,List.singleton_append,aMD h',List.takeWhile_cons_of_neg h'];simp
def apP (A:List α) (x:α):(Ir lt A x).length=A.length+1:=by
 unfold Ir;have :=Ba List.length (qy (p:=lt x) (l:=A.reverse));simp only[Dz,List.length_reverse,FV]at this ⊢;omega
def aKo (A:List α) (x:α):(Ir lt A x).Perm (x::A):=by
 unfold Ir;refine List.perm_middle.trans (List.Perm.cons x ?_);rw[←aGF,qy,List.reverse_reverse]
def al1 {lt':β→β→Bool} {f:α→β} (h:∀x a,lt x a=lt' (f x) (f a)) (A:List α) (x:α):(Ir lt A x).map f=Ir lt' (A.map f) (f x):=by
 have e:lt x=lt' (f x)∘f:=funext fun a=>h x a;unfold Ir;have j:(A.map f).reverse=A.reverse.map f:=aIR.symm;rw[j,List.dropWhile_map,List.takeWhile_map,L6,Jr,aIR,aIR,e]
def aLe {lt':β→β→Bool} {f:α→β} (h:∀x a,lt x a=lt' (f x) (f a)):∀(l A:List α),(l.foldl (Ir lt) A).map f=(l.map f).foldl (Ir lt') (A.map f)
 | [],A=>rfl
 |x::l,A=>by rw[Fh,aLe h l,Jr,Fh,al1 h]
def aCJ :∀(l A:List α),(l.foldl (Ir lt) A).length=A.length+l.length
 | [],A=>rfl
 |x::l,A=>by rw[Fh,aCJ l,apP,FV];omega
def aaK :∀(l A:List α),(l.foldl (Ir lt) A).Perm (A++l)
 | [],A=>by rw[TJ];exact .refl _
 |x::l,A=>by
  rw[Fh];exact(aaK l (Ir lt A x)).trans (((aKo A x).append_right l).trans (List.perm_middle (l₁:=A) (l₂:=l) (a:=x)).symm)
def adY (A:List α) (x:α) (B:List α):BK (A++x::B) (A.length:Int)=some x:=by rw[aB2];simp
def ad7 (A:List α) (a x:α) (B:List α):BK (A++a::x::B) ((A.length+1:Nat):Int)=some x:=by rw[aB2];simp
def set_mid (A:List α) (x y:α) (B:List α):(A++x::B).set A.length y=A++y::B:=BM
def aqE (A:List α) (a x y:α) (B:List α):(A++a::x::B).set (A.length+1) y=A++a::y::B:=by
 have :=set_mid (A++[a]) x y B;simpa using this
def bubble {body:(Int→List α→Option R)→Int→List α→Option R} (f:List α→Option R) (N:Nat) (M:∀k x B,(x::B).length=N→body k 0 (x::B)=f (x::B))
 (O:∀k A a x B,(A++a::x::B).length=N→body k ((A.length+1:Nat):Int) (A++a::x::B)=bif lt x a then k (A.length:Int) (A++x::a::B)else f (A++a::x::B)):
 ∀n (A:List α) (x:α) (B:List α),A.length=n→(A++x::B).length=N→∀m,n<m→aX body m (A.length:Int) (A++x::B)=f (Ir lt A x++B):=by
 intro n
 induction n with
 |zero=>
  intro A x B u z m U;obtain⟨m,rfl⟩:∃I,m=I+1:=⟨m-1,AA⟩
  obtain rfl:=GR u;exact M _ x B z
 |succ n Y=>
  intro A x B u z m U;obtain⟨m,rfl⟩:∃I,m=I+1:=⟨m-1,AA⟩
  have j:A≠[]:=fun e=>by subst e;cases u
  obtain⟨A',a,rfl⟩:∃A' a,A=A'++[a]:=⟨A.dropLast,A.getLast j,(List.dropLast_concat_getLast j).symm⟩
  have J:A'.length=n:=Og
  have L:A'++[a]++x::B=A'++a::x::B:=BM
  have q:(A'++a::x::B).length=N:=by rw[←L];exact z
  have Z:(A'++[a]).length=A'.length+1:=BM
  rw[L,Z];show body (aX body m) _ _=_;rw[O _ A' a x B q];cases s:lt x a with
  |true=>
   rw[Bj,Y A' x (a::B) J (by simp at q ⊢;omega) m AA,aIX s];simp
  |false=>rw[BO,ada s];simp
end
def SV (a b:AP):Bool:=decide (a.Depth<b.Depth)||((a.Depth==b.Depth)&&decide (a.Id<b.Id))
def Tt (l:List AP):List AP:=l.foldl (Ir SV) []
def H9 (l:List AP):List Int:=(Tt l).map (·.Id)
def aaj (l:List AP):(Tt l).length=l.length:=by unfold Tt;rw[aCJ];simp
def aEJ (l:List AP):(Tt l).Perm l:=by have :=aaK (lt:=SV) l [];rwa [J4]at this
def apJ {α β:Type} {f:β→α→β} {b:β} {l:List α} {i:Nat} (h:i<l.length):(l.take (i+1)).foldl f b=f ((l.take i).foldl f b) l[i]:=by
 rw[RQ,Df h,Qc,Yn];rfl
def map_take {α β:Type} {f:α→β} {l:List α} {i:Nat} (h:i<l.length):(l.take (i+1)).map f=(l.take i).map f++[f l[i]]:=by
 rw[RQ,Df h,Qc,L6];rfl
def jF (e:AP):QE:=⟨e.Depth,e.Id⟩
def eS (a b:QE):Bool:=decide (a.nJ<b.nJ)||((a.nJ==b.nJ)&&decide (a.lu<b.lu))
def aqM (a x:QE):(bif decide (a.nJ<x.nJ)then some true else(bif (a.nJ==x.nJ)then some (decide (a.lu≤x.lu))else some false).bind fun f=>some f)=some (!eS x a):=by
 unfold eS;by_cases j:a.nJ<x.nJ
 ·rw[I5 j,Bj,Ht AA,show(x.nJ==a.nJ)=false by simp;omega];rfl
 rw[Ht j,BO];by_cases m:a.nJ=x.nJ
 ·rw[m,Ht (show ¬x.nJ<x.nJ by omega)];simp only[TP,Bj,Af,KT,Fr];by_cases q:a.lu≤x.lu
  ·rw[I5 q,Ht AA];rfl
  rw[Ht q,I5 AA];rfl
 rw[show(a.nJ==x.nJ)=false by simpa using m,I5 (show x.nJ<a.nJ by omega)];rfl
def aro (l:List AP) (hl:l.length≤1000):uT l=some (H9 l):=by
 have I:Ia 16 xA 0 (l.length:Int)=some []:=by unfold Ia;rw[Ch ⟨Int.le_refl _,AA,AA⟩];rfl
 unfold uT;rw[I,Af];unfold aaU;refine gK.eq (TG l.length (fuel_lt AA) (fun i a=>a=((l.take i).map jF).foldl (Ir eS) []) rfl (fun i a k hi ha J=>?_) fun a k ha=>?_)
 ·have hlen:a.length=i:=by rw[ha,aCJ,Cb,Gt];simp;omega
  unfold aCd;rw[DR hi,D6 hi,Af,Ef I9,Af];unfold acj;have L:BJ (((a++[(⟨l[i].Depth,l[i].Id⟩:QE)]).length:Int)-1)=(a.length:Int):=aEy
  rw[L];have M:=bubble (lt:=eS) (body:=kX k (i:Int)) (fun v=>k v ((i+1:Nat):Int)) (i+1) (fun k2 x B q=>?_) (fun k2 A b x B q=>?_) i a (jF l[i]) [] hlen E5 BA (fuel_lt AA)
  ·show gK (aX (kX k (i:Int)) BA (a.length:Int) (a++[jF l[i]])) _;rw[M,TJ];exact J _ (by rw[map_take hi,Yn,ha];rfl)
  ·unfold kX kG;rw[wrap_succ i AA];rfl
  have hA:A.length+2≤i+1:=by rw[←q];simp
  have O:BJ (((A.length+1:Nat):Int)-1)=(A.length:Int):=PU
  unfold kX kG;rw[I5 (show((A.length+1:Nat):Int)>0 by omega),Bj,O,adY,Af,ad7,Af,aqM,Af,wrap_succ i AA];cases eS x b with
  |false=>rfl
  |true=>
   simp only[EU,BO,Bj,Af,YI];rw[set_mid,ad7,Af,aqE]
 unfold aCd;rw[EL];have e:a=(Tt l).map jF:=by rw[ha,Il];exact(aLe (lt:=SV) (lt':=eS) (f:=jF) (fun _ _=>rfl) l []).symm
 have U:a.length=l.length:=by rw[e,Cb,aaj]
 have Y:Ia 8 0 (a.length:Int) (a.length:Int)=some (List.replicate a.length (0:Int)):=by unfold Ia;rw[Ch ⟨AA,Int.le_refl _,AA⟩];simp
 have Z:H9 l=a.map (·.lu):=by rw[e,pz];rfl
 rw[Y,Af,Z];unfold aJo;refine Ze (body:=aCp a) (Q:=fun r=>r=a.map (·.lu)) (fun n (x:Int) (o:List Int) (p:List QE)=>∃i:Nat,x=i∧i+n=a.length∧o=(a.take i).map (·.lu)++List.replicate (a.length-i) 0∧p=a) ?_ BA a.length 0 (List.replicate a.length 0) a (fuel_lt AA) ⟨0,rfl,AA,BM,rfl⟩;rintro n x o p k2 ⟨i,rfl,hn,s,rfl⟩ m;unfold aCp;by_cases hi:i<p.length
 ·have u:((p.take i).map (·.lu)).length=i:=by rw[Cb,Gt];omega
  obtain⟨z,hz⟩:∃z,p.length-i=z+1:=⟨p.length-i-1,AA⟩
  have j:o=(p.take i).map (·.lu)++0::List.replicate z 0:=by rw[s,hz,List.replicate_succ]
  have g2:BK o (i:Int)=some 0:=by have :=adY ((p.take i).map (·.lu)) 0 (List.replicate z 0);rw[u]at this;rw[j];exact this
  have s2:o.set i p[i].lu=(p.take i).map (·.lu)++p[i].lu::List.replicate z 0:=by have :=set_mid ((p.take i).map (·.lu)) 0 p[i].lu (List.replicate z 0);rw[u]at this;rw[j];exact this
  rw[DR hi,g2,Af];refine m (n-1) _ _ _ AA ⟨i+1,wrap_succ i AA,AA,?_,rfl⟩;rw[YI,s2,map_take hi,show p.length-(i+1)=z by omega];simp
 have :i=p.length:=AA
 subst this;rw[EL];exact .ret (by rw[s];simp)
def PI (l:List AP) (x y:Int):Bool:=dM l y&&(y != x&&EN (ev l y).bD x)
def Oq (l:List AP) (ids:List Int):List Int:=(FP ids).filter fun x=> !ids.any (PI l x)
def aiP (ids:List Int) (p:Int→Bool):FP (ids.filter p)=(FP ids).filter p:=
 Ld (Mc _) ((Mc ids).sublist SY) fun x=>by rw[JD,FK,FK,JD]
def ad1 (l:List AP) (ids:List Int):(Oq l ids).length≤ids.length:=EZ (LJ _ _) (RV ids)
def aaL {α:Type} {p:α→Bool} {l:List α} {i:Nat} (h:i<l.length):(l.take (i+1)).filter p=(l.take i).filter p++bif p l[i]then[l[i]]else[]:=by
 rw[RQ,Df h,Qc,Ua];cases f:p l[i]<;>simp[f]
def aEa {α:Type} {p:α→Bool} {l:List α} {i:Nat} (h:i<l.length):(l.take (i+1)).any p=((l.take i).any p||p l[i]):=by
 rw[RQ,Df h,Qc,List.any_append];simp
def aht (l:List AP) (ids:List Int) (hl:l.length≤100) (hs:EI l) (hi0:ids.length≤1000):Mem l ids=some (Oq l ids):=by
 unfold Mem;refine gK.eq ((lC l AA).bind fun m Z=>?_);unfold acg;refine Ze (body:=aDt ids l) (Q:=fun r=>r=Oq l ids) (fun n a b c=>∃i:Nat,a=i∧i+n=ids.length∧b=m∧∀x,(Bq c x).getD false=(ids.take i).any (PI l x)) ?_ BA ids.length 0 m [] (fuel_lt AA) ⟨0,rfl,AA,rfl,fun x=>rfl⟩;rintro n a b c k ⟨i,rfl,hn,rfl,J⟩ L;unfold aDt;by_cases hi:i<ids.length
 ·have hj:∀O,(∀x,(Bq O x).getD false=((ids.take i).any (PI l x)||PI l x ids[i]))→gK (xP k (i:Int) b O) (fun r=>r=Oq l ids):=fun O h8=>L (n-1) _ _ _ AA ⟨i+1,wrap_succ i AA,AA,rfl,fun x=>by rw[h8,aEa hi]⟩;rw[DR hi,Z.isSome];cases f:dM l ids[i]with
  |false=>exact hj c fun x=>by rw[J];unfold PI;rw[f];simp
  |true=>
   obtain⟨hg,_⟩:=J6 f;rw[Z.get hg,Af];have hp:=(hs _ (Le hg)).prev;simp only[EU,BO];unfold adn;refine Ze (body:=aIN (ev l ids[i]) ids[i] k (i:Int)) (Q:=fun r=>r=Oq l ids) (fun M a2 b2 c2=>∃j:Nat,a2=j∧j+M=(ev l ids[i]).bD.length∧b2=b∧∀x,(Bq c2 x).getD false=((ids.take i).any (PI l x)||(ids[i] != x&&EN ((ev l ids[i]).bD.take j) x))) ?_ BA (ev l ids[i]).bD.length 0 b c (fuel_lt AA) ⟨0,rfl,AA,rfl,fun x=>by rw[J,Opn];unfold EN;simp⟩;rintro M a2 b2 c2 k2 ⟨j,rfl,hn2,rfl,q⟩ s;unfold aIN;by_cases u:j<(ev l ids[i]).bD.length
   ·have z:∀x,EN ((ev l ids[i]).bD.take (j+1)) x=(EN ((ev l ids[i]).bD.take j) x||(x==(ev l ids[i]).bD[j])):=fun x=>by
     rw[Oa,Yg,Js,Js,RQ,Df u,Qc,Gp,Ho,TF]
    rw[DR u];cases I:(ev l ids[i]).bD[j] != ids[i]with
    |true=>
     refine s (M-1) _ _ _ AA ⟨j+1,wrap_succ j AA,AA,rfl,fun x=>?_⟩;rw[PG,z];cases U:x==(ev l ids[i]).bD[j]with
     |true=>
      have e:=eq_of_beq U;subst e;rw[show(ids[i] != (ev l ids[i]).bD[j])=true by rw[bne_comm];exact I];simp
     |false=>rw[BO,q,KA]
    |false=>
     refine s (M-1) _ _ _ AA ⟨j+1,wrap_succ j AA,AA,rfl,fun x=>?_⟩;rw[z,q];have e:(ev l ids[i]).bD[j]=ids[i]:=XK
     rw[e];cases U:x==ids[i]with
     |false=>simp
     |true=>have e2:=eq_of_beq U;subst e2;simp
   have :j=(ev l ids[i]).bD.length:=AA
   subst this;rw[EL];exact hj _ fun x=>by rw[q,Il];unfold PI;rw[f];rfl
 have :i=ids.length:=AA
 subst this;rw[EL];unfold aLR;rw[Il]at J;refine TG ids.length (fuel_lt AA) (fun i a=>a=(ids.take i).filter fun x=> !ids.any (PI l x)) rfl (fun i a k2 hi ha L=>?_) fun a k2 ha=>?_
 ·have Y:a.length≤i:=aMd
  unfold aCG aA8;rw[DR hi,wrap_succ i AA,J];have hf:=aaL (p:=fun x=> !ids.any (PI l x)) hi;cases hb:ids.any (PI l ids[i])with
  |true=>exact L _ (by rw[hf,ha,hb];simp)
  |false=>
   simp only[KI,Bj];rw[Ef I9,Af];exact L _ (by rw[hf,ha,hb];rfl)
 have Y:a.length≤ids.length:=aMd
 unfold aCG;rw[EL,Xe _ AA];exact .ret (by rw[ha,Il,aiP];rfl)
def Rh (x y:AP):Bool:=y.Kind==x.Kind&&decide (y.Key=x.Key)
def Nq (j:List Aw):List AP→List AP→Bool
 |_,[]=>true
 |f,x::xs=>(j.any fun k=>Ec k x)&& !f.any (Rh x)&&Nq j (f++[x]) xs
def ZJ (x:AP):Bool:=x.Kind==1&&decide (x.Key=BZ)
def Um (l:List AP) (e:AP):Int:=
 bif !e.bM.all (dM l)then 14 else bif !(ofIds l e.bM).all (fun x=>decide (x.Room=e.Room))then 13
 else bif Nq (keysOf e) [] (ofIds l e.bM)&&(e.Kind==1||(ofIds l e.bM).any ZJ)then 0 else 16
def XW {k:Aw} {x:AP}:Ec k x=true↔x.Kind=k.Kind∧x.Key=k.Key:=by unfold Ec;simp
def aKL {x y:AP}:Rh x y=true↔y.Kind=x.Kind∧y.Key=x.Key:=by unfold Rh;simp
def aks {f:List Aw} {X:List AP} {i:Nat} (h:i<X.length):Nq f (X.take i) (X.drop i)=((f.any fun k=>Ec k X[i])&& !(X.take i).any (Rh X[i])&&Nq f (X.take (i+1)) (X.drop (i+1))):=by
 rw[NT h,RQ,Df h];rfl
def agZ {f:List Aw} (X:List AP):Nq f (X.take X.length) (X.drop X.length)=true:=by rw[QX];rfl
def arq (k:Aw) (e:AP):U6 (IJ k) e=some (Ec k e):=by
 unfold U6 Ec IJ;cases h:(e.Kind==k.Kind)with
 |false=>rfl
 |true=>show some (e.Key.toList==k.Key.toList)=_;rw[Ou,Fr]
def agl (f:List Aw) (x:AP) (h:f.length≤100):xE (f.map IJ) x=some (if f.findIdx (fun k=>Ec k x)<f.length then((f.findIdx (fun k=>Ec k x):Nat):Int)else -1):=by
 unfold xE aIT
 have m:∀k (i:Nat),i<f.length→aAJ (f.map IJ) x k (i:Int)=bif Ec (f.getD i ⟨0,BZ,0⟩) x then some (i:Int)else k (BJ ((i:Int)+1)):=fun k i hi=>by
  unfold aAJ;have j:i<(f.map IJ).length:=aFi
  rw[DR j,QC];show((U6 (IJ f[i]) x).bind _)=_;rw[arq,Af];simp[List.getD,hi]
 rw[Rw f (fuel_lt AA) (fun k=>Ec k x) (fun i=>some (i:Int)) (some (-1))]
 ·split<;>rfl
 ·intro k i hi;rw[m k i hi];simp[List.getD,hi]
 intro k;unfold aAJ;rw[show((f.map IJ).length:Int)=(f.length:Int) by rw[Cb],EP];rfl
def abD {α:Type} {p:α→Bool}:∀l:List α,l.Pairwise (fun a b=>¬(p a=true∧p b=true))→l.findIdx p<l.length→l.filter (fun x=> !p x)=l.take (l.findIdx p)++l.drop (l.findIdx p+1)
 | [],_,h=>absurd h (Nat.not_lt_zero _)
 |a::l,f,h=>by
  obtain⟨j,m⟩:=Ot.1 f;rw[Tj]at h ⊢;cases ha:p a with
  |true=>
   rw[List.filter_cons_of_neg (by simp[ha]),pO.2 fun b q=>by
    cases s:p b with
    |false=>rfl
    |true=>exact absurd ⟨ha,s⟩ (j b q)]
   rfl
  |false=>
   rw[ha]at h;rw[List.filter_cons_of_pos (by simp[ha]),abD l m Jp];rfl
def adU {α:Type} {p:α→Bool}:∀l:List α,decide (l.findIdx p<l.length)=l.any p
 | []=>rfl
 |a::l=>by
  have f:=adU (p:=p) l;rw[Tj,Y1,←f];cases p a<;>simp
def ai0 (e:AP):IG (keysOf e):=by
 have z:IG (NQ e):=VJ (VJ (VJ List.Pairwise.nil _ _ _) _ _ _) _ _ _;unfold keysOf;cases e.Kind==1<;>cases e.Kind==2<;>cases(e.Content.N==3||e.Content.N==1||e.Content.N==2)<;>simp only[Bj,BO]
 ·exact z
 ·exact z
 ·exact VJ z _ _ _
 ·exact VJ (VJ z _ _ _) _ _ _
 all_goals exact List.Pairwise.nil
def akt {e:AP} {k:Aw} (h:k∈keysOf e) (j:k.Kind=1):k.Key=BZ:=by
 have z:∀x∈NQ e,x.Kind=1→x.Key=BZ:=fun x f q=>by
  unfold NQ at f;rcases Q7 f with rfl|f
  ·cases q
  rcases Q7 f with rfl|f
  ·cases q
  rcases Q7 f with rfl|f
  ·rfl
  cases f
 unfold keysOf at h;cases m:e.Kind==1 with
 |true=>rw[m]at h;cases h
 |false=>
  cases s:e.Kind==2 with
  |false=>rw[m,s]at h;exact z k h j
  |true=>
   rw[m,s]at h;cases u:(e.Content.N==3||e.Content.N==1||e.Content.N==2)with
   |true=>
    rw[u]at h;rcases Q7 h with rfl|h
    ·cases j
    rcases Q7 h with rfl|h
    ·cases j
    exact z k h j
   |false=>
    rw[u]at h;rcases Q7 h with rfl|h
    ·cases j
    exact z k h j
def aKb {m:List Aw}:∀(X f:List AP),Nq m f X=true→∀x∈X,∃k∈m,Ec k x=true
 | [],_,_,_,h=>absurd h GL
 |y::X,f,h,x,j=>by
  unfold Nq at h;simp only[CZ]at h;rcases F5.1 j with rfl|j
  ·obtain⟨k,q,s⟩:=GI.1 h.1.1;exact⟨k,q,s⟩
  exact aKb X _ h.2 x j
def any_congr {α:Type} {l:List α} {p q:α→Bool} (h:∀x∈l,p x=q x):l.any p=l.any q:=by
 rw[Oa,GI,GI];exact⟨fun⟨x,f,k⟩=>⟨x,f,by rw[←h x f];exact k⟩,fun⟨x,f,k⟩=>⟨x,f,by rw[h x f];exact k⟩⟩
def aey (l:List AP) (e:AP) (hl:l.length≤100) (he:Gq e):iJ l e=some (Um l e):=by
 have h1:=he.auth;have hk5:=Zd e;have hsk:=ai0 e;unfold iJ aLl;refine gK.eq (TG e.bM.length (fuel_lt AA) (fun i a=>a=ofIds l (e.bM.take i)∧∀x∈e.bM.take i,dM l x=true) ⟨rfl,fun x M=>by simp at M⟩ (fun i a k hi ha u=>?_) fun a k ha=>?_)
 ·obtain⟨rfl,m⟩:=ha;have hal:=zN l (e.bM.take i);rw[Gt]at hal;unfold yL;rw[DR hi,NU l _ AA,Af,wrap_succ i AA];cases O:EM l e.bM[i]with
  |none=>
   rw[RH O];refine .ret ?_;unfold Um;rw[Y0 (EC hi) (show dM l e.bM[i]=false by unfold dM;rw[O];rfl)];rfl
  |some x=>
   rw[Oo O];simp only[EU,BO];rw[Ef I9,Af];refine u _ ⟨?_,fun y s=>?_⟩
   ·unfold ofIds;rw[RQ,Df hi,Qc,bY,Ns,O];rfl
   rw[RQ,Df hi,Qc,Gp,Ho]at s;rcases s with s|rfl
   ·exact m y s
   unfold dM;rw[O];rfl
 obtain⟨rfl,m⟩:=ha;rw[Il]at m ⊢;have M:=zN l e.bM;have U:e.bM.all (dM l)=true:=DZ.2 m;unfold yL;rw[EL];unfold Um;rw[U];simp only[EU,BO];generalize ofIds l e.bM=X at M;unfold aaB;rw[Ic X (fuel_lt AA) (fun x=> !decide (x.Room=e.Room)) 13 (some (bif Nq (keysOf e) [] X&&(e.Kind==1||X.any ZJ)then 0 else 16))]
 ·rw[aHR];cases X.all (fun x=>decide (x.Room=e.Room))<;>exact .ret rfl
 ·intro k2 i hi;unfold aAc;rw[DR hi,Ou]
 intro k2;unfold aAc;rw[EL,aaf,Af];unfold aMc;refine gK.eq (Ze (body:=vX X) (Q:=(· =bif Nq (keysOf e) [] X&&(e.Kind==1||X.any ZJ)then 0 else 16)) (fun n b ks x=>∃i:Nat,x=i∧i+n=X.length∧ks=((keysOf e).filter fun k=> !(X.take i).any (Ec k)).map IJ∧b=(e.Kind==1||(X.take i).any fun x=>x.Kind==1)∧Nq (keysOf e) [] X=Nq (keysOf e) (X.take i) (X.drop i)) ?_ BA X.length (e.Kind==1) ((keysOf e).map IJ) 0 (fuel_lt AA) ⟨0,rfl,AA,by rw[Opn];exact Ba (List.map IJ) (pO.2 fun _ _=>rfl).symm,BM,rfl⟩);rintro n b ks x k3 ⟨i,rfl,hn,hks,hb,q⟩ hk3;unfold vX;by_cases hi:i<X.length
 ·rw[aks hi]at q;have hlk:((keysOf e).filter fun k=> !(X.take i).any (Ec k)).length≤5:=EZ (LJ _ _) hk5;rw[DR hi,hks,agl _ _ AA,Af];have z:=adU (p:=fun k=>Ec k X[i]) ((keysOf e).filter fun k=> !(X.take i).any (Ec k))
  have I:(((keysOf e).filter fun k=> !(X.take i).any (Ec k)).any fun k=>Ec k X[i])=((keysOf e).any (fun k=>Ec k X[i])&& !(X.take i).any (Rh X[i])):=by
   rw[Oa,GI,CZ,GI,Qu,←Jg,GI];constructor
   ·rintro⟨k,u,J⟩;obtain⟨hk1,Y⟩:=FK.1 u;refine⟨⟨k,hk1,J⟩,?_⟩;rintro⟨y,s,hs⟩;obtain⟨Z,m2⟩:=XW.1 J;obtain⟨s1,s2⟩:=aKL.1 hs;rw[GI.2 ⟨y,s,XW.2 ⟨s1.trans Z,s2.trans m2⟩⟩]at Y;cases Y
   rintro⟨⟨k,u,J⟩,hno⟩;refine⟨k,FK.2 ⟨u,?_⟩,J⟩;rw[Qu,←Jg,GI];rintro⟨y,s,hs⟩;obtain⟨Z,m2⟩:=XW.1 J;obtain⟨s1,s2⟩:=XW.1 hs;exact hno ⟨y,s,aKL.2 ⟨s1.trans Z.symm,s2.trans m2.symm⟩⟩
  rw[←I,←z]at q;by_cases f:((keysOf e).filter fun k=> !(X.take i).any (Ec k)).findIdx (fun k=>Ec k X[i])<((keysOf e).filter fun k=> !(X.take i).any (Ec k)).length
  ·rw[Ch f,Ht AA,BO];rw[I5 f,Fr]at q;have hlm:(((keysOf e).filter fun k=> !(X.take i).any (Ec k)).map IJ).length=((keysOf e).filter fun k=> !(X.take i).any (Ec k)).length:=Cb ..
   have hpw:((keysOf e).filter fun k=> !(X.take i).any (Ec k)).Pairwise (fun a b=>¬(Ec a X[i]=true∧Ec b X[i]=true)):=by
    refine(List.Pairwise.sublist SY hsk).imp fun{a b} hab h=>?_;obtain⟨a1,a2⟩:=XW.1 h.1;obtain⟨b1,b2⟩:=XW.1 h.2;rw[qI (UQ.2 ⟨a1.symm.trans b1,a2.symm.trans b2⟩)]at hab;cases hab
   have hd:=abD _ hpw f
   have L:((keysOf e).filter fun k=> !(X.take i).any (Ec k)).filter (fun k=> !Ec k X[i])=(keysOf e).filter fun k=> !(X.take (i+1)).any (Ec k):=by
    rw[List.filter_filter];refine Xn fun k _=>?_;rw[aEa hi];cases(X.take i).any (Ec k)<;>cases Ec k X[i]<;>rfl
   rw[L]at hd;generalize((keysOf e).filter fun k=> !(X.take i).any (Ec k))=K at f hd hlm hlk;generalize K.findIdx (fun k=>Ec k X[i])=j at f hd;have s1:MH (K.map IJ) 0 (j:Int)=some (((K.map IJ).drop 0).take (j-0)):=aBW (lo:=0) (EH _) AA;have s2:MH (K.map IJ) (BJ ((j:Int)+1)) ((K.map IJ).length:Int)=some (((K.map IJ).drop (j+1)).take ((K.map IJ).length-(j+1))):=by rw[wrap_succ j AA];exact aBW AA (Dy _)
   rw[s1,Af,s2,Af,Ef (by simp only[Gt,Jt];omega),Af];have hb3:(bif b then some true else(BK X (i:Int)).bind fun x28=>some (x28.Kind==1))=some (b||X[i].Kind==1):=by rw[D6 hi];cases b<;>rfl
   rw[hb3,Af];refine hk3 (n-1) _ _ _ AA ⟨i+1,wrap_succ i AA,AA,?_,?_,q⟩
   ·rw[hd,L6,XE,XZ,Nat.sub_zero,qc,Pv (l:=(K.map IJ).drop (j+1)) (by rw[Jt];omega)]
   rw[aEa hi,hb,Bool.or_assoc]
  rw[D8 f];rw[Ht f,Bool.false_and]at q;exact .ret (by rw[q];rfl)
 have :i=X.length:=AA
 subst this;rw[agZ]at q;rw[EL,q,hb,Il,Fr]
 have hc:(X.any fun x=>x.Kind==1)=X.any ZJ:=any_congr fun x M=>by
  obtain⟨k,u,J⟩:=aKb X [] q x M;obtain⟨Z,m2⟩:=XW.1 J;unfold ZJ;cases hq:x.Kind==1 with
  |false=>rfl
  |true=>rw[m2,akt u (by rw[←Z];exact eq_of_beq hq)];simp
 rw[hc];cases(e.Kind==1||X.any ZJ)<;>exact .ret rfl
def Q8 (l:List AP) (s:List Aw):List AP:=ofIds l (s.map (·.Id))
def aKA (l:List AP) (s:List Aw):(Q8 l s).length≤s.length:=by have :=zN l (s.map (·.Id));rwa [Cb]at this
def apG {l:List AP} (f:EI l) (ids:List Int):EI (ofIds l ids):=fun x j=>f x (aGU j)
def aeL {l:List AP} {s:List Aw} {i:Nat} (h:i<s.length):Q8 l (s.take (i+1))=Q8 l (s.take i)++(EM l s[i].Id).toList:=by
 unfold Q8 ofIds;rw[map_take h,bY,Ns,List.filterMap_nil];cases EM l s[i].Id<;>rfl
def amP (l:List AP) (s:List Aw) (u:l.length≤100) (h:s.length≤1000):ru l s=some (Q8 l s):=by
 unfold ru kW;rw[Af];unfold aeG;refine gK.eq (aCs (body:=aF3 s) (Q:=(· =Q8 l s)) (fun n a b c _ _=>∃i:Nat,b=i∧i+n=s.length∧c=l∧a=Q8 l (s.take i)) ?_ BA s.length [] 0 l [] [] (fuel_lt AA) ⟨0,rfl,AA,rfl,rfl⟩);rintro n a b c d f k ⟨i,rfl,z,rfl,ha⟩ q;unfold aF3;by_cases hi:i<s.length
 ·have m:=aKA c (s.take i);rw[Gt]at m;rw[DR hi,NU c _ AA,Af,wrap_succ i AA];cases j:EM c s[i].Id with
  |none=>rw[RH j];exact q (n-1) _ _ _ _ _ AA ⟨i+1,rfl,AA,rfl,by rw[aeL hi,j,ha];simp⟩
  |some x=>
   rw[Oo j];simp only[Bj];rw[Ef (by rw[ha];simp only[QM];omega),Af];exact q (n-1) _ _ _ _ _ AA ⟨i+1,rfl,AA,rfl,by rw[aeL hi,j,ha];rfl⟩
 have :i=s.length:=AA
 subst this;rw[EL];exact .ret (by rw[ha,Il])
structure Dp where
 id:Int
 before:List Aw
 after:List Aw
 err:Int
def EF (t:List Dp) (x:Int):Option Dp:=t.find? fun y=>y.id==x
def H6 (t:List Dp) (x:Int):List Aw:=((EF t x).map (·.after)).getD []
def errOf (t:List Dp) (x:Int):Int:=((EF t x).map (·.err)).getD 0
def Xa (l:List AP) (e:AP):Int:=bif Um l e != 0 then Um l e else P7 e (Qi l e)
def Lu (l:List AP) (t:List Dp) (e:AP) (s:List Aw):Int:=
 bif Xa l e != 0 then Xa l e else bif e.bM.any (fun x=>errOf t x != 0)then 16 else P7 e (Q8 l s)
def stB (l:List AP) (t:List Dp) (e:AP):List Aw:=Wp l (e.bD.map (H6 t))
def zO (e:AP) (s:List Aw) (r:Int):Dp:=⟨e.Id,s,bif r==0&&Hq e.Kind then Gu s e.Kind e.Key e.Id else s,r⟩
def Gw (l:List AP) (t:List Dp) (e:AP):Dp:=zO e (stB l t e) (Lu l t e (stB l t e))
def IE (l:List AP) (ids:List Int):List Dp:=ids.foldl (fun t id=>t++[Gw l t (ev l id)]) []
def Dk (l:List AP):List Dp:=IE l (H9 l)
def ado (l:List AP) {ids:List Int} {i:Nat} (h:i<ids.length):IE l (ids.take (i+1))=IE l (ids.take i)++[Gw l (IE l (ids.take i)) (ev l ids[i])]:=apJ h
def lK {t:List Dp} {x:Int}:EF t x=none↔x∉t.map (·.id):=by
 unfold EF;rw[aFu,F8];exact⟨fun h ⟨y,f,e⟩=>h y f TT,fun h y f e=>h ⟨y,f,TT⟩⟩
def jm {t:List Dp} {y:Dp} (h:EF t y.id=none) (x:Int):EF (t++[y]) x=bif x==y.id then some y else EF t x:=by
 unfold EF at h ⊢;rw[nK];cases f:x==y.id with
 |true=>
  have e:=eq_of_beq f;subst e;rw[h];simp
 |false=>
  have :(y.id==x)=false:=by rw[←f,Oa,TF,TF];exact eq_comm
  simp[this]
def amy {t:List Dp} {x:Int} {y:Dp} (h:EF t x=some y):y.id=x:=by have :=uK h;simpa using this
def vK (l:List AP):∀(ids:List Int) (t:List Dp),(∀x∈ids,dM l x=true)→(ids.foldl (fun t id=>t++[Gw l t (ev l id)]) t).map (·.id)=t.map (·.id)++ids
 | [],t,_=>BM
 |x::ids,t,h=>by
  have f:(Gw l t (ev l x)).id=x:=(J6 (h x (Ez ..))).2;rw[Fh,vK l ids _ fun y j=>h y (G9 _ j),L6,Jr,List.map_nil,f,Gy];rfl
def LY (l:List AP) (t:List Dp):Prop:=∀y∈t,Hd l y.before∧Hd l y.after
def LY.after {l:List AP} {t:List Dp} (h:LY l t) (x:Int):Hd l (H6 t x):=by
 unfold H6;cases f:EF t x with
 |none=>exact .nil l
 |some y=>exact(h y (Qm f)).2
def LY.states {l:List AP} {t:List Dp} (h:LY l t) (ids:List Int):∀s∈ids.map (H6 t),Hd l s:=fun s f=>by
 obtain⟨x,_,rfl⟩:=F8.1 f;exact h.after x
def LY.okay {l:List AP} {t:List Dp} (h:LY l t) (f:l.length≤100) (j:EI l) (ids:List Int) (hi:ids.length≤100):La l (ids.map (H6 t)):=Hd.okay f j aFi (h.states ids)
def LY.stB {l:List AP} {t:List Dp} (h:LY l t) (f:l.length≤100) (j:EI l) {e:AP} (m:e.bD.length≤40):Hd l (stB l t e):=Hd.resolve (h.okay f j _ AA) (h.states _)
def LY.line {l:List AP} {t:List Dp} (h:LY l t) (q:l.length≤100) (s:EI l) {e:AP} (u:e.bD.length≤40) (z:Hq e.Kind=true→dM l e.Id=true∧ev l e.Id=e):LY l (t++[Gw l t e]):=fun y f=>by
 rcases Gp.1 f with f|f
 ·exact h y f
 rw[Ho.1 f];have j:=h.stB q s u;refine⟨j,?_⟩;show Hd l (bif Lu l t e (Go.Proofs.YtolgdkhlelfpoaaGreat.stB l t e)==0&&Hq e.Kind then Gu _ e.Kind e.Key e.Id else _);cases m:(Lu l t e (Go.Proofs.YtolgdkhlelfpoaaGreat.stB l t e)==0&&Hq e.Kind)with
 |false=>exact j
 |true=>
  have hst:Hq e.Kind=true:=by rw[CZ]at m;exact m.2
  obtain⟨I,k2⟩:=z hst;exact j.set I k2 hst
def ai4 {l:List AP} {id:Int} (h:Hq (ev l id).Kind=true):dM l (ev l id).Id=true∧ev l (ev l id).Id=ev l id:=by
 cases f:EM l id with
 |none=>unfold ev at h;rw[RH f]at h;exact absurd h BU
 |some e=>
  have j:dM l id=true:=by unfold dM;rw[f];rfl
  have :=(J6 j).2;rw[this];exact⟨j,rfl⟩
def aqJ :Gq G5:=⟨EH _,EH _,EH _,EH _,EH _,EH _,EH _,EH _,EH _,EH _,EH _,EH _,fun _ h=>absurd h GL,fun _ h=>absurd h GL,fun _ h=>absurd h GL⟩
def aHc {l:List AP} (f:EI l) (id:Int):Gq (ev l id):=by
 unfold ev IU;cases h:EM l id with
 |none=>exact aqJ
 |some e=>exact f e (Le h)
def aD7 {l:List AP} (j:l.length≤100) (f:EI l):∀(ids:List Int) (t:List Dp),LY l t→LY l (ids.foldl (fun t id=>t++[Gw l t (ev l id)]) t)
 | [],t,h=>h
 |x::ids,t,h=>by rw[Fh];exact aD7 j f ids _ (h.line j f (aHc f x).prev ai4)
structure Nc (t:List Dp) (m1 m2:List (Int×List Aw)) (m3:List (Int×Int)):Prop where
 b:∀x,Bq m1 x=(EF t x).map (·.before)
 a:∀x,Bq m2 x=(EF t x).map (·.after)
 r:∀x,Bq m3 x=(EF t x).map (·.err)
def Nc.after {t:List Dp} {j f:List (Int×List Aw)} {m:List (Int×Int)} (h:Nc t j f m) (x:Int):(Bq f x).getD []=H6 t x:=by rw[h.a];rfl
def Nc.err {t:List Dp} {j m:List (Int×List Aw)} {f:List (Int×Int)} (h:Nc t j m f) (x:Int):(Bq f x).getD 0=errOf t x:=by rw[h.r];rfl
def apg {t:List Dp} {j m:List (Int×List Aw)} {q:List (Int×Int)} (h:Nc t j m q) (l:List AP) (e:AP) (s:List Aw) (u:l.length≤100) (z:EI l) (f:Gq e) (I:s.length≤100):
 zM j m q l e s=some (Lu l t e s):=by
 have L:=f.auth;have M:=aKA l s;unfold zM Lu Xa;rw[aey l e u f,Af];cases J:Um l e != 0 with
 |true=>simp only[Bj];rw[J];rfl
 |false=>
  simp only[BO];rw[aL0 l e AA AA,Af,aD3 e _ (EZ (aKT l e) AA) (z.from e) f,Af];cases ha:P7 e (Qi l e) != 0 with
  |true=>rfl
  |false=>
   simp only[BO];unfold ac1;rw[Ic e.bM (fuel_lt AA) (fun x=>errOf t x != 0) 16 (some (P7 e (Q8 l s)))]
   ·cases e.bM.any (fun x=>errOf t x != 0)<;>rfl
   ·intro k i hi;unfold aEW;rw[DR hi,h.err]
   intro k;unfold aEW;rw[EL,amP l s u AA,Af,aD3 e (Q8 l s) AA (apG z _) f];rfl
def Nc.snoc {t:List Dp} {s u f j:List (Int×List Aw)} {z m:List (Int×Int)} (h:Nc t s u z) {y:Dp} (q:EF t y.id=none)
 (I:∀x,Bq f x=bif x==y.id then some y.before else Bq s x) (J:∀x,Bq j x=bif x==y.id then some y.after else Bq u x) (L:∀x,Bq m x=bif x==y.id then some y.err else Bq z x):Nc (t++[y]) f j m:=by
 refine⟨fun x=>?_,fun x=>?_,fun x=>?_⟩
 ·rw[I,jm q,h.b];cases x==y.id<;>rfl
 ·rw[J,jm q,h.a];cases x==y.id<;>rfl
 rw[L,jm q,h.r];cases x==y.id<;>rfl
def add_eq {t:List Dp} {z I:List (Int×List Aw)} {J:List (Int×Int)} (h:Nc t z I J) (l:List AP) (e:AP) (s:l.length≤100) (u:EI l) (L:Gq e) (M:LY l t) (O:EF t e.Id=none):
 gK (aBG z I J l e) (fun r=>Nc (t++[Gw l t e]) r.1 r.2.1 r.2.2):=by
 have U:=L.prev;unfold aBG aIl;refine TG e.bD.length (fuel_lt AA) (fun i a=>a=(e.bD.take i).map (H6 t)) rfl (fun i a k hi ha Y=>?_) fun a k ha=>?_
 ·have Z:a.length≤i:=by rw[ha,Cb,Gt];omega
  unfold aHd;rw[DR hi,Ef I9,Af,wrap_succ i AA,h.after];exact Y _ (by rw[map_take hi,ha])
 rw[Il]at ha;subst ha;unfold aHd;have hp:Hd l (stB l t e):=M.stB s u U;have hpl:=hp.length;have q:Zz l (e.bD.map (H6 t))=some (stB l t e):=acX (M.okay s u _ AA);rw[EL,q,Af,apg h l e _ s u L AA,Af];have j:Gw l t e=zO e (stB l t e) (Lu l t e (stB l t e)):=rfl;rw[j];generalize Lu l t e (stB l t e)=r;have m:∀(c d f:Bool) {R:Type} (g:Bool→Option R),((bif c then some d else some false).bind fun x9=>(bif x9 then some f else some false).bind g)=g (c&&(d&&f)):=fun c d f R g=>by cases c<;>cases d<;>rfl
 rw[m];show gK (bif (r==0&&Hq e.Kind)then _ else _) _;unfold zO;cases hc:(r==0&&Hq e.Kind)with
 |true=>
  simp only[Bj];rw[X6 _ _ _ _ AA,Af];refine .ret (h.snoc O (fun x=>PG ..) (fun x=>?_) fun x=>PG ..);rw[PG,PG];cases x==e.Id<;>rfl
 |false=>exact .ret (h.snoc O (fun x=>PG ..) (fun x=>PG ..) fun x=>PG ..)
def run_go (l:List AP) (ids:List Int) (I:l.length≤100) (s:EI l) (m:∀x∈ids,dM l x=true) (u:ids.Nodup) (J:ids.length≤1000):gK (aCE ids l 0 [] [] []) (fun o=>∃T,o=some T∧Nc (IE l ids) T.1 T.2.1 T.2.2):=by
 unfold aCE;refine aMw (body:=aEz ids l) (Q:=fun o=>∃T,o=some T∧Nc (IE l ids) T.1 T.2.1 T.2.2) (fun n a b c d=>∃i:Nat,a=i∧i+n=ids.length∧Nc (IE l (ids.take i)) b c d) ?_ BA ids.length 0 [] [] [] (fuel_lt AA) ⟨0,rfl,AA,⟨fun x=>rfl,fun x=>rfl,fun x=>rfl⟩⟩;rintro n a b c d k ⟨i,rfl,Z,q⟩ L;unfold aEz;by_cases hi:i<ids.length
 ·have z:=m _ (EC hi)
  have f:EF (IE l (ids.take i)) (ev l ids[i]).Id=none:=by
   rw[lK,(J6 z).2];unfold IE;rw[vK l _ _ fun x M=>m x (ou M),List.map_nil,J4];intro q;obtain⟨j,O,e⟩:=Gj q;rw[Gt]at O;rw[aHy]at e;have :=KX.1 (aBD.1 u) j i AA hi AA;exact this e
  rw[DR hi,NU l _ AA,Af];refine(add_eq q l _ I s (aHc s ids[i]) (aD7 I s _ _ fun y U=>absurd U GL) f).bind fun r Y=>?_;exact L (n-1) _ _ _ _ AA ⟨i+1,wrap_succ i AA,AA,by rw[ado l hi];exact Y⟩
 have :i=ids.length:=AA
 subst this;rw[EL];exact .ret ⟨_,rfl,by rw[Il]at q;exact q⟩
structure MR (l:List AP):Prop where
 len:l.length≤100
 small:EI l
 nodup:(l.map (·.Id)).Nodup
 dep:Zw l
def P9 {l:List AP} {x:Int}:dM l x=true↔x∈l.map (·.Id):=by
 unfold dM EM;rw[List.find?_isSome,F8];exact⟨fun⟨e,f,h⟩=>⟨e,f,Jp⟩,fun⟨e,f,h⟩=>⟨e,f,Jp⟩⟩
def ac9 (l:List AP):(H9 l).Perm (l.map (·.Id)):=(aEJ l).map _
def dB {l:List AP} {x:Int}:x∈H9 l↔dM l x=true:=by rw[(ac9 l).mem_iff,P9]
def aqp (l:List AP):(H9 l).length=l.length:=by unfold H9;rw[Cb,aaj]
def MR.order {l:List AP} (h:MR l):(H9 l).Nodup:=(ac9 l).nodup_iff.2 h.nodup
def VF (l:List AP) (c:Int):List Dp:=bif c==0&&II l==0 then Dk l else[]
def run_eq (l:List AP) {c:Int} (q:Ph l=some c) (h:c=0→MR l):
 gK (UZ l) (fun o=>(VF l c=[]∧o=none)∨(VF l c=Dk l∧MR l∧∃T,o=some T∧Nc (Dk l) T.1 T.2.1 T.2.2)):=by
 unfold UZ VF;rw[q,Af];by_cases m:c=0
 ·subst m;have f:=h rfl;rw[aix l f.len f.small f.dep];cases hd:II l==0 with
  |false=>
   have j:(II l != 0)=true:=by unfold bne;rw[hd];rfl
   simp only[Xi,BO,Af,j,Bj];exact .ret (.inl ⟨rfl,rfl⟩)
  |true=>
   have j:(II l != 0)=false:=by unfold bne;rw[hd];rfl
   simp only[Xi,BO,Af,j];rw[aro l (by have :=f.len;omega),Af];exact(run_go l (H9 l) f.len f.small (fun x s=>dB.1 s) f.order (by rw[aqp];have :=f.len;omega)).mono fun o u=>.inr ⟨rfl,f,u⟩
 have z:(c != 0)=true:=UO
 have I:(c==0)=false:=UO
 rw[z,I];exact .ret (.inl ⟨rfl,rfl⟩)
def aDD {l:List AP} (h:MR l):LY l (Dk l):=aD7 h.len h.small _ _ fun y f=>absurd f GL
def abX (l:List AP):(Dk l).map (·.id)=H9 l:=by
 have :=vK l (H9 l) [] fun x f=>dB.1 f;simpa[Dk,IE]using this
def agH {l:List AP} {x:Int} (h:dM l x=true):∃y,EF (Dk l) x=some y:=by
 cases f:EF (Dk l) x with
 |some y=>exact⟨y,rfl⟩
 |none=>rw[lK,abX]at f;exact absurd (dB.2 h) f
def JM (t:List Dp) (x:Int):Bool:=match EF t x with
 |some y=>y.err==0
 |none=>false
def H7 (l:List AP) (t:List Dp):List Int:=(l.filter fun e=>JM t e.Id).map (·.Id)
def RU (l:List AP) (t:List Dp):List Aw:=Wp l ((Oq l (H7 l t)).map (H6 t))
def aCe (l:List AP) (t:List Dp):(H7 l t).length≤l.length:=by unfold H7;rw[Cb];exact LJ _ _
def agz (l:List AP):H7 l []=[]:=by
 unfold H7;rw[aBp.2 fun e _=>by unfold JM EF;simp];rfl
def aem (l:List AP):RU l []=[]:=by unfold RU;rw[agz];rfl
def acE {l:List AP} {t:List Dp} {i:Nat} (h:i<l.length):H7 (l.take (i+1)) t=H7 (l.take i) t++bif JM t l[i].Id then[l[i].Id]else[]:=by
 unfold H7;rw[aaL h,L6];cases JM t l[i].Id<;>rfl
def al7 {l:List AP} {x:Int} (h:dM l x=true):JM (Dk l) x=(errOf (Dk l) x==0):=by
 obtain⟨y,f⟩:=agH h;unfold JM errOf;rw[f];rfl
def afA {l:List AP} {f j:List (Int×List Aw)} {m:List (Int×Int)} (h:Nc (Dk l) f j m) (I:l.length≤100):er f j m l=some (H7 l (Dk l)):=by
 unfold er
 have u:aAX l f j m=some (H7 l (Dk l)):=by
  unfold aAX aJH;refine gK.eq (TG l.length (fuel_lt AA) (fun i a=>a=H7 (l.take i) (Dk l)) rfl (fun i a k hi ha q=>?_) fun a k ha=>?_)
  ·have z:a.length≤i:=by rw[ha];exact EZ (aCe _ _) aLE
   unfold aHs aCh zD;rw[DR hi,Af,h.err,←al7 (P9.2 (F8.2 ⟨_,EC hi,rfl⟩)),wrap_succ i AA];cases s:JM (Dk l) l[i].Id with
   |true=>
    rw[Bj,D6 hi,Af,Ef I9,Af];exact q _ (by rw[acE hi,s,ha];rfl)
   |false=>exact q _ (by rw[acE hi,s,ha];simp)
  unfold aHs;rw[EL];exact .ret (by rw[ha,Il])
 rw[u];rfl
def abg {l:List AP} {c:Int} (s:Ph l=some c) (h:c=0→MR l):ZT l=some (RU l (VF l c)):=by
 unfold ZT;refine gK.eq ((run_eq l s h).bind fun o f=>?_);rcases f with⟨j,rfl⟩|⟨j,f,T,rfl,q⟩
 ·rw[j,aem];exact .ret rfl
 rw[j];have m:=f.len;have ha:=aCe l (Dk l);have u:=ad1 l (H7 l (Dk l));show gK ((er T.1 T.2.1 T.2.2 l).bind _) _;rw[afA q m,Af,aht l _ m f.small AA,Af];unfold RU;generalize Oq l (H7 l (Dk l))=H at u;unfold aep;refine TG H.length (fuel_lt AA) (fun i a=>a=(H.take i).map (H6 (Dk l))) rfl (fun i a k hi ha z=>?_) fun a k ha=>?_
 ·have I:a.length≤i:=by rw[ha,Cb,Gt];omega
  unfold aFh;rw[DR hi,Ef I9,Af,q.after,wrap_succ i AA];exact z _ (by rw[map_take hi,ha])
 rw[Il]at ha;unfold aFh;rw[EL,ha,acX ((aDD f).okay m f.small _ AA),Af];exact .ret rfl
def ap0 {l:List AP} {c:Int} (h:c=0→MR l):Hd l (RU l (VF l c)):=by
 unfold VF;cases j:(c==0&&II l==0)with
 |false=>rw[BO,aem];exact .nil l
 |true=>
  rw[CZ]at j;have f:=h (eq_of_beq j.1);have m:=aDD f;have ha:=aCe l (Dk l);have s:=ad1 l (H7 l (Dk l));have q:=f.len;rw[Bj];exact Hd.resolve (m.okay q f.small _ AA) (m.states _)
def akb {α:Type} {lt:α→α→Bool} (I:∀a b c,lt b a=false→lt c b=false→lt c a=false) (ha:∀a b,lt a b=true→lt b a=false) (x:α):
 ∀n (A:List α),A.length=n→A.Pairwise (fun a b=>lt b a=false)→(Ir lt A x).Pairwise fun a b=>lt b a=false:=by
 intro n
 induction n with
 |zero=>
  intro A j _;obtain rfl:=GR j;exact aHv ..
 |succ n J=>
  intro A j q;rcases List.eq_nil_or_concat A with rfl|⟨B,a,rfl⟩
  ·cases j
  rw[List.concat_eq_append]at j q ⊢;have j:B.length=n:=MF
  obtain⟨L,_,u⟩:=ak.1 q;cases m:lt x a with
  |true=>
   rw[aIX m];refine ak.2 ⟨J B j L,aHv ..,fun y f z s=>?_⟩;rw[Ho.1 s];rcases F5.1 ((aKo B x).mem_iff.1 f)with rfl|f
   ·exact ha _ _ m
   exact u y f a (Ho.2 rfl)
  |false=>
   rw[ada m,show B++a::[x]=(B++[a])++[x] by simp];refine ak.2 ⟨q,aHv ..,fun y f z s=>?_⟩;rw[Ho.1 s];rcases Gp.1 f with f|f
   ·exact I y a x (u y f a (Ho.2 rfl)) m
   rw[Ho.1 f];exact m
def aCx {a b:AP}:SV b a=false↔a.Depth<b.Depth∨(a.Depth=b.Depth∧a.Id≤b.Id):=by
 unfold SV;rw[qX,aEt,Vm,Vm,Y9];omega
def aok (l:List AP):(Tt l).Pairwise fun a b=>SV b a=false:=by
 have key:∀(l A:List AP),A.Pairwise (fun a b=>SV b a=false)→(l.foldl (Ir SV) A).Pairwise fun a b=>SV b a=false:=by
  intro l
  induction l with
  |nil=>exact fun A h=>h
  |cons x l f=>
   intro A h;rw[Fh];refine f _ (akb (fun a b c j m=>?_) (fun a b h=>?_) x _ A rfl h)
   ·rw[aCx]at *;omega
   rw[aCx];unfold SV at h;rw[Yg,CZ,G8,G8,TF]at h;omega
 exact key l [] .nil
def aET {l:List AP} (J:(l.map (·.Id)).Nodup) {e:AP} (h:e∈l):ev l e.Id=e:=by
 have L:dM l e.Id=true:=P9.2 (F8.2 ⟨e,h,rfl⟩);obtain⟨M,s⟩:=J6 L;have O:=Le M;obtain⟨i,hi,f⟩:=Gj O;obtain⟨j,u,m⟩:=Gj h;have U:=KX.1 (aBD.1 J)
 have z:∀a b (ha:a<l.length) (I:b<l.length),a<b→l[a].Id≠l[b].Id:=fun a b ha I q=>by
  have :=U a b (by simpa using ha) XK q;simpa using this
 rcases qG i j with h|h|h
 ·exact absurd (by rw[f,m,s]) (z i j hi u h)
 ·subst h;rw[←f,m]
 exact absurd (by rw[f,m,s]) (z j i u hi h)
def arz {l:List AP} (s:(l.map (·.Id)).Nodup) {i:Nat} (hi:i<(H9 l).length) {a:Int} (u:dM l a=true) (hd:(ev l a).Depth<(ev l (H9 l)[i]).Depth):a∈(H9 l).take i:=by
 obtain⟨z,I⟩:=J6 u;have J:ev l a∈Tt l:=(aEJ l).mem_iff.2 (Le z);obtain⟨j,L,m⟩:=Gj J;have f:i<(Tt l).length:=by simpa[H9]using hi
 have M:(H9 l)[i]=(Tt l)[i].Id:=QC (fun x:AP=>x.Id);have q:ev l (H9 l)[i]=(Tt l)[i]:=by rw[M];exact aET s ((aEJ l).mem_iff.1 (EC f))
 have O:j<i:=by
  rcases qG j i with h|h|h
  ·exact h
  ·subst h;rw[q,←m]at hd;omega
  have :=KX.1 (aok l) i j f L h;rw[aCx]at this;rw[q,←m]at hd;omega
 refine adq.2 ⟨j,AA,?_⟩;unfold H9;rw[QC,m,I]
def Pz (t:List Dp) (s:List Aw):Prop:=∀x∈s,JM t x.Id=true
structure P6 (l:List AP) (t:List Dp):Prop where
 st:∀y∈t,Pz t y.before∧Pz t y.after
 au:∀y∈t,y.err=0→∀a∈jl l y.id,JM t a=true
def oM {t:List Dp} {x:Int}:JM t x=true↔∃y,EF t x=some y∧y.err=0:=by
 unfold JM;cases EF t x with
 |none=>simp
 |some y=>simp
def aLL {t:List Dp} {x:Int} {y:Dp} (h:EF t x=some y) (z:Dp):EF (t++[z]) x=some y:=by
 unfold EF at *;rw[nK,h];rfl
def zI {t:List Dp} {x:Int} (h:JM t x=true) (z:Dp):JM (t++[z]) x=true:=by
 obtain⟨y,f,j⟩:=oM.1 h;exact oM.2 ⟨y,aLL f z,j⟩
def Pz.nil (t:List Dp):Pz t []:=fun _ h=>absurd h GL
def P6.after {l:List AP} {t:List Dp} (h:P6 l t) (x:Int):Pz t (H6 t x):=by
 unfold H6;cases f:EF t x with
 |none=>exact .nil t
 |some y=>exact(h.st y (Qm f)).2
def P6.auth {l:List AP} {t:List Dp} (h:P6 l t) {x:Int} (j:JM t x=true):∀a∈jl l x,JM t a=true:=by
 obtain⟨y,f,m⟩:=oM.1 j;have :=h.au y (Qm f) m
 rwa [amy f]at this
def P6.chain {l:List AP} {t:List Dp} (h:P6 l t) {ids:List Int} (hi:∀x∈ids,JM t x=true) {x:Int} (j:JZ l ids x):JM t x=true:=by
 induction j with
 |one m f _=>exact h.auth (hi _ m) _ f
 |more _ f _ q=>exact h.auth q _ f
def P6.full {l:List AP} {t:List Dp} (h:P6 l t) {j:List (List Aw)} (I:∀s∈j,Pz t s) {x:Int} (f:x∈J7 l j):JM t x=true:=by
 have q:∀s∈j,∀y∈Ru s,JM t y=true:=fun s m y J=>by
  obtain⟨z,u,rfl⟩:=F8.1 J;exact I s m z u
 unfold J7 at f;rcases Ti.1 f with f|f
 ·rw[JD]at f;unfold Qz at f;obtain⟨z,u,rfl⟩:=F8.1 f;obtain⟨s,m,u⟩:=Rt.1 u;exact I s m z (FK.1 u).1
 obtain⟨⟨s,m,f⟩,_⟩:=aeJ.1 f;unfold Et at f;rcases Ti.1 f with f|f
 ·exact q s m x f
 exact h.chain (q s m) (cZ.1 f)
def P6.resolve {l:List AP} {t:List Dp} (h:P6 l t) {f:List (List Aw)} (m:La l f) (j:∀s∈f,Pz t s):Pz t (Wp l f):=by
 match f,m,j with
 | [],_,_=>exact .nil t
 | [s],_,j=>exact j s (Ez ..)
 |s::r::f,m,j=>
  intro x u;rcases aaZ u with z|⟨id,q,I,_,J⟩
  ·exact j s (Ez ..) x ((ab1 m.states (List.cons_ne_nil _ _)).1 z s (Ez ..))
  have L:x.Id=id:=by rw[J];exact(J6 I).2
  rw[L];exact h.full j q
def P6.line {l:List AP} {t:List Dp} (h:P6 l t) (Y:LY l t) (Z:l.length≤100) (I:EI l) {id:Int} (hk:dM l id=true) (hn:EF t id=none) (ha:∀a∈jl l id,∃y,EF t a=some y):P6 l (t++[Gw l t (ev l id)]):=by
 have u:(ev l id).Id=id:=(J6 hk).2
 have L:Pz t (stB l t (ev l id)):=h.resolve (Y.okay Z I _ (by have :=(aHc I id).prev;omega)) fun s q=>by
  obtain⟨x,_,rfl⟩:=F8.1 q;exact h.after x
 have f:∀{s:List Aw},Pz t s→Pz (t++[Gw l t (ev l id)]) s:=fun I x z=>zI (I x z) _;refine⟨fun y j=>?_,fun y j m a q=>?_⟩
 ·rcases Gp.1 j with j|j
  ·exact⟨f (h.st y j).1,f (h.st y j).2⟩
  rw[Ho.1 j];refine⟨f L,?_⟩;show Pz _ (bif Lu l t (ev l id) (stB l t (ev l id))==0&&Hq (ev l id).Kind then Gu _ (ev l id).Kind (ev l id).Key (ev l id).Id else _);cases O:(Lu l t (ev l id) (stB l t (ev l id))==0&&Hq (ev l id).Kind)with
  |false=>exact f L
  |true=>
   rw[CZ]at O;intro x z;rcases Q7 z with rfl|z
   ·refine oM.2 ⟨Gw l t (ev l id),?_,eq_of_beq O.1⟩;show EF _ (ev l id).Id=_;have M:EF t (Gw l t (ev l id)).id=none:=by show EF t (ev l id).Id=none;rw[u];exact hn
    rw[jm M,show((ev l id).Id==(Gw l t (ev l id)).id)=true from TP _];rfl
   exact zI (L x z) _
 rcases Gp.1 j with j|j
 ·exact zI (h.au y j m a q) _
 rw[Ho.1 j]at m q;have q:a∈jl l id:=by rw[←u];exact q
 have m:Lu l t (ev l id) (stB l t (ev l id))=0:=m;obtain⟨y,j⟩:=ha a q;refine zI (oM.2 ⟨y,j,?_⟩) _;unfold Lu at m;cases J:Xa l (ev l id) != 0 with
 |true=>rw[J,Bj]at m;rw[m]at J;cases J
 |false=>
  rw[J,BO]at m;cases U:(ev l id).bM.any (fun x=>errOf t x != 0)with
  |true=>rw[U,Bj]at m;cases m
  |false=>
   have h3:=aAW.1 U a q;have :errOf t a=0:=by simpa using h3
   unfold errOf at this;rw[j]at this;exact this
def rJ {l:List AP} (hd:II l=0) {e:AP} (q:e∈l):(∀a∈e.bM,dM l a=true∧(ev l a).Depth<e.Depth)∧∀a∈e.bD,dM l a=true∧(ev l a).Depth<e.Depth:=by
 unfold II at hd;cases m:Qa l with
 |false=>rw[m]at hd;cases hd
 |true=>
  rw[m,Bj]at hd;cases s:l.all (Nb l)with
  |false=>rw[s]at hd;cases hd
  |true=>
   have f:=DZ.1 m e q;have j:=DZ.1 s e q;unfold RD at f;unfold Nb at j;rw[CZ,DZ,DZ]at f;rw[CZ,DZ]at j;refine⟨fun a ha=>⟨f.2 a ha,UM (j.1 a ha)⟩,fun a ha=>⟨f.1 a ha,?_⟩⟩
   have z:((e.bD.length:Int)==0)=false:=by
    have :0<e.bD.length:=aFD ha;rw[Y9];omega
   have u:=j.2;rw[z,BO,CZ,DZ]at u;exact UM (u.1 a ha)
structure JJ (x y:AP):Prop where
 id:y.Id=x.Id
 room:y.Room=x.Room
 sender:y.bF=x.bF
 kind:y.Kind=x.Kind
 key:y.Key=x.Key
 time:y.Time=x.Time
 depth:y.Depth=x.Depth
 prev:y.bD=x.bD
 auth:y.bM=x.bM
 n:x.Kind=2∨x.Kind=4→y.Content.N=x.Content.N
 levels:x.Kind=3→y.Content.Levels=x.Content.Levels
def JJ.refl (x:AP):JJ x x:=⟨rfl,rfl,rfl,rfl,rfl,rfl,rfl,rfl,rfl,fun _=>rfl,fun _=>rfl⟩
inductive GZ :List AP→List AP→Prop
 |nil:GZ [] []
 |cons {x y:AP} {xs ys:List AP} (h:JJ x y) (t:GZ xs ys):GZ (x::xs) (y::ys)
def GZ.append {a b c d:List AP} (h:GZ a b) (k:GZ c d):GZ (a++c) (b++d):=by
 induction h with
 |nil=>exact k
 |cons h _ f=>exact .cons h f
def GZ.flat {α:Type} {f g:α→List AP}:∀(l:List α),(∀x∈l,GZ (f x) (g x))→GZ (l.flatMap f) (l.flatMap g)
 | [],_=>.nil
 |x::l,h=>by
  rw[Lr,Lr];exact(h x (Ez ..)).append (GZ.flat l fun y j=>h y (G9 _ j))
def GZ.any {p:AP→Bool} (f:∀x y,JJ x y→p y=p x) {a b:List AP} (h:GZ a b):b.any p=a.any p:=by
 induction h with
 |nil=>rfl
 |cons h _ j=>rw[Y1,Y1,f _ _ h,j]
def GZ.all {p:AP→Bool} (f:∀x y,JJ x y→p y=p x) {a b:List AP} (h:GZ a b):b.all p=a.all p:=by
 induction h with
 |nil=>rfl
 |cons h _ j=>rw[qH,qH,f _ _ h,j]
def GZ.find {p:AP→Bool} (f:∀x y,JJ x y→p y=p x) {a b:List AP} (h:GZ a b):(a.find? p=none∧b.find? p=none)∨∃x y,a.find? p=some x∧b.find? p=some y∧JJ x y∧p x=true:=by
 induction h with
 |nil=>exact .inl ⟨rfl,rfl⟩
 | @cons x y xs ys h _ j=>
   rw[VO,VO,f _ _ h];cases m:p x with
   |true=>exact .inr ⟨x,y,rfl,rfl,h,m⟩
   |false=>exact j
def GZ.one {x y:AP} (h:JJ x y):GZ [x] [y]:=.cons h .nil
def aDP {k:Aw} {x y:AP} (h:JJ x y):Ec k y=Ec k x:=by unfold Ec;rw[h.kind,h.key]
def ame {x y:AP} (h:JJ x y):Yr y=Yr x:=by
 unfold Yr;rw[h.kind,h.key,h.sender];cases f:x.Kind==2 with
 |false=>rfl
 |true=>rw[h.n (.inl (eq_of_beq f))]
def aG5 {x y:AP} (h:JJ x y):keysOf y=keysOf x:=by
 unfold keysOf NQ;rw[h.kind,h.key,h.sender];cases f:x.Kind==2 with
 |false=>rfl
 |true=>rw[h.n (.inl (eq_of_beq f))]
section
variable {a b : List AP}
def aoO (h:GZ a b):(Jm b).2=(Jm a).2∧JJ (Jm a).1 (Jm b).1:=by
 unfold Jm;rcases h.find (p:=fun x=>x.Kind==1) (fun x y h=>by rw[h.kind])with⟨f,j⟩|⟨x,y,f,j,m,_⟩
 ·rw[f,j];exact⟨rfl,.refl _⟩
 rw[f,j];exact⟨rfl,m⟩
def aKH {u:ByteArray} {x y:AP} (h:JJ x y):OJ u y=OJ u x:=by unfold OJ;rw[h.kind,h.key]
def aGg (h:GZ a b) (u:ByteArray):Jl b u=Jl a u:=by
 unfold Jl;rcases h.find (p:=OJ u) (fun x y h=>aKH h)with⟨f,j⟩|⟨x,y,f,j,q,m⟩
 ·rw[f,j]
 rw[f,j];unfold OJ at m;rw[CZ]at m;exact q.n (.inl (eq_of_beq m.1))
def ajq (h:GZ a b):Tz b=Tz a:=by
 unfold Tz;rcases h.find (p:=fun x=>x.Kind==1) (fun x y h=>by rw[h.kind])with⟨f,j⟩|⟨x,y,f,j,m,_⟩
 ·rw[f,j]
 rw[f,j];exact m.sender
def aDL (h:GZ a b):F9 b=F9 a:=by
 unfold F9;rcases h.find (p:=fun x=>x.Kind==3) (fun x y h=>by rw[h.kind])with⟨f,j⟩|⟨x,y,f,j,m,q⟩
 ·rw[f,j,ajq h]
 rw[f,j];exact m.levels (eq_of_beq q)
def aob (h:GZ a b):(XV b).1=(XV a).1:=by
 unfold XV;rcases h.find (p:=fun x=>x.Kind==4) (fun x y h=>by rw[h.kind])with⟨f,j⟩|⟨x,y,f,j,m,q⟩
 ·rw[f,j]
 rw[f,j];exact m.n (.inr (eq_of_beq q))
def aGb {e f:AP} (j:JJ e f) (h:GZ a b):P7 f b=P7 e a:=by
 unfold P7;obtain⟨I,J⟩:=aoO h;rw[j.kind,j.sender,j.room,I];cases e.Kind==1 with
 |true=>rfl
 |false=>
 cases(Jm a).2 with
 |false=>rfl
 |true=>
 cases L:e.Kind==2 with
 |true=>
  have z:=j.n (.inl (eq_of_beq L));simp only[BO,EU,Bj]
  have q:Yv f b=Yv e a:=by
   unfold Yv;rw[I,j.prev,j.sender,j.key,z,J.id,J.sender,h.any fun x y h=>aKH h]
  have s:∀m now,fH m now b=fH m now a:=fun m now=>by unfold fH;rw[aob h]
  have u:∀now,fA f b now=fA e a now:=fun now=>by
   unfold fA;rw[aGg h,j.sender,j.key,z,aDL h]
  unfold vN;rw[q,j.key,j.sender,z,aGg h,s,u]
 |false=>
  simp only[BO,EU];rw[aGg h]
  have M:dU f b=dU e a:=by
   unfold dU;rw[aDL h,j.sender,j.kind];cases O:e.Kind==3 with
   |false=>rfl
   |true=>rw[j.levels (eq_of_beq O)]
  rw[M]
end
structure Fl (l l':List AP) (S:List Int):Prop where
 nodup:S.Nodup
 mem:∀x∈S,dM l x=true∧dM l' x=true∧JJ (ev l x) (ev l' x)
 prev:∀x∈S,∀a∈(ev l x).bD,a∈S
 auth:∀x∈S,∀a∈(ev l x).bM,a∈S
section
variable {l l' : List AP} {S : List Int} (h : Fl l l' S)
include h
def Fl.ids {ids:List Int} (hi:∀x∈ids,x∈S):GZ (ofIds l ids) (ofIds l' ids):=by
 induction ids with
 |nil=>exact .nil
 |cons x ids f=>
  obtain⟨j,k2,m⟩:=h.mem x (hi x (Ez ..));unfold ofIds at f ⊢;rw[Ns,Ns,(J6 j).1,(J6 k2).1];exact .cons m (f fun y q=>hi y (G9 _ q))
def Fl.jl {x:Int} (f:x∈S):jl l' x=jl l x:=(h.mem x f).2.2.auth
def Fl.ch {ids:List Int} (hi:∀x∈ids,x∈S) {x:Int} (s:JZ l ids x):x∈S∧JZ l' ids x:=by
 induction s with
 |one m f _=>
  have j:=h.auth _ (hi _ m) _ f;exact⟨j,.one m (by rw[h.jl (hi _ m)];exact f) (h.mem _ j).2.1⟩
 |more _ f _ q=>
  have j:=h.auth _ q.1 _ f;exact⟨j,.more q.2 (by rw[h.jl q.1];exact f) (h.mem _ j).2.1⟩
def Fl.ch' {ids:List Int} (hi:∀x∈ids,x∈S) {x:Int} (s:JZ l' ids x):x∈S∧JZ l ids x:=by
 induction s with
 |one m f _=>
  rw[h.jl (hi _ m)]at f;have j:=h.auth _ (hi _ m) _ f;exact⟨j,.one m f (h.mem _ j).1⟩
 |more _ f _ q=>
  rw[h.jl q.1]at f;have j:=h.auth _ q.1 _ f;exact⟨j,.more q.2 f (h.mem _ j).1⟩
def Fl.chain {ids:List Int} (hi:∀x∈ids,x∈S):chainOf l' ids=chainOf l ids:=Ld (vT _ _) (vT _ _) fun x=>by
 rw[cZ,cZ];exact⟨fun f=>(h.ch' hi f).2,fun f=>(h.ch hi f).2⟩
def Fl.aq2 {ids:List Int} (hi:∀x∈ids,x∈S):∀x∈chainOf l ids,x∈S:=fun _ f=>(h.ch hi (cZ.1 f)).1
def Fl.from {e f:AP} (q:JJ e f) (hi:∀x∈e.bM,x∈S):GZ (Qi l e) (Qi l' f):=by
 unfold Qi;rw[aG5 q,q.auth];refine GZ.flat _ fun k _=>?_;rcases(h.ids hi).find (p:=Ec k) (fun x y h=>aDP h)with⟨j,m⟩|⟨x,y,j,m,s,_⟩
 ·rw[j,m];exact .nil
 rw[j,m];exact .one s
def Fl.fits {e f:AP} (I:JJ e f) (hi:∀x∈e.bM,x∈S):Um l' f=Um l e:=by
 have J:=h.ids hi
 have O:e.bM.all (dM l')=e.bM.all (dM l):=by
  rw[Oa,DZ,DZ];exact⟨fun _ x q=>(h.mem x (hi x q)).1,fun _ x q=>(h.mem x (hi x q)).2.1⟩
 have U:∀(s:List Aw) {xs ys:List AP},GZ xs ys→∀{m j:List AP},GZ m j→Nq s j ys=Nq s m xs:=by
  intro s xs ys L
  induction L with
  |nil=>intro m j _;rfl
  | @cons x y xs ys q _ Y=>
    intro m j M;have Z:(s.any fun k=>Ec k y)=s.any fun k=>Ec k x:=Ba (fun p=>s.any p) (funext fun k=>aDP q)
    have hl:j.any (Rh y)=m.any (Rh x):=by
     rw[show Rh y=Rh x from funext fun u=>by unfold Rh;rw[q.kind,q.key]];exact M.any fun u v z=>by unfold Rh;rw[z.kind,z.key]
    unfold Nq;rw[Y (M.append (.one q)),Z,hl]
 unfold Um;rw[I.auth,I.kind,I.room,aG5 I,O,J.all (fun x y h=>by rw[h.room]),U _ J .nil,J.any (fun x y h=>by unfold ZJ;rw[h.kind,h.key])]
omit h in
def find_congr {p q:Int→Bool}:∀(l:List Int),(∀x∈l,p x=q x)→l.find? p=l.find? q
 | [],_=>rfl
 |x::l,h=>by rw[VO,VO,h x (Ez ..),find_congr l fun y f=>h y (G9 _ f)]
omit h in
def aAn :∀{a b:List Int},a.Nodup→(∀x∈a,x∈b)→a.length≤b.length
 | [],_,_,_=>EH _
 |x::a,b,q,f=>by
  have j:=f x (Ez ..);obtain⟨s,u⟩:=Jy.1 q;have :=aAn (b:=b.erase x) u fun y m=>(List.mem_erase_of_ne fun e=>s (by rw[←e];exact m)).2 (f y (G9 _ m));rw[List.length_erase_of_mem j]at this;have z:0<b.length:=aFD j;rw[FV];omega
def Fl.power {x:Int} (f:x∈S):OC l' (ev l' x)=OC l (ev l x):=by
 unfold OC;rw[(h.mem x f).2.2.auth];refine find_congr _ fun a ha=>?_;obtain⟨j,k2,m⟩:=h.mem a (h.auth x f a ha);rw[j,k2,m.kind]
def Fl.Az:∀(n m:Nat) (seen:List Int) (id:Int),id∈S→seen.Nodup→(∀x∈seen,x∈S)→S.length≤seen.length+n→S.length≤seen.length+m→Az l' m seen id=Az l n seen id:=by
 have j:∀(seen:List Int) (id:Int),id∈S→seen.Nodup→(∀x∈seen,x∈S)→S.length≤seen.length→id∈seen:=fun seen id f u z hl=>by
  refine Uy fun s=>?_
  have :=aAn (a:=id::seen) (b:=S) (Jy.2 ⟨s,u⟩) fun x I=>by
   rcases F5.1 I with rfl|I
   ·exact f
   exact z x I
  rw[FV]at this;omega
 have q:∀(l:List AP) (n:Nat) (seen:List Int) (id:Int),id∈seen→Go.Proofs.YtolgdkhlelfpoaaGreat.Az l n seen id=seen:=fun l n seen id f=>by
  cases n with
  |zero=>rfl
  |succ n=>unfold Go.Proofs.YtolgdkhlelfpoaaGreat.Az;rw[Js.2 f];rfl
 intro n
 induction n with
 |zero=>
  intro m seen id f u z L _;have :=j seen id f u z AA;rw[q l' m seen id this,q l 0 seen id this]
 |succ n M=>
  intro m seen id f u z L h2;by_cases s:id∈seen
  ·rw[q l' m seen id s,q l (n+1) seen id s]
  obtain⟨m,rfl⟩:∃O,m=O+1:=by
   cases m with
   |zero=>exact absurd (j seen id f u z AA) s
   |succ m=>exact⟨m,rfl⟩
  obtain⟨U,k2,k3⟩:=h.mem id f;unfold Go.Proofs.YtolgdkhlelfpoaaGreat.Az;rw[PO.2 s,U,k2,h.power f];cases Y:OC l (ev l id)with
  |none=>rfl
  |some x=>
   have I:x∈S:=h.auth id f x (Qm Y);refine M m (seen++[id]) x I (mO.2 ⟨u,BM,fun a ha b Z=>?_⟩) (fun y J=>?_) (by rw[Dz,QM];omega) (by rw[Dz,QM];omega)
   ·rw[Ho.1 Z];exact fun e=>s (e▸ha)
   rcases Gp.1 J with J|J
   ·exact z y J
   rw[Ho.1 J];exact f
def Fl.way {x:Int} (f:x∈S):eM l' x=eM l x:=by
 have j:S.length≤l.length:=by
  have :=aAn (b:=l.map (·.Id)) h.nodup fun x f=>P9.1 (h.mem x f).1
  rwa [Cb]at this
 have m:S.length≤l'.length:=by
  have :=aAn (b:=l'.map (·.Id)) h.nodup fun x f=>P9.1 (h.mem x f).2.1
  rwa [Cb]at this
 exact h.Az _ _ [] x f .nil (fun _ h=>absurd h GL) MF UO
def Fl.item {f:List Int} {x:Int} (j:x∈S):Lh l' f x=Lh l f x:=by
 unfold Lh aCP;rw[h.way j,(h.mem x j).2.2.time]
def Fl.CQ {f ids:List Int} (hi:∀x∈ids,x∈S):CQ l' f ids=CQ l f ids:=by
 unfold Go.Proofs.YtolgdkhlelfpoaaGreat.CQ;rw[Xn (q:=dM l) fun x j=>by rw[(h.mem x (hi x j)).1,(h.mem x (hi x j)).2.1],ZP fun x j=>h.item (hi x (FK.1 j).1)]
def Fl.CP {full:List Int} (hi:∀x∈full,x∈S):CP l' full=CP l full:=by
 unfold Go.Proofs.YtolgdkhlelfpoaaGreat.CP;refine Xn fun x f=>?_;obtain⟨j,k2,m⟩:=h.mem x (hi x f);unfold XQ;rw[j,k2,ame m]
def Fl.VT {full:List Int} (hi:∀x∈full,x∈S):VT l' full=VT l full:=by
 unfold Go.Proofs.YtolgdkhlelfpoaaGreat.VT;rw[h.CP hi,h.chain (ids:=Go.Proofs.YtolgdkhlelfpoaaGreat.CP l full) fun x f=>hi x (FK.1 f).1]
def Fl.qV {ids:List Int} (hi:∀x∈ids,x∈S):qV l' ids=qV l ids:=by
 unfold Go.Proofs.YtolgdkhlelfpoaaGreat.qV;exact Xn fun x f=>by rw[(h.mem x (hi x (JD.1 f))).1,(h.mem x (hi x (JD.1 f))).2.1]
def Fl.one {x:Int} (f:x∈S):chainOf l' [x]=chainOf l [x]:=h.chain fun y j=>by rw[Ho.1 j];exact f
def Fl.node {x:Int} (f:x∈S):En l' x=En l x:=by
 obtain⟨_,_,j⟩:=h.mem x f;unfold En aF7;rw[aDL (h.from j (h.auth x f)),j.sender,j.time,h.one f]
omit h in
def ajn (l:List AP) (left:List Int) (b:Option Int) (x:Int):Ij l left b x=some x∨Ij l left b x=b:=by
 unfold Ij;cases b with
 |none=>cases fP l left x<;>simp
 |some y=>
  simp only[];cases fP l left x<;>cases pV (En l x) (En l y)<;>simp
def Fl.best {left:List Int}:∀(xs:List Int) (b:Option Int),(∀x∈xs,x∈S)→(∀y,b=some y→y∈S)→xs.foldl (Ij l' left) b=xs.foldl (Ij l left) b
 | [],_,_,_=>rfl
 |x::xs,b,q,s=>by
  have j:=q x (Ez ..)
  have e:Ij l' left b x=Ij l left b x:=by
   unfold Ij fP;rw[h.one j];cases b with
   |none=>rfl
   |some y=>simp only[h.node j,h.node (s y rfl)]
  rw[Fh,Fh,e];refine Fl.best xs _ (fun y f=>q y (G9 _ f)) fun y f=>?_;rcases ajn l left b x with m|m
  ·rw[m]at f;rw[←CJ f];exact j
  rw[m]at f;exact s y f
def Fl.wz:∀(n:Nat) (left:List Int),(∀x∈left,x∈S)→wz l' n left=wz l n left
 |0,_,_=>rfl
 |n+1,left,hi=>by
  unfold Go.Proofs.YtolgdkhlelfpoaaGreat.wz XA;rw[h.best left none hi fun _ h=>Gz];cases left.foldl (Ij l left) none with
  |none=>rfl
  |some b=>exact Ba _ (Fl.wz n _ fun x f=>hi x (FK.1 f).1)
def Iw (S:List Int) (s:List Aw):Prop:=∀x∈s,x.Id∈S
def Fl.pick {s:List Aw} (u:Iw S s) {e f:AP} (q:JJ e f) (hi:∀x∈e.bM,x∈S):GZ (SP l s e) (SP l' s f):=by
 unfold SP;rw[aG5 q];refine GZ.flat _ fun k _=>?_;unfold UU aQ;cases z:(GY s k.Kind k.Key).2 with
 |true=>
  have I:=aGL (s:=s) (k:=k.Kind) (key:=k.Key) (n:=(GY s k.Kind k.Key).1) (Prod.ext rfl z);obtain⟨J,k2,L⟩:=h.mem _ (u _ I)
  have M:IU l (GY s k.Kind k.Key).1=(ev l (GY s k.Kind k.Key).1,true):=by
   have :=(J6 J).1;unfold ev IU at this ⊢;rw[this]
  have O:IU l' (GY s k.Kind k.Key).1=(ev l' (GY s k.Kind k.Key).1,true):=by
   have :=(J6 k2).1;unfold ev IU at this ⊢;rw[this]
  simp only[Bj];rw[M,O];exact .one L
 |false=>
  simp only[BO];unfold lT;rw[q.auth];rcases(h.ids hi).find (p:=Ec k) (fun x y h=>aDP h)with⟨j,m⟩|⟨x,y,j,m,U,_⟩
  ·rw[j,m];exact .nil
  rw[j,m];exact .one U
def Fl.apply {s:List Aw} (j:Iw S s) {x:Int} (m:x∈S):Nh l' s x=Nh l s x∧Iw S (Nh l s x):=by
 obtain⟨u,k2,f⟩:=h.mem x m
 have e:Qr l' s x=Qr l s x:=by
  unfold Qr;rw[u,k2,f.kind,aGb f (h.pick j f (h.auth x m))]
 unfold Nh;rw[e,f.kind,f.key,f.id];refine⟨rfl,?_⟩;cases Qr l s x with
 |false=>exact j
 |true=>
  intro y q;rcases Q7 q with rfl|q
  ·show(ev l x).Id∈S;rw[(J6 u).2];exact m
  exact j y q
def Fl.applies:∀(ids:List Int) (s:List Aw),Iw S s→(∀x∈ids,x∈S)→PD l' s ids=PD l s ids∧Iw S (PD l s ids)
 | [],_,f,_=>⟨rfl,f⟩
 |x::ids,s,f,hi=>by
  obtain⟨j,m⟩:=h.apply f (hi x (Ez ..));unfold PD;rw[Fh,Fh,j];exact Fl.applies ids _ m fun y q=>hi y (G9 _ q)
def Fl.closure {s:List Aw} (j:Iw S s):Et l' s=Et l s∧∀x∈Et l s,x∈S:=by
 have hi:∀x∈Ru s,x∈S:=fun x f=>by
  obtain⟨y,m,rfl⟩:=F8.1 f;exact j y m
 unfold Et;refine⟨by rw[h.chain hi],fun x f=>?_⟩;rcases Ti.1 f with f|f
 ·exact hi x f
 exact h.aq2 hi x f
def Fl.full {f:List (List Aw)} (J:∀s∈f,Iw S s):J7 l' f=J7 l f∧∀x∈J7 l f,x∈S:=by
 have u:∀(q:List (List Aw)) (a:List Int),(∀s∈q,Iw S s)→q.foldl (fun a s=>Hf a (Et l' s)) a=q.foldl (fun a s=>Hf a (Et l s)) a:=by
  intro q
  induction q with
  |nil=>exact fun _ _=>rfl
  |cons s q O=>
   intro a M;rw[Fh,Fh,(h.closure (M s (Ez ..))).1];exact O _ fun s m=>M s (G9 _ m)
 have I:∀x,KH l' f x=KH l f x:=fun x=>by
  unfold KH;exact List.countP_congr fun s m=>by rw[(h.closure (J s m)).1]
 have hd:OH l' f=OH l f:=by
  unfold OH allOf;rw[u f [] J];exact Xn fun x _=>by rw[I]
 unfold J7;rw[hd];refine⟨rfl,fun x j=>?_⟩;rcases Ti.1 j with j|j
 ·rw[JD]at j;unfold Qz at j;obtain⟨z,L,rfl⟩:=F8.1 j;obtain⟨s,m,L⟩:=Rt.1 L;exact J s m z (FK.1 L).1
 obtain⟨⟨s,m,j⟩,_⟩:=aeJ.1 j;exact(h.closure (J s m)).2 x j
omit h in
def arh {f:List (List Aw)} (j:∀s∈f,Iw S s):Iw S (JK f):=by
 cases f with
 |nil=>exact fun _ h=>absurd h GL
 |cons s f=>exact fun x m=>j s (Ez ..) x (FK.1 m).1
def Fl.last {f:List (List Aw)} (hs:∀s∈f,Iw S s):lastOf l' f=lastOf l f∧Iw S (lastOf l f):=by
 obtain⟨f1,Y⟩:=h.full hs;have q:=arh hs;have I:KP l' f=KP l f:=by unfold KP;rw[f1,h.VT Y]
 have u:∀x∈KP l f,x∈S:=fun x j=>Y x (aEg.1 j).1
 have Z:NV l' f=NV l f:=by
  unfold NV;rw[I,h.qV u];exact h.wz _ _ fun x j=>u x (Vo.1 j).1
 have L:∀x∈NV l f,x∈S:=fun x j=>u x (Vo.1 (aEr l _ _ j)).1;obtain⟨a1,a2⟩:=h.applies (NV l f) (JK f) q L;have m:Iy l' f=Iy l f:=by unfold Iy;rw[Z,a1]
 have M:VG l' f=VG l f:=by
  unfold VG;rw[m];cases hg:(GY (Iy l f) 3 BZ).2 with
  |false=>rfl
  |true=>exact h.way (a2 _ (aGL (n:=(GY (Iy l f) 3 BZ).1) (Prod.ext rfl hg)))
 have J:∀x∈Qj (J7 l f) (KP l f),x∈S:=fun x j=>Y x (ad3.1 j).1
 have O:MZ l' f=MZ l f:=by
  unfold MZ;rw[M,f1,I,h.CQ J]
 have U:∀x∈MZ l f,x∈S:=fun x j=>by
  unfold MZ Go.Proofs.YtolgdkhlelfpoaaGreat.CQ at j;obtain⟨y,hy,rfl⟩:=F8.1 j;obtain⟨z,hz,rfl⟩:=F8.1 ((YK ..).mem_iff.1 hy);exact J z (FK.1 hz).1
 obtain⟨b1,b2⟩:=h.applies (MZ l f) (Iy l f) a2 U;unfold lastOf;rw[m,O,b1];refine⟨rfl,fun x j=>?_⟩;rcases aH3 _ _ j with j|j
 ·exact q x j
 exact b2 x j
def Fl.resolve {f:List (List Aw)} (j:∀s∈f,Iw S s):Wp l' f=Wp l f∧Iw S (Wp l f):=by
 match f,j with
 | [],_=>exact⟨rfl,fun _ h=>absurd h GL⟩
 | [s],j=>exact⟨rfl,j s (Ez ..)⟩
 |s::r::f,j=>exact h.last j
def Fl.verdict {t t':List Dp} {x:Int} (m:x∈S) {s:List Aw} (I:Iw S s) (u:∀a∈(ev l x).bM,errOf t' a=errOf t a):Lu l' t' (ev l' x) s=Lu l t (ev l x) s:=by
 obtain⟨O,k2,f⟩:=h.mem x m
 have J:Xa l' (ev l' x)=Xa l (ev l x):=by
  unfold Xa;rw[h.fits f (h.auth x m),aGb f (h.from f (h.auth x m))]
 have j:(ev l' x).bM.any (fun x=>errOf t' x != 0)=(ev l x).bM.any (fun x=>errOf t x != 0):=by
  rw[f.auth,Oa,GI,GI];exact⟨fun⟨a,ha,e⟩=>⟨a,ha,by rw[←u a ha];exact e⟩,fun⟨a,ha,e⟩=>⟨a,ha,by rw[u a ha];exact e⟩⟩
 have q:P7 (ev l' x) (Q8 l' s)=P7 (ev l x) (Q8 l s):=aGb f (h.ids fun y L=>by
  obtain⟨z,M,rfl⟩:=F8.1 L
  exact I z M)
 unfold Lu;rw[J,j,q]
def Fl.line {t t':List Dp} {x:Int} (m:x∈S) (u:∀a∈(ev l x).bD,H6 t' a=H6 t a∧Iw S (H6 t a)) (z:∀a∈(ev l x).bM,errOf t' a=errOf t a):
 Gw l' t' (ev l' x)=Gw l t (ev l x)∧Iw S (Gw l t (ev l x)).before∧Iw S (Gw l t (ev l x)).after:=by
 obtain⟨I,k2,j⟩:=h.mem x m
 have f:stB l' t' (ev l' x)=stB l t (ev l x)∧Iw S (stB l t (ev l x)):=by
  have J:(ev l x).bD.map (H6 t')=(ev l x).bD.map (H6 t):=ZP fun a ha=>(u a ha).1;unfold stB;rw[j.prev,J]
  exact h.resolve fun s L=>by
   obtain⟨a,ha,rfl⟩:=F8.1 L;exact(u a ha).2
 unfold Gw zO;rw[f.1,h.verdict m f.2 z,j.id,j.kind,j.key];refine⟨rfl,f.2,?_⟩;show Iw S (bif Lu l t (ev l x) (stB l t (ev l x))==0&&Hq (ev l x).Kind then _ else _);cases(Lu l t (ev l x) (stB l t (ev l x))==0&&Hq (ev l x).Kind)with
 |false=>exact f.2
 |true=>
  intro y q;rcases Q7 q with rfl|q
  ·show(ev l x).Id∈S;rw[(J6 I).2];exact m
  exact f.2 y q
end
def ajN (l:List AP) {t t':List Dp} {e:AP} (m:∀a∈e.bD,H6 t' a=H6 t a) (j:∀a∈e.bM,errOf t' a=errOf t a):Gw l t' e=Gw l t e:=by
 have q:stB l t' e=stB l t e:=by
  unfold stB;rw[show e.bD.map (H6 t')=e.bD.map (H6 t)from ZP m]
 have f:e.bM.any (fun x=>errOf t' x != 0)=e.bM.any (fun x=>errOf t x != 0):=by
  rw[Oa,GI,GI];exact⟨fun⟨a,ha,e⟩=>⟨a,ha,by rw[←j a ha];exact e⟩,fun⟨a,ha,e⟩=>⟨a,ha,by rw[j a ha];exact e⟩⟩
 unfold Gw Lu;rw[q,f]
def aa1 (l:List AP):∀(ids:List Int) {t:List Dp} {x:Int} {y:Dp},EF t x=some y→EF (ids.foldl (fun t id=>t++[Gw l t (ev l id)]) t) x=some y
 | [],_,_,_,h=>h
 |id::ids,_,_,_,h=>by rw[Fh];exact aa1 l ids (aLL h _)
def acC {l:List AP} {ids:List Int} {i:Nat} {x:Int} {y:Dp} (h:EF (IE l (ids.take i)) x=some y):EF (IE l ids) x=some y:=by
 have :IE l ids=(ids.drop i).foldl (fun t id=>t++[Gw l t (ev l id)]) (IE l (ids.take i)):=by
  unfold IE;rw[←Yn,aU]
 rw[this];exact aa1 l _ h
def aEb {l:List AP} (O:MR l) (hd:II l=0) {x:Int} (I:dM l x=true):EF (Dk l) x=some (Gw l (Dk l) (ev l x)):=by
 obtain⟨i,hi,u⟩:=Gj (dB.2 I)
 have m:∀j,(IE l ((H9 l).take j)).map (·.id)=(H9 l).take j:=fun j=>by
  unfold IE;rw[vK l _ _ fun x Z=>dB.1 (ou Z)];rfl
 have q:(ev l x).Id=x:=(J6 I).2;have hm:ev l x∈l:=Le (J6 I).1
 have s:∀a,dM l a=true→(ev l a).Depth<(ev l x).Depth→∃y,EF (IE l ((H9 l).take i)) a=some y∧EF (Dk l) a=some y:=fun a k1 k2=>by
  have :=arz O.nodup hi k1 (by rw[u];exact k2);cases J:EF (IE l ((H9 l).take i)) a with
  |some y=>exact⟨y,rfl,acC J⟩
  |none=>rw[lK,m]at J;exact absurd this J
 have f:EF (IE l ((H9 l).take i)) (Gw l (IE l ((H9 l).take i)) (ev l x)).id=none:=by
  show EF _ (ev l x).Id=none;rw[q,lK,m];intro z;obtain⟨j,hj,e⟩:=Gj z;rw[Gt]at hj;rw[aHy,←u]at e;exact KX.1 (aBD.1 O.order) j i AA hi AA e
 have h1:EF (IE l ((H9 l).take (i+1))) x=some (Gw l (IE l ((H9 l).take i)) (ev l x)):=by
  rw[ado l hi,u,jm f];have :(x==(Gw l (IE l ((H9 l).take i)) (ev l x)).id)=true:=by show(x==(ev l x).Id)=true;rw[q];exact TP _
  rw[this];rfl
 have h2:=acC h1
 have h3:Gw l (Dk l) (ev l x)=Gw l (IE l ((H9 l).take i)) (ev l x):=by
  obtain⟨U,Y⟩:=rJ hd hm;refine ajN l (fun a ha=>?_) fun a ha=>?_
  ·obtain⟨y,L,M⟩:=s a (Y a ha).1 (Y a ha).2;unfold H6;rw[L,M]
  obtain⟨y,L,M⟩:=s a (U a ha).1 (U a ha).2;unfold errOf;rw[L,M]
 rw[h3];exact h2
def abq {l l':List AP} {S:List Int} (h:Fl l l' S) (j:MR l) (hd:II l=0) (m:MR l') (q:II l'=0):∀x∈S,EF (Dk l') x=EF (Dk l) x∧Iw S (H6 (Dk l) x):=by
 have key:∀(n:Nat) (x:Int),x∈S→(ev l x).Depth<(n:Int)→EF (Dk l') x=EF (Dk l) x∧Iw S (H6 (Dk l) x):=by
  intro n
  induction n with
  |zero=>
   intro x f I;have :=(j.dep _ (Le (J6 (h.mem x f).1).1)).1;omega
  |succ n z=>
   intro x f I;obtain⟨s,k2,Y⟩:=h.mem x f;obtain⟨J,L⟩:=rJ hd (Le (J6 s).1)
   obtain⟨M,Z,O⟩:=h.line f (t:=Dk l) (t':=Dk l') (fun a ha=>by
    obtain⟨u,U⟩:=z a (h.prev x f a ha) (by have :=(L a ha).2;omega)
    exact⟨by unfold H6;rw[u],U⟩) fun a ha=>by
    obtain⟨u,_⟩:=z a (h.auth x f a ha) (by have :=(J a ha).2;omega);unfold errOf;rw[u]
   rw[aEb j hd s,aEb m q k2,M];exact⟨rfl,by unfold H6;rw[aEb j hd s];exact O⟩
 intro x f;have :=(j.dep _ (Le (J6 (h.mem x f).1).1)).2;exact key 100001 x f AA
def asY {l l':List AP} {S:List Int} (h:Fl l l' S) (I:MR l) (hd:II l=0) (q:MR l') (u:II l'=0) (ha:∀x∈H7 l (Dk l),x∈S) (J:H7 l' (Dk l')=H7 l (Dk l)):RU l' (Dk l')=RU l (Dk l):=by
 have z:=abq h I hd q u
 have L:Oq l' (H7 l (Dk l))=Oq l (H7 l (Dk l)):=by
  unfold Oq;refine Xn fun x _=>?_;congr 1;rw[Oa,GI,GI]
  have e:∀y∈H7 l (Dk l),PI l' x y=PI l x y:=fun y f=>by
   obtain⟨M,k2,O⟩:=h.mem y (ha y f);unfold PI;rw[M,k2,O.prev]
  exact⟨fun⟨y,f,k⟩=>⟨y,f,by rw[←e y f];exact k⟩,fun⟨y,f,k⟩=>⟨y,f,by rw[e y f];exact k⟩⟩
 have j:∀x∈Oq l (H7 l (Dk l)),x∈S:=fun x m=>ha x (JD.1 (FK.1 m).1)
 have U:(Oq l (H7 l (Dk l))).map (H6 (Dk l'))=(Oq l (H7 l (Dk l))).map (H6 (Dk l)):=ZP fun x m=>by
  unfold H6;rw[(z x (j x m)).1]
 unfold RU;rw[J,L,U]
 exact(h.resolve fun s Y=>by
  obtain⟨x,m,rfl⟩:=F8.1 Y
  exact(z x (j x m)).2).1
def aHJ (l:List AP) (t:List Dp):H7 l t=(l.map (·.Id)).filter (JM t):=by
 unfold H7;rw[List.filter_map];rfl
end Go.Proofs.YtolgdkhlelfpoaaGreat
end
section
namespace Go.Proofs.YtolgdkhlelfpoaaGreat
def RZ (n:Int):Int:=if n<0 then bits .xor .u64 IntKind.u64.max (IntKind.u64.wrap (IntKind.u64.wrap n*2))else IntKind.u64.wrap (IntKind.u64.wrap n*2)
def oH (n:Int):0≤RZ n∧RZ n<18446744073709551616:=by
 unfold RZ;have f:∀x:Int,0≤IntKind.u64.wrap x∧IntKind.u64.wrap x<18446744073709551616:=fun x=>by rw[Yb];omega
 split
 ·obtain⟨j,q⟩:=f (IntKind.u64.wrap n*2);generalize IntKind.u64.wrap (IntKind.u64.wrap n*2)=y at *;obtain⟨k,rfl⟩:=Int.eq_ofNat_of_zero_le j;have :(IntKind.u64.max:Int)=((18446744073709551615:Nat):Int):=BU
  rw[this,bits_xor_u64_nat _ _ AA AA];have :18446744073709551615^^^k<2^64:=Nat.xor_lt_two_pow AA AA;constructor
  ·exact aCB _
  have m:(2:Nat)^64=18446744073709551616:=BU
  omega
 exact f _
def N7 (u:Nat):List Int:=if u<128 then[(u:Int)]else((u % 128+128:Nat):Int)::N7 (u/128)
termination_by u
decreasing_by omega
def ay {u:Nat} (h:u<128):N7 u=[(u:Int)]:=by rw[N7,Ch h]
def aHt {u:Nat} (h:¬u<128):N7 u=((u % 128+128:Nat):Int)::N7 (u/128):=by rw[N7,D8 h]
def aKC :∀(j u:Nat),u<128^(j+1)→(N7 u).length≤j+1
 |0,u,h=>by rw[ay Jp];simp
 |j+1,u,h=>by
  by_cases f:u<128
  ·rw[ay f];simp
  rw[aHt f]
  have :u/128<128^(j+1):=by
   rw[Nat.div_lt_iff_lt_mul AA];rw[Nat.pow_succ]at h;exact h
  have :=aKC j (u/128) this;simp;omega
def enc (n:Int):List Int:=N7 (RZ n).toNat
def NP (n:Int):(enc n).length≤10:=by
 have h:=(oH n).2;refine aKC 9 _ ?_;have :(128:Nat)^10=1180591620717411303424:=BU
 rw[this];have :=(oH n).1;omega
def aoo (k:Nat):bits .or .u8 ((k:Int) % 256) 128=((k % 128+128:Nat):Int):=by
 have h:=u8_or_nat (k % 256) 128 AA AA;rw[show((k:Int) % 256)=((k % 256:Nat):Int)from by omega];have f:(128:Int)=((128:Nat):Int):=rfl;rw[f,h];congr 1;have key:∀x,x<256→x|||128=x % 128+128:=Kz
 rw[key _ AA];omega
def gX (u c:Int):Int:=(IntKind.u64.wrap (bits .xor .u64 u (IntKind.u64.wrap c)*1099511628211)).tmod 4611686018427387904
def ace (x:Int):bits .and .u64 (IntKind.u64.wrap x) 4611686018427387903=(IntKind.u64.wrap x).tmod 4611686018427387904:=by
 rw[Yb];have h:=bits_mask .u64 64 BU (fun n j m=>by rw[Yb];omega) 62 BU (x % 18446744073709551616) AA AA;have e:((2:Int)^62-1)=4611686018427387903:=BU
 have f:((2:Int)^62)=4611686018427387904:=BU
 rw[aKR AA];simpa[e,f]using h
def ahX (u c:Int):bits .and .u64 (IntKind.u64.wrap (bits .xor .u64 u (IntKind.u64.wrap c)*1099511628211)) 4611686018427387903=gX u c:=ace _
def aAH (op:BinOp) (k:IntKind) (x y:Int) (h:op=.and∨op=.or∨op=.xor):Du op k x y=bits op k x y:=by
 rcases h with rfl|rfl|rfl<;>rfl
def Ls {α:Type} {b:Nat} {l m:List α} (f:b≤100) (h:(l++m).length≤1099511627776):DN b l m=some (l++m):=by
 refine Ef ?_;rw[Dz]at h;have :(l.length+m.length)*b≤1099511627776*100:=aFy h f;omega
def anw (u:Nat):Du .or .u8 (IntKind.u8.wrap (u:Int)) 128=((u % 128+128:Nat):Int):=by
 rw[aAH _ _ _ _ (.inr (.inl rfl)),show IntKind.u8.wrap (u:Int)=(u:Int) % 256 from by rw[Zh],aoo]
def aqt (u:Nat):Kv .shr .u64 (u:Int) 7=some ((u/128:Nat):Int):=by
 unfold Kv;rw[D8 AA];show some ((u:Int).fdiv (2^7))=_;rw[acz _ BU];congr 1
def acF {u n:Nat} (h:u<128^(n+1+1)):u/128<128^(n+1):=by
 rw[Nat.div_lt_iff_lt_mul AA];rw[Nat.pow_succ]at h;exact h
def agQ :∀(n u:Nat),u<128^(n+1)→∀m b,n<m→(b++N7 u).length≤1099511627776→aX V7 m b (u:Int)=some (b++N7 u):=by
 intro n
 induction n with
 |zero=>
  intro u j m b z f;obtain⟨m,rfl⟩:∃q,m=q+1:=⟨m-1,AA⟩
  have h:u<128:=MF
  rw[ay h]at f ⊢;show V7 (aX V7 m) b (u:Int)=_;simp only[V7,show decide ((u:Int)≥128)=false from by simp;omega,BO];rw[show IntKind.u8.wrap (u:Int)=(u:Int)from by rw[Zh];omega,Ls AA f];rfl
 |succ n I=>
  intro u j m b z f;obtain⟨m,rfl⟩:∃q,m=q+1:=⟨m-1,AA⟩
  show V7 (aX V7 m) b (u:Int)=_;by_cases h:u<128
  ·rw[ay h]at f ⊢;simp only[V7,show decide ((u:Int)≥128)=false from by simp;omega,BO];rw[show IntKind.u8.wrap (u:Int)=(u:Int)from by rw[Zh];omega,Ls AA f];rfl
  rw[aHt h]at f ⊢;have e:(b++((u % 128+128:Nat):Int)::N7 (u/128))=(b++[((u % 128+128:Nat):Int)])++N7 (u/128):=BM
  have s:(b++[((u % 128+128:Nat):Int)]).length≤1099511627776:=by simp only[Dz,FV,OB]at f ⊢;omega
  simp only[V7,show decide ((u:Int)≥128)=true from by simp;omega,Bj,anw,Ls (show 1≤100 by omega) s,aqt,Af];rw[e];exact I (u/128) (acF j) m _ AA (by rw[←e];exact f)
def asj :∀(n u:Nat),u<128^(n+1)→u<18446744073709551616→∀m b,n<m→(b++N7 u).length≤1099511627776→aX UF m (u:Int) b=some (b++N7 u):=by
 intro n
 induction n with
 |zero=>
  intro u j _ m b z f;obtain⟨m,rfl⟩:∃q,m=q+1:=⟨m-1,AA⟩
  have h:u<128:=MF
  rw[ay h]at f ⊢;show UF (aX UF m) (u:Int) b=_;simp only[UF,show decide ((u:Int)≥128)=false from by simp;omega,BO];rw[show IntKind.u8.wrap (u:Int)=(u:Int)from by rw[Zh];omega,Ls AA f];rfl
 |succ n I=>
  intro u j J m b z f;obtain⟨m,rfl⟩:∃q,m=q+1:=⟨m-1,AA⟩
  show UF (aX UF m) (u:Int) b=_;by_cases h:u<128
  ·rw[ay h]at f ⊢;simp only[UF,show decide ((u:Int)≥128)=false from by simp;omega,BO];rw[show IntKind.u8.wrap (u:Int)=(u:Int)from by rw[Zh];omega,Ls AA f];rfl
  rw[aHt h]at f ⊢;have e:(b++((u % 128+128:Nat):Int)::N7 (u/128))=(b++[((u % 128+128:Nat):Int)])++N7 (u/128):=BM
  have s:(b++[((u % 128+128:Nat):Int)]).length≤1099511627776:=by simp only[Dz,FV,OB]at f ⊢;omega
  have L:Uu (u:Int) 128=some ((u % 128:Nat):Int):=by unfold Uu;rw[D8 AA,aKR AA];congr 1
  have M:gI .u64 (u:Int) 128=some ((u/128:Nat):Int):=by
   unfold gI;rw[D8 AA,Int.tdiv_eq_ediv_of_nonneg AA];congr 1;rw[Yb];omega
  have O:IntKind.u8.wrap (IntKind.u64.wrap (((u % 128:Nat):Int)+128))=((u % 128+128:Nat):Int):=by rw[Yb,Zh];omega
  simp only[UF,show decide ((u:Int)≥128)=true from by simp;omega,Bj,L,O,M,Ls (show 1≤100 by omega) s,Af];rw[e];exact I (u/128) (acF j) AA m _ AA (by rw[←e];exact f)
def abZ (x:Int):Kv .shl .u64 x 1=some (IntKind.u64.wrap (x*2)):=rfl
def aaD (x:Int):Y8 .u64 x=bits .xor .u64 IntKind.u64.max x:=rfl
def adF (n:Int):(RZ n).toNat<128^(9+1):=by
 have f:=oH n;have :(128:Nat)^(9+1)=1180591620717411303424:=BU
 rw[this];omega
def aee :9<BA:=aB1
def number_eq {b:List Int} {n:Int} (h:(b++enc n).length≤1099511627776):Vf b n=some (b++enc n):=by
 have m:=oH n
 have f:aIy b (RZ n)=some (b++enc n):=by
  have :=agQ 9 (RZ n).toNat (adF n) BA b aee h
  rwa [Int.toNat_of_nonneg m.1]at this
 unfold Vf;rw[abZ,Af];unfold aBd;unfold RZ at f;by_cases j:n<0
 ·rw[Ch j]at f;rw[show decide (n<0)=true by simpa using j,Bj,aaD];exact f
 rw[D8 j]at f;rw[show decide (n<0)=false by simpa using j,BO];exact f
def aja (n:Int):([]++enc n).length≤1099511627776:=by have :=NP n;simp only[J4];omega
def aLC (n:Int):iP n=some (enc n):=by
 have m:=oH n
 have f:aMl (RZ n) []=some (enc n):=by
  have :=asj 9 (RZ n).toNat (adF n) AA BA [] aee (aja n)
  rwa [Int.toNat_of_nonneg m.1]at this
 unfold iP;rw[abZ,Af];unfold aAx;unfold RZ at f;by_cases j:n<0
 ·rw[Ch j]at f;rw[show decide (n<0)=true by simpa using j,Bj,aaD];exact f
 rw[D8 j]at f;rw[show decide (n<0)=false by simpa using j,BO];exact f
def iZ {b:List Int} {m:Nat} (h:b.length+m≤1099511627776):Vd b (m:Int)=some b:=by
 unfold Vd;rw[NM AA AA];unfold Ia;rw[Ch ⟨AA,AA,AA⟩];simp[gCopy]
def aBJ {a b:List Int} (h:(a++b).length≤1099511627776):a.length≤1099511627776:=by rw[Dz]at h;omega
def IQ (s:ByteArray):List Int:=enc s.size++Bg s
def text_eq {b:List Int} {s:ByteArray} (h:(b++IQ s).length≤1099511627776):qm b s=some (b++IQ s):=by
 unfold IQ at h ⊢;rw[←Gy]at h ⊢;unfold qm;rw[number_eq (aBJ h),Af,Ls AA h];rfl
def pW {b:List Int} {n:Int} (h:b.length+10≤1099511627776):Lm b n=some (b++enc n):=by
 have :=NP n;unfold Lm;rw[show(10:Int)=((10:Nat):Int)from rfl,iZ AA,Af,number_eq LX];rfl
def XC {b:List Int} {n:Int} (h:b.length+10≤1099511627776):JB b n=some (b++enc n):=by
 have :=NP n;unfold JB;rw[Ls AA sK,Af,aLC,Af,J4,Ls AA LX];rfl
def bU (s:ByteArray):(IQ s).length≤s.size+10:=by
 have :=NP s.size;unfold IQ;rw[Dz,Gg];omega
def aoS {b:List Int} {s:ByteArray} (h:b.length+s.size+10≤1099511627776):PY b s=some (b++IQ s):=by
 have :=bU s;unfold PY;rw[NM AA AA,show(s.size:Int)+10=((s.size+10:Nat):Int) by omega,iZ AA,Af,text_eq LX];rfl
def ac7 {b:List Int} {s:ByteArray} (h:b.length+s.size+10≤1099511627776):PL b s=some (b++IQ s):=by
 have :=bU s;unfold PL;rw[XC AA,Af,Ls AA (by unfold IQ at this;rw[Dz]at this;rw[Dz,Dz];omega)];simp[IQ]
def alS {b:List Int} {f:Bool} (h:b.length+10≤1099511627776):XG b f=some (b++[bif f then 1 else 0]):=by
 unfold XG;rw[show(1:Int)=((1:Nat):Int)from rfl,iZ AA,Af];cases f<;>simp only[Bj,BO]<;>rw[Ls AA aCL]<;>rfl
def ah8 {b:List Int} {f:Bool} (h:b.length+10≤1099511627776):bP b f=some (b++[bif f then 1 else 0]):=by
 unfold bP;rw[Ls AA sK,Af,J4];cases f<;>simp only[Bj,BO]<;>rw[Ls AA aCL]<;>rfl
def aCA {α:Type} {body:(List Int→Int→Option (List Int))→List Int→Int→Option (List Int)} (l:List α) (s:l.length<BA) (g:α→List Int)
 (u:∀k b (i:Nat) (h:i<l.length),(b++g l[i]).length≤1099511627776→body k b (i:Int)=k (b++g l[i]) (BJ ((i:Int)+1))) (z:∀k b,body k b (l.length:Int)=some b) (b:List Int) (f:(b++l.flatMap g).length≤1099511627776):
 aX body BA b 0=some (b++l.flatMap g):=by
 have L:BA=9223372036854775808:=rfl
 have key:∀n (i:Nat) b,i+n=l.length→(b++(l.drop i).flatMap g).length≤1099511627776→∀m,n<m→aX body m b (i:Int)=some (b++(l.drop i).flatMap g):=by
  intro n
  induction n with
  |zero=>
   intro i b hi f m I;obtain⟨m,rfl⟩:∃q,m=q+1:=⟨m-1,AA⟩
   have :i=l.length:=AA
   subst this;show body (aX body m) _ _=_;rw[z,QX];simp
  |succ n J=>
   intro i b hi f m I;obtain⟨m,rfl⟩:∃q,m=q+1:=⟨m-1,AA⟩
   have j:i<l.length:=AA
   rw[NT j,Lr,←Gy]at f ⊢;show body (aX body m) _ _=_;rw[u _ _ i j (aBJ f),wrap_succ i AA];exact J (i+1) _ AA f m AA
 exact key l.length 0 b AA f BA s
def OG (l:List Int):List Int:=enc l.length++l.flatMap enc
def OO (l:List ByteArray):List Int:=enc l.length++l.flatMap IQ
def ama {b:List Int} {l:List Int} (h:(b++OG l).length≤1099511627776) (j:l.length≤1000):sF b l=some (b++OG l):=by
 have m:BA=9223372036854775808:=rfl;unfold OG at h ⊢;rw[←Gy]at h ⊢;unfold sF;rw[number_eq (aBJ h),Af];unfold aeI;refine aCA l AA enc (fun k b i hi f=>?_) (fun k b=>?_) _ h
 ·simp only[aGS,dec_lt hi,Bj,D6 hi,number_eq f,Af]
 simp only[aGS,EP,BO]
def aiL {b:List Int} {l:List ByteArray} (h:(b++OO l).length≤1099511627776) (j:l.length≤1000):aAr b l=some (b++OO l):=by
 have m:BA=9223372036854775808:=rfl;unfold OO at h ⊢;rw[←Gy]at h ⊢;unfold aAr;rw[number_eq (aBJ h),Af];unfold aIu;refine aCA l AA IQ (fun k b i hi f=>?_) (fun k b=>?_) _ h
 ·simp only[aI8,dec_lt hi,Bj,D6 hi,text_eq f,Af]
 simp only[aI8,EP,BO]
def Fn2 {α:Type} {g:α→List Int} {m:Nat}:∀{l:List α},(∀x∈l,(g x).length≤m)→(l.flatMap g).length≤l.length*m
 | [],_=>BM
 |x::l,h=>by
  rw[Lr,Dz,FV,Sl];have :=h x Ez;have :=Fn2 (l:=l) (fun y f=>h y (G9 _ f));omega
def aHu (l:List Int):(OG l).length≤l.length*10+10:=by
 have f:=NP l.length;have j:=Fn2 (g:=enc) (m:=10) (l:=l) (fun x _=>NP x);unfold OG;rw[Dz];omega
def aHe {l:List ByteArray} {m:Nat} (h:∀s∈l,s.size≤m):(OO l).length≤l.length*(m+10)+10:=by
 have j:=NP l.length;have q:=Fn2 (g:=IQ) (m:=m+10) (l:=l) (fun s f=>by have :=bU s;have :=h s f;omega);unfold OO;rw[Dz];omega
def ajY {b:List Int} {l:List Int} (j:b.length+20000≤1099511627776) (f:l.length≤1000):Va b l=some (b++OG l):=by
 have m:=aHu l;unfold Va;rw[NM (x:=2*(l.length:Int)) AA AA,NM AA AA,show 2*(l.length:Int)+10=((2*l.length+10:Nat):Int) by omega,iZ AA,Af,ama LX f];rfl
def alK {b:List Int} {l:List Int} (j:b.length+20000≤1099511627776) (m:l.length≤1000):bZ b l=some (b++OG l):=by
 have q:BA=9223372036854775808:=rfl;have s:=aHu l;have h:(b++OG l).length≤1099511627776:=LX
 unfold OG at h ⊢;rw[←Gy]at h ⊢;unfold bZ;rw[XC AA,Af];unfold adG;refine aCA l AA enc (fun k b i hi f=>?_) (fun k b=>?_) _ h
 ·simp only[aHn,dec_lt hi,Bj,D6 hi,aLC,Ls (show 1≤100 by omega) f,Af]
 simp only[aHn,EP,BO]
def amu {b:List Int} {l:List ByteArray} (m:b.length+3000000≤1099511627776) (f:l.length≤1000) (j:∀s∈l,s.size≤2000):eK b l=some (b++OO l):=by
 have q:=aHe j;unfold eK;rw[NM (x:=8*(l.length:Int)) AA AA,NM AA AA,show 8*(l.length:Int)+10=((8*l.length+10:Nat):Int) by omega,iZ AA,Af,aiL LX f];rfl
def alX {b:List Int} {l:List ByteArray} (J:b.length+3000000≤1099511627776) (L:l.length≤1000) (q:∀s∈l,s.size≤2000):eB b l=some (b++OO l):=by
 have M:BA=9223372036854775808:=rfl;have O:=aHe q;have h:(b++OO l).length≤1099511627776:=LX
 have key:∀n (i:Nat) b,i+n=l.length→b.length+(n*2020)≤1099511620000→∀m,n<m→aX (WV l) m b (i:Int)=some (b++(l.drop i).flatMap IQ):=by
  intro n
  induction n with
  |zero=>
   intro i b hi u m z;obtain⟨m,rfl⟩:∃j,m=j+1:=⟨m-1,AA⟩
   have :i=l.length:=AA
   subst this;show WV l (aX (WV l) m) _ _=_;simp only[WV,EP,BO,QX];simp
  |succ n I=>
   intro i b hi u m z;obtain⟨m,rfl⟩:∃j,m=j+1:=⟨m-1,AA⟩
   have f:i<l.length:=AA
   have U:=q l[i] (EC f);have Y:=bU l[i];rw[NT f,Lr,←Gy];show WV l (aX (WV l) m) _ _=_;simp only[WV,dec_lt f,Bj,D6 f,Af];rw[ac7 AA,Af,wrap_succ i AA];exact I (i+1) _ AA LX m AA
 unfold OO;rw[←Gy];unfold eB;rw[XC AA,Af];unfold aKq;have :=key l.length 0 (b++enc l.length) AA (by have :=NP l.length;rw[Dz];omega) BA AA;exact this
structure Ox (c:Bo):Prop where
 allow:c.Allow.length≤100
 deny:c.gu.length≤100
 users:c.Levels.Users.length≤100
 kinds:c.Levels.Kinds.length≤100
 text:c.Text.size≤2000
 via:c.Via.size≤2000
 allows:∀x∈c.Allow,x.size≤2000
 denies:∀x∈c.gu,x.size≤2000
 names:∀x∈c.Levels.Users,x.User.size≤2000
def Gq.content {e:AP} (h:Gq e):Ox e.Content:=⟨h.allow,h.deny,h.users,h.kinds,h.text,h.via,h.allows,h.denies,h.names⟩
section
variable {b : List Int} {k : Nat}
def Rs (h:b.length≤k) (f:k≤1000000000) (n:Int):Lm b n=some (b++enc n)∧JB b n=some (b++enc n)∧(b++enc n).length≤k+10:=by
 have :=NP n;exact⟨pW AA,XC AA,LX⟩
def aLc (h:b.length≤k) (j:k≤1000000000) (f:Bool):XG b f=some (b++[bif f then 1 else 0])∧bP b f=some (b++[bif f then 1 else 0])∧(b++[bif f then(1:Int)else 0]).length≤k+10:=
 ⟨alS AA,ah8 AA,aCL⟩
def VL (h:b.length≤k) (f:k≤1000000000) {s:ByteArray} (m:Nat) (j:s.size≤m) (q:m≤1000000000):PY b s=some (b++IQ s)∧PL b s=some (b++IQ s)∧(b++IQ s).length≤k+m+10:=by
 have :=bU s;exact⟨aoS AA,ac7 AA,LX⟩
def aJM (h:b.length≤k) (f:k≤1000000000) {l:List Int} (j:l.length≤100):Va b l=some (b++OG l)∧bZ b l=some (b++OG l)∧(b++OG l).length≤k+1010:=by
 have :=aHu l;exact⟨ajY AA AA,alK AA AA,LX⟩
def aKN (h:b.length≤k) (j:k≤1000000000) {l:List ByteArray} (m:l.length≤100) (f:∀s∈l,s.size≤2000):eK b l=some (b++OO l)∧eB b l=some (b++OO l)∧(b++OO l).length≤k+201010:=by
 have :=aHe f;exact⟨amu AA AA f,alX AA AA f,LX⟩
end
def PS (u:He):List Int:=IQ u.User++enc u.N
def Po (u:IL):List Int:=enc u.Kind++enc u.N
def Ib (l:D9):List Int:=[l.User,l.Message,l.State,l.gB,l.jT,l.nX,l.gY]
def agN (b:List Int) (l:D9):List Int:=b++enc l.Users.length++l.Users.flatMap PS++enc l.Kinds.length++l.Kinds.flatMap Po++(Ib l).flatMap enc
def eF (c:Bo):List Int:=agN ([]++IQ c.Text++enc c.N++enc c.Target++[bif c.Thread then 1 else 0]++IQ c.Via++OO c.Allow++OO c.gu) c.Levels
def anq {u:He} (h:u.User.size≤2000):(PS u).length≤2020:=by
 have :=bU u.User;have :=NP u.N;unfold PS;rw[Dz];omega
def abN (u:IL):(Po u).length≤20:=by
 have :=NP u.Kind;have :=NP u.N;unfold Po;rw[Dz];omega
def Zv {R α:Type} {body:(List Int→Int→Option R)→List Int→Int→Option R} (l:List α) (z:l.length≤1000) (g:α→List Int) (m:Nat) (j:∀x∈l,(g x).length≤m) (f:List Int→Option R) (b:List Int)
 (q:∀k a (i:Nat) (h:i<l.length),a.length≤b.length+i*m→body k a (i:Int)=k (a++g l[i]) (BJ ((i:Int)+1)))
 (s:∀k a,a.length≤b.length+l.length*m→body k a (l.length:Int)=f a):aX body BA b 0=f (b++l.flatMap g)∧(b++l.flatMap g).length≤b.length+l.length*m:=by
 constructor
 ·rw[Kr l AA (fun a x=>a++g x) (fun i a=>a.length≤b.length+i*m) f AA (fun k a i h u=>⟨?_,q k a i h u⟩) s,foldl_append g];have :=j l[i] (EC h);rw[Dz,Sl];omega
 have :=Fn2 j;rw[Dz];omega
def anS (c:Bo) (b:List Int) (u:b.length≤900000):(aDu c b 0=some (b++(Ib c.Levels).flatMap enc)∧aG8 (Ib c.Levels) b 0=some (b++(Ib c.Levels).flatMap enc))∧(b++(Ib c.Levels).flatMap enc).length≤b.length+70:=by
 have m:∀i:Nat,(h:i<(Ib c.Levels).length)→BK ([c.Levels.User,c.Levels.Message,c.Levels.State,c.Levels.gB,c.Levels.jT,c.Levels.nX,c.Levels.gY]:List Int) (i:Int)=some (Ib c.Levels)[i]:=fun i h=>D6 h
 have j:=Zv (body:=aGJ c) (Ib c.Levels) (by simp[Ib]) enc 10 (fun x _=>NP x) some b (fun k a i h f=>by
  have q:i<7:=h;unfold aGJ
  rw[I5 (show(i:Int)<7 by omega),Bj,m i h,Af,pW AA,Af]) fun k a f=>rfl
 have s:=Zv (body:=xk (Ib c.Levels)) (Ib c.Levels) (by simp[Ib]) enc 10 (fun x _=>NP x) some b (fun k a i h f=>by
  have q:i<7:=h;unfold xk
  rw[DR h,XC AA,Af]) fun k a f=>by unfold xk;rw[EP];rfl
 exact⟨⟨j.1,s.1⟩,j.2⟩
def aj1 (c:Bo) (b:List Int) (z:b.length≤800000) (I:c.Levels.Kinds.length≤100):(aGY c b 0=some (b++c.Levels.Kinds.flatMap Po++(Ib c.Levels).flatMap enc)∧aDx c b 0=some (b++c.Levels.Kinds.flatMap Po++(Ib c.Levels).flatMap enc))∧(b++c.Levels.Kinds.flatMap Po++(Ib c.Levels).flatMap enc).length≤b.length+2070:=by
 have m:=Zv (body:=aA7 c) c.Levels.Kinds AA Po 20 (fun x _=>abN x) (fun a=>aDu c a 0) b (fun k a i h f=>by
  obtain⟨j,_,s⟩:=Rs (b:=a) (k:=900000) AA AA c.Levels.Kinds[i].Kind;unfold aA7
  rw[DR h,j,Af,pW AA,Af,Gy];rfl) fun k a f=>by unfold aA7;rw[EP];rfl
 have u:=Zv (body:=wZ c) c.Levels.Kinds AA Po 20 (fun x _=>abN x) (fun a=>aG8 (Ib c.Levels) a 0) b (fun k a i h f=>by
  obtain⟨_,j,s⟩:=Rs (b:=a) (k:=900000) AA AA c.Levels.Kinds[i].Kind;unfold wZ
  rw[DR h,j,Af,D6 h,Af,XC AA,Af,Gy];rfl) fun k a f=>by unfold wZ aGx;rw[EP,BO,Af];rfl
 have J:=m.2;have q:=anS c (b++c.Levels.Kinds.flatMap Po) AA;exact⟨⟨m.1.trans q.1.1,u.1.trans q.1.2⟩,AA⟩
def afa (c:Bo) (b:List Int) (Y:b.length≤500000) (f:Ox c):(aek c b 0=some (b++c.Levels.Users.flatMap PS++enc c.Levels.Kinds.length++c.Levels.Kinds.flatMap Po++(Ib c.Levels).flatMap enc)∧aME c b 0=some (b++c.Levels.Users.flatMap PS++enc c.Levels.Kinds.length++c.Levels.Kinds.flatMap Po++(Ib c.Levels).flatMap enc))∧(b++c.Levels.Users.flatMap PS++enc c.Levels.Kinds.length++c.Levels.Kinds.flatMap Po++(Ib c.Levels).flatMap enc).length≤b.length+204080:=by
 have Z:=f.users;have z:∀x∈c.Levels.Users,(PS x).length≤2020:=fun x J=>anq (f.names x J)
 have I:=Zv (body:=uP c) c.Levels.Users AA PS 2020 z (fun a=>aGY c (a++enc c.Levels.Kinds.length) 0) b (fun k a i h j=>by
  have m:=f.names _ (EC h);obtain⟨q,_,L⟩:=VL (b:=a) (k:=900000) AA AA (s:=c.Levels.Users[i].User) 2000 m AA;unfold uP
  rw[DR h,q,Af,pW AA,Af,Gy];rfl) fun k a j=>by unfold uP;rw[EP,BO,pW AA,Af]
 have M:=Zv (body:=uX c) c.Levels.Users AA PS 2020 z (fun a=>aDx c (a++enc c.Levels.Kinds.length) 0) b (fun k a i h j=>by
  have m:=f.names _ (EC h);obtain⟨_,q,L⟩:=VL (b:=a) (k:=900000) AA AA (s:=c.Levels.Users[i].User) 2000 m AA;unfold uX
  rw[DR h,q,Af,D6 h,Af,XC AA,Af,Gy];rfl) fun k a j=>by unfold uX;rw[EP,BO,XC AA,Af]
 have hl:=I.2;have he:=NP (c.Levels.Kinds.length:Int);have O:(b++c.Levels.Users.flatMap PS++enc c.Levels.Kinds.length).length=(b++c.Levels.Users.flatMap PS).length+(enc c.Levels.Kinds.length).length:=Dz ..;have u:=aj1 c (b++c.Levels.Users.flatMap PS++enc c.Levels.Kinds.length) AA f.kinds;have U:=u.2;rw[O]at U;exact⟨⟨I.1.trans u.1.1,M.1.trans u.1.2⟩,AA⟩
def aLD {c:Bo} (f:Ox c):mW c=some (eF c)∧jd c=some (eF c)∧(eF c).length≤700000:=by
 obtain⟨j,m,q⟩:=VL (b:=[]) (k:=0) (Dy _) AA 2000 f.text AA;obtain⟨s,u,z⟩:=Rs q AA c.N;obtain⟨I,J,L⟩:=Rs z AA c.Target;obtain⟨M,O,U⟩:=aLc L AA c.Thread;obtain⟨Y,Z,h5⟩:=VL U AA 2000 f.via AA;obtain⟨a6,b6,h6⟩:=aKN h5 AA f.allow f.allows;obtain⟨a7,b7,h7⟩:=aKN h6 AA f.deny f.denies;obtain⟨a8,b8,h8⟩:=Rs h7 AA (c.Levels.Users.length:Int);obtain⟨⟨a9,b9⟩,h9⟩:=afa c _ (EZ h8 AA) f;refine⟨?_,?_,EZ h9 AA⟩
 ·unfold mW;rw[j,Af,s,Af,I,Af,M,Af,Y,Af,a6,Af,a7,Af,a8,Af];exact a9
 unfold jd;rw[m,Af,u,Af,J,Af,O,Af,Z,Af,b6,Af,b7,Af,b8,Af];exact b9
def aBx (e:AP):List Int:=
 []++enc e.Id++IQ e.Room++IQ e.bF++enc e.Kind++[bif e.State then 1 else 0]++IQ e.Key++enc e.Time++enc e.Depth++OG e.bD++OG e.bM++IQ (Nr (eF e.Content))++enc e.Hash++IQ e.pR.Server++enc e.pR.Sum
def amM (l:List Int):(Nr l).size=l.length:=by
 have key:∀(l:List Int) (r:ByteArray),(l.foldl (fun r n=>r.push (UInt8.ofNat n.toNat)) r).size=r.size+l.length:=by
  intro l
  induction l with
  |nil=>intro r;rfl
  |cons x l f=>intro r;rw[Fh,f,ByteArray.size_push,FV];omega
 unfold Nr;rw[key];simp
def xq {S α:Type} {body:(Int→S→Option S)→Int→S→Option S} (l:List α) (L:l.length<1000) (f:S→α→Option S)
 (u:∀k (i:Nat) (h:i<l.length) s,body k (i:Int) s=(f s l[i]).bind fun x=>k (BJ ((i:Int)+1)) x) (z:∀k s,body k (l.length:Int) s=some s) (s:S):aX body BA 0 s=l.foldlM f s:=by
 have M:BA=9223372036854775808:=rfl
 have key:∀n (i:Nat) s,i+n=l.length→∀m,n<m→aX body m (i:Int) s=(l.drop i).foldlM f s:=by
  intro n
  induction n with
  |zero=>
   intro i s hi m I;obtain⟨m,rfl⟩:∃q,m=q+1:=⟨m-1,AA⟩
   have :i=l.length:=AA
   subst this;rw[QX];exact z _ _
  |succ n J=>
   intro i s hi m I;obtain⟨m,rfl⟩:∃q,m=q+1:=⟨m-1,AA⟩
   have j:i<l.length:=AA
   rw[NT j,SK];show body (aX body m) _ _=(f s l[i]).bind _;rw[u _ i j,wrap_succ i AA];congr 1;funext x;exact J (i+1) x AA m AA
 exact key l.length 0 s AA BA AA
def adb (w:Ee) (l:List Int) (f:l.length<1000):Rn w l=l.foldlM Zq w:=by
 unfold Rn abj;exact xq l f _ (fun k i h s=>by simp only[aFw,dec_lt h,Bj,D6 h,Af]) (fun k s=>by simp only[aFw,EP,BO]) w
def ab7 (w:Ee) (l:List ByteArray) (f:l.length<1000):Ue w l=l.foldlM aK w:=by
 unfold Ue acQ;exact xq l f _ (fun k i h s=>by simp only[aF4,dec_lt h,Bj,D6 h,Af]) (fun k s=>by simp only[aF4,EP,BO]) w
def aos (w:Ee) (l:List Bool) (f:l.length<1000):pU w l=l.foldlM oN w:=by
 unfold pU aLu;exact xq l f _ (fun k i h s=>by simp only[aF9,dec_lt h,Bj,D6 h,Af]) (fun k s=>by simp only[aF9,EP,BO]) w
def anL (w:Ee) (l:List (List Int)) (f:l.length<1000):qJ w l=l.foldlM dn w:=by
 unfold qJ ael;exact xq l f _ (fun k i h s=>by simp only[aIE,dec_lt h,Bj,D6 h,Af]) (fun k s=>by simp only[aIE,EP,BO]) w
def aHq {b c:List Int} {n:Int} (h:Lm b n=some c):Zq ⟨b⟩ n=some ⟨c⟩:=by unfold Zq;rw[h];rfl
def aCo {b c:List Int} {n:ByteArray} (h:PY b n=some c):aK ⟨b⟩ n=some ⟨c⟩:=by unfold aK;rw[h];rfl
def an2 {b c:List Int} {n:Bool} (h:XG b n=some c):oN ⟨b⟩ n=some ⟨c⟩:=by unfold oN;rw[h];rfl
def aLV {b c:List Int} {n:List Int} (h:Va b n=some c):dn ⟨b⟩ n=some ⟨c⟩:=by unfold dn;rw[h];rfl
def xR {b c:List Int} {n:Int} (h:Lm b n=some c):Rn ⟨b⟩ [n]=some ⟨c⟩:=by
 rw[adb _ _ BM,SK,aHq h];rfl
def akw {b c d:List Int} {n m:Int} (h:Lm b n=some c) (k:Lm c m=some d):Rn ⟨b⟩ [n,m]=some ⟨d⟩:=by
 rw[adb _ _ BM,SK,aHq h];show(Zq ⟨c⟩ m).bind _=_;rw[aHq k];rfl
def aCb {b c:List Int} {n:ByteArray} (h:PY b n=some c):Ue ⟨b⟩ [n]=some ⟨c⟩:=by
 rw[ab7 _ _ BM,SK,aCo h];rfl
def aiz {b c d:List Int} {n m:ByteArray} (h:PY b n=some c) (k:PY c m=some d):Ue ⟨b⟩ [n,m]=some ⟨d⟩:=by
 rw[ab7 _ _ BM,SK,aCo h];show(aK ⟨c⟩ m).bind _=_;rw[aCo k];rfl
def afB {b c:List Int} {n:Bool} (h:XG b n=some c):pU ⟨b⟩ [n]=some ⟨c⟩:=by
 rw[aos _ _ BM,SK,an2 h];rfl
def as8 {b c d:List Int} {n m:List Int} (h:Va b n=some c) (k:Va c m=some d):qJ ⟨b⟩ [n,m]=some ⟨d⟩:=by
 rw[anL _ _ BM,SK,aLV h];show(dn ⟨c⟩ m).bind _=_;rw[aLV k];rfl
def agm {e:AP} (f:Gq e):jw e=some (aBx e)∧lI e=some (aBx e)∧(aBx e).length≤1000000:=by
 obtain⟨ac,bc,hc⟩:=aLD f.content;obtain⟨a1,b1,h1⟩:=Rs (b:=[]) (k:=0) (Dy _) AA e.Id;obtain⟨a2,b2,h2⟩:=VL h1 AA 2000 f.room AA;obtain⟨a3,b3,h3⟩:=VL h2 AA 2000 f.sender AA;obtain⟨a4,b4,h4⟩:=Rs h3 AA e.Kind;obtain⟨a5,b5,h5⟩:=aLc h4 AA e.State;obtain⟨a6,b6,h6⟩:=VL h5 AA 2000 f.key AA;obtain⟨a7,b7,h7⟩:=Rs h6 AA e.Time;obtain⟨a8,b8,h8⟩:=Rs h7 AA e.Depth;obtain⟨a9,b9,h9⟩:=aJM h8 AA (EZ f.prev AA);obtain⟨j,m,q⟩:=aJM h9 AA (EZ f.auth AA);obtain⟨u,z,I⟩:=VL q AA (s:=Nr (eF e.Content)) 700000 (by rw[amM];exact hc) AA;obtain⟨J,L,M⟩:=Rs I AA e.Hash;obtain⟨O,U,Y⟩:=VL M AA 2000 f.server AA;obtain⟨Z,b14,h14⟩:=Rs Y AA e.pR.Sum;refine⟨?_,?_,EZ h14 AA⟩
 ·unfold jw
  rw[show Rn wo [e.Id]=_ from xR a1,Af,aiz a2 a3,Af,xR a4,Af,afB a5,Af,aCb a6,Af,akw a7 a8,Af,as8 a9 j,Af,
   ac,Af,aCb u,Af,xR J,Af,aCb O,Af,xR Z,Af]
  rfl
 unfold lI;rw[b1,Af,b2,Af,b3,Af,b4,Af,b5,Af,b6,Af,b7,Af,b8,Af,b9,Af,m,Af,bc,Af,z,Af,L,Af,U,Af,b14,Af];rfl
def Rch (l:List Int):Int:=BJ (l.foldl gX ((IntKind.u64.wrap 860922984064492325).tmod 4611686018427387904))
def abU {l:List Int} (f:l.length≤1000000):nN l=some (Rch l):=by
 unfold nN aHh;rw[Af];unfold aHB aaJ
 rw[aAH _ _ _ _ (.inl rfl),ace,Kr l AA gX (fun _ _=>True) (fun s=>some (BJ s)) trivial (fun k s i h _=>⟨trivial,by
  simp only[aCi,dec_lt h,Bj,D6 h,Af,aAH _ _ _ _ (.inl rfl),aAH _ _ _ _ (.inr (.inr rfl)),ahX]⟩) fun k s _=>by
  simp only[aCi,EP,BO]]
 rfl
def aIh {l:List Int} (f:l.length≤1000000):lY l=some (Rch l):=by
 unfold lY;rw[show aGH=some 860922984064492325 from rfl,Af];unfold aF1 aeP
 rw[show Uu (IntKind.u64.wrap 860922984064492325) 4611686018427387904=some ((IntKind.u64.wrap 860922984064492325).tmod 4611686018427387904)from rfl,Af,Kr l AA gX (fun _ _=>True) (fun s=>some (BJ s)) trivial (fun k s i h _=>⟨trivial,by
  have e:Uu (IntKind.u64.wrap ((Du .xor .u64 s (IntKind.u64.wrap l[i]))*1099511628211)) 4611686018427387904=some (gX s l[i]):=rfl
  simp only[aG2,dec_lt h,Bj,D6 h,Af,e]⟩) fun k s _=>by
  simp only[aG2,EP,BO]]
 rfl
def Hg (k:Int) (c:Bo):Bo:=
 if k=1 then c else if k=2 then{ DW with N:=c.N,Via:=c.Via }else if k=3 then{ DW with Levels:=c.Levels }else if k=4 then{ DW with N:=c.N,Allow:=c.Allow }else
 if k=5 then{ DW with N:=c.N }else if k=6 then{ DW with Allow:=c.Allow,gu:=c.gu }else if k=14 then{ DW with Target:=c.Target }else DW
def aKJ {R:Type} (a b:Int) (x y:R):(bif a==b then x else y)=if a=b then x else y:=by
 by_cases h:a=b
 ·subst h;simp
 have :(a==b)=false:=Jp
 rw[this,D8 h];rfl
def aa6 {R:Type} (p:Prop) [Decidable p] (x y:R):(if p then some x else some y)=some (if p then x else y):=by split<;>rfl
def aCk (k:Int) (c:Bo):lG k c=some (Hg k c):=by
 unfold lG Hg;simp only[aKJ,aa6]
def texts_eq {l:List ByteArray} (h:l.length≤100):Pe l=some l:=by
 unfold Pe;rw[Ls AA sK];rfl
def aK3 {l:D9} (j:l.Users.length≤100) (f:l.Kinds.length≤100):XU l=some l:=by
 unfold XU;rw[Ls AA sK,Af,Ls AA (by rw[J4];exact EZ f AA)];rfl
def uf (k:Int):Int:=if k=2 then 18 else if k=3 then 128 else if k=4 then 34 else if k=5 then 2 else if k=6 then 96 else if k=14 then 4 else 0
def agA (k:Int):Zj k=some (uf k):=by
 by_cases j:k=2
 ·subst j;rfl
 by_cases m:k=3
 ·subst m;rfl
 by_cases q:k=4
 ·subst q;rfl
 by_cases s:k=5
 ·subst s;rfl
 by_cases f:k=6
 ·subst f;rfl
 unfold Zj Zg uf;simp only[aKJ,j,m,q,s,f,Ip,show(k==6)=false from by simpa using f,BO,aa6]
def aMI (k:Int) {c:Bo} (f:Ox c):ng k c=some (Hg k c):=by
 by_cases m:k=1
 ·subst m;show(Pe c.Allow).bind (fun J=>(Pe c.gu).bind fun L=>(XU c.Levels).bind fun M=>some ({ { { c with Allow:=J }with gu:=L }with Levels:=M }))=_;rw[texts_eq f.allow,Af,texts_eq f.deny,Af,aK3 f.users f.kinds];rfl
 unfold ng;rw[show(k==1)=false from by simpa using m,BO,agA,Af];by_cases q:k=2
 ·subst q;rfl
 by_cases s:k=3
 ·subst s;show(XU c.Levels).bind (fun x=>some { DW with Levels:=x })=_;rw[aK3 f.users f.kinds];rfl
 by_cases u:k=4
 ·subst u;show(Pe c.Allow).bind (fun x=>some { DW with N:=c.N,Allow:=x })=_;rw[texts_eq f.allow];rfl
 by_cases z:k=5
 ·subst z;rfl
 by_cases I:k=6
 ·subst I;show(Pe c.Allow).bind (fun x=>(Pe c.gu).bind fun y=>some { DW with Allow:=x,gu:=y })=_;rw[texts_eq f.allow,Af,texts_eq f.deny];rfl
 by_cases j:k=14
 ·subst j;rfl
 have O:uf k=0:=by unfold uf;simp only[q,s,u,z,I,j,Ip]
 have U:Hg k c=DW:=by unfold Hg;simp only[m,q,s,u,z,I,j,Ip]
 rw[O,U];rfl
def Ox.strip {c:Bo} (h:Ox c) (k:Int):Ox (Hg k c):=by
 have f:(0:Nat)≤2000:=AA
 unfold Hg
 repeat' split
 all_goals first|exact h|exact⟨by simp[DW,KY,h.allow],by simp[DW,KY,h.deny],by simp[DW,KY,h.users],by simp[DW,KY,h.kinds],by first|exact h.text|exact f,by first|exact h.via|exact f,by first|exact h.allows|simp[DW],by first|exact h.denies|simp[DW],by first|exact h.names|simp[DW,KY]⟩
def Kt (e:AP):AP:={ e with Content:=Hg e.Kind e.Content }
def Qk (e:AP):Prop:=Gq { e with pR:=WX }
def Qk.content {e:AP} (h:Qk e):Ox e.Content:=Gq.content (e:={ e with pR:=WX }) h
def Gq.x {e:AP} (h:Gq e):Qk e:=⟨h.prev,h.auth,h.allow,h.deny,h.users,h.kinds,h.room,h.sender,h.key,h.text,h.via,EH _,h.allows,h.denies,h.names⟩
def aMp {e:AP} (f:Qk e):iR e=some (Kt e)∧zA e=some (Kt e):=by
 unfold iR zA;rw[aMI _ f.content,aCk];exact⟨rfl,rfl⟩
def ZU (e:AP):Int:=Rch (eF e.Content)
def YM (e:AP):AP:={ { Kt e with Id:=0 }with pR:=WX }
def qL (e:AP):Int:=Rch (aBx (YM e))
def Qk.bare {e:AP} (h:Qk e):Gq (YM e):=by
 have f:=h.content.strip e.Kind;exact⟨h.prev,h.auth,f.allow,f.deny,f.users,f.kinds,h.room,h.sender,h.key,f.text,f.via,by show(0:Nat)≤2000;omega,f.allows,f.denies,f.names⟩
def adf {e:AP} (f:Qk e):iT e=some (ZU e)∧yN e=some (ZU e):=by
 obtain⟨a,b,h⟩:=aLD f.content;unfold iT yN;rw[a,b,Af,Af,abU AA,aIh AA];exact⟨rfl,rfl⟩
def aBI {e:AP} (f:Qk e):og e=some (qL e)∧yE e=some (qL e):=by
 obtain⟨a,b⟩:=aMp f;obtain⟨c,d,h⟩:=agm f.bare;unfold og yE;rw[a,b,Af,Af];show(jw (YM e)).bind _=_∧(lI (YM e)).bind _=_;rw[c,d,Af,Af,abU AA,aIh AA];exact⟨rfl,rfl⟩
def P5 (s:ByteArray):Int:=bif Fv s 64 then 0 else 3
def TU (s:ByteArray):Int:=bif Fv s 33 then 0 else 3
def Vp {s:ByteArray} (f:s.size≤9223372036854775807):Y3 s=some (P5 s)∧Vy s=some (P5 s):=by
 unfold Y3 lF Vy P5;rw[aHA f (marks:=lU) (by rw[show Bg lU=[64]from rfl];intro m j;simp only[F5,GL,aZ]at j;omega),aAB f BU,show((Bg lU).any fun m=>Fv s m)=(Fv s 64||false)from rfl];cases Fv s 64<;>exact⟨rfl,rfl⟩
def iL {s:ByteArray} (f:s.size≤9223372036854775807):jg s=some (TU s)∧ZQ s=some (TU s):=by
 unfold jg lF ZQ TU;rw[aHA f (marks:=lV) (by rw[show Bg lV=[33]from rfl];intro m j;simp only[F5,GL,aZ]at j;omega),aAB f BU,show((Bg lV).any fun m=>Fv s m)=(Fv s 33||false)from rfl];cases Fv s 33<;>exact⟨rfl,rfl⟩
def amS {l:List Int} (h:UN l=true):(58:Int)∉l:=by
 intro f;unfold UN OW at h;simp only[CZ,DZ]at h;have :=h.2 58 f;exact absurd this BU
def akX (s:ByteArray) (j:s.size≤2000):(splitB s (Jv s)).1.size≤2000∧(58:Int)∉Bg (splitB s (Jv s)).1∧(splitB s (Jv s)).2.1.size≤2000:=by
 have m:BZ.size≤2000:=BU
 cases h:Jv s with
 |false=>exact⟨m,by show(58:Int)∉Bg BZ;decide,m⟩
 |true=>
  have f:RP s=true:=by
   unfold Jv Fv at h;cases f:RP s with
   |true=>rfl
   |false=>rw[f]at h;simp at h
  refine⟨EZ (extract_size _ _ _) j,amS ?_,EZ (extract_size _ _ _) j⟩;unfold RP at f;simp only[CZ]at f;exact f.1.2
def any_false {α:Type} (l:List α):(l.any fun _=>false)=false:=BM
def aEO {α:Type} {body:(Int→Option Bool)→Int→Option Bool} (l:List α) (m:l.length≤1000) (rest:Option Bool) (f:∀k (i:Nat) (h:i<l.length),body k (i:Int)=k (BJ ((i:Int)+1))) (j:∀k,body k (l.length:Int)=rest):bn body BA 0=rest:=by
 rw[Ic l (mQ AA) (fun _=>false) false rest (fun k i h=>by rw[f k i h];rfl) j,any_false];rfl
def an9 {l:List ByteArray} (h:l.length≤1000):Ut l l=some true:=by
 unfold Ut aCW;rw[show((l.length:Int) != (l.length:Int))=false from by simp,BO];exact aEO l h _ (fun k i h=>by simp only[kH,dec_lt h,Bj,D6 h,Af,TP,EU,BO]) (fun k=>by simp only[kH,EP,BO])
structure Iq (c:Bo):Prop where
 allow:c.Allow.length≤9223372036854775807
 deny:c.gu.length≤9223372036854775807
 users:c.Levels.Users.length≤9223372036854775807
 kinds:c.Levels.Kinds.length≤9223372036854775807
 text:c.Text.size≤9223372036854775807
 via:c.Via.size≤9223372036854775807
 allows:∀x∈c.Allow,x.size≤9223372036854775807
 denies:∀x∈c.gu,x.size≤9223372036854775807
 names:∀x∈c.Levels.Users,x.User.size≤9223372036854775807
structure Qd (e:AP):Prop where
 prev:e.bD.length≤9223372036854775807
 auth:e.bM.length≤9223372036854775807
 room:e.Room.size≤9223372036854775807
 sender:e.bF.size≤9223372036854775807
 key:e.Key.size≤9223372036854775807
 server:e.pR.Server.size≤9223372036854775807
 content:Iq e.Content
def Ox.wide {c:Bo} (h:Ox c):Iq c:=by
 obtain⟨s,u,z,I,J,L,j,m,q⟩:=h;exact⟨AA,AA,AA,AA,AA,AA,fun x f=>by have :=j x f;omega,fun x f=>by have :=m x f;omega,fun x f=>by have :=q x f;omega⟩
def Gq.wide {e:AP} (h:Gq e):Qd e:=by
 have f:=h.prev;have j:=h.auth;have m:=h.room;have q:=h.sender;have s:=h.key;have u:=h.server;exact⟨AA,AA,AA,AA,AA,AA,h.content.wide⟩
def Zk (k:Int):qO k=some (decide (k≥1)&&decide (k≤14))∧dK k=some (decide (k≥1)&&decide (k≤14)):=by
 unfold qO dK;cases decide (k≥1)<;>cases decide (k≤14)<;>exact⟨rfl,rfl⟩
def QF (n:Int):Bool:=decide (n< -1000)||decide (n>1000)
def rE (n:Int):ah n=some (QF n)∧QN n=some (QF n):=by
 unfold ah QN QF;cases decide (n< -1000)<;>cases decide (n>1000)<;>exact⟨rfl,rfl⟩
def NI (c:Int):Bool:=decide (c<33)||decide (c>126)
def aAR (s:ByteArray):(s.toList==BZ.toList)=((s.size:Int)==0):=by
 rw[Ou];by_cases h:s=BZ
 ·subst h;rfl
 have :¬s.size=0:=fun f=>h (bytes_inj (by
  have j:Bg s=[]:=GR (by rw[Gg];exact f)
  rw[j];rfl))
 rw[Ht h];symm;rw[Y9];omega
def aAC (s:ByteArray):Int:=if s.size=0 then 9 else if s.size>64 then 7 else bif (Bg s).any NI then 3 else 0
def aE0 {s:ByteArray} (f:s.size≤9223372036854775807):iq s=some (aAC s)∧aV s=some (aAC s):=by
 have q:aEn s 0=some (bif (Bg s).any NI then 3 else 0):=by
  unfold aEn;rw[Ic (Bg s) ZN NI 3 (some 0) (fun k i h=>?_) (fun k=>?_),Jq]
  ·have h':i<s.size:=Uo
   simp only[aEs,dec_lt h',Bj,SI h,Af,NI];cases decide ((Bg s)[i]<33)<;>cases decide ((Bg s)[i]>126)<;>rfl
  simp only[aEs,Gg,EP,BO]
 have u:aDI s 0=some (bif (Bg s).any NI then 3 else 0):=by
  unfold aDI;rw[Ic (Bg s) ZN NI 3 (some 0) (fun k i h=>?_) (fun k=>?_),Jq]
  ·have h':i<s.size:=Uo
   simp only[aDd,dec_lt h',Bj,SI h,Af,NI];cases decide ((Bg s)[i]<33)<;>cases decide ((Bg s)[i]>126)<;>rfl
  simp only[aDd,Gg,EP,BO]
 unfold iq aV aAC;rw[aAR,q,u];by_cases j:s.size=0
 ·simp[j]
 have :((s.size:Int)==0)=false:=by rw[Y9];omega
 rw[this,D8 j];by_cases m:s.size>64
 ·have :decide ((s.size:Int)>64)=true:=E5
  rw[this,Ch m];exact⟨rfl,rfl⟩
 have :decide ((s.size:Int)>64)=false:=E5
 rw[this,D8 m];exact⟨rfl,rfl⟩
def jP (s:ByteArray):Bool:=decide ((s.size:Int)≥1)&&decide ((s.size:Int)≤32)&& !(Bg s).any NI
def aq9 {s:ByteArray} (f:s.size≤9223372036854775807):yA s=some (jP s):=by
 unfold yA aIv;rw[Ic (Bg s) ZN NI false (some (decide ((s.size:Int)≥1)&&decide ((s.size:Int)≤32))) (fun k i h=>?_) (fun k=>?_)]
 ·unfold jP;cases(Bg s).any NI<;>cases decide ((s.size:Int)≥1)<;>cases decide ((s.size:Int)≤32)<;>rfl
 ·have h':i<s.size:=Uo
  simp only[aFY,dec_lt h',Bj,SI h,Af,NI];cases decide ((Bg s)[i]<33)<;>cases decide ((Bg s)[i]>126)<;>rfl
 simp only[aFY,Gg,EP,BO];cases decide ((s.size:Int)≥1)<;>cases decide ((s.size:Int)≤32)<;>rfl
def TA (k:Int) (s:ByteArray):Bool:=if k=2 then P5 s==0 else if k=9 then jP s else true
def aa9 {k:Int} {s:ByteArray} (m:s.size≤9223372036854775807):zi k s=some (TA k s):=by
 have q:aIK s 0=some (bif (Bg s).any NI then false else true):=by
  unfold aIK;rw[Ic (Bg s) (by rw[Gg];exact mQ m) NI false (some true) (fun k i h=>?_) (fun k=>?_),Jq]
  ·have h':i<s.size:=Uo
   simp only[aDb,dec_lt h',Bj,SI h,Af,NI];cases decide ((Bg s)[i]<33)<;>cases decide ((Bg s)[i]>126)<;>rfl
  simp only[aDb,Gg,EP,BO]
 unfold zi TA;rw[(Vp m).2,q];by_cases f:k=2
 ·subst f;rfl
 rw[show(k==2)=false from by simpa using f,D8 f,BO];by_cases j:k=9
 ·subst j;unfold jP;have u:decide ((s.size:Int)≥1)= !decide ((s.size:Int)<1):=aCf
  have z:decide ((s.size:Int)≤32)= !decide ((s.size:Int)>32):=aI5
  rw[u,z];cases decide ((s.size:Int)<1)<;>cases decide ((s.size:Int)>32)<;>cases(Bg s).any NI<;>rfl
 rw[show(k != 9)=true from by simpa using j,D8 j];rfl
def alf {e:AP} (f:Qd e):yP e=some (TU e.Room==0&&P5 e.bF==0&&TA e.Kind e.Key):=by
 have m:=f.room;have q:=f.sender;have u:=f.key;unfold yP TA;rw[(iL AA).1,(Vp (s:=e.bF) AA).1,(Vp (s:=e.Key) AA).1,aq9 AA];simp only[Af,bne];cases TU e.Room==0 with
 |false=>rfl
 |true=>
  cases P5 e.bF==0 with
  |false=>rfl
  |true=>
   by_cases k2:e.Kind=2
   ·rw[k2];rfl
   by_cases j:e.Kind=9
   ·rw[j];rfl
   rw[show(e.Kind==2)=false from by simpa using k2,show(e.Kind==9)=false from by simpa using j,D8 k2,D8 j];rfl
def C9 {R:Type} (x y:Option R):Prop:=∃r,x=some r∧y=some r
section
variable {A R : Type}
def C9.ret (r:R):C9 (some r) (some r):=⟨r,rfl,rfl⟩
def C9.bind {a b:Option A} {f g:A→Option R} (h:C9 a b) (k:∀x,C9 (f x) (g x)):C9 (a.bind f) (b.bind g):=by
 obtain⟨x,rfl,rfl⟩:=h;exact k x
def C9.bif {c:Bool} {x y f j:Option R} (m:c=true→C9 x f) (q:c=false→C9 y j):C9 (bif c then x else y) (bif c then f else j):=by
 cases c with
 |true=>exact m rfl
 |false=>exact q rfl
def C9.of {x y:Option R} {r:R} (f:x=some r) (j:y=some r):C9 x y:=⟨r,f,j⟩
def C9.loop {f g:(Int→Option R)→Int→Option R} (n:Nat) (u:n≤9223372036854775807) (j:∀k k' (i:Nat),i<n→C9 (k ((i+1:Nat):Int)) (k' ((i+1:Nat):Int))→C9 (f k (i:Int)) (g k' (i:Int))) (q:∀k k',C9 (f k (n:Int)) (g k' (n:Int))):C9 (bn f BA 0) (bn g BA 0):=by
 have z:BA=9223372036854775808:=rfl
 have key:∀m (i:Nat),i+m=n→∀a,m<a→C9 (bn f a (i:Int)) (bn g a (i:Int)):=by
  intro m
  induction m with
  |zero=>
   intro i hi a ha;obtain⟨a,rfl⟩:∃a',a=a'+1:=⟨a-1,AA⟩
   have :i=n:=AA
   subst this;exact q _ _
  |succ m s=>
   intro i hi a ha;obtain⟨a,rfl⟩:∃a',a=a'+1:=⟨a-1,AA⟩
   exact j _ _ i AA (s (i+1) AA a AA)
 exact key n 0 AA BA AA
end
def lJ {i:Nat} (h:i≤9223372036854775806):BJ ((i:Int)+1)=((i+1:Nat):Int):=wrap_succ i AA
def nY {α:Type} {l:List α} {i:Nat} (h:i<l.length) (j:l.length≤9223372036854775807) (f:decide ((i:Int)>0)=true):BK l (BJ ((i:Int)-1))=some (l[i-1]' AA):=by
 have f:0<i:=Ku
 rw[NM AA AA,show(i:Int)-1=((i-1:Nat):Int) by omega];exact D6 AA
def aJt {l:List Int} (f:l.length≤9223372036854775807):C9 (qY l) (ZK l):=by
 unfold qY aax ZK aCR;refine C9.loop l.length f (fun k k' i h j=>?_) (fun k k'=>?_)
 ·simp only[aFt,aAA,YW,dec_lt h,Bj,D6 h,Af,lJ (show i≤9223372036854775806 by omega)];cases decide (l[i]<0)with
  |true=>exact .ret _
  |false=>
   simp only[BO];cases m:decide ((i:Int)>0)with
   |true=>
    simp only[Bj,nY h f m,Af,ge_iff_le];cases decide (l[i]≤l[i-1])with
    |true=>exact .ret _
    |false=>exact j
   |false=>exact j
 simp only[aFt,aAA,EP,BO];exact .ret _
def aKP {l:List ByteArray} (f:l.length≤9223372036854775807) (j:∀s∈l,s.size≤9223372036854775807):C9 (UY l) (NC l):=by
 unfold UY NC;refine C9.bif (fun _=>.ret _) fun _=>?_;unfold aaQ aGh;refine C9.loop l.length f (fun k k' i h m=>?_) (fun k k'=>?_)
 ·obtain⟨q,u⟩:=aE0 (s:=l[i]) (by have :=j _ (EC h);omega);simp only[aDS,oZ,dec_lt h,Bj,D6 h,Af,q,u,lJ (show i≤9223372036854775806 by omega)];exact C9.bif (fun _=>.ret _) fun _=>m
 simp only[aDS,oZ,EP,BO];exact .ret _
def arY {c:Bo} (f:Iq c):C9 (V8 4 c) (Q5 c):=by
 have z:=f.allow;unfold V8 Q5;rw[show((4:Int)==6)=false from rfl,BO];refine C9.bind (C9.bif (fun _=>.ret _) fun _=>.ret _) fun x=>C9.bif (fun _=>.ret _) fun _=>C9.bif (fun _=>.ret _) fun _=>?_;unfold acs aFI;refine C9.loop c.Allow.length AA (fun k k' i h j=>?_) (fun k k'=>?_)
 ·obtain⟨m,q⟩:=iL (s:=c.Allow[i]) (by have :=f.allows _ (EC h);omega);simp only[aHl,Yw,kE,dec_lt h,Bj,D6 h,Af,m,q,lJ (show i≤9223372036854775806 by omega)];refine C9.bif (fun _=>.ret _) fun _=>?_;cases u:decide ((i:Int)>0)with
  |true=>
   simp only[Bj,nY h (show c.Allow.length≤9223372036854775807 by omega) u,Af];exact C9.bif (fun _=>.ret _) fun _=>j
  |false=>exact j
 simp only[aHl,Yw,EP,BO];exact .ret _
def aiC {l:List He} (f:l.length≤9223372036854775807) (m:∀u∈l,u.User.size≤9223372036854775807):C9 (xZ l) (Wu l):=by
 unfold xZ Wu;refine C9.bif (fun _=>.ret _) fun _=>?_;unfold aLO aDg;refine C9.loop l.length f (fun k k' i h j=>?_) (fun k k'=>?_)
 ·obtain⟨q,z⟩:=Vp (s:=l[i].User) (by have :=m _ (EC h);omega);obtain⟨I,J⟩:=rE l[i].N;simp only[aFP,oO,wQ,cO,dec_lt h,Bj,D6 h,Af,q,z,I,J,lJ (show i≤9223372036854775806 by omega)];refine C9.bif (fun _=>.ret _) fun _=>?_;cases L:decide ((i:Int)>0)with
  |true=>
   simp only[Bj,nY h f L,Af];exact C9.bif (fun _=>.ret _) fun _=>C9.bif (fun _=>.ret _) fun _=>j
  |false=>
   simp only[BO];exact C9.bif (fun _=>.ret _) fun _=>j
 simp only[aFP,oO,EP,BO];exact .ret _
def aoV {l:List IL} (f:l.length≤9223372036854775807):C9 (aC4 l) (Wj l):=by
 unfold aC4 Wj;refine C9.bif (fun _=>.ret _) fun _=>?_;unfold aaT aCl;refine C9.loop l.length f (fun k k' i h j=>?_) (fun k k'=>?_)
 ·obtain⟨m,q⟩:=Zk l[i].Kind;obtain⟨s,u⟩:=rE l[i].N;simp only[aCS,vC,wS,aAZ,dec_lt h,Bj,D6 h,Af,m,q,s,u,lJ (show i≤9223372036854775806 by omega)];refine C9.bif (fun _=>.ret _) fun _=>?_;cases z:decide ((i:Int)>0)with
  |true=>
   simp only[Bj,nY h f z,Af];exact C9.bif (fun _=>.ret _) fun _=>C9.bif (fun _=>.ret _) fun _=>j
  |false=>
   simp only[BO];exact C9.bif (fun _=>.ret _) fun _=>j
 simp only[aCS,vC,EP,BO];exact .ret _
def akA {l:D9} (q:l.Users.length≤9223372036854775807) (s:l.Kinds.length≤9223372036854775807) (f:∀u∈l.Users,u.User.size≤9223372036854775807):C9 (YD l) (St l):=by
 have j:aFo l 0=some (bif (Ib l).any QF then 2 else 0):=by
  unfold aFo;rw[Ic (Ib l) (by have :BA=9223372036854775808:=rfl;simp[Ib,this]) QF 2 (some 0) (fun k i h=>?_) (fun k=>rfl),Jq];have z:i<7:=h;have m:BK ([l.User,l.Message,l.State,l.gB,l.jT,l.nX,l.gY]:List Int) (i:Int)=some ((Ib l)[i]'(h)):=D6 h;simp only[aJx,show decide ((i:Int)<7)=true from by simp;omega,Bj,m,Af,(rE _).1]
 unfold YD St;refine C9.bind (aiC AA f) fun x=>C9.bif (fun _=>.ret _) fun _=>C9.bind (aoV AA) fun y=>C9.bif (fun _=>.ret _) fun _=>?_;rw[j];simp only[(rE _).2,Af,Ib,Y1,List.any_nil];cases QF l.User<;>cases QF l.Message<;>cases QF l.State<;>cases QF l.gB<;>cases QF l.jT<;>cases QF l.nX<;>cases QF l.gY<;>exact .ret _
def Qh {α:Type} {l:List α} (h:((l.length:Int)==0)=true):l=[]:=GR aHX
def LP (l:D9):Bool:=((l.Users.length:Int)==0)&&((l.Kinds.length:Int)==0)&&(l.User==0)&&(l.Message==0)&&(l.State==0)&&(l.gB==0)&&(l.jT==0)&&(l.nX==0)&&(l.gY==0)
def bare_eq (l:D9):zF l=some (LP l):=by
 unfold zF LP;simp only[Jq,Af,VX]
def aJp (l:D9):YO l KY=some (LP l):=by
 unfold YO LP;show(bif ((l.Users.length:Int) != 0)then some true else some ((l.Kinds.length:Int) != 0)).bind _=_;simp only[bne];cases m:((l.Users.length:Int)==0)with
 |false=>rfl
 |true=>
  cases q:((l.Kinds.length:Int)==0)with
  |false=>rfl
  |true=>
   have f:=Qh m;have j:=Qh q
   have s:dO l KY 0=some ((l.User==0)&&(l.Message==0)&&(l.State==0)&&(l.gB==0)&&(l.jT==0)&&(l.nX==0)&&(l.gY==0)):=by
    unfold dO;refine aEO l.Kinds (by rw[j];simp) _ (fun k i h=>by rw[j]at h;simp at h) (fun k=>?_);simp only[yD,EP,BO,Jq,Af,VX];rfl
   have u:aB4 l KY 0=some ((l.User==0)&&(l.Message==0)&&(l.State==0)&&(l.gB==0)&&(l.jT==0)&&(l.nX==0)&&(l.gY==0)):=by
    unfold aB4;refine aEO l.Users (by rw[f];simp) _ (fun k i h=>by rw[f]at h;simp at h) (fun k=>?_);simp only[yS,EP,BO];exact s
   simp only[EU,BO,Af,u,Fr]
def aqr (l:D9):aAO l=some (LP l):=by
 unfold aAO;rw[aJp];rfl
def alC (l:List ByteArray):Ut l []=some ((l.length:Int)==0):=by
 cases h:((l.length:Int)==0)with
 |true=>rw[Qh h];exact an9 (l:=[]) BM
 |false=>
  unfold Ut;show(bif ((l.length:Int) != 0)then some false else _)=_;simp only[bne,h,KI,Bj]
def bI (a0 f j m q s u z:Bool):Bool:=a0&&f&&j&&m&&q&&s&&u&&z
def aIY (c:Bo):WI c DW=some (bI (c.Text.toList==BZ.toList) (c.N==0) (c.Target==0) (!c.Thread) (c.Via.toList==BZ.toList) ((c.Allow.length:Int)==0) ((c.gu.length:Int)==0) (LP c.Levels)):=by
 unfold WI bI;show(bif c.Text.toList==BZ.toList then some (c.N==0)else some false).bind _=_;simp only[show DW.Allow=[]from rfl,show DW.gu=[]from rfl,show DW.Levels=KY from rfl,show DW.Target=0 from rfl,show DW.Thread=false from rfl,show DW.Via=BZ from rfl,alC,aJp,Jq,Af,VX];congr 1;cases c.Thread<;>simp
def rW (a0 f j m q s u z:Bool):Int:=
 let v:=bif !a0 then Du .or .i64 0 1 else 0
 let v:=bif !f then Du .or .i64 v 2 else v
 let v:=bif !j then Du .or .i64 v 4 else v
 let v:=bif !m then Du .or .i64 v 8 else v
 let v:=bif !q then Du .or .i64 v 16 else v
 let v:=bif !s then Du .or .i64 v 32 else v
 let v:=bif !u then Du .or .i64 v 64 else v
 bif !z then Du .or .i64 v 128 else v
def pos_eq {α:Type} (l:List α):decide ((l.length:Int)>0)= !((l.length:Int)==0):=by
 cases h:((l.length:Int)==0)with
 |true=>have :=eq_of_beq h;rw[EU,Vm];omega
 |false=>have :=ne_of_beq_false h;rw[KI,G8];omega
def ahO (c:Bo):jf c=some (rW (c.Text.toList==BZ.toList) (c.N==0) (c.Target==0) (!c.Thread) (c.Via.toList==BZ.toList) ((c.Allow.length:Int)==0) ((c.gu.length:Int)==0) (LP c.Levels)):=by
 unfold jf tN wH aA1 uF uz tV vk aBT rW;rw[bare_eq,pos_eq,pos_eq];simp only[Af,bne,Bool.not_not];generalize(c.Text.toList==BZ.toList)=f;generalize(c.N==0)=j;generalize(c.Target==0)=m;generalize c.Thread=q;generalize(c.Via.toList==BZ.toList)=s;generalize((c.Allow.length:Int)==0)=u;generalize((c.gu.length:Int)==0)=z;generalize LP c.Levels=I;cases f<;>cases j<;>cases m<;>cases q<;>cases s<;>cases u<;>cases z<;>cases I<;>rfl
def ai6 :∀a0 f j m q s u z:Bool,(rW a0 f j m q s u z==0)=bI a0 f j m q s u z:=Kz
def Hw (f j m q s u z I a0 J L M O U Y Z:Bool):Bool:=(a0||f)&&(J||j)&&(L||m)&&(M||q)&&(O||s)&&(U||u)&&(Y||z)&&(Z||I)
def Wh {K:Int} {c:Bo} {f j m q s u z I:Bool} (J:Bl K GN=some f) (L:Bl K Gs=some j) (M:Bl K Gx=some m) (O:Bl K JX=some q) (U:Bl K JR=some s) (Y:Bl K IY=some u) (Z:Bl K J8=some z) (h7:Bl K JA=some I):RJ K c=some (Hw f j m q s u z I (c.Text.toList==BZ.toList) (c.N==0) (c.Target==0) (!c.Thread) (c.Via.toList==BZ.toList) ((c.Allow.length:Int)==0) ((c.gu.length:Int)==0) (LP c.Levels)):=by
 unfold RJ Hw;simp only[J,L,M,O,U,Y,Z,h7,aqr,Jq,Af,mZ,VX]
def Fq (x r:Option Int):Option Int:=x.bind fun v=>bif v != 0 then some v else r
def Dq {x r:Option Int} (h:x=some 0):Fq x r=r:=by rw[h];rfl
def KZ {x y r s:Option Int} (h:C9 x y) (k:C9 r s):C9 (Fq x r) (Fq y s):=C9.bind h fun _=>C9.bif (fun _=>.ret _) fun _=>k
def xM (x:Option Int):Fq x (some 0)=x:=by
 cases x with
 |none=>rfl
 |some v=>
  show(bif v != 0 then some v else some 0)=some v;by_cases h:v=0
  ·subst h;rfl
  rw[show(v != 0)=true from by simpa using h];rfl
def vZ {A:Type} (x:Option A):(x.bind fun v=>some v)=x:=by cases x<;>rfl
def LQ (K:Int) (c:Bo):Option Int:=Fq (SL K c) (Fq (Jw K c.N) (Fq (Pm K c) (Fq (SB c) (bif K==4 then Q5 c else Fq (NC c.Allow) (Fq (NC c.gu) (St c.Levels))))))
def frame {K M kp:Int} {br:Bool} {c:Bo} {j m q s u z I J:Bool} (Z:fB K=some M) (hk:(decide (K≥1)&&decide (K≤14))=true) (L:Zj K=some kp) (hb:dZ K=some br) (h0:Bl K GN=some j) (h1:Bl K Gs=some m) (h2:Bl K Gx=some q) (h3:Bl K JX=some s) (h4:Bl K JR=some u) (h5:Bl K IY=some z) (h6:Bl K J8=some I) (h7:Bl K JA=some J)
 (hM:∀a0 a1 a2 a3 a4 a5 a6 a7:Bool,(Du .andNot .i64 (rW a0 a1 a2 a3 a4 a5 a6 a7) M != 0)= !Hw j m q s u z I J a0 a1 a2 a3 a4 a5 a6 a7) (O:(br=true→kp=0)) (hA:kp=0→br=false→KC M K 0 c=some 0)
 (f:Hw j m q s u z I J (c.Text.toList==BZ.toList) (c.N==0) (c.Target==0) (!c.Thread) (c.Via.toList==BZ.toList) ((c.Allow.length:Int)==0) ((c.gu.length:Int)==0) (LP c.Levels)=true→C9 (KC M K 0 c) (LQ K c)):C9 (Jb K c) (FD K c):=by
 have ht:FD K c=(dK K).bind fun x1=>(bif (!x1)then some true else(RJ K c).bind fun x4=>some (!x4)).bind fun x2=>(bif x2 then some 1 else(dZ K).bind fun x6=>(bif x6 then(WI c DW).bind fun x9=>some x9 else some false).bind fun x7=>(bif x7 then some 0 else LQ K c)):=by
  unfold FD LQ Fq;simp only[vZ]
 rw[ht];unfold Jb;obtain⟨Y,k2⟩:=Zk K;rw[hk]at Y k2;rw[Z,Y,k2,ahO,L,hb,Wh h0 h1 h2 h3 h4 h5 h6 h7,aIY];simp only[Af,EU,BO,hM,ai6];cases ho:Hw j m q s u z I J (c.Text.toList==BZ.toList) (c.N==0) (c.Target==0) (!c.Thread) (c.Via.toList==BZ.toList) ((c.Allow.length:Int)==0) ((c.gu.length:Int)==0) (LP c.Levels)with
 |false=>exact .ret _
 |true=>
  simp only[EU,BO];have f:=f ho;cases ha:bI (c.Text.toList==BZ.toList) (c.N==0) (c.Target==0) (!c.Thread) (c.Via.toList==BZ.toList) ((c.Allow.length:Int)==0) ((c.gu.length:Int)==0) (LP c.Levels)with
  |false=>
   simp only[BO,Af];cases br<;>exact f
  |true=>
   simp only[Bj,Af];cases U:kp==0 with
   |false=>
    cases br with
    |false=>exact f
    |true=>rw[O rfl]at U;cases U
   |true=>
    cases br with
    |true=>exact .ret _
    |false=>
     have e:=hA (eq_of_beq U) rfl;rw[e]at f;exact f
def QK (M b:Int) (x r:Option Int):Option Int:=bif Du .and .i64 M b==0 then r else Fq x r
def ZG {S B R:Type} (body:(S→B→Option R)→S→B→Option R) (n:Nat) (a:S) (b:B):aX body (n+1) a b=body (aX body n) a b:=rfl
def alr (M K:Int) (c:Bo):KC M K 0 c=QK M 1 (Oz K c) (QK M 2 (MW K c) (QK M 4 (QG K c) (QK M 8 (Yq K c) (QK M 16 (Yu K c) (QK M 32 (V8 K c)
 (bif Du .and .i64 M 64 != 0 then UY c.gu else bif Du .and .i64 M 128 != 0 then YD c.Levels else some 0)))))):=by
 have f:BA=9223372036854775801+1+1+1+1+1+1+1:=rfl;have j:∀k,WT M K k 0 c=QK M 1 (Oz K c) (k 1 c):=fun k=>rfl;have m:∀k,WT M K k 1 c=QK M 2 (MW K c) (k 2 c):=fun k=>rfl;have q:∀k,WT M K k 2 c=QK M 4 (QG K c) (k 3 c):=fun k=>rfl;have s:∀k,WT M K k 3 c=QK M 8 (Yq K c) (k 4 c):=fun k=>rfl;have u:∀k,WT M K k 4 c=QK M 16 (Yu K c) (k 5 c):=fun k=>rfl;have z:∀k,WT M K k 5 c=QK M 32 (V8 K c) (k 6 c):=fun k=>rfl;have I:∀k,WT M K k 6 c=(bif Du .and .i64 M 64 != 0 then(UY c.gu).bind fun x=>some x else bif Du .and .i64 M 128 != 0 then(YD c.Levels).bind fun x=>some x else some 0):=fun k=>rfl;unfold KC;rw[f,ZG,j,ZG,m,ZG,q,ZG,s,ZG,u,ZG,z,ZG,I,vZ,vZ]
section
variable {c : Bo} {K : Int}
def text0 (h:(c.Text.toList==BZ.toList)=true) (f:K≠12):SL K c=some 0:=by
 have j:(c.Text.size:Int)=0:=by rw[aAR]at h;exact eq_of_beq h
 unfold SL;rw[h,j,show(K==12)=false from by simpa using f];cases K==9<;>rfl
def Tv (h:Bl K Gx=some false) (f:(!c.Thread)=true):Pm K c=some 0:=by
 unfold Pm;rw[h,show c.Thread=false from by simpa using f];rfl
def Ob (h:(c.Via.toList==BZ.toList)=true):SB c=some 0:=by unfold SB;rw[h];rfl
def Ie {l:List ByteArray} (h:((l.length:Int)==0)=true):NC l=some 0:=by
 rw[Qh h];unfold NC aGh;show bn (oZ []) BA 0=some 0;rw[Ic ([]:List ByteArray) BU (fun _=>false) 0 (some 0) (fun k i h=>H8) (fun k=>rfl)];rfl
def QA {l:D9} (h:LP l=true):St l=some 0:=by
 unfold LP at h;simp only[CZ]at h;obtain⟨⟨⟨⟨⟨⟨⟨⟨f,j⟩,m⟩,q⟩,s⟩,u⟩,z⟩,I⟩,J⟩:=h
 have L:Wu []=some 0:=by
  unfold Wu aDg;show bn (oO []) BA 0=some 0;rw[Ic ([]:List ByteArray) BU (fun _=>false) 0 (some 0) (fun k i h=>H8) (fun k=>rfl)];rfl
 have M:Wj []=some 0:=by
  unfold Wj aCl;show bn (vC []) BA 0=some 0;rw[Ic ([]:List ByteArray) BU (fun _=>false) 0 (some 0) (fun k i h=>H8) (fun k=>rfl)];rfl
 unfold St;rw[Qh f,Qh j,L,M,eq_of_beq m,eq_of_beq q,eq_of_beq s,eq_of_beq u,eq_of_beq z,eq_of_beq I,eq_of_beq J];rfl
def Ye (j:Iq c):C9 (Oz K c) (SL K c):=by
 have z:=j.text;obtain⟨m,q⟩:=aE0 (s:=c.Text) AA;unfold Oz zZ SL;rw[m,q];have e:=aAR c.Text;by_cases f:K=9
 ·subst f;cases h:(c.Text.toList==BZ.toList)with
  |false=>exact .ret _
  |true=>
   have u:(c.Text.size:Int)=0:=by rw[e]at h;exact eq_of_beq h
   rw[u];exact .ret _
 rw[show(K==9)=false from by simpa using f];cases K==12<;>cases(c.Text.toList==BZ.toList)<;>cases decide ((c.Text.size:Int)>32)<;>cases decide ((c.Text.size:Int)>400)<;>exact .ret _
def ar6 (f:Iq c):C9 (Yu K c) (SB c):=by
 have q:=f.via;obtain⟨j,m⟩:=Vp (s:=c.Via) AA;unfold Yu SB;rw[j,m];exact C9.bif (fun _=>.ret _) fun _=>C9.bif (fun _=>.ret _) fun _=>.ret _
def aG7 (h:Bl K Gx=some true) (f:(!c.Thread)=true):C9 (QG K c) (Pm K c):=by
 unfold QG Pm;rw[h,show c.Thread=false from by simpa using f];cases decide (c.Target<0)<;>cases c.Target==0<;>cases K != 11<;>exact .ret _
def aqv (h:Bl K Gx=some true):C9 (Fq (QG K c) (Yq K c)) (Pm K c):=by
 unfold QG Yq Pm Fq;rw[h];cases decide (c.Target<0)<;>cases c.Target==0<;>cases K != 11<;>cases c.Thread<;>exact .ret _
def agh (f:Iq c):C9 (V8 6 c) (NC c.Allow):=by
 have j:=f.allow;have :=aKP (l:=c.Allow) AA f.allows;show C9 ((UY c.Allow).bind fun x=>some x) _;rw[vZ];exact this
end
def gy (a b:Int):decide (a≥b)= !decide (a<b):=by by_cases h:a<b<;>simp[h]<;>omega
def jh (a b:Int):decide (a≤b)= !decide (a>b):=by by_cases h:a>b<;>simp[h]<;>omega
def ash {c:Bo} (hc:Iq c):C9 (Jb 1 c) (FD 1 c):=by
 have m:Bl 1 GN=some false:=A8
 have q:Bl 1 Gs=some false:=A8
 have j:Bl 1 Gx=some false:=A8
 have s:Bl 1 JX=some false:=A8
 have u:Bl 1 JR=some false:=A8
 have z:Bl 1 IY=some false:=A8
 have I:Bl 1 J8=some false:=A8
 have J:Bl 1 JA=some false:=A8
 refine frame (M:=0) (kp:=0) (br:=false) rfl rfl rfl rfl m q j s u z I J Kz (fun h=>Gz) (fun h h'=>rfl) fun f=>?_;unfold Hw at f;simp only[JG,KA,MQ,Fr,CZ]at f;obtain⟨⟨⟨⟨⟨⟨⟨L,e1⟩,e2⟩,O⟩,U⟩,Y⟩,Z⟩,e7⟩:=f;have hL:KC 0 1 0 c=(some 0):=Nv
 rw[hL];unfold LQ;rw[Dq (text0 L BU),Dq (show Jw 1 c.N=some 0 from rfl),Dq (Tv j O),Dq (Ob U),show((1:Int)==4)=false from rfl,BO,Dq (Ie Y),Dq (Ie Z),QA e7];exact .ret _
def ant (c:Bo):C9 (MW 2 c) (Jw 2 c.N):=by
 show C9 ((bif decide (c.N<0)then some true else some (decide (c.N>4))).bind fun f=>(bif f then some 2 else some 0)) ((bif decide (c.N≥0)then some (decide (c.N≤4))else some false).bind fun j=>(bif (!j)then some 2 else some 0));rw[gy,jh];cases decide (c.N<0)<;>cases decide (c.N>4)<;>exact .ret _
def afU {c:Bo} (j:Iq c):C9 (Jb 2 c) (FD 2 c):=by
 have q:Bl 2 GN=some true:=A8
 have s:Bl 2 Gs=some true:=A8
 have m:Bl 2 Gx=some false:=A8
 have u:Bl 2 JX=some false:=A8
 have z:Bl 2 JR=some true:=A8
 have I:Bl 2 IY=some false:=A8
 have J:Bl 2 J8=some false:=A8
 have L:Bl 2 JA=some false:=A8
 refine frame (M:=19) (kp:=18) (br:=false) rfl rfl rfl rfl q s m u z I J L Kz (fun h=>Gz) (fun h h'=>Gz) fun f=>?_;unfold Hw at f;simp only[JG,KA,MQ,Fr,CZ]at f;obtain⟨⟨⟨⟨e2,O⟩,U⟩,Y⟩,Z⟩:=f;have hL:KC 19 2 0 c=(Fq (Oz 2 c) (Fq (MW 2 c) (Fq (Yu 2 c) (some 0)))):=Nv
 rw[hL];unfold LQ;rw[Dq (Tv m O),show((2:Int)==4)=false from rfl,BO,Dq (Ie U),Dq (Ie Y),QA Z];exact KZ (Ye j) (KZ (ant c) (KZ (ar6 j) (.ret _)))
def aru {c:Bo} (f:Iq c):C9 (Jb 3 c) (FD 3 c):=by
 have q:Bl 3 GN=some false:=A8
 have s:Bl 3 Gs=some false:=A8
 have m:Bl 3 Gx=some false:=A8
 have u:Bl 3 JX=some false:=A8
 have z:Bl 3 JR=some false:=A8
 have I:Bl 3 IY=some false:=A8
 have J:Bl 3 J8=some false:=A8
 have L:Bl 3 JA=some true:=A8
 refine frame (M:=128) (kp:=128) (br:=false) rfl rfl rfl rfl q s m u z I J L Kz (fun h=>Gz) (fun h h'=>Gz) fun j=>?_;unfold Hw at j;simp only[JG,KA,MQ,Fr,CZ]at j;obtain⟨⟨⟨⟨⟨⟨O,e1⟩,e2⟩,U⟩,Y⟩,Z⟩,e6⟩:=j;have hL:KC 128 3 0 c=(YD c.Levels):=Nv
 rw[hL];unfold LQ;rw[Dq (text0 O BU),Dq (show Jw 3 c.N=some 0 from rfl),Dq (Tv m U),Dq (Ob Y),show((3:Int)==4)=false from rfl,BO,Dq (Ie Z),Dq (Ie e6)];exact akA f.users f.kinds f.names
def aly (c:Bo):C9 (MW 4 c) (Jw 4 c.N):=by
 show C9 ((bif decide (c.N<0)then some true else some (decide (c.N>3))).bind fun f=>(bif f then some 2 else some 0)) ((bif decide (c.N≥0)then some (decide (c.N≤3))else some false).bind fun j=>(bif (!j)then some 2 else some 0));rw[gy,jh];cases decide (c.N<0)<;>cases decide (c.N>3)<;>exact .ret _
def ald {c:Bo} (m:Iq c):C9 (Jb 4 c) (FD 4 c):=by
 have q:Bl 4 GN=some false:=A8
 have s:Bl 4 Gs=some true:=A8
 have j:Bl 4 Gx=some false:=A8
 have u:Bl 4 JX=some false:=A8
 have z:Bl 4 JR=some false:=A8
 have I:Bl 4 IY=some true:=A8
 have J:Bl 4 J8=some false:=A8
 have L:Bl 4 JA=some false:=A8
 refine frame (M:=34) (kp:=34) (br:=false) rfl rfl rfl rfl q s j u z I J L Kz (fun h=>Gz) (fun h h'=>Gz) fun f=>?_;unfold Hw at f;simp only[JG,KA,MQ,Fr,CZ]at f;obtain⟨⟨⟨⟨⟨O,e2⟩,U⟩,Y⟩,e6⟩,e7⟩:=f;have Z:KC 34 4 0 c=(Fq (MW 4 c) (Fq (V8 4 c) (some 0))):=Nv
 rw[Z];unfold LQ;rw[Dq (text0 O BU),Dq (Tv j U),Dq (Ob Y),show((4:Int)==4)=true from rfl,Bj];rw[xM];exact KZ (aly c) (arY m)
def akF (c:Bo):C9 (MW 5 c) (Jw 5 c.N):=by
 show C9 ((bif decide (c.N<0)then some true else some (decide (c.N>3))).bind fun f=>(bif f then some 2 else some 0)) ((bif decide (c.N≥0)then some (decide (c.N≤3))else some false).bind fun j=>(bif (!j)then some 2 else some 0));rw[gy,jh];cases decide (c.N<0)<;>cases decide (c.N>3)<;>exact .ret _
def akE {c:Bo} (hc:Iq c):C9 (Jb 5 c) (FD 5 c):=by
 have m:Bl 5 GN=some false:=A8
 have q:Bl 5 Gs=some true:=A8
 have j:Bl 5 Gx=some false:=A8
 have s:Bl 5 JX=some false:=A8
 have u:Bl 5 JR=some false:=A8
 have z:Bl 5 IY=some false:=A8
 have I:Bl 5 J8=some false:=A8
 have J:Bl 5 JA=some false:=A8
 refine frame (M:=2) (kp:=2) (br:=false) rfl rfl rfl rfl m q j s u z I J Kz (fun h=>Gz) (fun h h'=>Gz) fun f=>?_;unfold Hw at f;simp only[JG,KA,MQ,Fr,CZ]at f;obtain⟨⟨⟨⟨⟨⟨L,e2⟩,O⟩,U⟩,Y⟩,Z⟩,e7⟩:=f;have hL:KC 2 5 0 c=(Fq (MW 5 c) (some 0)):=Nv
 rw[hL];unfold LQ;rw[Dq (text0 L BU),Dq (Tv j O),Dq (Ob U),show((5:Int)==4)=false from rfl,BO,Dq (Ie Y),Dq (Ie Z),QA e7];exact KZ (akF c) (.ret _)
def aqk {c:Bo} (f:Iq c):C9 (Jb 6 c) (FD 6 c):=by
 have s:Bl 6 GN=some false:=A8
 have m:Bl 6 Gs=some false:=A8
 have q:Bl 6 Gx=some false:=A8
 have u:Bl 6 JX=some false:=A8
 have z:Bl 6 JR=some false:=A8
 have I:Bl 6 IY=some true:=A8
 have J:Bl 6 J8=some true:=A8
 have L:Bl 6 JA=some false:=A8
 refine frame (M:=96) (kp:=96) (br:=false) rfl rfl rfl rfl s m q u z I J L Kz (fun h=>Gz) (fun h h'=>Gz) fun j=>?_;unfold Hw at j;simp only[JG,KA,MQ,Fr,CZ]at j;obtain⟨⟨⟨⟨⟨O,e1⟩,e2⟩,U⟩,Y⟩,Z⟩:=j;have hL:KC 96 6 0 c=(Fq (V8 6 c) (UY c.gu)):=Nv
 rw[hL];unfold LQ;rw[Dq (text0 O BU),Dq (show Jw 6 c.N=some 0 from rfl),Dq (Tv q U),Dq (Ob Y),show((6:Int)==4)=false from rfl,BO,QA Z];have m:=f.deny;rw[xM];exact KZ (agh f) (aKP AA f.denies)
def ajr {c:Bo} (m:Iq c):C9 (Jb 7 c) (FD 7 c):=by
 have q:Bl 7 GN=some true:=A8
 have s:Bl 7 Gs=some false:=A8
 have j:Bl 7 Gx=some false:=A8
 have u:Bl 7 JX=some false:=A8
 have z:Bl 7 JR=some false:=A8
 have I:Bl 7 IY=some false:=A8
 have J:Bl 7 J8=some false:=A8
 have L:Bl 7 JA=some false:=A8
 refine frame (M:=1) (kp:=0) (br:=true) rfl rfl rfl rfl q s j u z I J L Kz (fun h=>rfl) (fun h h'=>Yf) fun f=>?_;unfold Hw at f;simp only[JG,KA,MQ,Fr,CZ]at f;obtain⟨⟨⟨⟨⟨⟨e1,e2⟩,O⟩,U⟩,Y⟩,Z⟩,e7⟩:=f;have hL:KC 1 7 0 c=(Fq (Oz 7 c) (some 0)):=Nv
 rw[hL];unfold LQ;rw[Dq (show Jw 7 c.N=some 0 from rfl),Dq (Tv j O),Dq (Ob U),show((7:Int)==4)=false from rfl,BO,Dq (Ie Y),Dq (Ie Z),QA e7];exact KZ (Ye m) (.ret _)
def ak6 (c:Bo):C9 (MW 8 c) (Jw 8 c.N):=by
 show C9 ((bif decide (c.N<0)then some true else some (decide (c.N>1000000000))).bind fun f=>(bif f then some 2 else some 0)) ((bif decide (c.N≥0)then some (decide (c.N≤1000000000))else some false).bind fun j=>(bif (!j)then some 2 else some 0));rw[gy,jh];cases decide (c.N<0)<;>cases decide (c.N>1000000000)<;>exact .ret _
def ap5 {c:Bo} (hc:Iq c):C9 (Jb 8 c) (FD 8 c):=by
 have m:Bl 8 GN=some false:=A8
 have q:Bl 8 Gs=some true:=A8
 have j:Bl 8 Gx=some false:=A8
 have s:Bl 8 JX=some false:=A8
 have u:Bl 8 JR=some false:=A8
 have z:Bl 8 IY=some false:=A8
 have I:Bl 8 J8=some false:=A8
 have J:Bl 8 JA=some false:=A8
 refine frame (M:=2) (kp:=0) (br:=true) rfl rfl rfl rfl m q j s u z I J Kz (fun h=>rfl) (fun h h'=>Yf) fun f=>?_;unfold Hw at f;simp only[JG,KA,MQ,Fr,CZ]at f;obtain⟨⟨⟨⟨⟨⟨L,e2⟩,O⟩,U⟩,Y⟩,Z⟩,e7⟩:=f;have hL:KC 2 8 0 c=(Fq (MW 8 c) (some 0)):=Nv
 rw[hL];unfold LQ;rw[Dq (text0 L BU),Dq (Tv j O),Dq (Ob U),show((8:Int)==4)=false from rfl,BO,Dq (Ie Y),Dq (Ie Z),QA e7];exact KZ (ak6 c) (.ret _)
def aiv (c:Bo):C9 (MW 9 c) (Jw 9 c.N):=by
 show C9 ((bif (c.N==1)then some true else some (c.N==2)).bind fun f=>(bif f then some true else some (c.N==6)).bind fun j=>(bif j then some 0 else some 2)) ((bif (c.N==1)then some true else some (c.N==2)).bind fun m=>(bif m then some true else some (c.N==6)).bind fun q=>(bif (!q)then some 2 else some 0));cases c.N==1<;>cases c.N==2<;>cases c.N==6<;>exact .ret _
def anG {c:Bo} (m:Iq c):C9 (Jb 9 c) (FD 9 c):=by
 have q:Bl 9 GN=some true:=A8
 have s:Bl 9 Gs=some true:=A8
 have j:Bl 9 Gx=some false:=A8
 have u:Bl 9 JX=some false:=A8
 have z:Bl 9 JR=some false:=A8
 have I:Bl 9 IY=some false:=A8
 have J:Bl 9 J8=some false:=A8
 have L:Bl 9 JA=some false:=A8
 refine frame (M:=3) (kp:=0) (br:=true) rfl rfl rfl rfl q s j u z I J L Kz (fun h=>rfl) (fun h h'=>Yf) fun f=>?_;unfold Hw at f;simp only[JG,KA,MQ,Fr,CZ]at f;obtain⟨⟨⟨⟨⟨e2,O⟩,U⟩,Y⟩,Z⟩,e7⟩:=f;have hL:KC 3 9 0 c=(Fq (Oz 9 c) (Fq (MW 9 c) (some 0))):=Nv
 rw[hL];unfold LQ;rw[Dq (Tv j O),Dq (Ob U),show((9:Int)==4)=false from rfl,BO,Dq (Ie Y),Dq (Ie Z),QA e7];exact KZ (Ye m) (KZ (aiv c) (.ret _))
def aqB (c:Bo):C9 (MW 10 c) (Jw 10 c.N):=by
 show C9 ((bif decide (c.N<1)then some true else some (decide (c.N>10000))).bind fun f=>(bif f then some 2 else some 0)) ((bif decide (c.N≥1)then some (decide (c.N≤10000))else some false).bind fun j=>(bif (!j)then some 2 else some 0));rw[gy,jh];cases decide (c.N<1)<;>cases decide (c.N>10000)<;>exact .ret _
def ag3 {c:Bo} (hc:Iq c):C9 (Jb 10 c) (FD 10 c):=by
 have m:Bl 10 GN=some false:=A8
 have q:Bl 10 Gs=some true:=A8
 have j:Bl 10 Gx=some false:=A8
 have s:Bl 10 JX=some false:=A8
 have u:Bl 10 JR=some false:=A8
 have z:Bl 10 IY=some false:=A8
 have I:Bl 10 J8=some false:=A8
 have J:Bl 10 JA=some false:=A8
 refine frame (M:=2) (kp:=0) (br:=true) rfl rfl rfl rfl m q j s u z I J Kz (fun h=>rfl) (fun h h'=>Yf) fun f=>?_;unfold Hw at f;simp only[JG,KA,MQ,Fr,CZ]at f;obtain⟨⟨⟨⟨⟨⟨L,e2⟩,O⟩,U⟩,Y⟩,Z⟩,e7⟩:=f;have hL:KC 2 10 0 c=(Fq (MW 10 c) (some 0)):=Nv
 rw[hL];unfold LQ;rw[Dq (text0 L BU),Dq (Tv j O),Dq (Ob U),show((10:Int)==4)=false from rfl,BO,Dq (Ie Y),Dq (Ie Z),QA e7];exact KZ (aqB c) (.ret _)
def amX {c:Bo} (m:Iq c):C9 (Jb 11 c) (FD 11 c):=by
 have q:Bl 11 GN=some true:=A8
 have s:Bl 11 Gs=some false:=A8
 have j:Bl 11 Gx=some true:=A8
 have u:Bl 11 JX=some true:=A8
 have z:Bl 11 JR=some false:=A8
 have I:Bl 11 IY=some false:=A8
 have J:Bl 11 J8=some false:=A8
 have L:Bl 11 JA=some false:=A8
 refine frame (M:=13) (kp:=0) (br:=true) rfl rfl rfl rfl q s j u z I J L Kz (fun h=>rfl) (fun h h'=>Yf) fun f=>?_;unfold Hw at f;simp only[JG,KA,MQ,Fr,CZ]at f;obtain⟨⟨⟨⟨e1,O⟩,U⟩,Y⟩,Z⟩:=f;have hL:KC 13 11 0 c=(Fq (Oz 11 c) (Fq (QG 11 c) (Fq (Yq 11 c) (some 0)))):=Nv
 rw[hL];unfold LQ;rw[Dq (show Jw 11 c.N=some 0 from rfl),Dq (Ob O),show((11:Int)==4)=false from rfl,BO,Dq (Ie U),Dq (Ie Y),QA Z];rw[xM,xM];exact KZ (Ye m) (aqv j)
def am3 {c:Bo} (m:Iq c):C9 (Jb 12 c) (FD 12 c):=by
 have q:Bl 12 GN=some true:=A8
 have s:Bl 12 Gs=some false:=A8
 have j:Bl 12 Gx=some true:=A8
 have u:Bl 12 JX=some false:=A8
 have z:Bl 12 JR=some false:=A8
 have I:Bl 12 IY=some false:=A8
 have J:Bl 12 J8=some false:=A8
 have L:Bl 12 JA=some false:=A8
 refine frame (M:=5) (kp:=0) (br:=true) rfl rfl rfl rfl q s j u z I J L Kz (fun h=>rfl) (fun h h'=>Yf) fun f=>?_;unfold Hw at f;simp only[JG,KA,MQ,Fr,CZ]at f;obtain⟨⟨⟨⟨⟨e1,O⟩,U⟩,Y⟩,Z⟩,e7⟩:=f;have hL:KC 5 12 0 c=(Fq (Oz 12 c) (Fq (QG 12 c) (some 0))):=Nv
 rw[hL];unfold LQ;rw[Dq (show Jw 12 c.N=some 0 from rfl),Dq (Ob U),show((12:Int)==4)=false from rfl,BO,Dq (Ie Y),Dq (Ie Z),QA e7];exact KZ (Ye m) (KZ (aG7 j O) (.ret _))
def alQ {c:Bo} (m:Iq c):C9 (Jb 13 c) (FD 13 c):=by
 have q:Bl 13 GN=some true:=A8
 have s:Bl 13 Gs=some false:=A8
 have j:Bl 13 Gx=some true:=A8
 have u:Bl 13 JX=some false:=A8
 have z:Bl 13 JR=some false:=A8
 have I:Bl 13 IY=some false:=A8
 have J:Bl 13 J8=some false:=A8
 have L:Bl 13 JA=some false:=A8
 refine frame (M:=5) (kp:=0) (br:=true) rfl rfl rfl rfl q s j u z I J L Kz (fun h=>rfl) (fun h h'=>Yf) fun f=>?_;unfold Hw at f;simp only[JG,KA,MQ,Fr,CZ]at f;obtain⟨⟨⟨⟨⟨e1,O⟩,U⟩,Y⟩,Z⟩,e7⟩:=f;have hL:KC 5 13 0 c=(Fq (Oz 13 c) (Fq (QG 13 c) (some 0))):=Nv
 rw[hL];unfold LQ;rw[Dq (show Jw 13 c.N=some 0 from rfl),Dq (Ob U),show((13:Int)==4)=false from rfl,BO,Dq (Ie Y),Dq (Ie Z),QA e7];exact KZ (Ye m) (KZ (aG7 j O) (.ret _))
def akm {c:Bo} (m:Iq c):C9 (Jb 14 c) (FD 14 c):=by
 have q:Bl 14 GN=some true:=A8
 have s:Bl 14 Gs=some false:=A8
 have j:Bl 14 Gx=some true:=A8
 have u:Bl 14 JX=some false:=A8
 have z:Bl 14 JR=some false:=A8
 have I:Bl 14 IY=some false:=A8
 have J:Bl 14 J8=some false:=A8
 have L:Bl 14 JA=some false:=A8
 refine frame (M:=5) (kp:=4) (br:=false) rfl rfl rfl rfl q s j u z I J L Kz (fun h=>Gz) (fun h h'=>Gz) fun f=>?_;unfold Hw at f;simp only[JG,KA,MQ,Fr,CZ]at f;obtain⟨⟨⟨⟨⟨e1,O⟩,U⟩,Y⟩,Z⟩,e7⟩:=f;have hL:KC 5 14 0 c=(Fq (Oz 14 c) (Fq (QG 14 c) (some 0))):=Nv
 rw[hL];unfold LQ;rw[Dq (show Jw 14 c.N=some 0 from rfl),Dq (Ob U),show((14:Int)==4)=false from rfl,BO,Dq (Ie Y),Dq (Ie Z),QA e7];exact KZ (Ye m) (KZ (aG7 j O) (.ret _))
def aov (k:Int) {c:Bo} (j:Iq c):C9 (Jb k c) (FD k c):=by
 cases m:decide (k≥1)&&decide (k≤14)with
 |false=>
  obtain⟨q,k2⟩:=Zk k;rw[m]at q k2
  have f:∀n:Int,1≤n→n≤14→(k==n)=false:=fun n s u=>by
   rw[Y9];rintro rfl;rw[I5 (show k≥1 from s),I5 u]at m;cases m
  have z:fB k=some 0:=by
   unfold fB jZ jR;rw[f 2 BU BU,f 3 BU BU,f 4 BU BU,f 5 BU BU,f 8 BU BU,f 10 BU BU,f 6 BU BU,f 7 BU BU,f 9 BU BU,f 11 BU BU,f 12 BU BU,f 13 BU BU,f 14 BU BU];rfl
  unfold Jb FD;rw[z,q,k2];exact .ret _
 |true=>
  simp only[CZ,G8]at m;have :k=1∨k=2∨k=3∨k=4∨k=5∨k=6∨k=7∨k=8∨k=9∨k=10∨k=11∨k=12∨k=13∨k=14:=AA
  rcases this with rfl|rfl|rfl|rfl|rfl|rfl|rfl|rfl|rfl|rfl|rfl|rfl|rfl|rfl
  ·exact ash j
  ·exact afU j
  ·exact aru j
  ·exact ald j
  ·exact akE j
  ·exact aqk j
  ·exact ajr j
  ·exact ap5 j
  ·exact anG j
  ·exact ag3 j
  ·exact amX j
  ·exact am3 j
  ·exact alQ j
  exact akm j
def KO {α:Type} (p:α→α→Bool) (a b:List α):Bool:=((a.length:Int)==(b.length:Int))&& !((a.zip b).any fun x=> !p x.1 x.2)
def aF {α R:Type} {body:(Int→Option R)→Int→Option R} (p:α→α→Bool) (a b:List α) (ha:a.length≤1000) (j:a.length=b.length) (bad:R) (rest:Option R)
 (m:∀k (i:Nat) (h:i<a.length) (h':i<b.length),body k (i:Int)=bif !p a[i] b[i]then some bad else k (BJ ((i:Int)+1))) (q:∀k,body k (a.length:Int)=rest):bn body BA 0=bif (a.zip b).any fun x=> !p x.1 x.2 then some bad else rest:=by
 have f:(a.zip b).length=a.length:=E5
 refine Ic (a.zip b) (by rw[f];exact mQ AA) (fun x=> !p x.1 x.2) bad rest (fun k i h=>?_) (fun k=>by rw[f];exact q k);have s:i<a.length:=AA
 have u:i<b.length:=AA
 rw[m k i s u,aCt]
def len_eq {α:Type} {a b:List α} (h:((a.length:Int)==(b.length:Int))=true):a.length=b.length:=aHX
def Ri (x y:ByteArray):Bool:=x.toList==y.toList
def Qg (x y:He):Bool:=x.User.toList==y.User.toList&&x.N==y.N
def Pg (x y:IL):Bool:=x.Kind==y.Kind&&x.N==y.N
def yw {a b:List ByteArray} (ha:a.length≤1000):qx a b=some (KO Ri a b)∧Ut a b=some (KO Ri a b):=by
 unfold qx Ut KO;simp only[bne];cases h:((a.length:Int)==(b.length:Int))with
 |false=>exact⟨rfl,rfl⟩
 |true=>
  have f:=len_eq h;simp only[EU,BO,Fr];unfold aIU aCW
  rw[aF Ri a b ha f false (some true) (fun k i h h'=>by simp only[aH4,dec_lt h,Bj,D6 h,D6 h',Af];rfl) (fun k=>by simp only[aH4,EP,BO]),
   aF Ri a b ha f false (some true) (fun k i h h'=>by simp only[kH,dec_lt h,Bj,D6 h,D6 h',Af];rfl) (fun k=>by simp only[kH,EP,BO])]
  cases(a.zip b).any fun x=> !Ri x.1 x.2<;>exact⟨rfl,rfl⟩
def af2 {a b:List He} (ha:a.length≤1000):xH a b=some (KO Qg a b):=by
 unfold xH KO;simp only[bne];cases h:((a.length:Int)==(b.length:Int))with
 |false=>rfl
 |true=>
  have f:=len_eq h;simp only[EU,BO,Fr];unfold aLp;rw[aF Qg a b ha f false (some true) (fun k i h h'=>by simp only[aHp,dec_lt h,Bj,D6 h,D6 h',Af,uN,Qg,MQ]) (fun k=>by simp only[aHp,EP,BO])];cases(a.zip b).any fun x=> !Qg x.1 x.2<;>rfl
def aez {a b:List IL} (ha:a.length≤1000):zH a b=some (KO Pg a b):=by
 unfold zH KO;simp only[bne];cases h:((a.length:Int)==(b.length:Int))with
 |false=>rfl
 |true=>
  have f:=len_eq h;simp only[EU,BO,Fr];unfold ab3;rw[aF Pg a b ha f false (some true) (fun k i h h'=>by simp only[aGK,dec_lt h,Bj,D6 h,D6 h',Af,uh,Pg,MQ]) (fun k=>by simp only[aGK,EP,BO])];cases(a.zip b).any fun x=> !Pg x.1 x.2<;>rfl
def ql (a b:D9):Bool:=(a.User==b.User)&&(a.Message==b.Message)&&(a.State==b.State)&&(a.gB==b.gB)&&(a.jT==b.jT)&&(a.nX==b.nX)&&(a.gY==b.gY)
def mX (a b:D9):Bool:=KO Qg a.Users b.Users&&(KO Pg a.Kinds b.Kinds&&ql a b)
def apq {a b:D9} (f:a.Users.length≤1000) (j:a.Kinds.length≤1000):YO a b=some (mX a b):=by
 unfold YO mX KO;simp only[bne];cases m:((a.Users.length:Int)==(b.Users.length:Int))with
 |false=>rfl
 |true=>
  cases q:((a.Kinds.length:Int)==(b.Kinds.length:Int))with
  |false=>simp
  |true=>
   have s:=len_eq m;have ek:=len_eq q
   have u:dO a b 0=bif (a.Kinds.zip b.Kinds).any fun x=> !Pg x.1 x.2 then some false else some (ql a b):=by
    unfold dO;refine aF Pg a.Kinds b.Kinds j ek false (some (ql a b)) (fun k i h h'=>?_) (fun k=>?_)
    ·simp only[yD,dec_lt h,Bj,D6 h,D6 h',Af,aA5,Pg,bne];cases a.Kinds[i].Kind==b.Kinds[i].Kind<;>cases a.Kinds[i].N==b.Kinds[i].N<;>rfl
    simp only[yD,EP,BO,Jq,Af,VX];rfl
   simp only[EU,BO,Af,Fr];unfold aB4
   rw[aF Qg a.Users b.Users f s false (dO a b 0) (fun k i h h'=>by
    simp only[yS,dec_lt h,Bj,D6 h,D6 h',Af,vO,Qg,bne]
    cases a.Users[i].User.toList==b.Users[i].User.toList<;>cases a.Users[i].N==b.Users[i].N<;>rfl) (fun k=>by simp only[yS,EP,BO]),u]
   cases(a.Users.zip b.Users).any fun x=> !Qg x.1 x.2<;>cases(a.Kinds.zip b.Kinds).any fun x=> !Pg x.1 x.2<;>rfl
def fU (a b:Bo):Bool:=(a.Text.toList==b.Text.toList)&&(a.N==b.N)&&(a.Target==b.Target)&&(a.Thread==b.Thread)&&(a.Via.toList==b.Via.toList)&&KO Ri a.Allow b.Allow&&KO Ri a.gu b.gu&&mX a.Levels b.Levels
def aKr {a:Bo} (b:Bo) (ha:Ox a):WI a b=some (fU a b):=by
 have f:=ha.allow;have j:=ha.deny;have m:=ha.users;have q:=ha.kinds;unfold WI fU;rw[(yw (a:=a.Allow) AA).2,(yw (a:=a.gu) AA).2,apq (a:=a.Levels) AA AA];simp only[Jq,Af,VX]
def afz {a:Bo} (b:Bo) (ha:Ox a):aAj a b=some (fU a b):=by
 have I:=ha.allow;have J:=ha.deny;have L:=ha.users;have M:=ha.kinds;unfold aAj fU mX ql;rw[(yw (a:=a.Allow) AA).1,(yw (a:=a.gu) AA).1,af2 (a:=a.Levels.Users) AA,aez (a:=a.Levels.Kinds) AA];simp only[Jq,Af,VX,mZ,bne];generalize(a.Text.toList==b.Text.toList)=f;generalize(a.N==b.N)=j;generalize(a.Target==b.Target)=m;generalize(a.Thread==b.Thread)=q;generalize(a.Via.toList==b.Via.toList)=s;generalize KO Ri a.Allow b.Allow=u;generalize KO Ri a.gu b.gu=z;generalize KO Qg a.Levels.Users b.Levels.Users=O;generalize KO Pg a.Levels.Kinds b.Levels.Kinds=U;cases f<;>cases j<;>cases m<;>cases q<;>cases s<;>cases u<;>cases z<;>first|rfl|(simp only[EU,Bool.or_self,BO,Fr,Bool.and_self,Bool.and_assoc])
def aod {e:AP} (f:Qd e) (v:Bool):C9 (XL e v) ((Py e v).bind fun j=>(bif (j != 0)then some j else(FD e.Kind e.Content).bind fun z=>some z)):=by
 have h1:=f.room;have h2:=f.sender;have h3:=f.key;have h4:=f.prev;have h5:=f.auth;unfold XL Py;rw[alf f,(iL (s:=e.Room) AA).2,(Vp (s:=e.bF) AA).2,aa9 AA];cases v with
 |true=>exact .ret _
 |false=>
  simp only[BO,Af,bne,Jq,mZ];generalize(TU e.Room==0)=a;generalize(P5 e.bF==0)=b;generalize TA e.Kind e.Key=I;cases a with
  |false=>exact .ret _
  |true=>
   cases b with
   |false=>exact .ret _
   |true=>
    cases I with
    |false=>exact .ret _
    |true=>
     simp only[EU,Bool.or_self,Bool.and_self,BO,aC3];refine C9.bif (fun _=>.ret _) fun _=>C9.bif (fun _=>.ret _) fun hlen=>?_;simp only[qX,Vm]at hlen;obtain⟨J,L,M⟩:=aJt (l:=e.bD) AA;obtain⟨O,U,Y⟩:=aJt (l:=e.bM) AA;rw[L,U,M,Y];simp only[Af,Jq,mZ,aC3];cases J with
     |false=>exact .ret _
     |true=>
     cases O with
     |false=>exact .ret _
     |true=>
     simp only[EU,BO]
     have Z:decide ((BJ ((e.bD.length:Int)+(e.bM.length:Int)))>0)=(decide ((e.bD.length:Int)>0)||decide ((e.bM.length:Int)>0)):=by
      rw[NM AA AA];by_cases m:(e.bD.length:Int)>0
      ·rw[I5 m,I5 AA];rfl
      by_cases u:(e.bM.length:Int)>0
      ·rw[I5 u,I5 AA,JG]
      rw[Ht m,Ht u,Ht AA];rfl
     rw[Z];generalize(bif ((e.bD.length:Int)==0)then !e.Kind==1 else false)=p;generalize(bif (e.Kind==1)then(decide ((e.bD.length:Int)>0)||decide ((e.bM.length:Int)>0))else false)=q;cases p with
     |true=>exact .ret _
     |false=>
      cases q with
      |true=>exact .ret _
      |false=>exact C9.bind (aov e.Kind f.content) fun x=>.ret _
def aiF {e:AP} (j:Qd e):C9 (tY e) (W9 e):=by
 have f:=aod j;unfold tY W9 ZO;rw[show Yi e.Kind=YE e.Kind from rfl];simp only[aC3,bne,Jq,Af];refine C9.bif (fun _=>f _) fun _=>C9.bif (fun _=>f _) fun _=>?_;have m:∃b,YE e.Kind=some b:=by unfold YE;cases decide (e.Kind≥1)<;>cases decide (e.Kind≤10)<;>exact⟨_,rfl⟩
 obtain⟨b,q⟩:=m;rw[q];simp only[Af,aC3];refine C9.bif (fun _=>f _) fun _=>C9.bif (fun _=>?_) fun _=>f _;cases e.Kind==2 with
 |true=>exact f _
 |false=>exact f _
def aHK {e:AP} (f:Qk e):Zf e=some (ZU e==e.Hash)∧zl e=some (ZU e==e.Hash):=by
 unfold Zf zl;rw[(adf f).1,(adf f).2];exact⟨rfl,rfl⟩
def alA {e:AP} (f:Qk e) (v:Bool):C9 (Ya e v) (TD e v):=by
 have z:e.bF.size≤2000:=f.sender;unfold Ya TD;obtain⟨j,m⟩:=aBI f;obtain⟨q,u⟩:=vF (s:=e.bF) AA;rw[j,m,q,u];refine C9.bif (fun _=>.ret _) fun _=>?_;simp only[Af];refine C9.bif (fun _=>.ret _) fun _=>?_;unfold yC tu;show C9 (bif !((e.pR.Server.toList==(splitB e.bF (Jv e.bF)).2.1.toList)&&((e.pR.Sum==e.Id)&&true))then some 12 else some 0) _;simp only[bne];cases(e.pR.Server.toList==(splitB e.bF (Jv e.bF)).2.1.toList)<;>cases(e.pR.Sum==e.Id)<;>exact .ret _
def HY {a:Int} {c:Bool} {X:Option Int} (h:(bif c then some a else X)=some 0) (ha:a≠0):c=false∧X=some 0:=by
 cases c with
 |true=>exact absurd (CJ h) ha
 |false=>exact⟨rfl,h⟩
def Je {a:Int} {x:Option Int} (h:(bif a != 0 then some a else x)=some 0):a=0∧x=some 0:=by
 by_cases ha:a=0
 ·subst ha;exact⟨rfl,h⟩
 rw[show(a != 0)=true from by simpa using ha]at h;exact absurd (CJ h) ha
def firsts {α R:Type} {body:(Int→Option R)→Int→Option R} {ok:R} (l:List α) (L:l.length≤9223372036854775807) (P:Nat→Prop)
 (u:∀k (i:Nat),i<l.length→body k (i:Int)=some ok→P i∧k ((i+1:Nat):Int)=some ok) (q:Nat) (h:bn body BA (q:Int)=some ok):∀i,q≤i→i<l.length→P i:=by
 have key:∀n (i:Nat) m,i+n=l.length→n<m→bn body m (i:Int)=some ok→∀j,i≤j→j<l.length→P j:=by
  intro n
  induction n with
  |zero=>intro i m hi _ _ j f s;omega
  |succ n z=>
   intro i m hi M I j f s;obtain⟨m,rfl⟩:∃J,m=J+1:=⟨m-1,AA⟩
   obtain⟨a,b⟩:=u (bn body m) i AA I;rcases aFp f with rfl|f
   ·exact a
   exact z (i+1) m AA AA b j f s
 intro i f s;have O:BA=9223372036854775808:=rfl;exact key (l.length-q) q BA AA AA h i f s
def Za {α:Type} {l:List α} {Q:α→Prop} (h:∀i,0≤i→i<l.length→∀x,l[i]? =some x→Q x):∀x∈l,Q x:=fun x f=>by
 obtain⟨i,hi,rfl⟩:=Gj f;exact h i (EH _) hi _ (Df hi)
def ahT (s:ByteArray) (a b:Nat) (f:b≤s.size):(s.extract a b).size=b-a:=by rw[aDT];omega
def aLq {l:List Int} {p:Int→Bool} (h:OW l p=true):l.length≤32:=(aLy h).2
def kU {s:ByteArray} {m:Int} (h:Fv s m=true):s.size≤100:=by
 unfold Fv RP at h;simp only[CZ,G8]at h;have q:=h.2.1.1;have f:=aLq h.2.1.2
 have j:(Bg (QB s)).length≤32:=by
  have :=h.2.2;unfold X5 at this;simp only[CZ]at this;exact aLq this.1.1
 rw[Gg]at f j;unfold SS at f;unfold QB at j;rw[ahT _ _ _ AA]at f j;omega
def aJf {s:ByteArray} (j:s.size≤9223372036854775807) (h:Vy s=some 0):s.size≤100∧Fv s 64=true:=by
 rw[(Vp j).2]at h;have h:=CJ h;unfold P5 at h;cases f:Fv s 64 with
 |true=>exact⟨kU f,rfl⟩
 |false=>rw[f]at h;cases h
def als {s:ByteArray} (j:s.size≤9223372036854775807) (h:ZQ s=some 0):s.size≤100∧Fv s 33=true:=by
 rw[(iL j).2]at h;have h:=CJ h;unfold TU at h;cases f:Fv s 33 with
 |true=>exact⟨kU f,rfl⟩
 |false=>rw[f]at h;cases h
def acf {s:ByteArray} (f:s.size≤9223372036854775807) (h:aV s=some 0):s.size≤100:=by
 rw[(aE0 f).2]at h;have h:=CJ h;unfold aAC at h;split at h
 ·omega
 split at h
 ·cases h
 omega
def aJl {l:List ByteArray} (m:l.length≤9223372036854775807) (q:∀s∈l,s.size≤9223372036854775807) (h:NC l=some 0):l.length≤100∧∀s∈l,s.size≤100:=by
 unfold NC at h;obtain⟨u,h⟩:=HY h BU;refine⟨by have :=JW u;omega,Za (firsts l m (fun i=>∀x,l[i]? =some x→x.size≤100) (fun k i hi f=>?_) 0 h)⟩;unfold oZ at f;rw[DR hi]at f;obtain⟨x,z,f⟩:=CY f;obtain⟨e,f⟩:=Je f;subst e;rw[wrap_succ i AA]at f;exact⟨fun y j=>by rw[Df hi]at j;obtain rfl:=CJ j;exact acf (q _ (EC hi)) z,f⟩
def ail {c:Bo} (u:c.Allow.length≤9223372036854775807) (I:∀s∈c.Allow,s.size≤9223372036854775807) (h:Q5 c=some 0):c.Allow.length≤100∧∀s∈c.Allow,s.size≤100:=by
 unfold Q5 at h;obtain⟨x,_,h⟩:=CY h;obtain⟨_,h⟩:=HY h BU;obtain⟨J,h⟩:=HY h BU;refine⟨by have :=JW J;omega,Za (firsts c.Allow u (fun i=>∀x,c.Allow[i]? =some x→x.size≤100) (fun k i hi f=>?_) 0 h)⟩;unfold Yw kE at f;rw[DR hi]at f;obtain⟨x,L,f⟩:=CY f;obtain⟨e,f⟩:=HY f BU;have j:x=0:=TT
 subst j;refine⟨fun y m=>by rw[Df hi]at m;obtain rfl:=CJ m;exact(als (I _ (EC hi)) L).1,?_⟩;cases q:decide ((i:Int)>0)with
 |true=>
  rw[q,Bj]at f;obtain⟨y,_,f⟩:=CY f;obtain⟨z,_,f⟩:=CY f;obtain⟨_,f⟩:=HY f BU
  rwa [wrap_succ i AA]at f
 |false=>
  rw[q,BO,BO]at f
  rwa [wrap_succ i AA]at f
def aoe {l:List He} (L:l.length≤9223372036854775807) (M:∀u∈l,u.User.size≤9223372036854775807) (h:Wu l=some 0):l.length≤100∧∀u∈l,u.User.size≤100:=by
 unfold Wu at h;obtain⟨O,h⟩:=HY h BU;refine⟨by have :=JW O;omega,Za (firsts l L (fun i=>∀x,l[i]? =some x→x.User.size≤100) (fun k i hi j=>?_) 0 h)⟩
 have q:∀v,cO l (i:Int) k v=some 0→k ((i+1:Nat):Int)=some 0:=fun v f=>by
  unfold cO at f;obtain⟨_,f⟩:=HY f BU;obtain⟨y,_,f⟩:=CY f;obtain⟨z,_,f⟩:=CY f;obtain⟨_,f⟩:=HY f BU
  rwa [wrap_succ i AA]at f
 unfold oO at j;rw[DR hi]at j;obtain⟨x,s,U⟩:=CY j;obtain⟨e,hd⟩:=HY U BU;have m:x=0:=TT
 rw[m]at s;refine⟨fun y I=>by rw[Df hi]at I;obtain rfl:=CJ I;exact(aJf (M _ (EC hi)) s).1,?_⟩;cases J:decide ((i:Int)>0)with
 |true=>
  rw[J,Bj]at hd;obtain⟨y,_,Y⟩:=CY hd;obtain⟨z,_,Z⟩:=CY Y;exact q _ Z
 |false=>
  rw[J,BO]at hd;exact q _ hd
def ai8 {l:List IL} (h:Wj l=some 0):l.length≤100:=by
 unfold Wj at h;obtain⟨f,_⟩:=HY h BU;have :=JW f;omega
def empty_of {s:ByteArray} (h:(s.toList==BZ.toList)=true):s.size≤100:=by rw[aAR]at h;have :=eq_of_beq h;omega
def aeA {l:D9} (h:LP l=true):l.Users=[]∧l.Kinds=[]:=by
 unfold LP at h;simp only[CZ]at h;exact⟨Qh h.1.1.1.1.1.1.1.1,Qh h.1.1.1.1.1.1.1.2⟩
def ahQ {k:Int} {c:Bo} (I:Iq c) (h:FD k c=some 0):Ox c:=by
 unfold FD at h;rw[(Zk k).2,Af]at h;obtain⟨x2,L,h⟩:=CY h;obtain⟨e2,h⟩:=HY h BU;subst e2
 have q:RJ k c=some true:=by
  cases hk:(decide (k≥1)&&decide (k≤14))with
  |false=>rw[hk]at L;cases L
  |true=>
   rw[hk]at L;obtain⟨y,M,J⟩:=CY (show(RJ k c).bind (fun x4=>some (!x4))=some false from L);have J:=CJ J;cases y with
   |true=>exact M
   |false=>cases J
 obtain⟨x6,_,h⟩:=CY h;obtain⟨x7,O,h⟩:=CY h;cases x7 with
 |true=>
  have J:bI (c.Text.toList==BZ.toList) (c.N==0) (c.Target==0) (!c.Thread) (c.Via.toList==BZ.toList) ((c.Allow.length:Int)==0) ((c.gu.length:Int)==0) (LP c.Levels)=true:=by
   cases x6 with
   |false=>cases O
   |true=>rw[aIY]at O;exact CJ O
  unfold bI at J;simp only[CZ]at J;obtain⟨⟨⟨⟨⟨⟨⟨t1,_⟩,_⟩,_⟩,t5⟩,t6⟩,t7⟩,t8⟩:=J;have p:=aeA t8;have q1:=empty_of t1;have q2:=empty_of t5;have a1:=Qh t6;have a2:=Qh t7;refine⟨?_,?_,?_,?_,AA,AA,?_,?_,?_⟩<;>first|rw[a1]|rw[a2]|rw[p.1]|rw[p.2]
  all_goals first|exact EH _|exact fun x hx=>absurd hx GL
 |false=>
  rw[BO]at h;obtain⟨x11,f,h⟩:=CY h;obtain⟨e,h⟩:=Je h;subst e;obtain⟨OA,_,h⟩:=CY h;obtain⟨_,h⟩:=Je h;obtain⟨x15,_,h⟩:=CY h;obtain⟨_,h⟩:=Je h;obtain⟨x17,m,h⟩:=CY h;obtain⟨e,h⟩:=Je h;subst e
  have ht:c.Text.size≤2000:=by
   unfold SL at f;cases h9:k==9 with
   |true=>
    rw[h9,Bj]at f;cases Y:(c.Text.toList==BZ.toList)with
    |true=>have :=empty_of Y;omega
    |false=>
     rw[Y,BO]at f;obtain⟨y,M,f⟩:=CY f;obtain rfl:=CJ f;have :=acf I.text M;omega
   |false=>
    rw[h9,BO]at f;obtain⟨y,_,f⟩:=CY f;obtain⟨_,f⟩:=HY f BU;obtain⟨z,J,f⟩:=CY f;obtain⟨e,_⟩:=HY f BU;subst e;cases hd:decide ((c.Text.size:Int)>400)with
    |true=>rw[hd]at J;cases J
    |false=>have :=JW hd;omega
  have hv:c.Via.size≤2000:=by
   unfold SB at m;cases Y:(c.Via.toList==BZ.toList)with
   |true=>have :=empty_of Y;omega
   |false=>
    rw[Y,BO]at m;obtain⟨_,m⟩:=HY m BU;obtain⟨y,M,m⟩:=CY m;obtain rfl:=CJ m;have :=(aJf I.via M).1;omega
  have U:∀{l:List ByteArray},(∀s∈l,s.size≤100)→∀s∈l,s.size≤2000:=fun h s hs=>EZ (h s hs) AA;cases h4:k==4 with
  |true=>
   have e4:=eq_of_beq h4;subst e4;rw[TP,Bj]at h;obtain⟨y,M,h⟩:=CY h;obtain rfl:=CJ h;obtain⟨r1,r2⟩:=ail I.allow I.allows M;rw[Wh (K:=4) (c:=c) (show _=some false by kernel_rfl) (show _=some true by kernel_rfl) (show _=some false by kernel_rfl) (show _=some false by kernel_rfl) (show _=some false by kernel_rfl) (show _=some true by kernel_rfl) (show _=some false by kernel_rfl) (show _=some false by kernel_rfl)]at q;have Z:=CJ q;unfold Hw at Z;simp only[CZ,KA]at Z;have d:=Qh Z.1.2;have p:=aeA Z.2;refine⟨r1,?_,?_,?_,ht,hv,U r2,?_,?_⟩<;>first|rw[d]|rw[p.1]|rw[p.2]
   all_goals first|exact EH _|exact fun x hx=>absurd hx GL
  |false=>
   rw[h4,BO]at h;obtain⟨y1,hy1,h⟩:=CY h;obtain⟨e,h⟩:=Je h;subst e;obtain⟨y2,hy2,h⟩:=CY h;obtain⟨e,h⟩:=Je h;subst e;obtain⟨y3,j,h⟩:=CY h;obtain rfl:=CJ h;unfold St at j;obtain⟨z1,hz1,j⟩:=CY j;obtain⟨e,j⟩:=Je j;subst e;obtain⟨z2,hz2,j⟩:=CY j;obtain⟨e,j⟩:=Je j;subst e;obtain⟨a1,a2⟩:=aJl I.allow I.allows hy1;obtain⟨d1,d2⟩:=aJl I.deny I.denies hy2;obtain⟨u1,u2⟩:=aoe I.users I.names hz1;exact⟨a1,d1,u1,ai8 hz2,ht,hv,U a2,U d2,fun u hu=>EZ (u2 u hu) AA⟩
structure oz (e:AP):Prop where
 kind:1≤e.Kind∧e.Kind≤14
 state:e.State=Hq e.Kind
 keyed:e.Key=BZ∨e.Kind=2∨e.Kind=9
 room:Fv e.Room 33=true
 sender:Fv e.bF 64=true
 key:TA e.Kind e.Key=true
 time:0≤e.Time∧e.Time≤1000000000
 depth:1≤e.Depth∧e.Depth≤100000
 prev:e.bD.length≤10∧Inc e.bD∧∀x∈e.bD,0≤x
 auth:e.bM.length≤8∧Inc e.bM∧∀x∈e.bM,0≤x
 short:e.bD=[]→e.Kind=1
 form:e.Kind=1→e.bD=[]∧e.bM=[]
 content:FD e.Kind e.Content=some 0
 small:Qk e
def abe {l:List Int} (Y:l.length≤9223372036854775807) (h:ZK l=some true):Inc l∧∀x∈l,0≤x:=by
 unfold ZK aCR at h
 have m:=firsts l Y (fun i=>∀x,l[i]? =some x→0≤x∧∀y,0<i→l[i-1]? =some y→y<x) (fun k i hi f=>by
  have u:∀v,YW k (i:Int) v=some true→v=false∧k ((i+1:Nat):Int)=some true:=fun v z=>by
   unfold YW at z;cases v with
   |true=>cases z
   |false=>rw[BO,wrap_succ i AA]at z;exact⟨rfl,z⟩
  unfold aAA at f;rw[DR hi]at f;cases J:decide (l[i]<0)with
  |true=>rw[J,Bj]at f;cases(u _ f).1
  |false=>
   have Z:=JW J;rw[J,BO]at f;cases I:decide ((i:Int)>0)with
   |false=>
    have hp0:=JW I;rw[I,BO]at f;refine⟨fun x q=>?_,(u _ f).2⟩;rw[Df hi]at q;obtain rfl:=CJ q;exact⟨AA,fun y Z L=>AA⟩
   |true=>
    rw[I,Bj,D6 hi,Af,nY hi Y I,Af]at f;obtain⟨M,O⟩:=u _ f;refine⟨fun x q=>?_,O⟩;rw[Df hi]at q;obtain rfl:=CJ q;refine⟨AA,fun y Z L=>?_⟩;rw[Df AA]at L;obtain rfl:=CJ L
    have :=JW M;omega) 0 h
 have s:∀i,(hi:i+1<l.length)→l[i]<l[i+1]:=fun i hi=>(m (i+1) AA hi _ (Df hi)).2 _ AA (Df AA);refine⟨?_,fun x q=>?_⟩
 ·rw[Inc,KX];intro i j hi u U
  induction j with
  |zero=>omega
  |succ j ih=>
   have M:=s j u;rcases aFp (Nat.le_of_lt_succ U)with rfl|O
   ·exact M
   have :=ih AA O;omega
 obtain⟨i,hi,rfl⟩:=Gj q;exact(m i (EH _) hi _ (Df hi)).1
def jD {c:Bool} {X:Option Bool} {f:Bool→Option Int} {v:Int} (j:f true≠some v) (h:((bif c then some true else X).bind f)=some v):c=false∧X.bind f=some v:=by
 cases c with
 |true=>exact absurd h j
 |false=>exact⟨rfl,h⟩
def an8 {e:AP} (L:Qd e) (h:W9 e=some 0):oz e:=by
 unfold W9 at h;obtain⟨x1,f,h⟩:=CY h;obtain⟨e1,h⟩:=Je h;subst e1;obtain⟨x3,h3,h⟩:=CY h;obtain rfl:=CJ h;have I:=ahQ L.content h3
 have M:∀v,Py e v=some 0→v=false:=fun v hv=>by
  cases v with
  |true=>cases hv
  |false=>rfl
 have Z:Py e false=some 0∧(1≤e.Kind∧e.Kind≤14)∧e.State=Hq e.Kind∧(e.Key=BZ∨e.Kind=2∨e.Kind=9):=by
  unfold ZO at f;cases Y:decide (e.Kind<1)with
  |true=>rw[Y,Bj]at f;cases M _ f
  |false=>
   cases c2:decide (e.Kind>14)with
   |true=>rw[Y,c2,BO,Bj]at f;cases M _ f
   |false=>
    rw[Y,c2,BO,BO,arE,Af]at f;have k1:=JW Y;have k2:=JW c2;cases c3:(e.State==Hq e.Kind)with
    |false=>rw[c3,KI,Bj]at f;cases M _ f
    |true=>
     rw[c3,EU,BO]at f;refine⟨?_,⟨AA,AA⟩,eq_of_beq c3,?_⟩
     all_goals cases c4:(e.Key.toList==BZ.toList)with
     |true=>rw[c4,EU,BO]at f;first|exact f|exact .inl (toList_inj (eq_of_beq c4))
     |false=>
      rw[c4,KI,Bj]at f;cases c5:(e.Kind != 2)with
      |false=>rw[c5,BO]at f;first|exact f|exact .inr (.inl (by simpa using c5))
      |true=>
       rw[c5,Bj]at f;have :=M _ f;rw[this]at f
       first|exact f|exact .inr (.inr (by simpa using this))
 clear f M;obtain⟨f,hk,hst,O⟩:=Z;unfold Py at f;rw[BO,(iL (s:=e.Room) L.room).2,(Vp (s:=e.bF) L.sender).2,aa9 L.key]at f;simp only[Af]at f
 have m:Fv e.Room 33=true:=by
  cases J:Fv e.Room 33 with
  |true=>rfl
  |false=>unfold TU at f;rw[J]at f;cases f
 have r0:TU e.Room=0:=by unfold TU;rw[m];rfl
 rw[r0,Xi,BO,Af]at f
 have u:Fv e.bF 64=true:=by
  cases J:Fv e.bF 64 with
  |true=>rfl
  |false=>unfold P5 at f;rw[J]at f;cases f
 have u0:P5 e.bF=0:=by unfold P5;rw[u];rfl
 rw[u0,Xi,BO,Af]at f
 have j:TA e.Kind e.Key=true:=by
  cases J:TA e.Kind e.Key with
  |true=>rfl
  |false=>rw[J]at f;cases f
 rw[j,EU,BO]at f;obtain⟨t1,f⟩:=jD l9 f;rw[Af]at f;obtain⟨t2,f⟩:=jD l9 f;rw[Af]at f;obtain⟨t3,f⟩:=jD l9 f;rw[Af]at f;obtain⟨t4,f⟩:=HY f BU;obtain⟨t5,f⟩:=jD l9 f;rw[Af]at f;obtain⟨t6,f⟩:=HY f BU;obtain⟨x21,h21,f⟩:=CY f;obtain⟨t7,f⟩:=jD l9 f;rw[Option.bind_assoc]at f;obtain⟨x24,h24,f⟩:=CY f;rw[Af]at f;obtain⟨t8,f⟩:=HY f BU;obtain⟨Gl,U,f⟩:=CY f;obtain⟨t9,f⟩:=HY f BU;obtain⟨x29,z,f⟩:=CY f;obtain⟨t10,_⟩:=HY f BU;have e21:x21=true:=by simpa using t7
 have e24:x24=true:=by simpa using t8
 subst e21 e24 t9 t10;have p1:=JW t5;have p2:=JW t6;have r1:=abe L.prev h21;have r2:=abe L.auth h24;have d1:=JW t1;have d2:=JW t2;have d3:=JW t3;have d4:=JW t4
 have hkz:e.Key.size≤2000:=by
  rcases O with h|h|h
  ·rw[h];exact EH _
  ·unfold TA at j;rw[Ch h]at j;have :P5 e.Key=0:=MF
   unfold P5 at this;cases J:Fv e.Key 64 with
   |true=>have :=kU J;omega
   |false=>rw[J]at this;cases this
  unfold TA at j;rw[D8 AA,Ch h]at j;unfold jP at j;simp only[CZ,G8]at j;have :=j.1.2;omega
 have z1:=kU m;have z2:=kU u;refine⟨hk,hst,O,m,u,j,⟨AA,AA⟩,⟨AA,AA⟩,⟨AA,r1⟩,⟨AA,r2⟩,fun hp=>?_,fun hk1=>?_,h3,⟨?_,?_,I.allow,I.deny,I.users,I.kinds,?_,?_,hkz,I.text,I.via,EH _,I.allows,I.denies,I.names⟩⟩
 ·rw[hp]at U;have :=CJ U;simpa using this
 ·rw[hk1]at z;have z:((bif decide ((e.bD.length:Int)>0)then some true else some (decide ((e.bM.length:Int)>0))).bind fun x31=>some x31)=some false:=z;cases q:decide ((e.bD.length:Int)>0)with
  |true=>rw[q]at z;cases z
  |false=>
   rw[q]at z;have q2:=CJ z;have :=JW q;have :=JW q2;exact⟨GR AA,GR AA⟩
 ·show e.bD.length≤40;omega
 ·show e.bM.length≤40;omega
 ·show e.Room.size≤2000;omega
 show e.bF.size≤2000;omega
def abM {e:AP} (J:Qd e):∃c,uO e=some c∧Rq e=some c∧(c=0→oz e∧Gq e):=by
 obtain⟨x,z,m⟩:=aiF J;unfold uO Rq;rw[z,m,Af,Af];cases u:x != 0 with
 |true=>exact⟨x,rfl,rfl,fun h=>by subst h;cases u⟩
 |false=>
  obtain rfl:x=0:=Og
  have L:=an8 J m;have f:=L.small;have I:e.bF.size≤2000:=f.sender;rw[BO,BO,(aHK f).1,(aHK f).2,aMI _ f.content,aCk];simp only[Af];rw[afz _ f.content,aKr _ f.content];simp only[Af]
  have key:∀v,∃c,Ya e v=some c∧TD e v=some c∧(c=0→oz e∧Gq e):=fun v=>by
   obtain⟨c,j,O⟩:=alA f v;refine⟨c,j,O,fun U=>⟨L,?_⟩⟩;subst U;unfold Ya at j;obtain⟨_,j⟩:=HY j BU;rw[(aBI f).1,Af]at j;obtain⟨_,j⟩:=HY j BU;rw[(vF (s:=e.bF) AA).1,Af]at j;obtain⟨M,_⟩:=HY (show(bif !((e.pR.Server.toList==(splitB e.bF (Jv e.bF)).2.1.toList)&&((e.pR.Sum==e.Id)&&true))then some 12 else some 0)=some (0:Int)from j) BU
   have Y:e.pR.Server=(splitB e.bF (Jv e.bF)).2.1:=by
    cases q:(e.pR.Server.toList==(splitB e.bF (Jv e.bF)).2.1.toList)with
    |true=>exact toList_inj (eq_of_beq q)
    |false=>rw[q]at M;cases M
   have Z:=(akX e.bF I).2.2;exact⟨f.prev,f.auth,f.allow,f.deny,f.users,f.kinds,f.room,f.sender,f.key,f.text,f.via,by rw[Y];exact Z,f.allows,f.denies,f.names⟩
  cases(!(ZU e==e.Hash))with
  |true=>rw[Bj,Bj];exact key _
  |false=>rw[BO,BO];exact key _
def aHS {f g:(Int→Option Int)→Int→Option Int} (N lo:Nat) (u:∀k k' (i:Nat),lo≤i→i<N→C9 (k ((i+1:Nat):Int)) (k' ((i+1:Nat):Int))→C9 (f k (i:Int)) (g k' (i:Int))) (z:∀k k',C9 (f k (N:Int)) (g k' (N:Int))):
 ∀n (i:Nat),lo≤i→i+n=N→∀m j,n<m→n<j→C9 (bn f m (i:Int)) (bn g j (i:Int)):=by
 intro n
 induction n with
 |zero=>
  intro i s hi m j I J;obtain⟨m,rfl⟩:∃q,m=q+1:=⟨m-1,AA⟩
  obtain⟨j,rfl⟩:∃q,j=q+1:=⟨j-1,AA⟩
  have :i=N:=AA
  subst this;exact z _ _
 |succ n L=>
  intro i s hi m j I J;obtain⟨m,rfl⟩:∃q,m=q+1:=⟨m-1,AA⟩
  obtain⟨j,rfl⟩:∃q,j=q+1:=⟨j-1,AA⟩
  exact u _ _ i s AA (L (i+1) AA AA m j AA AA)
def lasts {R:Type} {body:(Int→Option R)→Int→Option R} {ok:R} (N:Nat) (M:N≤9223372036854775807) (P:Nat→Prop)
 (I:∀k (i:Nat),i<N→body k (i:Int)=some ok→P i∧k ((i+1:Nat):Int)=some ok) (f:Nat) (O:f≤N) (h:bn body BA (f:Int)=some ok):(∀i,f≤i→i<N→P i)∧∃k,body k (N:Int)=some ok:=by
 have key:∀n (i:Nat) m,i+n=N→n<m→bn body m (i:Int)=some ok→(∀j,i≤j→j<N→P j)∧∃k,body k (N:Int)=some ok:=by
  intro n
  induction n with
  |zero=>
   intro i m hi J s;obtain⟨m,rfl⟩:∃u,m=u+1:=⟨m-1,AA⟩
   have :i=N:=AA
   subst this;exact⟨fun j q z=>AA,_,s⟩
  |succ n L=>
   intro i m hi J s;obtain⟨m,rfl⟩:∃u,m=u+1:=⟨m-1,AA⟩
   obtain⟨a,b⟩:=I (bn body m) i AA s;obtain⟨c,d⟩:=L (i+1) m AA AA b;refine⟨fun j q z=>?_,d⟩;rcases aFp q with rfl|q
   ·exact a
   exact c j q z
 have U:BA=9223372036854775808:=rfl;exact key (N-f) f BA AA AA h
def adT {α:Type} {l:List α} {i:Nat} (h:i+1<l.length) (f:l.length≤1000000):BK l (BJ (((i+1:Nat):Int)-1))=some l[i]:=by
 rw[show BJ (((i+1:Nat):Int)-1)=(i:Int) by rw[nZ];omega,D6 AA]
def aj9 {l:List AP} (z:∀e∈l,Qd e) (Z:l.length≤1000):C9 (Ph l) (Oi l):=by
 by_cases s:l=[]
 ·subst s;exact⟨0,A8,A8⟩
 have f:0<l.length:=yV.2 s;have I:BA=9223372036854775807+1:=rfl
 have J:C9 (yY l 1) (uG l 1):=by
  unfold yY uG;refine aHS l.length 1 (fun k k' i q hi m=>?_) (fun k k'=>?_) (l.length-1) 1 (Dy _) AA BA BA AA AA
  ·obtain⟨i,rfl⟩:∃j,i=j+1:=⟨i-1,AA⟩
   unfold Fin qj;rw[DR hi,dec_lt hi,Bj,adT hi AA,Af,Af,D6 hi,Af,wrap_succ (i+1) AA];show C9 (bif decide (l[i+1].Id≤l[i].Id)then some 8 else k _) (bif decide (l[i].Id≥l[i+1].Id)then some 8 else k' _);exact C9.bif (fun _=>.ret _) fun _=>m
  unfold Fin qj;rw[EP];exact .ret _
 have u:BK l 0=some l[0]:=D6 (i:=0) f
 have L:C9 (jU l 0) (aBw l 1):=by
  have M:∀k,XI l k 0=k 1:=fun k=>by
   unfold XI;rw[show decide ((0:Int)<(l.length:Int))=true by simpa using f,Bj,u,Af,Af,TP];rfl
  have O:jU l 0=bn (XI l) 9223372036854775807 1:=by
   unfold jU;rw[I];exact M _
  rw[O];unfold aBw;refine aHS l.length 1 (fun k k' i q hi m=>?_) (fun k k'=>?_) (l.length-1) 1 (Dy _) AA _ BA AA AA
  ·unfold XI jy;rw[DR hi,DR hi,u,Af,Af,wrap_succ i AA];exact C9.bif (fun _=>.ret _) fun _=>m
  unfold XI jy;rw[EP];exact J
 unfold Ph Oi;rw[Ht (show ¬(l.length:Int)>2000 by omega),BO,BO];unfold aHj zu;refine aHS l.length 0 (fun k k' i _ hi m=>?_) (fun k k'=>?_) l.length 0 (Dy _) AA BA BA AA AA
 ·unfold oP Zr;obtain⟨c,U,Y,_⟩:=abM (z _ (EC hi));rw[DR hi,DR hi,U,Y,Af,Af,wrap_succ i AA];exact C9.bif (fun _=>.ret _) fun _=>m
 unfold oP Zr;rw[EP];exact L
structure TR (l:List AP):Prop where
 ev:∀e∈l,oz e∧Gq e
 room:∀x∈l,∀y∈l,x.Room=y.Room
 inc:Inc (l.map (·.Id))
def ako {f:Nat→Int}:∀(n i j:Nat),(∀k,i≤k→k<j→f k<f (k+1))→i+n=j→0<n→f i<f j:=by
 intro n
 induction n with
 |zero=>intro i j _ _ h;omega
 |succ n s=>
  intro i j h m _;rcases Z7 n with q|q
  ·subst q;rw[←m];exact h i (Dy _) AA
  have a:=h i (Dy _) AA;have b:=s (i+1) j (fun k z u=>h k AA u) AA q;omega
def aoF {l:List AP} (Z:∀e∈l,Qd e) (hl:l.length≤1000) (h:Ph l=some 0):TR l:=by
 unfold Ph at h;rw[Ht (show ¬(l.length:Int)>2000 by omega),BO]at h;unfold aHj at h
 obtain⟨p1,k1,h⟩:=lasts l.length AA (fun i=>∀x,l[i]? =some x→oz x∧Gq x) (fun k i hi m=>by
  unfold oP at m;obtain⟨c,c1,_,c3⟩:=abM (Z _ (EC hi));rw[DR hi,c1,Af,wrap_succ i AA]at m;obtain⟨e,m⟩:=Je m
  exact⟨fun x s=>by rw[Df hi]at s;obtain rfl:=CJ s;exact c3 e,m⟩) 0 (EH _) h
 unfold oP at h;rw[EP,BO]at h;unfold jU at h
 obtain⟨p2,k2,h⟩:=lasts l.length AA (fun i=>∀x y,l[i]? =some x→l[0]? =some y→x.Room=y.Room) (fun k i hi m=>by
  unfold XI at m;have g0:BK l 0=some l[0]:=D6 (i:=0) AA;rw[DR hi,g0,Af,wrap_succ i AA]at m;obtain⟨e,m⟩:=HY m BU;refine⟨fun x y s u=>?_,m⟩;rw[Df hi]at s;rw[Df AA]at u;obtain rfl:=CJ s;obtain rfl:=CJ u
  exact toList_inj TT) 0 (EH _) h
 unfold XI at h;rw[EP,BO]at h;refine⟨Za p1,fun x s y u=>?_,?_⟩
 ·have key:∀x∈l,∀y,l[0]? =some y→x.Room=y.Room:=Za fun i hi J x s y u=>p2 i hi J x y s u;have h0:0<l.length:=aFD s;have O:l[0]? =some l[0]:=Df h0;rw[key x s _ O,key y u _ O]
 by_cases U:l=[]
 ·subst U;exact .nil
 have I:0<l.length:=yV.2 U;unfold yY at h
 obtain⟨p3,_⟩:=lasts l.length AA (fun i=>∀j x y,i=j+1→l[i]? =some x→l[j]? =some y→y.Id<x.Id) (fun k i hi m=>by
  unfold Fin at m;rw[DR hi]at m;obtain⟨z,Y,m⟩:=CY m;obtain⟨e,m⟩:=HY m BU;rw[wrap_succ i AA]at m;refine⟨fun j x y L s u=>?_,m⟩;subst L;rw[adT hi AA]at Y;rw[Df hi]at s;rw[Df AA]at u;obtain rfl:=CJ s;obtain rfl:=CJ u;obtain rfl:=CJ Y
  have :=JW e;omega) 1 I h
 rw[Inc,List.pairwise_map,KX];intro i j hi L hij
 have :=ako (f:=fun q=>(l.getD q G5).Id) (j-i) i j (fun k h1 h2=>by
  have M:k+1<l.length:=AA
  have :=p3 (k+1) AA M k l[k+1] l[k] rfl (Df M) (Df AA)
  simpa[List.getD,Df M,Df (show k<l.length by omega)]using this) AA AA
 simpa[List.getD,Df hi,Df L]using this
def TR.ok {l:List AP} (h:TR l) (j:l.length≤100):MR l:=⟨j,fun e f=>(h.ev e f).2,ZA h.inc,fun e f=>(h.ev e f).1.depth⟩
def aK2 {l:List AP} (f:∀e∈l,Qd e) (q:l.length≤100):∃c,Ph l=some c∧Oi l=some c∧(c=0→TR l):=by
 obtain⟨c,j,m⟩:=aj9 f AA;exact⟨c,j,m,fun h=>aoF f AA (by rw[j,h])⟩
def aI {k:Int} {c:Bo} (Y:dZ k=some false) (h:FD k c=some 0):RJ k c=some true∧SL k c=some 0∧Jw k c.N=some 0∧Pm k c=some 0∧SB c=some 0∧
 (bif k==4 then Q5 c=some 0 else NC c.Allow=some 0∧NC c.gu=some 0∧St c.Levels=some 0):=by
 unfold FD at h;rw[(Zk k).2,Af,Y]at h;obtain⟨x2,f,h⟩:=CY h;obtain⟨Z,h⟩:=HY h BU;subst Z
 have j:RJ k c=some true:=by
  cases O:(decide (k≥1)&&decide (k≤14))with
  |false=>rw[O]at f;cases f
  |true=>
   rw[O]at f;obtain⟨y,m,q⟩:=CY (show(RJ k c).bind (fun x4=>some (!x4))=some false from f);have q:=CJ q;cases y with
   |true=>exact m
   |false=>cases q
 simp only[Af,BO]at h;obtain⟨x11,s,h⟩:=CY h;obtain⟨e,h⟩:=Je h;subst e;obtain⟨OA,u,h⟩:=CY h;obtain⟨e,h⟩:=Je h;subst e;obtain⟨x15,z,h⟩:=CY h;obtain⟨e,h⟩:=Je h;subst e;obtain⟨x17,I,h⟩:=CY h;obtain⟨e,h⟩:=Je h;subst e;refine⟨j,s,u,z,I,?_⟩;cases U:k==4 with
 |true=>
  rw[U,Bj]at h;obtain⟨y,m,h⟩:=CY h;obtain rfl:=CJ h;exact m
 |false=>
  rw[U,BO]at h;obtain⟨y1,J,h⟩:=CY h;obtain⟨e,h⟩:=Je h;subst e;obtain⟨y2,L,h⟩:=CY h;obtain⟨e,h⟩:=Je h;subst e;obtain⟨y3,M,h⟩:=CY h;obtain rfl:=CJ h;exact⟨J,L,M⟩
def aA {k:Int} {c:Bo} (m:1≤k∧k≤14) (q:dZ k=some false) (s:RJ k c=some true) (u:SL k c=some 0) (z:Jw k c.N=some 0) (I:Pm k c=some 0) (J:SB c=some 0)
 (f:bif k==4 then Q5 c=some 0 else NC c.Allow=some 0∧NC c.gu=some 0∧St c.Levels=some 0):FD k c=some 0:=by
 unfold FD;rw[(Zk k).2,Af,q,I5 (show k≥1 by omega),I5 m.2,s,u,z,I,J];cases j:k==4 with
 |true=>rw[j,Bj]at f;rw[f];rfl
 |false=>
  rw[j,BO]at f;rw[f.1,f.2.1,f.2.2];rfl
def anj {k:Int} {c:Bo} (q:1≤k∧k≤14) (h:FD k c=some 0):FD k (Hg k c)=some 0:=by
 by_cases L:k=1
 ·subst L;exact h
 by_cases M:k=2
 ·subst M;obtain⟨u,z,m,f,s,j⟩:=aI (k:=2) A8 h;refine aA q A8 ?_ A8 m A8 s ⟨A8,A8,A8⟩;rw[Wh (K:=2) (show _=some true by kernel_rfl) (show _=some true by kernel_rfl) (show _=some false by kernel_rfl) (show _=some false by kernel_rfl) (show _=some true by kernel_rfl) (show _=some false by kernel_rfl) (show _=some false by kernel_rfl) (show _=some false by kernel_rfl)];unfold Hw;simp only[JG];kernel_rfl
 by_cases O:k=3
 ·subst O;obtain⟨u,z,m,f,s,j⟩:=aI (k:=3) A8 h;refine aA q A8 ?_ A8 A8 A8 A8 ⟨A8,A8,j.2.2⟩;rw[Wh (K:=3) (show _=some false by kernel_rfl) (show _=some false by kernel_rfl) (show _=some false by kernel_rfl) (show _=some false by kernel_rfl) (show _=some false by kernel_rfl) (show _=some false by kernel_rfl) (show _=some false by kernel_rfl) (show _=some true by kernel_rfl)];unfold Hw;simp only[JG];kernel_rfl
 by_cases U:k=4
 ·subst U;obtain⟨u,z,m,f,s,j⟩:=aI (k:=4) A8 h
  have hr:Q5 (Hg 4 c)=some 0:=by
   have j:Q5 c=some 0:=j
   have hB:Yw (Hg 4 c)=Yw c:=by
    funext k i;unfold Yw;rfl
   have e1:(Hg 4 c).Allow=c.Allow:=rfl;have e2:(Hg 4 c).N=c.N:=rfl;rw[←j];unfold Q5 aFI;rw[e1,e2,hB]
  refine aA q A8 ?_ A8 m A8 A8 hr;rw[Wh (K:=4) (show _=some false by kernel_rfl) (show _=some true by kernel_rfl) (show _=some false by kernel_rfl) (show _=some false by kernel_rfl) (show _=some false by kernel_rfl) (show _=some true by kernel_rfl) (show _=some false by kernel_rfl) (show _=some false by kernel_rfl)];unfold Hw;simp only[JG];kernel_rfl
 by_cases Y:k=5
 ·subst Y;obtain⟨u,z,m,f,s,j⟩:=aI (k:=5) A8 h;refine aA q A8 ?_ A8 m A8 A8 ⟨A8,A8,A8⟩;rw[Wh (K:=5) (show _=some false by kernel_rfl) (show _=some true by kernel_rfl) (show _=some false by kernel_rfl) (show _=some false by kernel_rfl) (show _=some false by kernel_rfl) (show _=some false by kernel_rfl) (show _=some false by kernel_rfl) (show _=some false by kernel_rfl)];unfold Hw;simp only[JG];kernel_rfl
 by_cases Z:k=6
 ·subst Z;obtain⟨u,z,m,f,s,j⟩:=aI (k:=6) A8 h;refine aA q A8 ?_ A8 A8 A8 A8 ⟨j.1,j.2.1,A8⟩;rw[Wh (K:=6) (show _=some false by kernel_rfl) (show _=some false by kernel_rfl) (show _=some false by kernel_rfl) (show _=some false by kernel_rfl) (show _=some false by kernel_rfl) (show _=some true by kernel_rfl) (show _=some true by kernel_rfl) (show _=some false by kernel_rfl)];unfold Hw;simp only[JG];kernel_rfl
 by_cases I:k=14
 ·subst I;obtain⟨u,z,m,f,s,j⟩:=aI (k:=14) A8 h;refine aA q A8 ?_ A8 A8 ?_ A8 ⟨A8,A8,A8⟩
  ·rw[Wh (K:=14) (show _=some true by kernel_rfl) (show _=some false by kernel_rfl) (show _=some true by kernel_rfl) (show _=some false by kernel_rfl) (show _=some false by kernel_rfl) (show _=some false by kernel_rfl) (show _=some false by kernel_rfl) (show _=some false by kernel_rfl)];unfold Hw;simp only[JG];kernel_rfl
  unfold Pm at f ⊢;obtain⟨x1,q1,f⟩:=CY f;obtain⟨x2,q2,f⟩:=CY f;obtain⟨e,_⟩:=HY f BU;subst e;rw[q1,Af];have :(bif x1 then(bif decide ((Hg 14 c).Target<0)then some true else(bif (Hg 14 c).Target==0 then some ((14:Int) != 11)else some false).bind fun x6=>some x6).bind fun x4=>some x4 else some false)=some false:=q2;rw[this];rfl
 have hz:Hg k c=DW:=by unfold Hg;simp only[L,M,O,U,Y,Z,I,Ip]
 rw[hz];have J:k=7∨k=8∨k=9∨k=10∨k=11∨k=12∨k=13:=AA
 rcases J with rfl|rfl|rfl|rfl|rfl|rfl|rfl
 ·exact(show FD 7 DW=some 0 by kernel_rfl)
 ·exact(show FD 8 DW=some 0 by kernel_rfl)
 ·exact(show FD 9 DW=some 0 by kernel_rfl)
 ·exact(show FD 10 DW=some 0 by kernel_rfl)
 ·exact(show FD 11 DW=some 0 by kernel_rfl)
 ·exact(show FD 12 DW=some 0 by kernel_rfl)
 exact(show FD 13 DW=some 0 by kernel_rfl)
def abz (k:Int) (c:Bo):Hg k (Hg k c)=Hg k c:=by
 by_cases j:k=1
 ·subst j;rfl
 by_cases m:k=2
 ·subst m;rfl
 by_cases q:k=3
 ·subst q;rfl
 by_cases s:k=4
 ·subst s;rfl
 by_cases u:k=5
 ·subst u;rfl
 by_cases z:k=6
 ·subst z;rfl
 by_cases f:k=14
 ·subst f;rfl
 unfold Hg;simp only[j,m,q,s,u,z,f,Ip]
def amJ (e:AP):JJ e (Kt e):=by
 refine⟨rfl,rfl,rfl,rfl,rfl,rfl,rfl,rfl,rfl,fun h=>?_,fun h=>?_⟩
 ·show(Hg e.Kind e.Content).N=_;rcases h with h|h<;>rw[h]<;>rfl
 show(Hg e.Kind e.Content).Levels=_;rw[h];rfl
def aKc {e:AP} (h:Gq e):Gq (Kt e):=by
 have f:=h.content.strip e.Kind;exact⟨h.prev,h.auth,f.allow,f.deny,f.users,f.kinds,h.room,h.sender,h.key,f.text,f.via,h.server,f.allows,f.denies,f.names⟩
def zf {α:Type} {p:α→α→Bool} (f:∀x,p x x=true) (a:List α):KO p a a=true:=by
 unfold KO;rw[TP,Fr]
 have :((a.zip a).any fun x=> !p x.1 x.2)=false:=by
  rw[aAW];intro x j
  have :x.1=x.2:=by
   obtain⟨i,hi,rfl⟩:=Gj j;rw[aCt]
  rw[this,f];simp
 rw[this];rfl
def aia (a:Bo):fU a a=true:=by
 unfold fU mX ql;rw[zf (p:=Ri) fun x=>TP _,zf (p:=Ri) fun x=>TP _,zf (p:=Qg) fun x=>by unfold Qg;simp,zf (p:=Pg) fun x=>by unfold Pg;simp];simp
def apo {e:AP} (I:1≤e.Kind∧e.Kind≤14) (q:Gq e) (h:Rq e=some 0):Rq (Kt e)=some 0:=by
 have m:=aKc q
 have s:qL (Kt e)=qL e:=by
  have :YM (Kt e)=YM e:=by
   unfold YM Kt;show({ { e with Content:=Hg e.Kind (Hg e.Kind e.Content),Id:=0,pR:=WX }with Id:=0 }:AP)=_;rw[abz]
  unfold qL;rw[this]
 have J:e.bF.size≤2000:=q.sender
 have u:∀v,TD e v=some 0→TD (Kt e) false=some 0:=fun v f=>by
  unfold TD at f ⊢;obtain⟨_,f⟩:=HY f BU;rw[(aBI q.x).2]at f;rw[(aBI m.x).2,s];exact f
 unfold Rq at h ⊢;obtain⟨x1,j,h⟩:=CY h;obtain⟨L,h⟩:=Je h;subst L
 have M:W9 (Kt e)=some 0:=by
  unfold W9 at j ⊢;obtain⟨y1,O,j⟩:=CY j;obtain⟨U,j⟩:=Je j;subst U;obtain⟨y2,Y,j⟩:=CY j;obtain rfl:=CJ j;have Z:ZO (Kt e)=ZO e:=rfl;rw[Z,O];show(FD e.Kind (Hg e.Kind e.Content)).bind _=_;rw[anj I Y];rfl
 have f:∃v,TD e v=some 0:=by
  obtain⟨z,_,h⟩:=CY h;cases z with
  |false=>
   rw[KI,Bj]at h;obtain⟨_,_,h⟩:=CY h;obtain⟨_,_,h⟩:=CY h;exact⟨_,h⟩
  |true=>exact⟨false,h⟩
 obtain⟨v,f⟩:=f;have u:=u v f;rw[M,Af,Xi,BO,(aHK m.x).2,Af,aCk,Af];have ht:Hg (Kt e).Kind (Kt e).Content=(Kt e).Content:=abz ..;rw[ht,aKr _ m.content,aia,Af,EU,u];cases(!(ZU (Kt e)==(Kt e).Hash))<;>rfl
structure XB (l k:List AP):Prop where
 len:k.length=l.length
 at_:∀i (h:i<l.length) (h':i<k.length),k[i]=l[i]∨k[i]=Kt l[i]
def XB.sim {l k:List AP} (h:XB l k) {i:Nat} (hi:i<l.length) (f:i<k.length):JJ l[i] k[i]:=by
 rcases h.at_ i hi f with e|e<;>rw[e]
 ·exact .refl _
 exact amJ _
def aHY {R:Type} {f g:(Int→Option R)→Int→Option R} (s n:Nat) (J:s≤n+1) (q:n+1<BA) (h:∀k k' (i:Nat),s≤i→i<n→k ((i+1:Nat):Int)=k' ((i+1:Nat):Int)→f k (i:Int)=g k' (i:Int)) (j:∀k k' (i:Nat),n≤i→f k (i:Int)=g k' (i:Int)):bn f BA (s:Int)=bn g BA (s:Int):=by
 have key:∀m (i:Nat),s≤i→i+m=n+1→∀a,m<a→bn f a (i:Int)=bn g a (i:Int):=by
  intro m
  induction m with
  |zero=>
   intro i hi u a ha;obtain⟨a,rfl⟩:∃a',a=a'+1:=⟨a-1,AA⟩
   exact j _ _ i AA
  |succ m z=>
   intro i hi u a ha;obtain⟨a,rfl⟩:∃a',a=a'+1:=⟨a-1,AA⟩
   by_cases I:i<n
   ·exact h _ _ i hi I (z (i+1) AA AA a AA)
   exact j _ _ i AA
 exact key (n+1-s) s (Dy _) AA BA AA
def aDJ {i n:Nat} (h:n≤i):decide ((i:Int)<(n:Int))=false:=Ht AA
def aiD {l:List AP} (j:Oi l=some 0) (u:l.length≤100):∀x∈l,Rq x=some 0:=by
 unfold Oi at j;obtain⟨_,h⟩:=HY j BU;unfold zu at h
 obtain⟨q,_⟩:=lasts l.length AA (fun i=>∀x,l[i]? =some x→Rq x=some 0) (fun k i hi f=>by
  unfold Zr at f;rw[DR hi]at f;obtain⟨y,s,f⟩:=CY f;obtain⟨e,f⟩:=Je f;subst e;rw[wrap_succ i AA]at f
  exact⟨fun x m=>by rw[Df hi]at m;obtain rfl:=CJ m;exact s,f⟩) 0 (EH _) h
 exact Za q
def aqe {l k:List AP} (h:XB l k) (J:TR l) (U:l.length≤100) (L:Oi l=some 0):Oi k=some 0:=by
 have hlen:=h.len
 have m:∀i (hi:i<l.length),Rq l[i]=some 0:=fun i hi=>by
  exact aiD L U _ (EC hi)
 rw[←L];unfold Oi;rw[hlen];congr 1;unfold zu;refine aHY (s:=0) (n:=l.length) AA (fuel_lt AA) (fun a b i _ hi e=>?_) fun a b i hi=>?_
 ·have f:i<k.length:=AA
  unfold Zr;rw[DR hi,hlen,dec_lt hi,Bj,D6 f,Af,m i hi]
  have :Rq k[i]=some 0:=by
   rcases h.at_ i hi f with q|q<;>rw[q]
   ·exact m i hi
   exact apo (J.ev _ (EC hi)).1.kind (J.ev _ (EC hi)).2 (m i hi)
  rw[this,Af,Af,Xi,BO,BO,wrap_succ i AA,e]
 unfold Zr;rw[hlen,aDJ hi,BO,BO];unfold aBw;refine aHY (s:=1) (n:=l.length) AA (fuel_lt AA) (fun a b i Y hi e=>?_) fun a b i hi=>?_
 ·have f:i<k.length:=AA
  have M:0<l.length:=AA
  have u:0<k.length:=AA
  have z:BK l 0=some l[0]:=D6 M;have Z:BK k 0=some k[0]:=D6 u;unfold jy;rw[DR hi,hlen,dec_lt hi,Bj,D6 f,Af,z,Z,Af,Af,(h.sim hi f).room,(h.sim M u).room,wrap_succ i AA,e]
 unfold jy;rw[hlen,aDJ hi,BO,BO];unfold uG;refine aHY (s:=1) (n:=l.length) AA (fuel_lt AA) (fun a b i Y hi e=>?_) fun a b i hi=>?_
 ·have f:i<k.length:=AA
  obtain⟨j,rfl⟩:∃j,i=j+1:=⟨i-1,AA⟩
  have hw:BJ (((j+1:Nat):Int)-1)=(j:Int):=by rw[show((j+1:Nat):Int)-1=(j:Int) by omega];exact NM AA AA
  have O:j<l.length:=AA
  have I:j<k.length:=AA
  unfold qj;rw[hlen,dec_lt hi,Bj,Bj,hw,D6 O,D6 I,D6 hi,D6 f];simp only[Af];rw[(h.sim hi f).id,(h.sim O I).id,wrap_succ (j+1) AA,e]
 unfold qj;rw[hlen,aDJ hi,BO,BO]
def adL {l k:List AP} (h:XB l k):k.map (·.Id)=l.map (·.Id):=by
 refine ZW (by simp[h.len]) fun i f j=>?_;rw[Cb]at f j;rw[QC,QC,(h.sim j f).id]
def aoY {l k:List AP} (h:XB l k) (m:TR l):∀e∈k,Gq e:=fun e s=>by
 obtain⟨i,hi,rfl⟩:=Gj s;have f:i<l.length:=aCc
 have j:=(m.ev _ (EC f)).2;rcases h.at_ i f hi with q|q<;>rw[q]
 ·exact j
 exact aKc j
def yZ {l k:List AP} (h:XB l k) (s:(l.map (·.Id)).Nodup) {x:Int} (m:x∈l.map (·.Id)):dM l x=true∧dM k x=true∧JJ (ev l x) (ev k x)∧ev l x∈l∧ev k x∈k:=by
 have hi:=adL h;obtain⟨e,z,rfl⟩:=F8.1 m;obtain⟨i,f,rfl⟩:=Gj z;have j:i<k.length:=by rw[h.len];exact f
 have u:=h.sim f j;have q:(k.map (·.Id)).Nodup:=by rw[hi];exact s
 have I:ev l l[i].Id=l[i]:=aET s (EC f);have J:ev k l[i].Id=k[i]:=by rw[←u.id];exact aET q (EC j)
 rw[I,J];exact⟨P9.2 m,P9.2 (by rw[hi];exact m),u,EC f,EC j⟩
structure aGw (l k:List AP):Prop where
 ref:Oi k=some 0
 prog:Ph k=some 0
 facts:TR k
 deep:II k=0
 ids:k.map (·.Id)=l.map (·.Id)
 agr:Fl l k (l.map (·.Id))
def ajg {l k:List AP} (h:XB l k) (U:TR l) (hl:l.length≤100) (hc:Oi l=some 0) (hd:II l=0):aGw l k:=by
 have I:=aqe h U hl hc;obtain⟨c,c1,c2,c3⟩:=aK2 (l:=k) (fun e J=>(aoY h U e J).wide) (by rw[h.len];exact hl);obtain rfl:c=0:=CJ (c2.symm.trans I);have L:=ZA U.inc;have j:=adL h;have q:∀x,dM k x=dM l x:=fun x=>by rw[Oa,P9,P9,j]
 have M:∀x,FC k x=FC l x:=fun x=>by
  show(ev k x).Depth=(ev l x).Depth;by_cases s:x∈l.map (·.Id)
  ·exact(yZ h L s).2.2.1.depth
  have n1:dM l x=false:=by cases hq:dM l x with
   |true=>exact absurd (P9.1 hq) s
   |false=>rfl
  have n2:dM k x=false:=by rw[q];exact n1
  have z:∀{m:List AP},dM m x=false→ev m x=G5:=fun{m} Y=>by
   unfold dM at Y
   have :EM m x=none:=by cases hg:EM m x with
    |none=>rfl
    |some e=>rw[hg]at Y;cases Y
   unfold ev;rw[RH this]
  rw[z n1,z n2]
 refine⟨I,c1,c3 rfl,?_,j,⟨L,fun x s=>?_,fun x s a ha=>?_,fun x s a ha=>?_⟩⟩
 ·unfold II at hd ⊢;cases O:Qa l with
  |false=>rw[O]at hd;cases hd
  |true=>
   rw[O,Bj]at hd;cases Z:l.all (Nb l)with
   |false=>rw[Z]at hd;cases hd
   |true=>
    have hcl:Qa k=true:=by
     unfold Qa at O ⊢;rw[DZ]at O ⊢;intro e J;obtain⟨i,hi,rfl⟩:=Gj J;have f:i<l.length:=aCc
     have :=O _ (EC f);have u:=h.sim f hi;unfold RD at this ⊢;rw[u.prev,u.auth,show dM k=dM l from funext q];exact this
    have hdp:k.all (Nb k)=true:=by
     rw[DZ]at Z ⊢;intro e J;obtain⟨i,hi,rfl⟩:=Gj J;have f:i<l.length:=aCc
     have :=Z _ (EC f);have u:=h.sim f hi;unfold Nb at this ⊢;rw[u.prev,u.auth,u.depth,show FC k=FC l from funext M];exact this
    rw[hcl,hdp];rfl
 ·obtain⟨a,b,c,_⟩:=yZ h L s;exact⟨a,b,c⟩
 ·exact P9.1 ((rJ hd (yZ h L s).2.2.2.1).2 a ha).1
 exact P9.1 ((rJ hd (yZ h L s).2.2.2.1).1 a ha).1
def ajU {l k:List AP} (h:aGw l k) (J:TR l) (L:l.length≤100) (q:k.length≤100) (hd:II l=0):(∀x,EF (Dk k) x=EF (Dk l) x)∧RU k (Dk k)=RU l (Dk l)∧H7 k (Dk k)=H7 l (Dk l):=by
 have s:=J.ok L;have j:=h.facts.ok q;have M:=abq h.agr s hd j h.deep
 have u:∀x,EF (Dk k) x=EF (Dk l) x:=fun x=>by
  by_cases f:x∈l.map (·.Id)
  ·exact(M x f).1
  have z:∀{m:List AP},x∉m.map (·.Id)→EF (Dk m) x=none:=fun{m} O=>by
   rw[lK,abX];exact fun U=>O (P9.1 (dB.1 U))
  rw[z f,z (by rw[h.ids];exact f)]
 have I:H7 k (Dk k)=H7 l (Dk l):=by
  rw[aHJ,aHJ,h.ids];exact Xn fun x _=>by unfold JM;rw[u]
 exact⟨u,asY h.agr s hd j h.deep (fun x f=>by rw[aHJ]at f;exact(FK.1 f).1) I,I⟩
def aJu :wO=some true:=A8
def Xx (t:List Dp) (x:Int):List Aw×Int:=match EF t x with
 |some y=>(y.before,bif y.err != 0 then 2 else 4)
 |none=>([],0)
section
variable {l : List AP} {c : Int}
def ab2 (m:Ph l=some c) (h:c=0→MR l) (id:Int):Vu l id=some (Xx (VF l c) id):=by
 unfold Vu;refine gK.eq ((run_eq l m h).bind fun o q=>?_);rcases q with⟨f,rfl⟩|⟨f,_,T,rfl,j⟩
 ·rw[f];exact .ret rfl
 rw[f];simp only[UE];unfold qM yM Xx;rw[j.r,j.b];cases EF (Dk l) id with
 |none=>exact .ret rfl
 |some y=>
  show gK ((bif y.err != 0 then some 2 else some 4).bind fun s=>some (y.before,s)) (fun r=>r=(y.before,bif y.err != 0 then 2 else 4));cases y.err != 0<;>exact .ret rfl
end
def an7 {l:List AP} {t:List Dp} (h:LY l t) {x:Int} {y:Dp} (f:EF t x=some y):Hd l y.before∧Hd l y.after:=h y (Qm f)
def akQ (x:Int):(x != x)=false:=Xi x
def aJs {l:List AP} {c:Int} (j:Oi l=some c) (h:c=0→MR l):nP l=some (c==0&&II l==0):=by
 unfold nP;rw[j,Af];cases m:c==0 with
 |false=>rfl
 |true=>
  have f:=h (eq_of_beq m);rw[Bj,aji l f.len f.small f.dep];rfl
def aHL {l:List AP} (hd:II l=0):VF l 0=Dk l:=by unfold VF;rw[hd];rfl
def ahB (w:Int) (i:Nat) (hi:i<1000):∃z,Kv .shr .u16 w (IntKind.u64.wrap (i:Int))=some z:=by
 unfold Kv;rw[Yb,D8 AA];exact⟨_,rfl⟩
def aor {l k:List AP} (j:aGw l k) (z:TR l) (hl:l.length≤14) (hk:k.length=l.length) (I:Ph l=some 0) (hd:II l=0):aAS l k 0=some true:=by
 obtain⟨U,Y,_⟩:=ajU j z AA AA hd;have q:=z.ok AA;have m:=j.facts.ok AA;have J:=ab2 I fun _=>q;have L:=ab2 j.prog fun _=>m;have M:=abg I fun _=>q;have O:=abg j.prog fun _=>m;rw[aHL hd]at J M;rw[aHL j.deep]at L O;have s:∀x,Xx (Dk k) x=Xx (Dk l) x:=fun x=>by unfold Xx;rw[U]
 have Z:Hd l (RU l (Dk l)):=by have :=ap0 (l:=l) (c:=0) fun _=>q;rwa [aHL hd]at this
 have hpl:=Z.length
 have u:∀x,(Xx (Dk l) x).1.length≤l.length:=fun x=>by
  unfold Xx;cases hy:EF (Dk l) x with
  |none=>exact EH _
  |some y=>exact(an7 (aDD q) hy).1.length
 unfold aAS;refine gK.eq (aGT l.length (fuel_lt AA) (fun _=>True) trivial (fun i f hi _ hf=>?_) fun f _=>?_)
 ·have h1:=u l[i].Id;unfold aD6;rw[DR hi,J,Af,D6 hi,Af,L,Af,s,adE _ AA];simp only[akQ,BO,Af,EU,wrap_succ i (show i<9223372036854775807 by omega)];exact hf trivial
 unfold aD6;rw[EP,BO,M,O,Y,Af,Af,adE _ AA,aJu];exact .ret rfl
def aqQ {l:List AP} (Y:∀e∈l,Qd e) (w:Int):aBv l w=some true:=by
 unfold aBv aII;rw[aJu,Af];by_cases Z:l.length≤14
 ·rw[I5 (show(l.length:Int)≤14 by omega)];obtain⟨c,c1,M,O⟩:=aK2 Y AA;have ho:c=0→MR l:=fun h0=>(O h0).ok AA;rw[aJs M ho];cases s:(c==0&&II l==0)with
  |false=>rfl
  |true=>
   rw[CZ]at s;obtain rfl:c=0:=eq_of_beq s.1;have hd:II l=0:=eq_of_beq s.2;have u:=O rfl;rw[Ef Vs];show aIH w l 0 ([]++l)=some true;rw[J4];unfold aIH;refine gK.eq (Vl (body:=aGf w l) (Q:=(· =true)) (fun n a b=>∃i:Nat,a=i∧i+n=l.length∧XB l b∧∀j,i≤j→b[j]? =l[j]?) ?_ BA l.length 0 l (fuel_lt AA) ⟨0,rfl,AA,⟨rfl,fun i h h'=>.inl rfl⟩,fun _ _=>rfl⟩);rintro n a b k ⟨i,rfl,hn,m,I⟩ U;have hlen:=m.len;unfold aGf;by_cases hi:i<l.length
   ·have f:i<b.length:=AA
    have J:b[i]=l[i]:=by
     have :=I i (Dy _);rw[Df f,Df hi]at this;exact CJ this
    obtain⟨z,hz⟩:=ahB w i AA;have L:=(aMp (u.ev _ (EC hi)).2.x).1;rw[dec_lt f,Bj,hz,Af];unfold zB;rw[wrap_succ i AA];cases Du .and .u16 z 1==1 with
    |true=>
     rw[Bj,D6 f,Af,J,L,Af,Af,YI];refine U (n-1) _ _ AA ⟨i+1,rfl,AA,⟨by rw[WY];exact hlen,fun j h h'=>?_⟩,fun j hj=>?_⟩
     ·rw[List.getElem_set];split
      ·rename_i e;subst e;exact .inr rfl
      exact m.at_ j h (by rw[WY]at h';exact h')
     rw[VI AA];exact I j AA
    |false=>exact U (n-1) _ _ AA ⟨i+1,rfl,AA,m,fun j hj=>I j AA⟩
   have f:¬i<b.length:=AA
   have q:=ajg m u AA M hd;rw[Ht AA,BO,aJs q.ref fun _=>q.facts.ok AA,q.deep];show gK (aAS l b 0) _;rw[aor q u Z hlen c1 hd];exact .ret rfl
 rw[Ht (show ¬(l.length:Int)≤14 by omega)];rfl
end Go.Proofs.YtolgdkhlelfpoaaGreat
end
