/- Part 6 of what the laws' proofs lean on: states of the walk, typed functions of the program and their laws (short forms written by wip/shrink.py; no condition). -/
import Derived.Test.YtolgdkhlelfpoaaGreatRj5
set_option linter.defProp false
set_option linter.unnecessarySimpa false
set_option linter.unusedVariables false
set_option linter.unusedSimpArgs false
section
namespace Go.Proofs.YtolgdkhlelfpoaaGreat
open Go.RowKit
def TA (l:List AU) (e:AU):Bool:=e.bD.all (dM l)&&e.bJ.all (dM l)
def Uf (l:List AU):Bool:=l.all (TA l)
def Y1 {α:Type} {l:List α} {p:α→Bool} {x:α} (h:x∈l) (f:p x=false):l.all p=false:=by
 rw[←Jb,Dk];exact fun j=>by rw[j x h]at f;cases f
def all_good {α:Type} {l:List α} {p:α→Bool} (h:∀j,(hj:j<l.length)→p l[j]=true):l.all p=true:=Dk.2 (aew h)
def aLY (f:List Int) (l:List AU) (m:List (Int×Int)) (h:WE l m) (j:f.length≤1000):ku f m=some (f.all (dM l)):=by
 unfold ku aIf;rw[IC f (fuel_lt AL) (fun x=> !dM l x) false (some true)]
 ·rw[List.all_eq_not_any_not];cases(f.any fun x=> !dM l x)<;>rfl
 ·intro k i hi;unfold aCS;rw[DW hi,h.isSome]
 intro k;unfold aCS;rw[EP]
def akH (l:List AU) (hl:l.length≤100) (J:EM l):yM l=some (Uf l):=by
 refine gy.eq ?_;unfold yM;refine(uj l AL).bind fun m u=>?_;unfold aLl;refine YE (body:=aHI l) (Q:=fun b=>b=Uf l) (fun n a b=>∃i:Nat,a=i∧i+n=l.length∧b=m∧∀j,(f:j<i)→(hl:j<l.length)→TA l l[j]=true) ?_ BA l.length 0 m (fuel_lt AL) ⟨0,rfl,AL,rfl,fun j f=>AL⟩;rintro n a b k ⟨i,rfl,M,rfl,z⟩ L;unfold aHI;by_cases hi:i<l.length
 ·have I:=J l[i] (Eh hi);have O:=I.prev;have U:=I.auth;rw[DW hi,aLY _ l b u AL,Af,DI hi,Af,aLY _ l b u AL];cases q:l[i].bD.all (dM l)with
  |false=>exact .ret (Y1 (Eh hi) (by unfold TA;rw[q];rfl)).symm
  |true=>
   cases ha:l[i].bJ.all (dM l)with
   |false=>exact .ret (Y1 (Eh hi) (by unfold TA;rw[q,ha];rfl)).symm
   |true=>
    refine L (n-1) _ _ AL ⟨i+1,wrap_succ i AL,AL,rfl,fun j f s=>?_⟩;by_cases e:j=i
    ·subst e;unfold TA;rw[q,ha];rfl
    exact z j AL s
 have :i=l.length:=AL
 subst this;rw[EP];exact .ret (all_good fun j f=>z j f f).symm
def Xi (l:List AU):List Int:=l.foldl (fun r e=>e.bJ.foldl put (e.bD.foldl put r)) []
def amc {l:List AU} {i:Nat} (hi:i<l.length) (f:List Int→Int→Option (List Int)) (v:List Int) (s:Inc v) (hl:v.length≤900000) (ha:l[i].bJ.length≤40):
 uO l (i:Int) f v 0=f (l[i].bJ.foldl put v) (BI ((i:Int)+1)):=by
 unfold uO;rw[KI l[i].bJ AL put (fun j a=>Inc a∧a.length≤v.length+j) (fun a=>f a (BI ((i:Int)+1))) ⟨s,AL⟩]
 ·intro k a j m q;have u:=lU a l[i].bJ[j];refine⟨⟨aT q.1,AL⟩,?_⟩;unfold aEk;rw[DI hi,Af,dec_lt m,Bh,Af,DI m,Af,aHl a _ q.1 AL,Af]
 intro k a _;unfold aEk;rw[DI hi,Af,EH];rfl
def aex {l:List AU} {i:Nat} (hi:i<l.length) (f:List Int→Int→Option (List Int)) (v:List Int) (m:Inc v) (hl:v.length≤800000) (u:l[i].bD.length≤40) (ha:l[i].bJ.length≤40):
 aEC l (i:Int) f v 0=f (l[i].bJ.foldl put (l[i].bD.foldl put v)) (BI ((i:Int)+1)):=by
 unfold aEC;rw[KI l[i].bD AL put (fun j a=>Inc a∧a.length≤v.length+j) (fun a=>uO l (i:Int) f a 0) ⟨m,AL⟩]
 ·have h:=aBs l[i].bD v;exact amc hi f _ (yV m) AL ha
 ·intro k a j q s;have u:=lU a l[i].bD[j];refine⟨⟨aT s.1,AL⟩,?_⟩;unfold aFB;rw[DI hi,Af,dec_lt q,Bh,Af,DI q,Af,aHl a _ s.1 AL,Af]
 intro k a _;unfold aFB;rw[DI hi,Af,EH];rfl
def zM :∀(l:List AU) (r:List Int),Inc r→(∀e∈l,e.bD.length≤40∧e.bJ.length≤40)→
 Inc (l.foldl (fun r e=>e.bJ.foldl put (e.bD.foldl put r)) r)∧(l.foldl (fun r e=>e.bJ.foldl put (e.bD.foldl put r)) r).length≤r.length+l.length*80∧
 ∀x,x∈l.foldl (fun r e=>e.bJ.foldl put (e.bD.foldl put r)) r↔x∈r∨∃e∈l,x∈e.bD∨x∈e.bJ
 | [],r,h,_=>⟨h,BK,fun x=>BK⟩
 |e::l,r,h,j=>by
  have u:=j e (FB ..);obtain⟨m,z,q⟩:=zM l (e.bJ.foldl put (e.bD.foldl put r)) (yV (yV h)) fun x s=>j x (G9 _ s);have I:=aBs e.bD r;have J:=aBs e.bJ (e.bD.foldl put r);rw[Fa];refine⟨m,by rw[FK];omega,fun x=>(q x).trans ?_⟩;rw[aFt,aFt];constructor
  ·rintro(((h|h)|h)|⟨y,f,h⟩)
   ·exact .inl h
   ·exact .inr ⟨e,FB ..,.inl h⟩
   ·exact .inr ⟨e,FB ..,.inr h⟩
   exact .inr ⟨y,G9 _ f,h⟩
  rintro(h|⟨y,f,h⟩)
  ·exact .inl (.inl (.inl h))
  rcases Ew.1 f with rfl|f
  ·exact h.elim (fun h=>.inl (.inl (.inr h))) fun h=>.inl (.inr h)
  exact .inr ⟨y,f,h⟩
def EM.lists {l:List AU} (f:EM l):∀e∈l,e.bD.length≤40∧e.bJ.length≤40:=fun e j=>⟨(f e j).prev,(f e j).auth⟩
def ahi {l:List AU} {i:Nat} (h:i<l.length):(l.take (i+1)).foldl (fun r e=>e.bJ.foldl put (e.bD.foldl put r)) ([]:List Int)=l[i].bJ.foldl put (l[i].bD.foldl put ((l.take i).foldl (fun r e=>e.bJ.foldl put (e.bD.foldl put r)) [])):=by
 rw[UL,Dl h,SS,YQ];rfl
def aoT (l:List AU) (hl:l.length≤1000) (f:EM l):vM l=some (Xi l):=by
 unfold vM aJ1;refine gy.eq (RS l.length (fuel_lt AL) (fun i a=>a=(l.take i).foldl (fun r e=>e.bJ.foldl put (e.bD.foldl put r)) []) rfl (fun i a k hi ha q=>?_) fun a k ha=>?_)
 ·subst ha;obtain⟨s,j,_⟩:=zM (l.take i) [] .nil fun e u=>f.lists e (Zz u);have m:=f.lists l[i] (Eh hi);unfold aEl;rw[dec_lt hi,Bh,aex hi k _ s (by rw[Gx]at j;simp only[Nh]at j;omega) m.1 m.2,wrap_succ i AL];exact q _ (ahi hi).symm
 unfold aEl;rw[EH];refine .ret ?_;rw[ha,Jy];rfl
def ahg {l:List AU} (f:EM l):(Xi l).length≤l.length*80:=by
 have :=(zM l [] .nil f.lists).2.1;unfold Xi;simpa using this
def aIb {l:List AU} (f:EM l) {x:Int}:x∈Xi l↔∃e∈l,x∈e.bD∨x∈e.bJ:=by
 have :=(zM l [] .nil f.lists).2.2 x;unfold Xi;rw[this];simp
def aq4 {l:List AU}:Uf l=true↔∀e∈l,(∀x∈e.bD,dM l x=true)∧∀x∈e.bJ,dM l x=true:=by
 unfold Uf TA;simp only[Dk,CP]
def aff (l:List AU) (hl:l.length≤1000) (j:EM l):aB2 l=some (Uf l):=by
 have J:=ahg j;unfold aB2;rw[aoT l hl j,Af,akA l _ hl AL,Af];refine BR some ?_;rw[Qa,aq4];constructor
 ·intro h e m;have q:jE l (Xi l)=[]:=GY aDr
  have key:∀x,x∈e.bD∨x∈e.bJ→dM l x=true:=fun x f=>by
   cases u:dM l x with
   |true=>rfl
   |false=>have :=aIo.2 ⟨(aIb j).2 ⟨e,m,f⟩,u⟩;rw[q]at this;cases this
  exact⟨fun x f=>key x (.inl f),fun x f=>key x (.inr f)⟩
 intro h
 have q:jE l (Xi l)=[]:=List.eq_nil_iff_forall_not_mem.2 fun x f=>by
  obtain⟨z,s⟩:=aIo.1 f;obtain⟨e,m,I⟩:=(aIb j).1 z;rw[I.elim ((h e m).1 x) ((h e m).2 x)]at s;cases s
 rw[q];rfl
def Za (l:List AU):Prop:=∀e∈l,1≤e.Depth∧e.Depth≤100000
def Fp (l:List AU) (x:Int):Int:=(IE l x).1.Depth
def QD (l:List AU) (e:AU):Bool:=e.bJ.all (fun x=>decide (Fp l x<e.Depth))&&bif (e.bD.length:Int)==0 then e.Depth==1 else e.bD.all (fun x=>decide (Fp l x<e.Depth))&&e.bD.any fun x=>Fp l x==e.Depth-1
def Ih (l:List AU):Int:=bif Uf l then bif l.all (QD l)then 0 else 15 else 14
def acj {l:List AU} (h:Za l) (x:Int):0≤Fp l x∧Fp l x≤100000:=by
 unfold Fp IE;cases f:EO l x with
 |none=>exact⟨Int.le_refl 0,BX⟩
 |some e=>have :=h e (Jz f);exact⟨by show 0≤e.Depth;omega,this.2⟩
def aCj (a b:Int):decide (a≥b)= !decide (a<b):=by by_cases h:a<b<;>simp[h];omega
def aGf {α:Type} (l:List α) (p:α→Bool):l.any (fun x=> !p x)= !l.all p:=by rw[List.all_eq_not_any_not,Bool.not_not]
def aoE (l:List AU) (e:AU) (hl:l.length≤1000) (I:H8 e) (hd:Za l) (J:1≤e.Depth∧e.Depth≤100000):mF l e=some (QD l e):=by
 have Y:=I.prev;have Z:=I.auth;have w:BI (e.Depth-1)=e.Depth-1:=Mc AL AL
 have q:aAx e l ((e.bD.length:Int)==0) 0=some (bif (e.bD.length:Int)==0 then true else e.bD.all (fun x=>decide (Fp l x<e.Depth))&&e.bD.any fun x=>Fp l x==e.Depth-1):=by
  unfold aAx;refine gy.eq (RS e.bD.length (fuel_lt AL) (fun i a=>(∀j,(m:j<i)→(hl:j<e.bD.length)→decide (Fp l e.bD[j]<e.Depth)=true)∧a=(((e.bD.length:Int)==0)||(e.bD.take i).any fun x=>Fp l x==e.Depth-1)) ⟨fun j m=>AL,BK⟩ (fun i a k hi ha L=>?_) fun a k ha=>?_)
  ·have M:((e.bD.length:Int)==0)=false:=by simp;intro O;rw[O]at hi;simp at hi
   unfold aAH;rw[DW hi,aF8 l _ AL,Af,aCj];refine gy.bif (fun f=>.ret ?_) fun f=>?_
   ·have f:decide (Fp l e.bD[i]<e.Depth)=false:=by unfold Fp;simpa using f
    rw[M,Y1 (Eh hi) f];rfl
   have f:decide (Fp l e.bD[i]<e.Depth)=true:=by unfold Fp;simpa using f
   rw[show(bif a then some true else some ((IE l e.bD[i]).1.Depth==BI (e.Depth-1)))=some (a||(Fp l e.bD[i]==e.Depth-1)) by rw[w];cases a<;>rfl,Af,wrap_succ i AL];refine L _ ⟨fun j m s=>?_,?_⟩
   ·by_cases U:j=i
    ·subst U;exact f
    exact ha.1 j AL s
   rw[ha.2,UL,Dl hi,SS,List.any_append,Bool.or_assoc];simp
  unfold aAH;rw[EP];refine .ret ?_;rw[ha.2,Jy,all_good fun j m=>ha.1 j m m];cases((e.bD.length:Int)==0)<;>simp
 unfold mF
 have u:aFi e l 0=some (e.bJ.all (fun x=>decide (Fp l x<e.Depth))&&(bif (e.bD.length:Int)==0 then true else e.bD.all (fun x=>decide (Fp l x<e.Depth))&&e.bD.any fun x=>Fp l x==e.Depth-1)):=by
  unfold aFi;rw[IC e.bJ (fuel_lt AL) (fun x=> !decide (Fp l x<e.Depth)) false (aAx e l ((e.bD.length:Int)==0) 0)]
  ·rw[q,aGf];cases e.bJ.all (fun x=>decide (Fp l x<e.Depth))<;>rfl
  ·intro k i hi;unfold xP;rw[DW hi,aF8 l _ AL,Af,aCj];rfl
  intro k;unfold xP;rw[EP]
 rw[u];unfold QD;have z:(e.Depth != 1)= !(e.Depth==1):=rfl;rw[z];cases((e.bD.length:Int)==0)<;>cases(e.Depth==1)<;>cases e.bJ.all (fun x=>decide (Fp l x<e.Depth))<;>rfl
def aCR {l:List AU} {m:List (Int×Int)} (h:WE l m) {x:Int} (f:dM l x=true):∃e,BJ l ((Bv m x).getD 0)=some e∧e.Depth=Fp l x:=⟨_,h.get (Ic f).1,rfl⟩
def amU (p:List Int) (f:Int→Int) (d a:Int) (j:∃y∈p,f y=a) (ha:∀y∈p,f y≤a):(p.all (fun x=>decide (f x<d))&&p.any fun x=>f x==d-1)=bif decide (d>a)then d-a==1 else false:=by
 obtain⟨y,j,e⟩:=j;by_cases h:d>a
 ·have s:p.all (fun x=>decide (f x<d))=true:=Dk.2 fun x m=>by have :=ha x m;simp;omega
  rw[s,G8,He h,Bh,Qa,Gm];constructor
  ·rintro⟨x,m,q⟩;have :=ha x m;have :=eq_of_beq q;simp;omega
  intro q;have :=eq_of_beq q;exact⟨y,j,E8⟩
 rw[Gv h,BO,Y1 j E8];rfl
def ahb (l:List AU) (m:List (Int×Int)) (e:AU) (L:WE l m) (U:H8 e) (u:TA l e=true) (hd:Za l) (Y:1≤e.Depth∧e.Depth≤100000):aC3 l m e=some (QD l e,m):=by
 have h1:=U.prev;have h2:=U.auth;unfold TA at u;simp only[CP,Dk]at u;unfold aC3 aMG;rw[IC e.bJ (fuel_lt AL) (fun x=> !decide (Fp l x<e.Depth)) (false,m) (some ((bif (e.bD.length:Int)==0 then e.Depth==1 else e.bD.all (fun x=>decide (Fp l x<e.Depth))&&e.bD.any fun x=>Fp l x==e.Depth-1),m))]
 ·rw[aGf];unfold QD;cases e.bJ.all (fun x=>decide (Fp l x<e.Depth))<;>rfl
 ·intro k i hi;unfold aIZ;obtain⟨x,M,j⟩:=aCR L (u.2 _ (Eh hi));rw[DW hi,M,Af,aCj,j]
 intro k;unfold aIZ;rw[EP];cases q:((e.bD.length:Int)==0)with
 |true=>rfl
 |false=>
  have O:0<e.bD.length:=by
   rcases XW e.bD.length with h|h
   ·rw[h]at q;cases q
   exact h
  obtain⟨x,M,j⟩:=aCR L (u.1 _ (Eh O));have Z:BJ e.bD 0=some e.bD[0]:=DI (i:=0) O;rw[BO,BO,Z,Af,M,Af,j];unfold aec;refine gy.eq (RS e.bD.length (fuel_lt AL) (fun i a=>(0≤a∧a≤100000)∧(∃y∈e.bD,Fp l y=a)∧∀y∈e.bD.take i,Fp l y≤a) ⟨acj hd _,⟨_,Eh O,rfl⟩,fun y I=>by simp at I⟩ (fun i a k2 hi ha hk=>?_) fun a k2 ha=>?_)
  ·unfold aH9;obtain⟨y,I,s⟩:=aCR L (u.1 _ (Eh hi));have hb:=acj hd e.bD[i];rw[DW hi,I,Af,wrap_succ i AL,s]
   have J:Uu a (Fp l e.bD[i])=a∧Fp l e.bD[i]≤a∨Uu a (Fp l e.bD[i])=Fp l e.bD[i]∧a≤Fp l e.bD[i]:=by
    unfold Uu;by_cases h:Fp l e.bD[i]>a
    ·rw[He h];exact .inr ⟨rfl,AL⟩
    rw[Gv h];exact .inl ⟨rfl,AL⟩
   refine hk _ ⟨AL,?_,fun z q=>?_⟩
   ·rcases J with h|h
    ·rw[h.1];exact ha.2.1
    rw[h.1];exact⟨_,Eh hi,rfl⟩
   rw[UL,Dl hi,SS,Gf,Ho]at q;rcases q with q|rfl
   ·have :=ha.2.2 z q;omega
   omega
  obtain⟨hb,⟨y,I,s⟩,f⟩:=ha;rw[Jy]at f;unfold aH9;rw[EP,Mc AL AL,amU e.bD (Fp l) e.Depth a ⟨y,I,s⟩ f];cases decide (e.Depth>a)<;>exact .ret rfl
def akg (l:List AU) (hl:l.length≤100) (u:EM l) (hd:Za l):zU l=some (Ih l):=by
 unfold zU Ih;rw[akH l hl u,Af];cases J:Uf l with
 |false=>rfl
 |true=>
  have L:∀e∈l,TA l e=true:=Dk.1 J;refine gy.eq ((uj l AL).bind fun m M=>?_);unfold aJg;refine YE (body:=aGN l) (Q:=fun b=>b=bif l.all (QD l)then 0 else 15) (fun n a b=>∃i:Nat,a=i∧i+n=l.length∧b=m∧∀j,(q:j<i)→(hl:j<l.length)→QD l l[j]=true) ?_ BA l.length 0 m (fuel_lt AL) ⟨0,rfl,AL,rfl,fun j q=>AL⟩;rintro n a b k ⟨i,rfl,U,rfl,z⟩ O;unfold aGN;by_cases hi:i<l.length
  ·have f:=Eh hi;rw[DW hi,ahb l b l[i] M (u _ f) (L _ f) hd (hd _ f),Af];cases I:QD l l[i]with
   |false=>exact .ret (by rw[Y1 f I];rfl)
   |true=>
    refine O (n-1) _ _ AL ⟨i+1,wrap_succ i AL,AL,rfl,fun j q s=>?_⟩;by_cases e:j=i
    ·subst e;exact I
    exact z j AL s
  have :i=l.length:=AL
  subst this;rw[EP];exact .ret (by rw[all_good fun j q=>z j q q];rfl)
def aj3 (l:List AU) (hl:l.length≤100) (u:EM l) (hd:Za l):aB0 l=some (Ih l):=by
 unfold aB0 Ih;rw[aff l AL u,Af];cases J:Uf l with
 |false=>rfl
 |true=>
  show aDj l 0=_;unfold aDj;refine gy.eq (xK l.length (fuel_lt AL) (fun i=>∀j,(m:j<i)→(hl:j<l.length)→QD l l[j]=true) (fun j m=>AL) (fun i k hi q I=>?_) fun k q=>?_)
  ·have f:=Eh hi;unfold aIK;rw[DW hi,aoE l l[i] AL (u _ f) hd (hd _ f),Af,wrap_succ i AL];cases z:QD l l[i]with
   |false=>exact .ret (by rw[Y1 f z];rfl)
   |true=>
    refine I fun j m s=>?_;by_cases e:j=i
    ·subst e;exact z
    exact q j AL s
  unfold aIK;rw[EH];exact .ret (by rw[all_good fun j m=>q j m m];rfl)
section
variable {α β R : Type} {lt : α → α → Bool}
def Iw (lt:α→α→Bool) (A:List α) (x:α):List α:=(A.reverse.dropWhile (lt x)).reverse++x::(A.reverse.takeWhile (lt x)).reverse
def acV {A:List α} {a x:α} (h:lt x a=true):Iw lt (A++[a]) x=Iw lt A x++[a]:=by
 unfold Iw;rw[aDL,List.reverse_singleton,List.singleton_append,aLM h,List.takeWhile_cons_of_pos h,List.reverse_cons,Gu];rfl
def aLp {A:List α} {a x:α} (h:lt x a=false):Iw lt (A++[a]) x=A++a::[x]:=by
 have h':¬lt x a=true:=by rw[h];simp
 unfold Iw;rw[aDL,List.reverse_singleton,List.singleton_append,adx h',List.takeWhile_cons_of_neg h'];simp
def aoC (A:List α) (x:α):(Iw lt A x).length=A.length+1:=by
 unfold Iw;have :=BR List.length (oW (p:=lt x) (l:=A.reverse));simp only[Dx,List.length_reverse,FK]at this ⊢;omega
def aKo (A:List α) (x:α):(Iw lt A x).Perm (x::A):=by
 unfold Iw;refine List.perm_middle.trans (List.Perm.cons x ?_);rw[←aDL,oW,List.reverse_reverse]
def ahd {lt':β→β→Bool} {f:α→β} (h:∀x a,lt x a=lt' (f x) (f a)) (A:List α) (x:α):(Iw lt A x).map f=Iw lt' (A.map f) (f x):=by
 have e:lt x=lt' (f x)∘f:=funext fun a=>h x a;unfold Iw;have j:(A.map f).reverse=A.reverse.map f:=aDI.symm;rw[j,List.dropWhile_map,List.takeWhile_map,I9,JD,aDI,aDI,e]
def adV {lt':β→β→Bool} {f:α→β} (h:∀x a,lt x a=lt' (f x) (f a)):∀(l A:List α),(l.foldl (Iw lt) A).map f=(l.map f).foldl (Iw lt') (A.map f)
 | [],A=>rfl
 |x::l,A=>by rw[Fa,adV h l,JD,Fa,ahd h]
def aD2 :∀(l A:List α),(l.foldl (Iw lt) A).length=A.length+l.length
 | [],A=>rfl
 |x::l,A=>by rw[Fa,aD2 l,aoC,FK];omega
def aIu :∀(l A:List α),(l.foldl (Iw lt) A).Perm (A++l)
 | [],A=>by rw[S9];exact .refl _
 |x::l,A=>by
  rw[Fa];exact(aIu l (Iw lt A x)).trans (((aKo A x).append_right l).trans (List.perm_middle (l₁:=A) (l₂:=l) (a:=x)).symm)
def abX (A:List α) (x:α) (B:List α):BJ (A++x::B) (A.length:Int)=some x:=by rw[rO];simp
def aJm (A:List α) (a x:α) (B:List α):BJ (A++a::x::B) ((A.length+1:Nat):Int)=some x:=by rw[rO];simp
def set_mid (A:List α) (x y:α) (B:List α):(A++x::B).set A.length y=A++y::B:=BK
def apF (A:List α) (a x y:α) (B:List α):(A++a::x::B).set (A.length+1) y=A++a::y::B:=by
 have :=set_mid (A++[a]) x y B;simpa using this
def bubble {body:(Int→List α→Option R)→Int→List α→Option R} (f:List α→Option R) (N:Nat) (M:∀k x B,(x::B).length=N→body k 0 (x::B)=f (x::B))
 (O:∀k A a x B,(A++a::x::B).length=N→body k ((A.length+1:Nat):Int) (A++a::x::B)=bif lt x a then k (A.length:Int) (A++x::a::B)else f (A++a::x::B)):
 ∀n (A:List α) (x:α) (B:List α),A.length=n→(A++x::B).length=N→∀m,n<m→aX body m (A.length:Int) (A++x::B)=f (Iw lt A x++B):=by
 intro n
 induction n with
 |zero=>
  intro A x B u z m U;obtain⟨m,rfl⟩:∃I,m=I+1:=⟨m-1,AL⟩
  obtain rfl:=GY u;exact M _ x B z
 |succ n Y=>
  intro A x B u z m U;obtain⟨m,rfl⟩:∃I,m=I+1:=⟨m-1,AL⟩
  have j:A≠[]:=fun e=>by subst e;cases u
  obtain⟨A',a,rfl⟩:∃A' a,A=A'++[a]:=⟨A.dropLast,A.getLast j,(List.dropLast_concat_getLast j).symm⟩
  have J:A'.length=n:=Md
  have L:A'++[a]++x::B=A'++a::x::B:=BK
  have q:(A'++a::x::B).length=N:=by rw[←L];exact z
  have Z:(A'++[a]).length=A'.length+1:=BK
  rw[L,Z];show body (aX body m) _ _=_;rw[O _ A' a x B q];cases s:lt x a with
  |true=>
   rw[Bh,Y A' x (a::B) J (by simp at q ⊢;omega) m AL,acV s];simp
  |false=>rw[BO,aLp s];simp
end
def TT (a b:AU):Bool:=decide (a.Depth<b.Depth)||((a.Depth==b.Depth)&&decide (a.Id<b.Id))
def Tf (l:List AU):List AU:=l.foldl (Iw TT) []
def Hy (l:List AU):List Int:=(Tf l).map (·.Id)
def aLb (l:List AU):(Tf l).length=l.length:=by unfold Tf;rw[aD2];simp
def aHo (l:List AU):(Tf l).Perm l:=by have :=aIu (lt:=TT) l [];rwa [J4]at this
def anV {α β:Type} {f:β→α→β} {b:β} {l:List α} {i:Nat} (h:i<l.length):(l.take (i+1)).foldl f b=f ((l.take i).foldl f b) l[i]:=by
 rw[UL,Dl h,SS,YQ];rfl
def map_take {α β:Type} {f:α→β} {l:List α} {i:Nat} (h:i<l.length):(l.take (i+1)).map f=(l.take i).map f++[f l[i]]:=by
 rw[UL,Dl h,SS,I9];rfl
def kL (e:AU):QI:=⟨e.Depth,e.Id⟩
def bP (a b:QI):Bool:=decide (a.nH<b.nH)||((a.nH==b.nH)&&decide (a.lg<b.lg))
def amO (a x:QI):(bif decide (a.nH<x.nH)then some true else(bif (a.nH==x.nH)then some (decide (a.lg≤x.lg))else some false).bind fun f=>some f)=some (!bP x a):=by
 unfold bP;by_cases j:a.nH<x.nH
 ·rw[He j,Bh,Gv AL,show(x.nH==a.nH)=false by simp;omega];rfl
 rw[Gv j,BO];by_cases m:a.nH=x.nH
 ·rw[m,Gv (show ¬x.nH<x.nH by omega)];simp only[Vl,Bh,Af,KU,G8];by_cases q:a.lg≤x.lg
  ·rw[He q,Gv AL];rfl
  rw[Gv q,He AL];rfl
 rw[show(a.nH==x.nH)=false by simpa using m,He (show x.nH<a.nH by omega)];rfl
def ajl (l:List AU) (hl:l.length≤1000):aAo l=some (Hy l):=by
 have I:IK 16 aB4 0 (l.length:Int)=some []:=by unfold IK;rw[Cb ⟨Int.le_refl _,AL,AL⟩];rfl
 unfold aAo;rw[I,Af];unfold aL8;refine gy.eq (RS l.length (fuel_lt AL) (fun i a=>a=((l.take i).map kL).foldl (Iw bP) []) rfl (fun i a k hi ha J=>?_) fun a k ha=>?_)
 ·have hlen:a.length=i:=by rw[ha,aD2,Ch,Gx];simp;omega
  unfold aDx;rw[DW hi,DI hi,Af,Et Ij,Af];unfold ae5;have L:BI (((a++[(⟨l[i].Depth,l[i].Id⟩:QI)]).length:Int)-1)=(a.length:Int):=aIA
  rw[L];have M:=bubble (lt:=bP) (body:=mM k (i:Int)) (fun v=>k v ((i+1:Nat):Int)) (i+1) (fun k2 x B q=>?_) (fun k2 A b x B q=>?_) i a (kL l[i]) [] hlen E8 BA (fuel_lt AL)
  ·show gy (aX (mM k (i:Int)) BA (a.length:Int) (a++[kL l[i]])) _;rw[M,S9];exact J _ (by rw[map_take hi,YQ,ha];rfl)
  ·unfold mM pz;rw[wrap_succ i AL];rfl
  have hA:A.length+2≤i+1:=by rw[←q];simp
  have O:BI (((A.length+1:Nat):Int)-1)=(A.length:Int):=QF
  unfold mM pz;rw[He (show((A.length+1:Nat):Int)>0 by omega),Bh,O,abX,Af,aJm,Af,amO,Af,wrap_succ i AL];cases bP x b with
  |false=>rfl
  |true=>
   simp only[ES,BO,Bh,Af,Vw];rw[set_mid,aJm,Af,apF]
 unfold aDx;rw[EP];have e:a=(Tf l).map kL:=by rw[ha,Jy];exact(adV (lt:=TT) (lt':=bP) (f:=kL) (fun _ _=>rfl) l []).symm
 have U:a.length=l.length:=by rw[e,Ch,aLb]
 have Y:IK 8 0 (a.length:Int) (a.length:Int)=some (List.replicate a.length (0:Int)):=by unfold IK;rw[Cb ⟨AL,Int.le_refl _,AL⟩];simp
 have Z:Hy l=a.map (·.lg):=by rw[e,ZI];rfl
 rw[Y,Af,Z];unfold abP;refine vT (body:=aEr a) (Q:=fun r=>r=a.map (·.lg)) (fun n (x:Int) (o:List Int) (p:List QI)=>∃i:Nat,x=i∧i+n=a.length∧o=(a.take i).map (·.lg)++List.replicate (a.length-i) 0∧p=a) ?_ BA a.length 0 (List.replicate a.length 0) a (fuel_lt AL) ⟨0,rfl,AL,BK,rfl⟩;rintro n x o p k2 ⟨i,rfl,hn,s,rfl⟩ m;unfold aEr;by_cases hi:i<p.length
 ·have u:((p.take i).map (·.lg)).length=i:=by rw[Ch,Gx];omega
  obtain⟨z,hz⟩:∃z,p.length-i=z+1:=⟨p.length-i-1,AL⟩
  have j:o=(p.take i).map (·.lg)++0::List.replicate z 0:=by rw[s,hz,List.replicate_succ]
  have g2:BJ o (i:Int)=some 0:=by have :=abX ((p.take i).map (·.lg)) 0 (List.replicate z 0);rw[u]at this;rw[j];exact this
  have s2:o.set i p[i].lg=(p.take i).map (·.lg)++p[i].lg::List.replicate z 0:=by have :=set_mid ((p.take i).map (·.lg)) 0 p[i].lg (List.replicate z 0);rw[u]at this;rw[j];exact this
  rw[DW hi,g2,Af];refine m (n-1) _ _ _ AL ⟨i+1,wrap_succ i AL,AL,?_,rfl⟩;rw[Vw,s2,map_take hi,show p.length-(i+1)=z by omega];simp
 have :i=p.length:=AL
 subst this;rw[EP];exact .ret (by rw[s];simp)
def aJz {α:Type} {p:α→Bool} {l:List α} {i:Nat} (h:i<l.length):(l.take (i+1)).any p=((l.take i).any p||p l[i]):=by
 rw[UL,Dl h,SS,List.any_append];simp
def RV (x y:AU):Bool:=y.Kind==x.Kind&&decide (y.Key=x.Key)
def NZ (j:List Az):List AU→List AU→Bool
 |_,[]=>true
 |f,x::xs=>(j.any fun k=>Ea k x)&& !f.any (RV x)&&NZ j (f++[x]) xs
def YZ (x:AU):Bool:=x.Kind==1&&decide (x.Key=BZ)
def UF (l:List AU) (e:AU):Int:=
 bif !e.bJ.all (dM l)then 14 else bif !(ofIds l e.bJ).all (fun x=>decide (x.Room=e.Room))then 13
 else bif NZ (keysOf e) [] (ofIds l e.bJ)&&(e.Kind==1||(ofIds l e.bJ).any YZ)then 0 else 16
def XP {k:Az} {x:AU}:Ea k x=true↔x.Kind=k.Kind∧x.Key=k.Key:=by unfold Ea;simp
def acE {x y:AU}:RV x y=true↔y.Kind=x.Kind∧y.Key=x.Key:=by unfold RV;simp
def alU {f:List Az} {X:List AU} {i:Nat} (h:i<X.length):NZ f (X.take i) (X.drop i)=((f.any fun k=>Ea k X[i])&& !(X.take i).any (RV X[i])&&NZ f (X.take (i+1)) (X.drop (i+1))):=by
 rw[NI h,UL,Dl h];rfl
def al5 {f:List Az} (X:List AU):NZ f (X.take X.length) (X.drop X.length)=true:=by rw[QG];rfl
def ahu (k:Az) (e:AU):Uo (I8 k) e=some (Ea k e):=by
 unfold Uo Ea I8;cases h:(e.Kind==k.Kind)with
 |false=>rfl
 |true=>show some (e.Key.toList==k.Key.toList)=_;rw[Om,G8]
def afy (f:List Az) (x:AU) (h:f.length≤100):zY (f.map I8) x=some (if f.findIdx (fun k=>Ea k x)<f.length then((f.findIdx (fun k=>Ea k x):Nat):Int)else -1):=by
 unfold zY aKe
 have m:∀k (i:Nat),i<f.length→yI (f.map I8) x k (i:Int)=bif Ea (f.getD i ⟨0,BZ,0⟩) x then some (i:Int)else k (BI ((i:Int)+1)):=fun k i hi=>by
  unfold yI;have j:i<(f.map I8).length:=aE4
  rw[DW j,TD];show((Uo (I8 f[i]) x).bind _)=_;rw[ahu,Af];simp[List.getD,hi]
 rw[QH f (fuel_lt AL) (fun k=>Ea k x) (fun i=>some (i:Int)) (some (-1))]
 ·split<;>rfl
 ·intro k i hi;rw[m k i hi];simp[List.getD,hi]
 intro k;unfold yI;rw[show((f.map I8).length:Int)=(f.length:Int) by rw[Ch],EH];rfl
def aMX {α:Type} {p:α→Bool}:∀l:List α,l.Pairwise (fun a b=>¬(p a=true∧p b=true))→l.findIdx p<l.length→l.filter (fun x=> !p x)=l.take (l.findIdx p)++l.drop (l.findIdx p+1)
 | [],_,h=>absurd h (Nat.not_lt_zero _)
 |a::l,f,h=>by
  obtain⟨j,m⟩:=PD.1 f;rw[Ru]at h ⊢;cases ha:p a with
  |true=>
   rw[List.filter_cons_of_neg (by simp[ha]),pI.2 fun b q=>by
    cases s:p b with
    |false=>rfl
    |true=>exact absurd ⟨ha,s⟩ (j b q)]
   rfl
  |false=>
   rw[ha]at h;rw[List.filter_cons_of_pos (by simp[ha]),aMX l m Jf];rfl
def aLK {α:Type} {p:α→Bool}:∀l:List α,decide (l.findIdx p<l.length)=l.any p
 | []=>rfl
 |a::l=>by
  have f:=aLK (p:=p) l;rw[Ru,YA,←f];cases p a<;>simp
def aqO (e:AU):I5 (keysOf e):=by
 have z:I5 (NJ e):=U5 (U5 (U5 List.Pairwise.nil _ _ _) _ _ _) _ _ _;unfold keysOf;cases e.Kind==1<;>cases e.Kind==2<;>cases(e.Content.N==3||e.Content.N==1||e.Content.N==2)<;>simp only[Bh,BO]
 ·exact z
 ·exact z
 ·exact U5 z _ _ _
 ·exact U5 (U5 z _ _ _) _ _ _
 all_goals exact List.Pairwise.nil
def aoK {e:AU} {k:Az} (h:k∈keysOf e) (j:k.Kind=1):k.Key=BZ:=by
 have z:∀x∈NJ e,x.Kind=1→x.Key=BZ:=fun x f q=>by
  unfold NJ at f;rcases Q5 f with rfl|f
  ·cases q
  rcases Q5 f with rfl|f
  ·cases q
  rcases Q5 f with rfl|f
  ·rfl
  cases f
 unfold keysOf at h;cases m:e.Kind==1 with
 |true=>rw[m]at h;cases h
 |false=>
  cases s:e.Kind==2 with
  |false=>rw[m,s]at h;exact z k h j
  |true=>
   rw[m,s]at h;cases u:(e.Content.N==3||e.Content.N==1||e.Content.N==2)with
   |true=>
    rw[u]at h;rcases Q5 h with rfl|h
    ·cases j
    rcases Q5 h with rfl|h
    ·cases j
    exact z k h j
   |false=>
    rw[u]at h;rcases Q5 h with rfl|h
    ·cases j
    exact z k h j
def aIv {m:List Az}:∀(X f:List AU),NZ m f X=true→∀x∈X,∃k∈m,Ea k x=true
 | [],_,_,_,h=>absurd h GR
 |y::X,f,h,x,j=>by
  unfold NZ at h;simp only[CP]at h;rcases Ew.1 j with rfl|j
  ·obtain⟨k,q,s⟩:=Gm.1 h.1.1;exact⟨k,q,s⟩
  exact aIv X _ h.2 x j
def any_congr {α:Type} {l:List α} {p q:α→Bool} (h:∀x∈l,p x=q x):l.any p=l.any q:=by
 rw[Qa,Gm,Gm];exact⟨fun⟨x,f,k⟩=>⟨x,f,by rw[←h x f];exact k⟩,fun⟨x,f,k⟩=>⟨x,f,by rw[h x f];exact k⟩⟩
def ar5 (l:List AU) (e:AU) (hl:l.length≤100) (he:H8 e):iC l e=some (UF l e):=by
 have h1:=he.auth;have hk5:=Zj e;have hsk:=aqO e;unfold iC aLA;refine gy.eq (RS e.bJ.length (fuel_lt AL) (fun i a=>a=ofIds l (e.bJ.take i)∧∀x∈e.bJ.take i,dM l x=true) ⟨rfl,fun x M=>by simp at M⟩ (fun i a k hi ha u=>?_) fun a k ha=>?_)
 ·obtain⟨rfl,m⟩:=ha;have hal:=aCF l (e.bJ.take i);rw[Gx]at hal;unfold xZ;rw[DW hi,NM l _ AL,Af,wrap_succ i AL];cases O:EO l e.bJ[i]with
  |none=>
   rw[SG O];refine .ret ?_;unfold UF;rw[Y1 (Eh hi) (show dM l e.bJ[i]=false by unfold dM;rw[O];rfl)];rfl
  |some x=>
   rw[OQ O];simp only[ES,BO];rw[Et Ij,Af];refine u _ ⟨?_,fun y s=>?_⟩
   ·unfold ofIds;rw[UL,Dl hi,SS,dG,Na,O];rfl
   rw[UL,Dl hi,SS,Gf,Ho]at s;rcases s with s|rfl
   ·exact m y s
   unfold dM;rw[O];rfl
 obtain⟨rfl,m⟩:=ha;rw[Jy]at m ⊢;have M:=aCF l e.bJ;have U:e.bJ.all (dM l)=true:=Dk.2 m;unfold xZ;rw[EP];unfold UF;rw[U];simp only[ES,BO];generalize ofIds l e.bJ=X at M;unfold aaK;rw[IC X (fuel_lt AL) (fun x=> !decide (x.Room=e.Room)) 13 (some (bif NZ (keysOf e) [] X&&(e.Kind==1||X.any YZ)then 0 else 16))]
 ·rw[aGf];cases X.all (fun x=>decide (x.Room=e.Room))<;>exact .ret rfl
 ·intro k2 i hi;unfold yT;rw[DW hi,Om]
 intro k2;unfold yT;rw[EP,aKT,Af];unfold abd;refine gy.eq (vT (body:=aBh X) (Q:=(· =bif NZ (keysOf e) [] X&&(e.Kind==1||X.any YZ)then 0 else 16)) (fun n b ks x=>∃i:Nat,x=i∧i+n=X.length∧ks=((keysOf e).filter fun k=> !(X.take i).any (Ea k)).map I8∧b=(e.Kind==1||(X.take i).any fun x=>x.Kind==1)∧NZ (keysOf e) [] X=NZ (keysOf e) (X.take i) (X.drop i)) ?_ BA X.length (e.Kind==1) ((keysOf e).map I8) 0 (fuel_lt AL) ⟨0,rfl,AL,by rw[aCN];exact BR (List.map I8) (pI.2 fun _ _=>rfl).symm,BK,rfl⟩);rintro n b ks x k3 ⟨i,rfl,hn,hks,hb,q⟩ hk3;unfold aBh;by_cases hi:i<X.length
 ·rw[alU hi]at q;have hlk:((keysOf e).filter fun k=> !(X.take i).any (Ea k)).length≤5:=Dn (Nk _ _) hk5;rw[DW hi,hks,afy _ _ AL,Af];have z:=aLK (p:=fun k=>Ea k X[i]) ((keysOf e).filter fun k=> !(X.take i).any (Ea k))
  have I:(((keysOf e).filter fun k=> !(X.take i).any (Ea k)).any fun k=>Ea k X[i])=((keysOf e).any (fun k=>Ea k X[i])&& !(X.take i).any (RV X[i])):=by
   rw[Qa,Gm,CP,Gm,Qp,←Jb,Gm];constructor
   ·rintro⟨k,u,J⟩;obtain⟨hk1,Y⟩:=G7.1 u;refine⟨⟨k,hk1,J⟩,?_⟩;rintro⟨y,s,hs⟩;obtain⟨Z,m2⟩:=XP.1 J;obtain⟨s1,s2⟩:=acE.1 hs;rw[Gm.2 ⟨y,s,XP.2 ⟨s1.trans Z,s2.trans m2⟩⟩]at Y;cases Y
   rintro⟨⟨k,u,J⟩,hno⟩;refine⟨k,G7.2 ⟨u,?_⟩,J⟩;rw[Qp,←Jb,Gm];rintro⟨y,s,hs⟩;obtain⟨Z,m2⟩:=XP.1 J;obtain⟨s1,s2⟩:=XP.1 hs;exact hno ⟨y,s,acE.2 ⟨s1.trans Z.symm,s2.trans m2.symm⟩⟩
  rw[←I,←z]at q;by_cases f:((keysOf e).filter fun k=> !(X.take i).any (Ea k)).findIdx (fun k=>Ea k X[i])<((keysOf e).filter fun k=> !(X.take i).any (Ea k)).length
  ·rw[Cb f,Gv AL,BO];rw[He f,G8]at q;have hlm:(((keysOf e).filter fun k=> !(X.take i).any (Ea k)).map I8).length=((keysOf e).filter fun k=> !(X.take i).any (Ea k)).length:=Ch ..
   have hpw:((keysOf e).filter fun k=> !(X.take i).any (Ea k)).Pairwise (fun a b=>¬(Ea a X[i]=true∧Ea b X[i]=true)):=by
    refine(List.Pairwise.sublist Um hsk).imp fun{a b} hab h=>?_;obtain⟨a1,a2⟩:=XP.1 h.1;obtain⟨b1,b2⟩:=XP.1 h.2;rw[nE (UU.2 ⟨a1.symm.trans b1,a2.symm.trans b2⟩)]at hab;cases hab
   have hd:=aMX _ hpw f
   have L:((keysOf e).filter fun k=> !(X.take i).any (Ea k)).filter (fun k=> !Ea k X[i])=(keysOf e).filter fun k=> !(X.take (i+1)).any (Ea k):=by
    rw[List.filter_filter];refine kS fun k _=>?_;rw[aJz hi];cases(X.take i).any (Ea k)<;>cases Ea k X[i]<;>rfl
   rw[L]at hd;generalize((keysOf e).filter fun k=> !(X.take i).any (Ea k))=K at f hd hlm hlk;generalize K.findIdx (fun k=>Ea k X[i])=j at f hd;have s1:MS (K.map I8) 0 (j:Int)=some (((K.map I8).drop 0).take (j-0)):=aBg (lo:=0) (EF _) AL;have s2:MS (K.map I8) (BI ((j:Int)+1)) ((K.map I8).length:Int)=some (((K.map I8).drop (j+1)).take ((K.map I8).length-(j+1))):=by rw[wrap_succ j AL];exact aBg AL (Dw _)
   rw[s1,Af,s2,Af,Et (by simp only[Gx,Jc];omega),Af];have hb3:(bif b then some true else(BJ X (i:Int)).bind fun x28=>some (x28.Kind==1))=some (b||X[i].Kind==1):=by rw[DI hi];cases b<;>rfl
   rw[hb3,Af];refine hk3 (n-1) _ _ _ AL ⟨i+1,wrap_succ i AL,AL,?_,?_,q⟩
   ·rw[hd,I9,WY,Y6,Nat.sub_zero,jY,Ns (l:=(K.map I8).drop (j+1)) (by rw[Jc];omega)]
   rw[aJz hi,hb,Bool.or_assoc]
  rw[D9 f];rw[Gv f,Bool.false_and]at q;exact .ret (by rw[q];rfl)
 have :i=X.length:=AL
 subst this;rw[al5]at q;rw[EP,q,hb,Jy,G8]
 have hc:(X.any fun x=>x.Kind==1)=X.any YZ:=any_congr fun x M=>by
  obtain⟨k,u,J⟩:=aIv X [] q x M;obtain⟨Z,m2⟩:=XP.1 J;unfold YZ;cases hq:x.Kind==1 with
  |false=>rfl
  |true=>rw[m2,aoK u (by rw[←Z];exact eq_of_beq hq)];simp
 rw[hc];cases(e.Kind==1||X.any YZ)<;>exact .ret rfl
def PL (l:List AU) (s:List Az):List AU:=ofIds l (s.map (·.Id))
def aa0 (l:List AU) (s:List Az):(PL l s).length≤s.length:=by have :=aCF l (s.map (·.Id));rwa [Ch]at this
def ase {l:List AU} (f:EM l) (ids:List Int):EM (ofIds l ids):=fun x j=>f x (aFy j)
def adT {l:List AU} {s:List Az} {i:Nat} (h:i<s.length):PL l (s.take (i+1))=PL l (s.take i)++(EO l s[i].Id).toList:=by
 unfold PL ofIds;rw[map_take h,dG,Na,List.filterMap_nil];cases EO l s[i].Id<;>rfl
def aiI (l:List AU) (s:List Az) (hl:l.length≤100) (h:s.length≤1000):aBr l s=some (PL l s):=by
 unfold aBr jA;rw[Af];unfold aKc;refine gy.eq (aF3 (body:=aFs s) (Q:=(· =PL l s)) (fun n a b c _ _=>∃i:Nat,b=i∧i+n=s.length∧c=l∧a=PL l (s.take i)) ?_ BA s.length [] 0 l [] [] (fuel_lt AL) ⟨0,rfl,AL,rfl,rfl⟩);rintro n a b c d f k ⟨i,rfl,u,rfl,ha⟩ q;unfold aFs;by_cases hi:i<s.length
 ·have m:=aa0 c (s.take i);rw[Gx]at m;rw[DW hi,NM c _ AL,Af,wrap_succ i AL];cases j:EO c s[i].Id with
  |none=>rw[SG j];exact q (n-1) _ _ _ _ _ AL ⟨i+1,rfl,AL,rfl,by rw[adT hi,j,ha];simp⟩
  |some x=>
   rw[OQ j];simp only[Bh];rw[Et (by rw[ha];simp only[PE];omega),Af];exact q (n-1) _ _ _ _ _ AL ⟨i+1,rfl,AL,rfl,by rw[adT hi,j,ha];rfl⟩
 have :i=s.length:=AL
 subst this;rw[EP];exact .ret (by rw[ha,Jy])
structure EC where
 id:Int
 before:List Az
 after:List Az
 err:Int
def Eb (t:List EC) (x:Int):Option EC:=t.find? fun y=>y.id==x
def Gn (t:List EC) (x:Int):List Az:=((Eb t x).map (·.after)).getD []
def errOf (t:List EC) (x:Int):Int:=((Eb t x).map (·.err)).getD 0
def Ym (l:List AU) (e:AU):Int:=bif UF l e != 0 then UF l e else Ot e (Rf l e)
def LJ (l:List AU) (t:List EC) (e:AU) (s:List Az):Int:=
 bif Ym l e != 0 then Ym l e else bif e.bJ.any (fun x=>errOf t x != 0)then 16 else Ot e (PL l s)
def stB (l:List AU) (t:List EC) (e:AU):List Az:=Xw l (e.bD.map (Gn t))
def vW (e:AU) (s:List Az) (r:Int):EC:=⟨e.Id,s,bif r==0&&Hg e.Kind then Gq s e.Kind e.Key e.Id else s,r⟩
def Gs (l:List AU) (t:List EC) (e:AU):EC:=vW e (stB l t e) (LJ l t e (stB l t e))
def IX (l:List AU) (ids:List Int):List EC:=ids.foldl (fun t id=>t++[Gs l t (ev l id)]) []
def Hl (l:List AU):List EC:=IX l (Hy l)
def adz (l:List AU) {ids:List Int} {i:Nat} (h:i<ids.length):IX l (ids.take (i+1))=IX l (ids.take i)++[Gs l (IX l (ids.take i)) (ev l ids[i])]:=anV h
def aFp {t:List EC} {x:Int}:Eb t x=none↔x∉t.map (·.id):=by
 unfold Eb;rw[aCe,F7];exact⟨fun h ⟨y,f,e⟩=>h y f PY,fun h y f e=>h ⟨y,f,PY⟩⟩
def ou {t:List EC} {y:EC} (h:Eb t y.id=none) (x:Int):Eb (t++[y]) x=bif x==y.id then some y else Eb t x:=by
 unfold Eb at h ⊢;rw[kY];cases f:x==y.id with
 |true=>
  have e:=eq_of_beq f;subst e;rw[h];simp
 |false=>
  have :(y.id==x)=false:=by rw[←f,Qa,PX,PX];exact eq_comm
  simp[this]
def akN {t:List EC} {x:Int} {y:EC} (h:Eb t x=some y):y.id=x:=by have :=zJ h;simpa using this
def aEi (l:List AU):∀(ids:List Int) (t:List EC),(∀x∈ids,dM l x=true)→(ids.foldl (fun t id=>t++[Gs l t (ev l id)]) t).map (·.id)=t.map (·.id)++ids
 | [],t,_=>BK
 |x::ids,t,h=>by
  have f:(Gs l t (ev l x)).id=x:=(Ic (h x (FB ..))).2;rw[Fa,aEi l ids _ fun y j=>h y (G9 _ j),I9,JD,List.map_nil,f,Gu];rfl
def Le (l:List AU) (t:List EC):Prop:=∀y∈t,II l y.before∧II l y.after
def Le.after {l:List AU} {t:List EC} (h:Le l t) (x:Int):II l (Gn t x):=by
 unfold Gn;cases hl:Eb t x with
 |none=>exact .nil l
 |some y=>exact(h y (Ri hl)).2
def Le.states {l:List AU} {t:List EC} (h:Le l t) (ids:List Int):∀s∈ids.map (Gn t),II l s:=fun s f=>by
 obtain⟨x,_,rfl⟩:=F7.1 f;exact h.after x
def Le.okay {l:List AU} {t:List EC} (h:Le l t) (hl:l.length≤100) (f:EM l) (ids:List Int) (hi:ids.length≤100):Lm l (ids.map (Gn t)):=II.okay hl f aE4 (h.states ids)
def Le.stB {l:List AU} {t:List EC} (h:Le l t) (hl:l.length≤100) (f:EM l) {e:AU} (j:e.bD.length≤40):II l (stB l t e):=II.resolve (h.okay hl f _ AL) (h.states _)
def Le.line {l:List AU} {t:List EC} (h:Le l t) (hl:l.length≤100) (q:EM l) {e:AU} (s:e.bD.length≤40) (u:Hg e.Kind=true→dM l e.Id=true∧ev l e.Id=e):Le l (t++[Gs l t e]):=fun y f=>by
 rcases Gf.1 f with f|f
 ·exact h y f
 rw[Ho.1 f];have j:=h.stB hl q s;refine⟨j,?_⟩;show II l (bif LJ l t e (Go.Proofs.YtolgdkhlelfpoaaGreat.stB l t e)==0&&Hg e.Kind then Gq _ e.Kind e.Key e.Id else _);cases m:(LJ l t e (Go.Proofs.YtolgdkhlelfpoaaGreat.stB l t e)==0&&Hg e.Kind)with
 |false=>exact j
 |true=>
  have hst:Hg e.Kind=true:=by rw[CP]at m;exact m.2
  obtain⟨z,k2⟩:=u hst;exact j.set z k2 hst
def aqJ {l:List AU} {id:Int} (h:Hg (ev l id).Kind=true):dM l (ev l id).Id=true∧ev l (ev l id).Id=ev l id:=by
 cases f:EO l id with
 |none=>unfold ev at h;rw[SG f]at h;exact absurd h BX
 |some e=>
  have j:dM l id=true:=by unfold dM;rw[f];rfl
  have :=(Ic j).2;rw[this];exact⟨j,rfl⟩
def aoO :H8 G6:=⟨EF _,EF _,EF _,EF _,EF _,EF _,EF _,EF _,EF _,EF _,EF _,EF _,fun _ h=>absurd h GR,fun _ h=>absurd h GR,fun _ h=>absurd h GR⟩
def aDH {l:List AU} (f:EM l) (id:Int):H8 (ev l id):=by
 unfold ev IE;cases h:EO l id with
 |none=>exact aoO
 |some e=>exact f e (Jz h)
def aF5 {l:List AU} (hl:l.length≤100) (f:EM l):∀(ids:List Int) (t:List EC),Le l t→Le l (ids.foldl (fun t id=>t++[Gs l t (ev l id)]) t)
 | [],t,h=>h
 |x::ids,t,h=>by rw[Fa];exact aF5 hl f ids _ (h.line hl f (aDH f x).prev aqJ)
structure OH (t:List EC) (m1 m2:List (Int×List Az)) (m3:List (Int×Int)):Prop where
 b:∀x,Bv m1 x=(Eb t x).map (·.before)
 a:∀x,Bv m2 x=(Eb t x).map (·.after)
 r:∀x,Bv m3 x=(Eb t x).map (·.err)
def OH.after {t:List EC} {j f:List (Int×List Az)} {m:List (Int×Int)} (h:OH t j f m) (x:Int):(Bv f x).getD []=Gn t x:=by rw[h.a];rfl
def OH.err {t:List EC} {j m:List (Int×List Az)} {f:List (Int×Int)} (h:OH t j m f) (x:Int):(Bv f x).getD 0=errOf t x:=by rw[h.r];rfl
def agC {t:List EC} {j m:List (Int×List Az)} {q:List (Int×Int)} (h:OH t j m q) (l:List AU) (e:AU) (s:List Az) (hl:l.length≤100) (u:EM l) (f:H8 e) (z:s.length≤100):
 uH j m q l e s=some (LJ l t e s):=by
 have J:=f.auth;have L:=aa0 l s;unfold uH LJ Ym;rw[ar5 l e hl f,Af];cases I:UF l e != 0 with
 |true=>simp only[Bh];rw[I];rfl
 |false=>
  simp only[BO];rw[aMx l e AL AL,Af,aEb e _ (Dn (adB l e) AL) (u.from e) f,Af];cases ha:Ot e (Rf l e) != 0 with
  |true=>rfl
  |false=>
   simp only[BO];unfold aKG;rw[IC e.bJ (fuel_lt AL) (fun x=>errOf t x != 0) 16 (some (Ot e (PL l s)))]
   ·cases e.bJ.any (fun x=>errOf t x != 0)<;>rfl
   ·intro k i hi;unfold aII;rw[DW hi,h.err]
   intro k;unfold aII;rw[EP,aiI l s hl AL,Af,aEb e (PL l s) AL (ase u _) f];rfl
def OH.snoc {t:List EC} {s u f j:List (Int×List Az)} {z m:List (Int×Int)} (h:OH t s u z) {y:EC} (q:Eb t y.id=none)
 (I:∀x,Bv f x=bif x==y.id then some y.before else Bv s x) (J:∀x,Bv j x=bif x==y.id then some y.after else Bv u x) (L:∀x,Bv m x=bif x==y.id then some y.err else Bv z x):OH (t++[y]) f j m:=by
 refine⟨fun x=>?_,fun x=>?_,fun x=>?_⟩
 ·rw[I,ou q,h.b];cases x==y.id<;>rfl
 ·rw[J,ou q,h.a];cases x==y.id<;>rfl
 rw[L,ou q,h.r];cases x==y.id<;>rfl
def add_eq {t:List EC} {u z:List (Int×List Az)} {I:List (Int×Int)} (h:OH t u z I) (l:List AU) (e:AU) (hl:l.length≤100) (s:EM l) (J:H8 e) (L:Le l t) (M:Eb t e.Id=none):
 gy (aBL u z I l e) (fun r=>OH (t++[Gs l t e]) r.1 r.2.1 r.2.2):=by
 have O:=J.prev;unfold aBL aKA;refine RS e.bD.length (fuel_lt AL) (fun i a=>a=(e.bD.take i).map (Gn t)) rfl (fun i a k hi ha U=>?_) fun a k ha=>?_
 ·have Y:a.length≤i:=by rw[ha,Ch,Gx];omega
  unfold aCO;rw[DW hi,Et Ij,Af,wrap_succ i AL,h.after];exact U _ (by rw[map_take hi,ha])
 rw[Jy]at ha;subst ha;unfold aCO;have Z:II l (stB l t e):=L.stB hl s O;have hpl:=Z.length;have q:bV l (e.bD.map (Gn t))=some (stB l t e):=ahQ (L.okay hl s _ AL);rw[EP,q,Af,agC h l e _ hl s J AL,Af];have j:Gs l t e=vW e (stB l t e) (LJ l t e (stB l t e)):=rfl;rw[j];generalize LJ l t e (stB l t e)=r;have m:∀(c d f:Bool) {R:Type} (g:Bool→Option R),((bif c then some d else some false).bind fun x9=>(bif x9 then some f else some false).bind g)=g (c&&(d&&f)):=fun c d f R g=>by cases c<;>cases d<;>rfl
 rw[m];show gy (bif (r==0&&Hg e.Kind)then _ else _) _;unfold vW;cases hc:(r==0&&Hg e.Kind)with
 |true=>
  simp only[Bh];rw[VY _ _ _ _ AL,Af];refine .ret (h.snoc M (fun x=>Pm ..) (fun x=>?_) fun x=>Pm ..);rw[Pm,Pm];cases x==e.Id<;>rfl
 |false=>exact .ret (h.snoc M (fun x=>Pm ..) (fun x=>Pm ..) fun x=>Pm ..)
def run_go (l:List AU) (ids:List Int) (hl:l.length≤100) (s:EM l) (m:∀x∈ids,dM l x=true) (u:ids.Nodup) (I:ids.length≤1000):gy (aGu ids l 0 [] [] []) (fun o=>∃T,o=some T∧OH (IX l ids) T.1 T.2.1 T.2.2):=by
 unfold aGu;refine adQ (body:=aHC ids l) (Q:=fun o=>∃T,o=some T∧OH (IX l ids) T.1 T.2.1 T.2.2) (fun n a b c d=>∃i:Nat,a=i∧i+n=ids.length∧OH (IX l (ids.take i)) b c d) ?_ BA ids.length 0 [] [] [] (fuel_lt AL) ⟨0,rfl,AL,⟨fun x=>rfl,fun x=>rfl,fun x=>rfl⟩⟩;rintro n a b c d k ⟨i,rfl,Y,q⟩ J;unfold aHC;by_cases hi:i<ids.length
 ·have z:=m _ (Eh hi)
  have f:Eb (IX l (ids.take i)) (ev l ids[i]).Id=none:=by
   rw[aFp,(Ic z).2];unfold IX;rw[aEi l _ _ fun x L=>m x (Zz L),List.map_nil,J4];intro q;obtain⟨j,M,e⟩:=Hf q;rw[Gx]at M;rw[aHy]at e;have :=KQ.1 (aBl.1 u) j i AL hi AL;exact this e
  rw[DW hi,NM l _ AL,Af];refine(add_eq q l _ hl s (aDH s ids[i]) (aF5 hl s _ _ fun y O=>absurd O GR) f).bind fun r U=>?_;exact J (n-1) _ _ _ _ AL ⟨i+1,wrap_succ i AL,AL,by rw[adz l hi];exact U⟩
 have :i=ids.length:=AL
 subst this;rw[EP];exact .ret ⟨_,rfl,by rw[Jy]at q;exact q⟩
structure Ov (l:List AU):Prop where
 len:l.length≤100
 small:EM l
 nodup:(l.map (·.Id)).Nodup
 dep:Za l
def V7 {l:List AU} {x:Int}:dM l x=true↔x∈l.map (·.Id):=by
 unfold dM EO;rw[List.find?_isSome,F7];exact⟨fun⟨e,f,h⟩=>⟨e,f,Jf⟩,fun⟨e,f,h⟩=>⟨e,f,Jf⟩⟩
def aJR (l:List AU):(Hy l).Perm (l.map (·.Id)):=(aHo l).map _
def aHH {l:List AU} {x:Int}:x∈Hy l↔dM l x=true:=by rw[(aJR l).mem_iff,V7]
def aqd (l:List AU):(Hy l).length=l.length:=by unfold Hy;rw[Ch,aLb]
def Ov.order {l:List AU} (h:Ov l):(Hy l).Nodup:=(aJR l).nodup_iff.2 h.nodup
def Z7 (l:List AU) (c:Int):List EC:=bif c==0&&Ih l==0 then Hl l else[]
def run_eq (l:List AU) {c:Int} (q:NC l=some c) (h:c=0→Ov l):
 gy (Tj l) (fun o=>(Z7 l c=[]∧o=none)∨(Z7 l c=Hl l∧Ov l∧∃T,o=some T∧OH (Hl l) T.1 T.2.1 T.2.2)):=by
 unfold Tj Z7;rw[q,Af];by_cases m:c=0
 ·subst m;have f:=h rfl;rw[akg l f.len f.small f.dep];cases hd:Ih l==0 with
  |false=>
   have j:(Ih l != 0)=true:=by unfold bne;rw[hd];rfl
   simp only[lI,BO,Af,j,Bh];exact .ret (.inl ⟨rfl,rfl⟩)
  |true=>
   have j:(Ih l != 0)=false:=by unfold bne;rw[hd];rfl
   simp only[lI,BO,Af,j];rw[ajl l (by have :=f.len;omega),Af];exact(run_go l (Hy l) f.len f.small (fun x s=>aHH.1 s) f.order (by rw[aqd];have :=f.len;omega)).mono fun o u=>.inr ⟨rfl,f,u⟩
 have z:(c != 0)=true:=ay
 have I:(c==0)=false:=ay
 rw[z,I];exact .ret (.inl ⟨rfl,rfl⟩)
def ac1 {l:List AU} (h:Ov l):Le l (Hl l):=aF5 h.len h.small _ _ fun y f=>absurd f GR
def QT (t:List EC) (x:Int):Bool:=match Eb t x with
 |some y=>y.err==0
 |none=>false
def asg {α:Type} {lt:α→α→Bool} (I:∀a b c,lt b a=false→lt c b=false→lt c a=false) (ha:∀a b,lt a b=true→lt b a=false) (x:α):
 ∀n (A:List α),A.length=n→A.Pairwise (fun a b=>lt b a=false)→(Iw lt A x).Pairwise fun a b=>lt b a=false:=by
 intro n
 induction n with
 |zero=>
  intro A j _;obtain rfl:=GY j;exact aI6 ..
 |succ n J=>
  intro A j q;rcases List.eq_nil_or_concat A with rfl|⟨B,a,rfl⟩
  ·cases j
  rw[List.concat_eq_append]at j q ⊢;have j:B.length=n:=Ou
  obtain⟨L,_,u⟩:=Zr.1 q;cases m:lt x a with
  |true=>
   rw[acV m];refine Zr.2 ⟨J B j L,aI6 ..,fun y f z s=>?_⟩;rw[Ho.1 s];rcases Ew.1 ((aKo B x).mem_iff.1 f)with rfl|f
   ·exact ha _ _ m
   exact u y f a (Ho.2 rfl)
  |false=>
   rw[aLp m,show B++a::[x]=(B++[a])++[x] by simp];refine Zr.2 ⟨q,aI6 ..,fun y f z s=>?_⟩;rw[Ho.1 s];rcases Gf.1 f with f|f
   ·exact I y a x (u y f a (Ho.2 rfl)) m
   rw[Ho.1 f];exact m
def aCz {a b:AU}:TT b a=false↔a.Depth<b.Depth∨(a.Depth=b.Depth∧a.Id≤b.Id):=by
 unfold TT;rw[kC,aGE,X5,X5,Y5];omega
def agp (l:List AU):(Tf l).Pairwise fun a b=>TT b a=false:=by
 have key:∀(l A:List AU),A.Pairwise (fun a b=>TT b a=false)→(l.foldl (Iw TT) A).Pairwise fun a b=>TT b a=false:=by
  intro l
  induction l with
  |nil=>exact fun A h=>h
  |cons x l f=>
   intro A h;rw[Fa];refine f _ (asg (fun a b c j m=>?_) (fun a b h=>?_) x _ A rfl h)
   ·rw[aCz]at *;omega
   rw[aCz];unfold TT at h;rw[ZM,CP,Fl,Fl,PX]at h;omega
 exact key l [] .nil
def aCm {l:List AU} (J:(l.map (·.Id)).Nodup) {e:AU} (h:e∈l):ev l e.Id=e:=by
 have L:dM l e.Id=true:=V7.2 (F7.2 ⟨e,h,rfl⟩);obtain⟨M,s⟩:=Ic L;have O:=Jz M;obtain⟨i,hi,f⟩:=Hf O;obtain⟨j,u,m⟩:=Hf h;have U:=KQ.1 (aBl.1 J)
 have z:∀a b (ha:a<l.length) (I:b<l.length),a<b→l[a].Id≠l[b].Id:=fun a b ha I q=>by
  have :=U a b (by simpa using ha) sD q;simpa using this
 rcases nX i j with h|h|h
 ·exact absurd (by rw[f,m,s]) (z i j hi u h)
 ·subst h;rw[←f,m]
 exact absurd (by rw[f,m,s]) (z j i u hi h)
def amK {l:List AU} (s:(l.map (·.Id)).Nodup) {i:Nat} (hi:i<(Hy l).length) {a:Int} (u:dM l a=true) (hd:(ev l a).Depth<(ev l (Hy l)[i]).Depth):a∈(Hy l).take i:=by
 obtain⟨z,I⟩:=Ic u;have J:ev l a∈Tf l:=(aHo l).mem_iff.2 (Jz z);obtain⟨j,L,m⟩:=Hf J;have f:i<(Tf l).length:=by simpa[Hy]using hi
 have M:(Hy l)[i]=(Tf l)[i].Id:=TD (fun x:AU=>x.Id);have q:ev l (Hy l)[i]=(Tf l)[i]:=by rw[M];exact aCm s ((aHo l).mem_iff.1 (Eh f))
 have O:j<i:=by
  rcases nX j i with h|h|h
  ·exact h
  ·subst h;rw[q,←m]at hd;omega
  have :=KQ.1 (agp l) i j f L h;rw[aCz]at this;rw[q,←m]at hd;omega
 refine adn.2 ⟨j,AL,?_⟩;unfold Hy;rw[TD,m,I]
def QU (t:List EC) (s:List Az):Prop:=∀x∈s,QT t x.Id=true
structure Og (l:List AU) (t:List EC):Prop where
 st:∀y∈t,QU t y.before∧QU t y.after
 au:∀y∈t,y.err=0→∀a∈jl l y.id,QT t a=true
def jW {t:List EC} {x:Int}:QT t x=true↔∃y,Eb t x=some y∧y.err=0:=by
 unfold QT;cases Eb t x with
 |none=>simp
 |some y=>simp
def aIa {t:List EC} {x:Int} {y:EC} (h:Eb t x=some y) (z:EC):Eb (t++[z]) x=some y:=by
 unfold Eb at *;rw[kY,h];rfl
def sW {t:List EC} {x:Int} (h:QT t x=true) (z:EC):QT (t++[z]) x=true:=by
 obtain⟨y,f,j⟩:=jW.1 h;exact jW.2 ⟨y,aIa f z,j⟩
def QU.nil (t:List EC):QU t []:=fun _ h=>absurd h GR
def Og.after {l:List AU} {t:List EC} (h:Og l t) (x:Int):QU t (Gn t x):=by
 unfold Gn;cases hl:Eb t x with
 |none=>exact .nil t
 |some y=>exact(h.st y (Ri hl)).2
def Og.auth {l:List AU} {t:List EC} (h:Og l t) {x:Int} (j:QT t x=true):∀a∈jl l x,QT t a=true:=by
 obtain⟨y,f,m⟩:=jW.1 j;have :=h.au y (Ri f) m
 rwa [akN f]at this
def Og.chain {l:List AU} {t:List EC} (h:Og l t) {ids:List Int} (hi:∀x∈ids,QT t x=true) {x:Int} (j:JR l ids x):QT t x=true:=by
 induction j with
 |one m f _=>exact h.auth (hi _ m) _ f
 |more _ f _ q=>exact h.auth q _ f
def Og.full {l:List AU} {t:List EC} (h:Og l t) {j:List (List Az)} (I:∀s∈j,QU t s) {x:Int} (f:x∈Iy l j):QT t x=true:=by
 have q:∀s∈j,∀y∈Qd s,QT t y=true:=fun s m y J=>by
  obtain⟨z,u,rfl⟩:=F7.1 J;exact I s m z u
 unfold Iy at f;rcases Rq.1 f with f|f
 ·rw[Kv]at f;unfold QY at f;obtain⟨z,u,rfl⟩:=F7.1 f;obtain⟨s,m,u⟩:=Qj.1 u;exact I s m z (G7.1 u).1
 obtain⟨⟨s,m,f⟩,_⟩:=acr.1 f;unfold F8 at f;rcases Rq.1 f with f|f
 ·exact q s m x f
 exact h.chain (q s m) (bU.1 f)
def Og.resolve {l:List AU} {t:List EC} (h:Og l t) {f:List (List Az)} (m:Lm l f) (j:∀s∈f,QU t s):QU t (Xw l f):=by
 match f,m,j with
 | [],_,_=>exact .nil t
 | [s],_,j=>exact j s (FB ..)
 |s::r::f,m,j=>
  intro x u;rcases aKY u with z|⟨id,q,I,_,J⟩
  ·exact j s (FB ..) x ((aMo m.states (List.cons_ne_nil _ _)).1 z s (FB ..))
  have L:x.Id=id:=by rw[J];exact(Ic I).2
  rw[L];exact h.full j q
def Og.line {l:List AU} {t:List EC} (h:Og l t) (Y:Le l t) (hl:l.length≤100) (I:EM l) {id:Int} (Z:dM l id=true) (hn:Eb t id=none) (ha:∀a∈jl l id,∃y,Eb t a=some y):Og l (t++[Gs l t (ev l id)]):=by
 have u:(ev l id).Id=id:=(Ic Z).2
 have L:QU t (stB l t (ev l id)):=h.resolve (Y.okay hl I _ (by have :=(aDH I id).prev;omega)) fun s q=>by
  obtain⟨x,_,rfl⟩:=F7.1 q;exact h.after x
 have f:∀{s:List Az},QU t s→QU (t++[Gs l t (ev l id)]) s:=fun I x z=>sW (I x z) _;refine⟨fun y j=>?_,fun y j m a q=>?_⟩
 ·rcases Gf.1 j with j|j
  ·exact⟨f (h.st y j).1,f (h.st y j).2⟩
  rw[Ho.1 j];refine⟨f L,?_⟩;show QU _ (bif LJ l t (ev l id) (stB l t (ev l id))==0&&Hg (ev l id).Kind then Gq _ (ev l id).Kind (ev l id).Key (ev l id).Id else _);cases O:(LJ l t (ev l id) (stB l t (ev l id))==0&&Hg (ev l id).Kind)with
  |false=>exact f L
  |true=>
   rw[CP]at O;intro x z;rcases Q5 z with rfl|z
   ·refine jW.2 ⟨Gs l t (ev l id),?_,eq_of_beq O.1⟩;show Eb _ (ev l id).Id=_;have M:Eb t (Gs l t (ev l id)).id=none:=by show Eb t (ev l id).Id=none;rw[u];exact hn
    rw[ou M,show((ev l id).Id==(Gs l t (ev l id)).id)=true from Vl _];rfl
   exact sW (L x z) _
 rcases Gf.1 j with j|j
 ·exact sW (h.au y j m a q) _
 rw[Ho.1 j]at m q;have q:a∈jl l id:=by rw[←u];exact q
 have m:LJ l t (ev l id) (stB l t (ev l id))=0:=m;obtain⟨y,j⟩:=ha a q;refine sW (jW.2 ⟨y,j,?_⟩) _;unfold LJ at m;cases J:Ym l (ev l id) != 0 with
 |true=>rw[J,Bh]at m;rw[m]at J;cases J
 |false=>
  rw[J,BO]at m;cases U:(ev l id).bJ.any (fun x=>errOf t x != 0)with
  |true=>rw[U,Bh]at m;cases m
  |false=>
   have h3:=aAq.1 U a q;have :errOf t a=0:=by simpa using h3
   unfold errOf at this;rw[j]at this;exact this
def aBX {l:List AU} (hd:Ih l=0) {e:AU} (q:e∈l):(∀a∈e.bJ,dM l a=true∧(ev l a).Depth<e.Depth)∧∀a∈e.bD,dM l a=true∧(ev l a).Depth<e.Depth:=by
 unfold Ih at hd;cases m:Uf l with
 |false=>rw[m]at hd;cases hd
 |true=>
  rw[m,Bh]at hd;cases s:l.all (QD l)with
  |false=>rw[s]at hd;cases hd
  |true=>
   have f:=Dk.1 m e q;have j:=Dk.1 s e q;unfold TA at f;unfold QD at j;rw[CP,Dk,Dk]at f;rw[CP,Dk]at j;refine⟨fun a ha=>⟨f.2 a ha,PK (j.1 a ha)⟩,fun a ha=>⟨f.1 a ha,?_⟩⟩
   have z:((e.bD.length:Int)==0)=false:=by
    have :0<e.bD.length:=aFj ha;rw[Y5];omega
   have u:=j.2;rw[z,BO,CP,Dk]at u;exact PK (u.1 a ha)
structure Hw (x y:AU):Prop where
 id:y.Id=x.Id
 room:y.Room=x.Room
 sender:y.bC=x.bC
 kind:y.Kind=x.Kind
 key:y.Key=x.Key
 time:y.Time=x.Time
 depth:y.Depth=x.Depth
 prev:y.bD=x.bD
 auth:y.bJ=x.bJ
 n:x.Kind=2∨x.Kind=4→y.Content.N=x.Content.N
 levels:x.Kind=3→y.Content.Levels=x.Content.Levels
def Hw.refl (x:AU):Hw x x:=⟨rfl,rfl,rfl,rfl,rfl,rfl,rfl,rfl,rfl,fun _=>rfl,fun _=>rfl⟩
inductive GZ :List AU→List AU→Prop
 |nil:GZ [] []
 |cons {x y:AU} {xs ys:List AU} (h:Hw x y) (t:GZ xs ys):GZ (x::xs) (y::ys)
def GZ.append {a b c d:List AU} (h:GZ a b) (k:GZ c d):GZ (a++c) (b++d):=by
 induction h with
 |nil=>exact k
 |cons h _ f=>exact .cons h f
def GZ.flat {α:Type} {f g:α→List AU}:∀(l:List α),(∀x∈l,GZ (f x) (g x))→GZ (l.flatMap f) (l.flatMap g)
 | [],_=>.nil
 |x::l,h=>by
  rw[KW,KW];exact(h x (FB ..)).append (GZ.flat l fun y j=>h y (G9 _ j))
def GZ.any {p:AU→Bool} (f:∀x y,Hw x y→p y=p x) {a b:List AU} (h:GZ a b):b.any p=a.any p:=by
 induction h with
 |nil=>rfl
 |cons h _ j=>rw[YA,YA,f _ _ h,j]
def GZ.all {p:AU→Bool} (f:∀x y,Hw x y→p y=p x) {a b:List AU} (h:GZ a b):b.all p=a.all p:=by
 induction h with
 |nil=>rfl
 |cons h _ j=>rw[qw,qw,f _ _ h,j]
def GZ.find {p:AU→Bool} (f:∀x y,Hw x y→p y=p x) {a b:List AU} (h:GZ a b):(a.find? p=none∧b.find? p=none)∨∃x y,a.find? p=some x∧b.find? p=some y∧Hw x y∧p x=true:=by
 induction h with
 |nil=>exact .inl ⟨rfl,rfl⟩
 | @cons x y xs ys h _ j=>
   rw[U3,U3,f _ _ h];cases m:p x with
   |true=>exact .inr ⟨x,y,rfl,rfl,h,m⟩
   |false=>exact j
def GZ.one {x y:AU} (h:Hw x y):GZ [x] [y]:=.cons h .nil
def aIU {k:Az} {x y:AU} (h:Hw x y):Ea k y=Ea k x:=by unfold Ea;rw[h.kind,h.key]
def aoe {x y:AU} (h:Hw x y):Yq y=Yq x:=by
 unfold Yq;rw[h.kind,h.key,h.sender];cases f:x.Kind==2 with
 |false=>rfl
 |true=>rw[h.n (.inl (eq_of_beq f))]
def aG7 {x y:AU} (h:Hw x y):keysOf y=keysOf x:=by
 unfold keysOf NJ;rw[h.kind,h.key,h.sender];cases f:x.Kind==2 with
 |false=>rfl
 |true=>rw[h.n (.inl (eq_of_beq f))]
section
variable {a b : List AU}
def agk (h:GZ a b):(JO b).2=(JO a).2∧Hw (JO a).1 (JO b).1:=by
 unfold JO;rcases h.find (p:=fun x=>x.Kind==1) (fun x y h=>by rw[h.kind])with⟨f,j⟩|⟨x,y,f,j,m,_⟩
 ·rw[f,j];exact⟨rfl,.refl _⟩
 rw[f,j];exact⟨rfl,m⟩
def ab4 {u:ByteArray} {x y:AU} (h:Hw x y):OA u y=OA u x:=by unfold OA;rw[h.kind,h.key]
def aFc (h:GZ a b) (u:ByteArray):JW b u=JW a u:=by
 unfold JW;rcases h.find (p:=OA u) (fun x y h=>ab4 h)with⟨f,j⟩|⟨x,y,f,j,q,m⟩
 ·rw[f,j]
 rw[f,j];unfold OA at m;rw[CP]at m;exact q.n (.inl (eq_of_beq m.1))
def aks (h:GZ a b):SV b=SV a:=by
 unfold SV;rcases h.find (p:=fun x=>x.Kind==1) (fun x y h=>by rw[h.kind])with⟨f,j⟩|⟨x,y,f,j,m,_⟩
 ·rw[f,j]
 rw[f,j];exact m.sender
def aD1 (h:GZ a b):FI b=FI a:=by
 unfold FI;rcases h.find (p:=fun x=>x.Kind==3) (fun x y h=>by rw[h.kind])with⟨f,j⟩|⟨x,y,f,j,m,q⟩
 ·rw[f,j,aks h]
 rw[f,j];exact m.levels (eq_of_beq q)
def ag4 (h:GZ a b):(YB b).1=(YB a).1:=by
 unfold YB;rcases h.find (p:=fun x=>x.Kind==4) (fun x y h=>by rw[h.kind])with⟨f,j⟩|⟨x,y,f,j,m,q⟩
 ·rw[f,j]
 rw[f,j];exact m.n (.inr (eq_of_beq q))
def aG3 {e f:AU} (j:Hw e f) (h:GZ a b):Ot f b=Ot e a:=by
 unfold Ot;obtain⟨I,J⟩:=agk h;rw[j.kind,j.sender,j.room,I];cases e.Kind==1 with
 |true=>rfl
 |false=>
 cases(JO a).2 with
 |false=>rfl
 |true=>
 cases L:e.Kind==2 with
 |true=>
  have z:=j.n (.inl (eq_of_beq L));simp only[BO,ES,Bh]
  have q:Xr f b=Xr e a:=by
   unfold Xr;rw[I,j.prev,j.sender,j.key,z,J.id,J.sender,h.any fun x y h=>ab4 h]
  have s:∀m now,bM m now b=bM m now a:=fun m now=>by unfold bM;rw[ag4 h]
  have u:∀now,gG f b now=gG e a now:=fun now=>by
   unfold gG;rw[aFc h,j.sender,j.key,z,aD1 h]
  unfold wF;rw[q,j.key,j.sender,z,aFc h,s,u]
 |false=>
  simp only[BO,ES];rw[aFc h]
  have hl:dY f b=dY e a:=by
   unfold dY;rw[aD1 h,j.sender,j.kind];cases M:e.Kind==3 with
   |false=>rfl
   |true=>rw[j.levels (eq_of_beq M)]
  rw[hl]
end
structure FZ (l l':List AU) (S:List Int):Prop where
 nodup:S.Nodup
 mem:∀x∈S,dM l x=true∧dM l' x=true∧Hw (ev l x) (ev l' x)
 prev:∀x∈S,∀a∈(ev l x).bD,a∈S
 auth:∀x∈S,∀a∈(ev l x).bJ,a∈S
section
variable {l l' : List AU} {S : List Int} (h : FZ l l' S)
include h
def FZ.ids {ids:List Int} (hi:∀x∈ids,x∈S):GZ (ofIds l ids) (ofIds l' ids):=by
 induction ids with
 |nil=>exact .nil
 |cons x ids f=>
  obtain⟨j,k2,m⟩:=h.mem x (hi x (FB ..));unfold ofIds at f ⊢;rw[Na,Na,(Ic j).1,(Ic k2).1];exact .cons m (f fun y q=>hi y (G9 _ q))
def FZ.jl {x:Int} (f:x∈S):jl l' x=jl l x:=(h.mem x f).2.2.auth
def FZ.ch {ids:List Int} (hi:∀x∈ids,x∈S) {x:Int} (s:JR l ids x):x∈S∧JR l' ids x:=by
 induction s with
 |one m f _=>
  have j:=h.auth _ (hi _ m) _ f;exact⟨j,.one m (by rw[h.jl (hi _ m)];exact f) (h.mem _ j).2.1⟩
 |more _ f _ q=>
  have j:=h.auth _ q.1 _ f;exact⟨j,.more q.2 (by rw[h.jl q.1];exact f) (h.mem _ j).2.1⟩
def FZ.ch' {ids:List Int} (hi:∀x∈ids,x∈S) {x:Int} (s:JR l' ids x):x∈S∧JR l ids x:=by
 induction s with
 |one m f _=>
  rw[h.jl (hi _ m)]at f;have j:=h.auth _ (hi _ m) _ f;exact⟨j,.one m f (h.mem _ j).1⟩
 |more _ f _ q=>
  rw[h.jl q.1]at f;have j:=h.auth _ q.1 _ f;exact⟨j,.more q.2 f (h.mem _ j).1⟩
def FZ.chain {ids:List Int} (hi:∀x∈ids,x∈S):chainOf l' ids=chainOf l ids:=YU (aBT _ _) (aBT _ _) fun x=>by
 rw[bU,bU];exact⟨fun f=>(h.ch' hi f).2,fun f=>(h.ch hi f).2⟩
def FZ.aqY {ids:List Int} (hi:∀x∈ids,x∈S):∀x∈chainOf l ids,x∈S:=fun _ f=>(h.ch hi (bU.1 f)).1
def FZ.from {e f:AU} (q:Hw e f) (hi:∀x∈e.bJ,x∈S):GZ (Rf l e) (Rf l' f):=by
 unfold Rf;rw[aG7 q,q.auth];refine GZ.flat _ fun k _=>?_;rcases(h.ids hi).find (p:=Ea k) (fun x y h=>aIU h)with⟨j,m⟩|⟨x,y,j,m,s,_⟩
 ·rw[j,m];exact .nil
 rw[j,m];exact .one s
def FZ.fits {e f:AU} (I:Hw e f) (hi:∀x∈e.bJ,x∈S):UF l' f=UF l e:=by
 have J:=h.ids hi
 have O:e.bJ.all (dM l')=e.bJ.all (dM l):=by
  rw[Qa,Dk,Dk];exact⟨fun _ x q=>(h.mem x (hi x q)).1,fun _ x q=>(h.mem x (hi x q)).2.1⟩
 have U:∀(s:List Az) {xs ys:List AU},GZ xs ys→∀{m j:List AU},GZ m j→NZ s j ys=NZ s m xs:=by
  intro s xs ys L
  induction L with
  |nil=>intro m j _;rfl
  | @cons x y xs ys q _ Y=>
    intro m j M;have Z:(s.any fun k=>Ea k y)=s.any fun k=>Ea k x:=BR (fun p=>s.any p) (funext fun k=>aIU q)
    have hl:j.any (RV y)=m.any (RV x):=by
     rw[show RV y=RV x from funext fun u=>by unfold RV;rw[q.kind,q.key]];exact M.any fun u v z=>by unfold RV;rw[z.kind,z.key]
    unfold NZ;rw[Y (M.append (.one q)),Z,hl]
 unfold UF;rw[I.auth,I.kind,I.room,aG7 I,O,J.all (fun x y h=>by rw[h.room]),U _ J .nil,J.any (fun x y h=>by unfold YZ;rw[h.kind,h.key])]
omit h in
def find_congr {p q:Int→Bool}:∀(l:List Int),(∀x∈l,p x=q x)→l.find? p=l.find? q
 | [],_=>rfl
 |x::l,h=>by rw[U3,U3,h x (FB ..),find_congr l fun y f=>h y (G9 _ f)]
omit h in
def aAa :∀{a b:List Int},a.Nodup→(∀x∈a,x∈b)→a.length≤b.length
 | [],_,_,_=>EF _
 |x::a,b,q,f=>by
  have j:=f x (FB ..);obtain⟨s,u⟩:=Jr.1 q;have :=aAa (b:=b.erase x) u fun y m=>(List.mem_erase_of_ne fun e=>s (by rw[←e];exact m)).2 (f y (G9 _ m));rw[List.length_erase_of_mem j]at this;have z:0<b.length:=aFj j;rw[FK];omega
def FZ.power {x:Int} (f:x∈S):Nl l' (ev l' x)=Nl l (ev l x):=by
 unfold Nl;rw[(h.mem x f).2.2.auth];refine find_congr _ fun a ha=>?_;obtain⟨j,k2,m⟩:=h.mem a (h.auth x f a ha);rw[j,k2,m.kind]
def FZ.Ap:∀(n m:Nat) (seen:List Int) (id:Int),id∈S→seen.Nodup→(∀x∈seen,x∈S)→S.length≤seen.length+n→S.length≤seen.length+m→Ap l' m seen id=Ap l n seen id:=by
 have j:∀(seen:List Int) (id:Int),id∈S→seen.Nodup→(∀x∈seen,x∈S)→S.length≤seen.length→id∈seen:=fun seen id f u z hl=>by
  refine UN fun s=>?_
  have :=aAa (a:=id::seen) (b:=S) (Jr.2 ⟨s,u⟩) fun x I=>by
   rcases Ew.1 I with rfl|I
   ·exact f
   exact z x I
  rw[FK]at this;omega
 have q:∀(l:List AU) (n:Nat) (seen:List Int) (id:Int),id∈seen→Go.Proofs.YtolgdkhlelfpoaaGreat.Ap l n seen id=seen:=fun l n seen id f=>by
  cases n with
  |zero=>rfl
  |succ n=>unfold Go.Proofs.YtolgdkhlelfpoaaGreat.Ap;rw[LW.2 f];rfl
 intro n
 induction n with
 |zero=>
  intro m seen id f u z L _;have :=j seen id f u z AL;rw[q l' m seen id this,q l 0 seen id this]
 |succ n M=>
  intro m seen id f u z L h2;by_cases s:id∈seen
  ·rw[q l' m seen id s,q l (n+1) seen id s]
  obtain⟨m,rfl⟩:∃O,m=O+1:=by
   cases m with
   |zero=>exact absurd (j seen id f u z AL) s
   |succ m=>exact⟨m,rfl⟩
  obtain⟨U,k2,k3⟩:=h.mem id f;unfold Go.Proofs.YtolgdkhlelfpoaaGreat.Ap;rw[Ox.2 s,U,k2,h.power f];cases Y:Nl l (ev l id)with
  |none=>rfl
  |some x=>
   have I:x∈S:=h.auth id f x (Ri Y);refine M m (seen++[id]) x I (jX.2 ⟨u,BK,fun a ha b Z=>?_⟩) (fun y J=>?_) (by rw[Dx,PE];omega) (by rw[Dx,PE];omega)
   ·rw[Ho.1 Z];exact fun e=>s (e▸ha)
   rcases Gf.1 J with J|J
   ·exact z y J
   rw[Ho.1 J];exact f
def FZ.way {x:Int} (f:x∈S):bI l' x=bI l x:=by
 have j:S.length≤l.length:=by
  have :=aAa (b:=l.map (·.Id)) h.nodup fun x f=>V7.1 (h.mem x f).1
  rwa [Ch]at this
 have m:S.length≤l'.length:=by
  have :=aAa (b:=l'.map (·.Id)) h.nodup fun x f=>V7.1 (h.mem x f).2.1
  rwa [Ch]at this
 exact h.Ap _ _ [] x f .nil (fun _ h=>absurd h GR) Ou ay
def FZ.item {f:List Int} {x:Int} (j:x∈S):LQ l' f x=LQ l f x:=by
 unfold LQ aCx;rw[h.way j,(h.mem x j).2.2.time]
def FZ.Ci {f ids:List Int} (hi:∀x∈ids,x∈S):Ci l' f ids=Ci l f ids:=by
 unfold Go.Proofs.YtolgdkhlelfpoaaGreat.Ci;rw[kS (q:=dM l) fun x j=>by rw[(h.mem x (hi x j)).1,(h.mem x (hi x j)).2.1],ig fun x j=>h.item (hi x (G7.1 j).1)]
def FZ.Ce {full:List Int} (hi:∀x∈full,x∈S):Ce l' full=Ce l full:=by
 unfold Go.Proofs.YtolgdkhlelfpoaaGreat.Ce;refine kS fun x f=>?_;obtain⟨j,k2,m⟩:=h.mem x (hi x f);unfold X7;rw[j,k2,aoe m]
def FZ.VR {full:List Int} (hi:∀x∈full,x∈S):VR l' full=VR l full:=by
 unfold Go.Proofs.YtolgdkhlelfpoaaGreat.VR;rw[h.Ce hi,h.chain (ids:=Go.Proofs.YtolgdkhlelfpoaaGreat.Ce l full) fun x f=>hi x (G7.1 f).1]
def FZ.qN {ids:List Int} (hi:∀x∈ids,x∈S):qN l' ids=qN l ids:=by
 unfold Go.Proofs.YtolgdkhlelfpoaaGreat.qN;exact kS fun x f=>by rw[(h.mem x (hi x (Kv.1 f))).1,(h.mem x (hi x (Kv.1 f))).2.1]
def FZ.one {x:Int} (f:x∈S):chainOf l' [x]=chainOf l [x]:=h.chain fun y j=>by rw[Ho.1 j];exact f
def FZ.node {x:Int} (f:x∈S):Eu l' x=Eu l x:=by
 obtain⟨_,_,j⟩:=h.mem x f;unfold Eu aDv;rw[aD1 (h.from j (h.auth x f)),j.sender,j.time,h.one f]
omit h in
def as5 (l:List AU) (left:List Int) (b:Option Int) (x:Int):Ik l left b x=some x∨Ik l left b x=b:=by
 unfold Ik;cases b with
 |none=>cases cO l left x<;>simp
 |some y=>
  simp only[];cases cO l left x<;>cases jy (Eu l x) (Eu l y)<;>simp
def FZ.best {left:List Int}:∀(xs:List Int) (b:Option Int),(∀x∈xs,x∈S)→(∀y,b=some y→y∈S)→xs.foldl (Ik l' left) b=xs.foldl (Ik l left) b
 | [],_,_,_=>rfl
 |x::xs,b,q,s=>by
  have j:=q x (FB ..)
  have e:Ik l' left b x=Ik l left b x:=by
   unfold Ik cO;rw[h.one j];cases b with
   |none=>rfl
   |some y=>simp only[h.node j,h.node (s y rfl)]
  rw[Fa,Fa,e];refine FZ.best xs _ (fun y f=>q y (G9 _ f)) fun y f=>?_;rcases as5 l left b x with m|m
  ·rw[m]at f;rw[←CO f];exact j
  rw[m]at f;exact s y f
def FZ.vV:∀(n:Nat) (left:List Int),(∀x∈left,x∈S)→vV l' n left=vV l n left
 |0,_,_=>rfl
 |n+1,left,hi=>by
  unfold Go.Proofs.YtolgdkhlelfpoaaGreat.vV XH;rw[h.best left none hi fun _ h=>Gt];cases left.foldl (Ik l left) none with
  |none=>rfl
  |some b=>exact BR _ (FZ.vV n _ fun x f=>hi x (G7.1 f).1)
def Ip (S:List Int) (s:List Az):Prop:=∀x∈s,x.Id∈S
def FZ.pick {s:List Az} (u:Ip S s) {e f:AU} (q:Hw e f) (hi:∀x∈e.bJ,x∈S):GZ (TY l s e) (TY l' s f):=by
 unfold TY;rw[aG7 q];refine GZ.flat _ fun k _=>?_;unfold VE aJ;cases z:(GX s k.Kind k.Key).2 with
 |true=>
  have I:=aHZ (s:=s) (k:=k.Kind) (key:=k.Key) (n:=(GX s k.Kind k.Key).1) (Prod.ext rfl z);obtain⟨J,k2,L⟩:=h.mem _ (u _ I)
  have M:IE l (GX s k.Kind k.Key).1=(ev l (GX s k.Kind k.Key).1,true):=by
   have :=(Ic J).1;unfold ev IE at this ⊢;rw[this]
  have O:IE l' (GX s k.Kind k.Key).1=(ev l' (GX s k.Kind k.Key).1,true):=by
   have :=(Ic k2).1;unfold ev IE at this ⊢;rw[this]
  simp only[Bh];rw[M,O];exact .one L
 |false=>
  simp only[BO];unfold mQ;rw[q.auth];rcases(h.ids hi).find (p:=Ea k) (fun x y h=>aIU h)with⟨j,m⟩|⟨x,y,j,m,U,_⟩
  ·rw[j,m];exact .nil
  rw[j,m];exact .one U
def FZ.apply {s:List Az} (j:Ip S s) {x:Int} (m:x∈S):O1 l' s x=O1 l s x∧Ip S (O1 l s x):=by
 obtain⟨u,k2,f⟩:=h.mem x m
 have e:RU l' s x=RU l s x:=by
  unfold RU;rw[u,k2,f.kind,aG3 f (h.pick j f (h.auth x m))]
 unfold O1;rw[e,f.kind,f.key,f.id];refine⟨rfl,?_⟩;cases RU l s x with
 |false=>exact j
 |true=>
  intro y q;rcases Q5 q with rfl|q
  ·show(ev l x).Id∈S;rw[(Ic u).2];exact m
  exact j y q
def FZ.applies:∀(ids:List Int) (s:List Az),Ip S s→(∀x∈ids,x∈S)→Oy l' s ids=Oy l s ids∧Ip S (Oy l s ids)
 | [],_,f,_=>⟨rfl,f⟩
 |x::ids,s,f,hi=>by
  obtain⟨j,m⟩:=h.apply f (hi x (FB ..));unfold Oy;rw[Fa,Fa,j];exact FZ.applies ids _ m fun y q=>hi y (G9 _ q)
def FZ.closure {s:List Az} (j:Ip S s):F8 l' s=F8 l s∧∀x∈F8 l s,x∈S:=by
 have hi:∀x∈Qd s,x∈S:=fun x f=>by
  obtain⟨y,m,rfl⟩:=F7.1 f;exact j y m
 unfold F8;refine⟨by rw[h.chain hi],fun x f=>?_⟩;rcases Rq.1 f with f|f
 ·exact hi x f
 exact h.aqY hi x f
def FZ.full {f:List (List Az)} (J:∀s∈f,Ip S s):Iy l' f=Iy l f∧∀x∈Iy l f,x∈S:=by
 have u:∀(q:List (List Az)) (a:List Int),(∀s∈q,Ip S s)→q.foldl (fun a s=>H6 a (F8 l' s)) a=q.foldl (fun a s=>H6 a (F8 l s)) a:=by
  intro q
  induction q with
  |nil=>exact fun _ _=>rfl
  |cons s q O=>
   intro a M;rw[Fa,Fa,(h.closure (M s (FB ..))).1];exact O _ fun s m=>M s (G9 _ m)
 have I:∀x,Jw l' f x=Jw l f x:=fun x=>by
  unfold Jw;exact List.countP_congr fun s m=>by rw[(h.closure (J s m)).1]
 have hd:O7 l' f=O7 l f:=by
  unfold O7 allOf;rw[u f [] J];exact kS fun x _=>by rw[I]
 unfold Iy;rw[hd];refine⟨rfl,fun x j=>?_⟩;rcases Rq.1 j with j|j
 ·rw[Kv]at j;unfold QY at j;obtain⟨z,L,rfl⟩:=F7.1 j;obtain⟨s,m,L⟩:=Qj.1 L;exact J s m z (G7.1 L).1
 obtain⟨⟨s,m,j⟩,_⟩:=acr.1 j;exact(h.closure (J s m)).2 x j
omit h in
def aqn {f:List (List Az)} (j:∀s∈f,Ip S s):Ip S (JA f):=by
 cases f with
 |nil=>exact fun _ h=>absurd h GR
 |cons s f=>exact fun x m=>j s (FB ..) x (G7.1 m).1
def FZ.last {f:List (List Az)} (hs:∀s∈f,Ip S s):lastOf l' f=lastOf l f∧Ip S (lastOf l f):=by
 obtain⟨f1,Y⟩:=h.full hs;have q:=aqn hs;have I:KP l' f=KP l f:=by unfold KP;rw[f1,h.VR Y]
 have u:∀x∈KP l f,x∈S:=fun x j=>Y x (aGP.1 j).1
 have Z:Me l' f=Me l f:=by
  unfold Me;rw[I,h.qN u];exact h.vV _ _ fun x j=>u x (W9.1 j).1
 have L:∀x∈Me l f,x∈S:=fun x j=>u x (W9.1 (aDw l _ _ j)).1;obtain⟨a1,a2⟩:=h.applies (Me l f) (JA f) q L;have m:Il l' f=Il l f:=by unfold Il;rw[Z,a1]
 have M:Uk l' f=Uk l f:=by
  unfold Uk;rw[m];cases hg:(GX (Il l f) 3 BZ).2 with
  |false=>rfl
  |true=>exact h.way (a2 _ (aHZ (n:=(GX (Il l f) 3 BZ).1) (Prod.ext rfl hg)))
 have J:∀x∈RP (Iy l f) (KP l f),x∈S:=fun x j=>Y x (aMD.1 j).1
 have O:MP l' f=MP l f:=by
  unfold MP;rw[M,f1,I,h.Ci J]
 have U:∀x∈MP l f,x∈S:=fun x j=>by
  unfold MP Go.Proofs.YtolgdkhlelfpoaaGreat.Ci at j;obtain⟨y,hy,rfl⟩:=F7.1 j;obtain⟨z,hz,rfl⟩:=F7.1 ((Xt ..).mem_iff.1 hy);exact J z (G7.1 hz).1
 obtain⟨b1,b2⟩:=h.applies (MP l f) (Il l f) a2 U;unfold lastOf;rw[m,O,b1];refine⟨rfl,fun x j=>?_⟩;rcases aFW _ _ j with j|j
 ·exact q x j
 exact b2 x j
def FZ.resolve {f:List (List Az)} (j:∀s∈f,Ip S s):Xw l' f=Xw l f∧Ip S (Xw l f):=by
 match f,j with
 | [],_=>exact⟨rfl,fun _ h=>absurd h GR⟩
 | [s],j=>exact⟨rfl,j s (FB ..)⟩
 |s::r::f,j=>exact h.last j
def FZ.verdict {t t':List EC} {x:Int} (m:x∈S) {s:List Az} (I:Ip S s) (u:∀a∈(ev l x).bJ,errOf t' a=errOf t a):LJ l' t' (ev l' x) s=LJ l t (ev l x) s:=by
 obtain⟨O,k2,f⟩:=h.mem x m
 have J:Ym l' (ev l' x)=Ym l (ev l x):=by
  unfold Ym;rw[h.fits f (h.auth x m),aG3 f (h.from f (h.auth x m))]
 have j:(ev l' x).bJ.any (fun x=>errOf t' x != 0)=(ev l x).bJ.any (fun x=>errOf t x != 0):=by
  rw[f.auth,Qa,Gm,Gm];exact⟨fun⟨a,ha,e⟩=>⟨a,ha,by rw[←u a ha];exact e⟩,fun⟨a,ha,e⟩=>⟨a,ha,by rw[u a ha];exact e⟩⟩
 have q:Ot (ev l' x) (PL l' s)=Ot (ev l x) (PL l s):=aG3 f (h.ids fun y L=>by
  obtain⟨z,M,rfl⟩:=F7.1 L
  exact I z M)
 unfold LJ;rw[J,j,q]
def FZ.line {t t':List EC} {x:Int} (m:x∈S) (u:∀a∈(ev l x).bD,Gn t' a=Gn t a∧Ip S (Gn t a)) (z:∀a∈(ev l x).bJ,errOf t' a=errOf t a):
 Gs l' t' (ev l' x)=Gs l t (ev l x)∧Ip S (Gs l t (ev l x)).before∧Ip S (Gs l t (ev l x)).after:=by
 obtain⟨I,k2,j⟩:=h.mem x m
 have f:stB l' t' (ev l' x)=stB l t (ev l x)∧Ip S (stB l t (ev l x)):=by
  have J:(ev l x).bD.map (Gn t')=(ev l x).bD.map (Gn t):=ig fun a ha=>(u a ha).1;unfold stB;rw[j.prev,J]
  exact h.resolve fun s L=>by
   obtain⟨a,ha,rfl⟩:=F7.1 L;exact(u a ha).2
 unfold Gs vW;rw[f.1,h.verdict m f.2 z,j.id,j.kind,j.key];refine⟨rfl,f.2,?_⟩;show Ip S (bif LJ l t (ev l x) (stB l t (ev l x))==0&&Hg (ev l x).Kind then _ else _);cases(LJ l t (ev l x) (stB l t (ev l x))==0&&Hg (ev l x).Kind)with
 |false=>exact f.2
 |true=>
  intro y q;rcases Q5 q with rfl|q
  ·show(ev l x).Id∈S;rw[(Ic I).2];exact m
  exact f.2 y q
end
def al1 (l:List AU) {t t':List EC} {e:AU} (m:∀a∈e.bD,Gn t' a=Gn t a) (j:∀a∈e.bJ,errOf t' a=errOf t a):Gs l t' e=Gs l t e:=by
 have q:stB l t' e=stB l t e:=by
  unfold stB;rw[show e.bD.map (Gn t')=e.bD.map (Gn t)from ig m]
 have f:e.bJ.any (fun x=>errOf t' x != 0)=e.bJ.any (fun x=>errOf t x != 0):=by
  rw[Qa,Gm,Gm];exact⟨fun⟨a,ha,e⟩=>⟨a,ha,by rw[←j a ha];exact e⟩,fun⟨a,ha,e⟩=>⟨a,ha,by rw[j a ha];exact e⟩⟩
 unfold Gs LJ;rw[q,f]
def abn (l:List AU):∀(ids:List Int) {t:List EC} {x:Int} {y:EC},Eb t x=some y→Eb (ids.foldl (fun t id=>t++[Gs l t (ev l id)]) t) x=some y
 | [],_,_,_,h=>h
 |id::ids,_,_,_,h=>by rw[Fa];exact abn l ids (aIa h _)
def aMU {l:List AU} {ids:List Int} {i:Nat} {x:Int} {y:EC} (h:Eb (IX l (ids.take i)) x=some y):Eb (IX l ids) x=some y:=by
 have :IX l ids=(ids.drop i).foldl (fun t id=>t++[Gs l t (ev l id)]) (IX l (ids.take i)):=by
  unfold IX;rw[←YQ,VF]
 rw[this];exact abn l _ h
def aF7 {l:List AU} (M:Ov l) (hd:Ih l=0) {x:Int} (I:dM l x=true):Eb (Hl l) x=some (Gs l (Hl l) (ev l x)):=by
 obtain⟨i,hi,u⟩:=Hf (aHH.2 I)
 have m:∀j,(IX l ((Hy l).take j)).map (·.id)=(Hy l).take j:=fun j=>by
  unfold IX;rw[aEi l _ _ fun x Y=>aHH.1 (Zz Y)];rfl
 have q:(ev l x).Id=x:=(Ic I).2;have Z:ev l x∈l:=Jz (Ic I).1
 have s:∀a,dM l a=true→(ev l a).Depth<(ev l x).Depth→∃y,Eb (IX l ((Hy l).take i)) a=some y∧Eb (Hl l) a=some y:=fun a k1 k2=>by
  have :=amK M.nodup hi k1 (by rw[u];exact k2);cases hl:Eb (IX l ((Hy l).take i)) a with
  |some y=>exact⟨y,rfl,aMU hl⟩
  |none=>rw[aFp,m]at hl;exact absurd this hl
 have f:Eb (IX l ((Hy l).take i)) (Gs l (IX l ((Hy l).take i)) (ev l x)).id=none:=by
  show Eb _ (ev l x).Id=none;rw[q,aFp,m];intro z;obtain⟨j,hj,e⟩:=Hf z;rw[Gx]at hj;rw[aHy,←u]at e;exact KQ.1 (aBl.1 M.order) j i AL hi AL e
 have h1:Eb (IX l ((Hy l).take (i+1))) x=some (Gs l (IX l ((Hy l).take i)) (ev l x)):=by
  rw[adz l hi,u,ou f];have :(x==(Gs l (IX l ((Hy l).take i)) (ev l x)).id)=true:=by show(x==(ev l x).Id)=true;rw[q];exact Vl _
  rw[this];rfl
 have h2:=aMU h1
 have h3:Gs l (Hl l) (ev l x)=Gs l (IX l ((Hy l).take i)) (ev l x):=by
  obtain⟨O,U⟩:=aBX hd Z;refine al1 l (fun a ha=>?_) fun a ha=>?_
  ·obtain⟨y,J,L⟩:=s a (U a ha).1 (U a ha).2;unfold Gn;rw[J,L]
  obtain⟨y,J,L⟩:=s a (O a ha).1 (O a ha).2;unfold errOf;rw[J,L]
 rw[h3];exact h2
def ahJ {l l':List AU} {S:List Int} (h:FZ l l' S) (j:Ov l) (hd:Ih l=0) (m:Ov l') (q:Ih l'=0):∀x∈S,Eb (Hl l') x=Eb (Hl l) x∧Ip S (Gn (Hl l) x):=by
 have key:∀(n:Nat) (x:Int),x∈S→(ev l x).Depth<(n:Int)→Eb (Hl l') x=Eb (Hl l) x∧Ip S (Gn (Hl l) x):=by
  intro n
  induction n with
  |zero=>
   intro x f I;have :=(j.dep _ (Jz (Ic (h.mem x f).1).1)).1;omega
  |succ n z=>
   intro x f I;obtain⟨s,k2,Y⟩:=h.mem x f;obtain⟨J,L⟩:=aBX hd (Jz (Ic s).1)
   obtain⟨M,Z,O⟩:=h.line f (t:=Hl l) (t':=Hl l') (fun a ha=>by
    obtain⟨u,U⟩:=z a (h.prev x f a ha) (by have :=(L a ha).2;omega)
    exact⟨by unfold Gn;rw[u],U⟩) fun a ha=>by
    obtain⟨u,_⟩:=z a (h.auth x f a ha) (by have :=(J a ha).2;omega);unfold errOf;rw[u]
   rw[aF7 j hd s,aF7 m q k2,M];exact⟨rfl,by unfold Gn;rw[aF7 j hd s];exact O⟩
 intro x f;have :=(j.dep _ (Jz (Ic (h.mem x f).1).1)).2;exact key 100001 x f AL
end Go.Proofs.YtolgdkhlelfpoaaGreat
end
section
namespace Go.Proofs.YtolgdkhlelfpoaaGreat
def Qm (n:Int):Int:=if n<0 then bits .xor .u64 IntKind.u64.max (IntKind.u64.wrap (IntKind.u64.wrap n*2))else IntKind.u64.wrap (IntKind.u64.wrap n*2)
def lZ (n:Int):0≤Qm n∧Qm n<18446744073709551616:=by
 unfold Qm;have f:∀x:Int,0≤IntKind.u64.wrap x∧IntKind.u64.wrap x<18446744073709551616:=fun x=>by rw[dn];omega
 split
 ·obtain⟨j,q⟩:=f (IntKind.u64.wrap n*2);generalize IntKind.u64.wrap (IntKind.u64.wrap n*2)=y at *;obtain⟨k,rfl⟩:=Int.eq_ofNat_of_zero_le j;have :(IntKind.u64.max:Int)=((18446744073709551615:Nat):Int):=BX
  rw[this,bits_xor_u64_nat _ _ AL AL];have :18446744073709551615^^^k<2^64:=Nat.xor_lt_two_pow AL AL;constructor
  ·exact aCQ _
  have m:(2:Nat)^64=18446744073709551616:=BX
  omega
 exact f _
def MQ (u:Nat):List Int:=if u<128 then[(u:Int)]else((u % 128+128:Nat):Int)::MQ (u/128)
termination_by u
decreasing_by omega
def aC {u:Nat} (h:u<128):MQ u=[(u:Int)]:=by rw[MQ,Cb h]
def aGB {u:Nat} (h:¬u<128):MQ u=((u % 128+128:Nat):Int)::MQ (u/128):=by rw[MQ,D9 h]
def aKF :∀(j u:Nat),u<128^(j+1)→(MQ u).length≤j+1
 |0,u,h=>by rw[aC Jf];simp
 |j+1,u,h=>by
  by_cases f:u<128
  ·rw[aC f];simp
  rw[aGB f]
  have :u/128<128^(j+1):=by
   rw[Nat.div_lt_iff_lt_mul AL];rw[Nat.pow_succ]at h;exact h
  have :=aKF j (u/128) this;simp;omega
def enc (n:Int):List Int:=MQ (Qm n).toNat
def LV (n:Int):(enc n).length≤10:=by
 have h:=(lZ n).2;refine aKF 9 _ ?_;have :(128:Nat)^10=1180591620717411303424:=BX
 rw[this];have :=(lZ n).1;omega
def ahV (k:Nat):bits .or .u8 ((k:Int) % 256) 128=((k % 128+128:Nat):Int):=by
 have h:=u8_or_nat (k % 256) 128 AL AL;rw[show((k:Int) % 256)=((k % 256:Nat):Int)from by omega];have f:(128:Int)=((128:Nat):Int):=rfl;rw[f,h];congr 1;have key:∀x,x<256→x|||128=x % 128+128:=KT
 rw[key _ AL];omega
def oQ (u c:Int):Int:=(IntKind.u64.wrap (bits .xor .u64 u (IntKind.u64.wrap c)*1099511628211)).tmod 4611686018427387904
def aMC (x:Int):bits .and .u64 (IntKind.u64.wrap x) 4611686018427387903=(IntKind.u64.wrap x).tmod 4611686018427387904:=by
 rw[dn];have h:=bits_mask .u64 64 BX (fun n j m=>by rw[dn];omega) 62 BX (x % 18446744073709551616) AL AL;have e:((2:Int)^62-1)=4611686018427387903:=BX
 have f:((2:Int)^62)=4611686018427387904:=BX
 rw[acv AL];simpa[e,f]using h
def ajU (u c:Int):bits .and .u64 (IntKind.u64.wrap (bits .xor .u64 u (IntKind.u64.wrap c)*1099511628211)) 4611686018427387903=oQ u c:=aMC _
def uS (op:BinOp) (k:IntKind) (x y:Int) (h:op=.and∨op=.or∨op=.xor):E5 op k x y=bits op k x y:=by
 rcases h with rfl|rfl|rfl<;>rfl
def La {α:Type} {b:Nat} {l m:List α} (f:b≤100) (h:(l++m).length≤1099511627776):DU b l m=some (l++m):=by
 refine Et ?_;rw[Dx]at h;have :(l.length+m.length)*b≤1099511627776*100:=aCW h f;omega
def alb (u:Nat):E5 .or .u8 (IntKind.u8.wrap (u:Int)) 128=((u % 128+128:Nat):Int):=by
 rw[uS _ _ _ _ (.inr (.inl rfl)),show IntKind.u8.wrap (u:Int)=(u:Int) % 256 from by rw[dL],ahV]
def ajV (u:Nat):N7 .shr .u64 (u:Int) 7=some ((u/128:Nat):Int):=by
 unfold N7;rw[D9 AL];show some ((u:Int).fdiv (2^7))=_;rw[aLI _ BX];congr 1
def aJS {u n:Nat} (h:u<128^(n+1+1)):u/128<128^(n+1):=by
 rw[Nat.div_lt_iff_lt_mul AL];rw[Nat.pow_succ]at h;exact h
def aq2 :∀(n u:Nat),u<128^(n+1)→∀m b,n<m→(b++MQ u).length≤1099511627776→aX U8 m b (u:Int)=some (b++MQ u):=by
 intro n
 induction n with
 |zero=>
  intro u j m b z f;obtain⟨m,rfl⟩:∃q,m=q+1:=⟨m-1,AL⟩
  have h:u<128:=Ou
  rw[aC h]at f ⊢;show U8 (aX U8 m) b (u:Int)=_;simp only[U8,show decide ((u:Int)≥128)=false from by simp;omega,BO];rw[show IntKind.u8.wrap (u:Int)=(u:Int)from by rw[dL];omega,La AL f];rfl
 |succ n I=>
  intro u j m b z f;obtain⟨m,rfl⟩:∃q,m=q+1:=⟨m-1,AL⟩
  show U8 (aX U8 m) b (u:Int)=_;by_cases h:u<128
  ·rw[aC h]at f ⊢;simp only[U8,show decide ((u:Int)≥128)=false from by simp;omega,BO];rw[show IntKind.u8.wrap (u:Int)=(u:Int)from by rw[dL];omega,La AL f];rfl
  rw[aGB h]at f ⊢;have e:(b++((u % 128+128:Nat):Int)::MQ (u/128))=(b++[((u % 128+128:Nat):Int)])++MQ (u/128):=BK
  have s:(b++[((u % 128+128:Nat):Int)]).length≤1099511627776:=by simp only[Dx,FK,Nh]at f ⊢;omega
  simp only[U8,show decide ((u:Int)≥128)=true from by simp;omega,Bh,alb,La (show 1≤100 by omega) s,ajV,Af];rw[e];exact I (u/128) (aJS j) m _ AL (by rw[←e];exact f)
def ajc :∀(n u:Nat),u<128^(n+1)→u<18446744073709551616→∀m b,n<m→(b++MQ u).length≤1099511627776→aX UW m (u:Int) b=some (b++MQ u):=by
 intro n
 induction n with
 |zero=>
  intro u j _ m b z f;obtain⟨m,rfl⟩:∃q,m=q+1:=⟨m-1,AL⟩
  have h:u<128:=Ou
  rw[aC h]at f ⊢;show UW (aX UW m) (u:Int) b=_;simp only[UW,show decide ((u:Int)≥128)=false from by simp;omega,BO];rw[show IntKind.u8.wrap (u:Int)=(u:Int)from by rw[dL];omega,La AL f];rfl
 |succ n I=>
  intro u j J m b z f;obtain⟨m,rfl⟩:∃q,m=q+1:=⟨m-1,AL⟩
  show UW (aX UW m) (u:Int) b=_;by_cases h:u<128
  ·rw[aC h]at f ⊢;simp only[UW,show decide ((u:Int)≥128)=false from by simp;omega,BO];rw[show IntKind.u8.wrap (u:Int)=(u:Int)from by rw[dL];omega,La AL f];rfl
  rw[aGB h]at f ⊢;have e:(b++((u % 128+128:Nat):Int)::MQ (u/128))=(b++[((u % 128+128:Nat):Int)])++MQ (u/128):=BK
  have s:(b++[((u % 128+128:Nat):Int)]).length≤1099511627776:=by simp only[Dx,FK,Nh]at f ⊢;omega
  have L:UA (u:Int) 128=some ((u % 128:Nat):Int):=by unfold UA;rw[D9 AL,acv AL];congr 1
  have M:qL .u64 (u:Int) 128=some ((u/128:Nat):Int):=by
   unfold qL;rw[D9 AL,Int.tdiv_eq_ediv_of_nonneg AL];congr 1;rw[dn];omega
  have O:IntKind.u8.wrap (IntKind.u64.wrap (((u % 128:Nat):Int)+128))=((u % 128+128:Nat):Int):=by rw[dn,dL];omega
  simp only[UW,show decide ((u:Int)≥128)=true from by simp;omega,Bh,L,O,M,La (show 1≤100 by omega) s,Af];rw[e];exact I (u/128) (aJS j) AL m _ AL (by rw[←e];exact f)
def aLh (x:Int):N7 .shl .u64 x 1=some (IntKind.u64.wrap (x*2)):=rfl
def aL6 (x:Int):Xx .u64 x=bits .xor .u64 IntKind.u64.max x:=rfl
def aLr (n:Int):(Qm n).toNat<128^(9+1):=by
 have f:=lZ n;have :(128:Nat)^(9+1)=1180591620717411303424:=BX
 rw[this];omega
def aIw :9<BA:=aAh
def number_eq {b:List Int} {n:Int} (h:(b++enc n).length≤1099511627776):Wh b n=some (b++enc n):=by
 have m:=lZ n
 have f:aKU b (Qm n)=some (b++enc n):=by
  have :=aq2 9 (Qm n).toNat (aLr n) BA b aIw h
  rwa [Int.toNat_of_nonneg m.1]at this
 unfold Wh;rw[aLh,Af];unfold aAP;unfold Qm at f;by_cases j:n<0
 ·rw[Cb j]at f;rw[show decide (n<0)=true by simpa using j,Bh,aL6];exact f
 rw[D9 j]at f;rw[show decide (n<0)=false by simpa using j,BO];exact f
def as6 (n:Int):([]++enc n).length≤1099511627776:=by have :=LV n;simp only[J4];omega
def adf (n:Int):nY n=some (enc n):=by
 have m:=lZ n
 have f:aMY (Qm n) []=some (enc n):=by
  have :=ajc 9 (Qm n).toNat (aLr n) AL BA [] aIw (as6 n)
  rwa [Int.toNat_of_nonneg m.1]at this
 unfold nY;rw[aLh,Af];unfold aBd;unfold Qm at f;by_cases j:n<0
 ·rw[Cb j]at f;rw[show decide (n<0)=true by simpa using j,Bh,aL6];exact f
 rw[D9 j]at f;rw[show decide (n<0)=false by simpa using j,BO];exact f
def eK {b:List Int} {m:Nat} (h:b.length+m≤1099511627776):WS b (m:Int)=some b:=by
 unfold WS;rw[Mc AL AL];unfold IK;rw[Cb ⟨AL,AL,AL⟩];simp[gCopy]
def aBW {a b:List Int} (h:(a++b).length≤1099511627776):a.length≤1099511627776:=by rw[Dx]at h;omega
def I4 (s:ByteArray):List Int:=enc s.size++Bf s
def text_eq {b:List Int} {s:ByteArray} (h:(b++I4 s).length≤1099511627776):mZ b s=some (b++I4 s):=by
 unfold I4 at h ⊢;rw[←Gu]at h ⊢;unfold mZ;rw[number_eq (aBW h),Af,La AL h];rfl
def eX {b:List Int} {n:Int} (h:b.length+10≤1099511627776):KO b n=some (b++enc n):=by
 have :=LV n;unfold KO;rw[show(10:Int)=((10:Nat):Int)from rfl,eK AL,Af,number_eq JL];rfl
def XB {b:List Int} {n:Int} (h:b.length+10≤1099511627776):JM b n=some (b++enc n):=by
 have :=LV n;unfold JM;rw[La AL zl,Af,adf,Af,J4,La AL JL];rfl
def XE (s:ByteArray):(I4 s).length≤s.size+10:=by
 have :=LV s.size;unfold I4;rw[Dx,GV];omega
def aJx {b:List Int} {s:ByteArray} (h:b.length+s.size+10≤1099511627776):Oa b s=some (b++I4 s):=by
 have :=XE s;unfold Oa;rw[Mc AL AL,show(s.size:Int)+10=((s.size+10:Nat):Int) by omega,eK AL,Af,text_eq JL];rfl
def ab3 {b:List Int} {s:ByteArray} (h:b.length+s.size+10≤1099511627776):P6 b s=some (b++I4 s):=by
 have :=XE s;unfold P6;rw[XB AL,Af,La AL (by unfold I4 at this;rw[Dx]at this;rw[Dx,Dx];omega)];simp[I4]
def aIm {b:List Int} {f:Bool} (h:b.length+10≤1099511627776):UO b f=some (b++[bif f then 1 else 0]):=by
 unfold UO;rw[show(1:Int)=((1:Nat):Int)from rfl,eK AL,Af];cases f<;>simp only[Bh,BO]<;>rw[La AL xq]<;>rfl
def ajz {b:List Int} {f:Bool} (h:b.length+10≤1099511627776):aV b f=some (b++[bif f then 1 else 0]):=by
 unfold aV;rw[La AL zl,Af,J4];cases f<;>simp only[Bh,BO]<;>rw[La AL xq]<;>rfl
def aEN {α:Type} {body:(List Int→Int→Option (List Int))→List Int→Int→Option (List Int)} (l:List α) (hl:l.length<BA) (g:α→List Int)
 (s:∀k b (i:Nat) (h:i<l.length),(b++g l[i]).length≤1099511627776→body k b (i:Int)=k (b++g l[i]) (BI ((i:Int)+1))) (u:∀k b,body k b (l.length:Int)=some b) (b:List Int) (f:(b++l.flatMap g).length≤1099511627776):
 aX body BA b 0=some (b++l.flatMap g):=by
 have J:BA=9223372036854775808:=rfl
 have key:∀n (i:Nat) b,i+n=l.length→(b++(l.drop i).flatMap g).length≤1099511627776→∀m,n<m→aX body m b (i:Int)=some (b++(l.drop i).flatMap g):=by
  intro n
  induction n with
  |zero=>
   intro i b hi f m z;obtain⟨m,rfl⟩:∃q,m=q+1:=⟨m-1,AL⟩
   have :i=l.length:=AL
   subst this;show body (aX body m) _ _=_;rw[u,QG];simp
  |succ n I=>
   intro i b hi f m z;obtain⟨m,rfl⟩:∃q,m=q+1:=⟨m-1,AL⟩
   have j:i<l.length:=AL
   rw[NI j,KW,←Gu]at f ⊢;show body (aX body m) _ _=_;rw[s _ _ i j (aBW f),wrap_succ i AL];exact I (i+1) _ AL f m AL
 exact key l.length 0 b AL f BA hl
def OG (l:List Int):List Int:=enc l.length++l.flatMap enc
def Ll (l:List ByteArray):List Int:=enc l.length++l.flatMap I4
def asP {b:List Int} {l:List Int} (h:(b++OG l).length≤1099511627776) (hl:l.length≤1000):wY b l=some (b++OG l):=by
 have j:BA=9223372036854775808:=rfl;unfold OG at h ⊢;rw[←Gu]at h ⊢;unfold wY;rw[number_eq (aBW h),Af];unfold abS;refine aEN l AL enc (fun k b i hi f=>?_) (fun k b=>?_) _ h
 ·simp only[aFX,dec_lt hi,Bh,DI hi,number_eq f,Af]
 simp only[aFX,EH,BO]
def adE {b:List Int} {l:List ByteArray} (h:(b++Ll l).length≤1099511627776) (hl:l.length≤1000000000):wZ b l=some (b++Ll l):=by
 have j:BA=9223372036854775808:=rfl;unfold Ll at h ⊢;rw[←Gu]at h ⊢;unfold wZ;rw[number_eq (aBW h),Af];unfold aMW;refine aEN l AL I4 (fun k b i hi f=>?_) (fun k b=>?_) _ h
 ·simp only[aGV,dec_lt hi,Bh,DI hi,text_eq f,Af]
 simp only[aGV,EH,BO]
def xI {α:Type} {g:α→List Int} {m:Nat}:∀{l:List α},(∀x∈l,(g x).length≤m)→(l.flatMap g).length≤l.length*m
 | [],_=>BK
 |x::l,h=>by
  rw[KW,Dx,FK,Sl];have :=h x FB;have :=xI (l:=l) (fun y f=>h y (G9 _ f));omega
def aGI (l:List Int):(OG l).length≤l.length*10+10:=by
 have f:=LV l.length;have j:=xI (g:=enc) (m:=10) (l:=l) (fun x _=>LV x);unfold OG;rw[Dx];omega
def aCi {l:List ByteArray} {m:Nat} (h:∀s∈l,s.size≤m):(Ll l).length≤l.length*(m+10)+10:=by
 have j:=LV l.length;have q:=xI (g:=I4) (m:=m+10) (l:=l) (fun s f=>by have :=XE s;have :=h s f;omega);unfold Ll;rw[Dx];omega
def am5 {b:List Int} {l:List Int} (f:b.length+20000≤1099511627776) (hl:l.length≤1000):Wv b l=some (b++OG l):=by
 have j:=aGI l;unfold Wv;rw[Mc (x:=2*(l.length:Int)) AL AL,Mc AL AL,show 2*(l.length:Int)+10=((2*l.length+10:Nat):Int) by omega,eK AL,Af,asP JL hl];rfl
def amM {b:List Int} {l:List Int} (j:b.length+20000≤1099511627776) (hl:l.length≤1000):Zy b l=some (b++OG l):=by
 have m:BA=9223372036854775808:=rfl;have q:=aGI l;have h:(b++OG l).length≤1099511627776:=JL
 unfold OG at h ⊢;rw[←Gu]at h ⊢;unfold Zy;rw[XB AL,Af];unfold aM2;refine aEN l AL enc (fun k b i hi f=>?_) (fun k b=>?_) _ h
 ·simp only[aDY,dec_lt hi,Bh,DI hi,adf,La (show 1≤100 by omega) f,Af]
 simp only[aDY,EH,BO]
def arR {b:List Int} {l:List ByteArray} (j:b.length+3000000≤1099511627776) (hl:l.length≤1000) (f:∀s∈l,s.size≤2000):VI b l=some (b++Ll l):=by
 have m:=aCi f;unfold VI;rw[Mc (x:=8*(l.length:Int)) AL AL,Mc AL AL,show 8*(l.length:Int)+10=((8*l.length+10:Nat):Int) by omega,eK AL,Af,adE JL AL];rfl
def aoc {b:List Int} {l:List ByteArray} (J:b.length+3000000≤1099511627776) (hl:l.length≤1000) (q:∀s∈l,s.size≤2000):cZ b l=some (b++Ll l):=by
 have L:BA=9223372036854775808:=rfl;have M:=aCi q;have h:(b++Ll l).length≤1099511627776:=JL
 have key:∀n (i:Nat) b,i+n=l.length→b.length+(n*2020)≤1099511620000→∀m,n<m→aX (Wp l) m b (i:Int)=some (b++(l.drop i).flatMap I4):=by
  intro n
  induction n with
  |zero=>
   intro i b hi u m z;obtain⟨m,rfl⟩:∃j,m=j+1:=⟨m-1,AL⟩
   have :i=l.length:=AL
   subst this;show Wp l (aX (Wp l) m) _ _=_;simp only[Wp,EH,BO,QG];simp
  |succ n I=>
   intro i b hi u m z;obtain⟨m,rfl⟩:∃j,m=j+1:=⟨m-1,AL⟩
   have f:i<l.length:=AL
   have O:=q l[i] (Eh f);have U:=XE l[i];rw[NI f,KW,←Gu];show Wp l (aX (Wp l) m) _ _=_;simp only[Wp,dec_lt f,Bh,DI f,Af];rw[ab3 AL,Af,wrap_succ i AL];exact I (i+1) _ AL JL m AL
 unfold Ll;rw[←Gu];unfold cZ;rw[XB AL,Af];unfold acU;have :=key l.length 0 (b++enc l.length) AL (by have :=LV l.length;rw[Dx];omega) BA AL;exact this
structure Po (c:Bq):Prop where
 allow:c.Allow.length≤100
 deny:c.gB.length≤100
 users:c.Levels.Users.length≤100
 kinds:c.Levels.Kinds.length≤100
 text:c.Text.size≤2000
 via:c.Via.size≤2000
 allows:∀x∈c.Allow,x.size≤2000
 denies:∀x∈c.gB,x.size≤2000
 names:∀x∈c.Levels.Users,x.User.size≤2000
def H8.content {e:AU} (h:H8 e):Po e.Content:=⟨h.allow,h.deny,h.users,h.kinds,h.text,h.via,h.allows,h.denies,h.names⟩
section
variable {b : List Int} {k : Nat}
def Rk (h:b.length≤k) (f:k≤1000000000) (n:Int):KO b n=some (b++enc n)∧JM b n=some (b++enc n)∧(b++enc n).length≤k+10:=by
 have :=LV n;exact⟨eX AL,XB AL,JL⟩
def aKL (h:b.length≤k) (j:k≤1000000000) (f:Bool):UO b f=some (b++[bif f then 1 else 0])∧aV b f=some (b++[bif f then 1 else 0])∧(b++[bif f then(1:Int)else 0]).length≤k+10:=
 ⟨aIm AL,ajz AL,xq⟩
def Tn (h:b.length≤k) (f:k≤1000000000) {s:ByteArray} (m:Nat) (j:s.size≤m) (q:m≤1000000000):Oa b s=some (b++I4 s)∧P6 b s=some (b++I4 s)∧(b++I4 s).length≤k+m+10:=by
 have :=XE s;exact⟨aJx AL,ab3 AL,JL⟩
def adC (h:b.length≤k) (f:k≤1000000000) {l:List Int} (hl:l.length≤100):Wv b l=some (b++OG l)∧Zy b l=some (b++OG l)∧(b++OG l).length≤k+1010:=by
 have :=aGI l;exact⟨am5 AL AL,amM AL AL,JL⟩
def adb (h:b.length≤k) (j:k≤1000000000) {l:List ByteArray} (hl:l.length≤100) (f:∀s∈l,s.size≤2000):VI b l=some (b++Ll l)∧cZ b l=some (b++Ll l)∧(b++Ll l).length≤k+201010:=by
 have :=aCi f;exact⟨arR AL AL f,aoc AL AL f,JL⟩
end
def PU (u:Gi):List Int:=I4 u.User++enc u.N
def PV (u:Hu):List Int:=enc u.Kind++enc u.N
def Ig (l:D8):List Int:=[l.User,l.Message,l.State,l.fV,l.jH,l.nD,l.gQ]
def akE (b:List Int) (l:D8):List Int:=b++enc l.Users.length++l.Users.flatMap PU++enc l.Kinds.length++l.Kinds.flatMap PV++(Ig l).flatMap enc
def aj (c:Bq):List Int:=akE ([]++I4 c.Text++enc c.N++enc c.Target++[bif c.Thread then 1 else 0]++I4 c.Via++Ll c.Allow++Ll c.gB) c.Levels
def amL {u:Gi} (h:u.User.size≤2000):(PU u).length≤2020:=by
 have :=XE u.User;have :=LV u.N;unfold PU;rw[Dx];omega
def aaQ (u:Hu):(PV u).length≤20:=by
 have :=LV u.Kind;have :=LV u.N;unfold PV;rw[Dx];omega
def Zh {R α:Type} {body:(List Int→Int→Option R)→List Int→Int→Option R} (l:List α) (hl:l.length≤1000) (g:α→List Int) (m:Nat) (j:∀x∈l,(g x).length≤m) (f:List Int→Option R) (b:List Int)
 (q:∀k a (i:Nat) (h:i<l.length),a.length≤b.length+i*m→body k a (i:Int)=k (a++g l[i]) (BI ((i:Int)+1)))
 (s:∀k a,a.length≤b.length+l.length*m→body k a (l.length:Int)=f a):aX body BA b 0=f (b++l.flatMap g)∧(b++l.flatMap g).length≤b.length+l.length*m:=by
 constructor
 ·rw[KI l AL (fun a x=>a++g x) (fun i a=>a.length≤b.length+i*m) f AL (fun k a i h u=>⟨?_,q k a i h u⟩) s,foldl_append g];have :=j l[i] (Eh h);rw[Dx,Sl];omega
 have :=xI j;rw[Dx];omega
def ajk (c:Bq) (b:List Int) (u:b.length≤900000):(zS c b 0=some (b++(Ig c.Levels).flatMap enc)∧aGH (Ig c.Levels) b 0=some (b++(Ig c.Levels).flatMap enc))∧(b++(Ig c.Levels).flatMap enc).length≤b.length+70:=by
 have m:∀i:Nat,(h:i<(Ig c.Levels).length)→BJ ([c.Levels.User,c.Levels.Message,c.Levels.State,c.Levels.fV,c.Levels.jH,c.Levels.nD,c.Levels.gQ]:List Int) (i:Int)=some (Ig c.Levels)[i]:=fun i h=>DI h
 have j:=Zh (body:=jI c) (Ig c.Levels) (by simp[Ig]) enc 10 (fun x _=>LV x) some b (fun k a i h f=>by
  have q:i<7:=h;unfold jI
  rw[He (show(i:Int)<7 by omega),Bh,m i h,Af,eX AL,Af]) fun k a f=>rfl
 have s:=Zh (body:=uV (Ig c.Levels)) (Ig c.Levels) (by simp[Ig]) enc 10 (fun x _=>LV x) some b (fun k a i h f=>by
  have q:i<7:=h;unfold uV
  rw[DW h,XB AL,Af]) fun k a f=>by unfold uV;rw[EH];rfl
 exact⟨⟨j.1,s.1⟩,j.2⟩
def arU (c:Bq) (b:List Int) (z:b.length≤800000) (I:c.Levels.Kinds.length≤100):(uY c b 0=some (b++c.Levels.Kinds.flatMap PV++(Ig c.Levels).flatMap enc)∧aG5 c b 0=some (b++c.Levels.Kinds.flatMap PV++(Ig c.Levels).flatMap enc))∧(b++c.Levels.Kinds.flatMap PV++(Ig c.Levels).flatMap enc).length≤b.length+2070:=by
 have m:=Zh (body:=dW c) c.Levels.Kinds AL PV 20 (fun x _=>aaQ x) (fun a=>zS c a 0) b (fun k a i h f=>by
  obtain⟨j,_,s⟩:=Rk (b:=a) (k:=900000) AL AL c.Levels.Kinds[i].Kind;unfold dW
  rw[DW h,j,Af,eX AL,Af,Gu];rfl) fun k a f=>by unfold dW;rw[EH];rfl
 have u:=Zh (body:=aAC c) c.Levels.Kinds AL PV 20 (fun x _=>aaQ x) (fun a=>aGH (Ig c.Levels) a 0) b (fun k a i h f=>by
  obtain⟨_,j,s⟩:=Rk (b:=a) (k:=900000) AL AL c.Levels.Kinds[i].Kind;unfold aAC
  rw[DW h,j,Af,DI h,Af,XB AL,Af,Gu];rfl) fun k a f=>by unfold aAC aDO;rw[EH,BO,Af];rfl
 have hl:=m.2;have q:=ajk c (b++c.Levels.Kinds.flatMap PV) AL;exact⟨⟨m.1.trans q.1.1,u.1.trans q.1.2⟩,AL⟩
def apD (c:Bq) (b:List Int) (Y:b.length≤500000) (f:Po c):(aD9 c b 0=some (b++c.Levels.Users.flatMap PU++enc c.Levels.Kinds.length++c.Levels.Kinds.flatMap PV++(Ig c.Levels).flatMap enc)∧abx c b 0=some (b++c.Levels.Users.flatMap PU++enc c.Levels.Kinds.length++c.Levels.Kinds.flatMap PV++(Ig c.Levels).flatMap enc))∧(b++c.Levels.Users.flatMap PU++enc c.Levels.Kinds.length++c.Levels.Kinds.flatMap PV++(Ig c.Levels).flatMap enc).length≤b.length+204080:=by
 have Z:=f.users;have z:∀x∈c.Levels.Users,(PU x).length≤2020:=fun x J=>amL (f.names x J)
 have I:=Zh (body:=fK c) c.Levels.Users AL PU 2020 z (fun a=>uY c (a++enc c.Levels.Kinds.length) 0) b (fun k a i h j=>by
  have m:=f.names _ (Eh h);obtain⟨q,_,L⟩:=Tn (b:=a) (k:=900000) AL AL (s:=c.Levels.Users[i].User) 2000 m AL;unfold fK
  rw[DW h,q,Af,eX AL,Af,Gu];rfl) fun k a j=>by unfold fK;rw[EH,BO,eX AL,Af]
 have M:=Zh (body:=aBV c) c.Levels.Users AL PU 2020 z (fun a=>aG5 c (a++enc c.Levels.Kinds.length) 0) b (fun k a i h j=>by
  have m:=f.names _ (Eh h);obtain⟨_,q,L⟩:=Tn (b:=a) (k:=900000) AL AL (s:=c.Levels.Users[i].User) 2000 m AL;unfold aBV
  rw[DW h,q,Af,DI h,Af,XB AL,Af,Gu];rfl) fun k a j=>by unfold aBV;rw[EH,BO,XB AL,Af]
 have hl:=I.2;have he:=LV (c.Levels.Kinds.length:Int);have O:(b++c.Levels.Users.flatMap PU++enc c.Levels.Kinds.length).length=(b++c.Levels.Users.flatMap PU).length+(enc c.Levels.Kinds.length).length:=Dx ..;have u:=arU c (b++c.Levels.Users.flatMap PU++enc c.Levels.Kinds.length) AL f.kinds;have U:=u.2;rw[O]at U;exact⟨⟨I.1.trans u.1.1,M.1.trans u.1.2⟩,AL⟩
def aLg {c:Bq} (f:Po c):Yh c=some (aj c)∧qF c=some (aj c)∧(aj c).length≤700000:=by
 obtain⟨j,m,q⟩:=Tn (b:=[]) (k:=0) (Dw _) AL 2000 f.text AL;obtain⟨s,u,z⟩:=Rk q AL c.N;obtain⟨I,J,L⟩:=Rk z AL c.Target;obtain⟨M,O,U⟩:=aKL L AL c.Thread;obtain⟨Y,Z,h5⟩:=Tn U AL 2000 f.via AL;obtain⟨a6,b6,h6⟩:=adb h5 AL f.allow f.allows;obtain⟨a7,b7,h7⟩:=adb h6 AL f.deny f.denies;obtain⟨a8,b8,h8⟩:=Rk h7 AL (c.Levels.Users.length:Int);obtain⟨⟨a9,b9⟩,h9⟩:=apD c _ (Dn h8 AL) f;refine⟨?_,?_,Dn h9 AL⟩
 ·unfold Yh;rw[j,Af,s,Af,I,Af,M,Af,Y,Af,a6,Af,a7,Af,a8,Af];exact a9
 unfold qF;rw[m,Af,u,Af,J,Af,O,Af,Z,Af,b6,Af,b7,Af,b8,Af];exact b9
def vJ (e:AU):List Int:=
 []++enc e.Id++I4 e.Room++I4 e.bC++enc e.Kind++[bif e.State then 1 else 0]++I4 e.Key++enc e.Time++enc e.Depth++OG e.bD++OG e.bJ++I4 (OE (aj e.Content))++enc e.Hash++I4 e.nV.Server++enc e.nV.Sum
def apr (l:List Int):(OE l).size=l.length:=by
 have key:∀(l:List Int) (r:ByteArray),(l.foldl (fun r n=>r.push (UInt8.ofNat n.toNat)) r).size=r.size+l.length:=by
  intro l
  induction l with
  |nil=>intro r;rfl
  |cons x l f=>intro r;rw[Fa,f,ByteArray.size_push,FK];omega
 unfold OE;rw[key];simp
def aA5 {S α:Type} {body:(Int→S→Option S)→Int→S→Option S} (l:List α) (hl:l.length<1000) (f:S→α→Option S)
 (u:∀k (i:Nat) (h:i<l.length) s,body k (i:Int) s=(f s l[i]).bind fun x=>k (BI ((i:Int)+1)) x) (z:∀k s,body k (l.length:Int) s=some s) (s:S):aX body BA 0 s=l.foldlM f s:=by
 have L:BA=9223372036854775808:=rfl
 have key:∀n (i:Nat) s,i+n=l.length→∀m,n<m→aX body m (i:Int) s=(l.drop i).foldlM f s:=by
  intro n
  induction n with
  |zero=>
   intro i s hi m I;obtain⟨m,rfl⟩:∃q,m=q+1:=⟨m-1,AL⟩
   have :i=l.length:=AL
   subst this;rw[QG];exact z _ _
  |succ n J=>
   intro i s hi m I;obtain⟨m,rfl⟩:∃q,m=q+1:=⟨m-1,AL⟩
   have j:i<l.length:=AL
   rw[NI j,Ro];show body (aX body m) _ _=(f s l[i]).bind _;rw[u _ i j,wrap_succ i AL];congr 1;funext x;exact J (i+1) x AL m AL
 exact key l.length 0 s AL BA AL
def aJi (w:Ec) (l:List Int) (hl:l.length<1000):Ql w l=l.foldlM ZR w:=by
 unfold Ql abV;exact aA5 l hl _ (fun k i h s=>by simp only[aHW,dec_lt h,Bh,DI h,Af]) (fun k s=>by simp only[aHW,EH,BO]) w
def aMT (w:Ec) (l:List ByteArray) (hl:l.length<1000):V3 w l=l.foldlM aZ w:=by
 unfold V3 aK3;exact aA5 l hl _ (fun k i h s=>by simp only[aEX,dec_lt h,Bh,DI h,Af]) (fun k s=>by simp only[aEX,EH,BO]) w
def agx (w:Ec) (l:List Bool) (hl:l.length<1000):oV w l=l.foldlM qg w:=by
 unfold oV acs;exact aA5 l hl _ (fun k i h s=>by simp only[aCc,dec_lt h,Bh,DI h,Af]) (fun k s=>by simp only[aCc,EH,BO]) w
def aqW (w:Ec) (l:List (List Int)) (hl:l.length<1000):lD w l=l.foldlM dc w:=by
 unfold lD acn;exact aA5 l hl _ (fun k i h s=>by simp only[aGk,dec_lt h,Bh,DI h,Af]) (fun k s=>by simp only[aGk,EH,BO]) w
def aFd {b c:List Int} {n:Int} (h:KO b n=some c):ZR ⟨b⟩ n=some ⟨c⟩:=by unfold ZR;rw[h];rfl
def aHK {b c:List Int} {n:ByteArray} (h:Oa b n=some c):aZ ⟨b⟩ n=some ⟨c⟩:=by unfold aZ;rw[h];rfl
def agB {b c:List Int} {n:Bool} (h:UO b n=some c):qg ⟨b⟩ n=some ⟨c⟩:=by unfold qg;rw[h];rfl
def aJG {b c:List Int} {n:List Int} (h:Wv b n=some c):dc ⟨b⟩ n=some ⟨c⟩:=by unfold dc;rw[h];rfl
def zA {b c:List Int} {n:Int} (h:KO b n=some c):Ql ⟨b⟩ [n]=some ⟨c⟩:=by
 rw[aJi _ _ BK,Ro,aFd h];rfl
def ao9 {b c d:List Int} {n m:Int} (h:KO b n=some c) (k:KO c m=some d):Ql ⟨b⟩ [n,m]=some ⟨d⟩:=by
 rw[aJi _ _ BK,Ro,aFd h];show(ZR ⟨c⟩ m).bind _=_;rw[aFd k];rfl
def aFq {b c:List Int} {n:ByteArray} (h:Oa b n=some c):V3 ⟨b⟩ [n]=some ⟨c⟩:=by
 rw[aMT _ _ BK,Ro,aHK h];rfl
def aqc {b c d:List Int} {n m:ByteArray} (h:Oa b n=some c) (k:Oa c m=some d):V3 ⟨b⟩ [n,m]=some ⟨d⟩:=by
 rw[aMT _ _ BK,Ro,aHK h];show(aZ ⟨c⟩ m).bind _=_;rw[aHK k];rfl
def ahA {b c:List Int} {n:Bool} (h:UO b n=some c):oV ⟨b⟩ [n]=some ⟨c⟩:=by
 rw[agx _ _ BK,Ro,agB h];rfl
def ael {b c d:List Int} {n m:List Int} (h:Wv b n=some c) (k:Wv c m=some d):lD ⟨b⟩ [n,m]=some ⟨d⟩:=by
 rw[aqW _ _ BK,Ro,aJG h];show(dc ⟨c⟩ m).bind _=_;rw[aJG k];rfl
def aqs {e:AU} (f:H8 e):pK e=some (vJ e)∧qI e=some (vJ e)∧(vJ e).length≤1000000:=by
 obtain⟨ac,bc,hc⟩:=aLg f.content;obtain⟨a1,b1,h1⟩:=Rk (b:=[]) (k:=0) (Dw _) AL e.Id;obtain⟨a2,b2,h2⟩:=Tn h1 AL 2000 f.room AL;obtain⟨a3,b3,h3⟩:=Tn h2 AL 2000 f.sender AL;obtain⟨a4,b4,h4⟩:=Rk h3 AL e.Kind;obtain⟨a5,b5,h5⟩:=aKL h4 AL e.State;obtain⟨a6,b6,h6⟩:=Tn h5 AL 2000 f.key AL;obtain⟨a7,b7,h7⟩:=Rk h6 AL e.Time;obtain⟨a8,b8,h8⟩:=Rk h7 AL e.Depth;obtain⟨a9,b9,h9⟩:=adC h8 AL (Dn f.prev AL);obtain⟨j,m,q⟩:=adC h9 AL (Dn f.auth AL);obtain⟨u,z,I⟩:=Tn q AL (s:=OE (aj e.Content)) 700000 (by rw[apr];exact hc) AL;obtain⟨J,L,M⟩:=Rk I AL e.Hash;obtain⟨O,U,Y⟩:=Tn M AL 2000 f.server AL;obtain⟨Z,b14,h14⟩:=Rk Y AL e.nV.Sum;refine⟨?_,?_,Dn h14 AL⟩
 ·unfold pK
  rw[show Ql aA2 [e.Id]=_ from zA a1,Af,aqc a2 a3,Af,zA a4,Af,ahA a5,Af,aFq a6,Af,ao9 a7 a8,Af,ael a9 j,Af,
   ac,Af,aFq u,Af,zA J,Af,aFq O,Af,zA Z,Af]
  rfl
 unfold qI;rw[b1,Af,b2,Af,b3,Af,b4,Af,b5,Af,b6,Af,b7,Af,b8,Af,b9,Af,m,Af,bc,Af,z,Af,L,Af,U,Af,b14,Af];rfl
def zi (l:List Int):Int:=BI (l.foldl oQ ((IntKind.u64.wrap 860922984064492325).tmod 4611686018427387904))
def abl {l:List Int} (hl:l.length≤1000000):Xu l=some (zi l):=by
 unfold Xu wB;rw[Af];unfold aB9 aGS
 rw[uS _ _ _ _ (.inl rfl),aMC,KI l AL oQ (fun _ _=>True) (fun s=>some (BI s)) trivial (fun k s i h _=>⟨trivial,by
  simp only[kQ,dec_lt h,Bh,DI h,Af,uS _ _ _ _ (.inl rfl),uS _ _ _ _ (.inr (.inr rfl)),ajU]⟩) fun k s _=>by
  simp only[kQ,EH,BO]]
 rfl
def aLo {l:List Int} (hl:l.length≤1000000):je l=some (zi l):=by
 unfold je;rw[show aDQ=some 860922984064492325 from rfl,Af];unfold aEG aJ7
 rw[show UA (IntKind.u64.wrap 860922984064492325) 4611686018427387904=some ((IntKind.u64.wrap 860922984064492325).tmod 4611686018427387904)from rfl,Af,KI l AL oQ (fun _ _=>True) (fun s=>some (BI s)) trivial (fun k s i h _=>⟨trivial,by
  have e:UA (IntKind.u64.wrap ((E5 .xor .u64 s (IntKind.u64.wrap l[i]))*1099511628211)) 4611686018427387904=some (oQ s l[i]):=rfl
  simp only[aGs,dec_lt h,Bh,DI h,Af,e]⟩) fun k s _=>by
  simp only[aGs,EH,BO]]
 rfl
def Pq (k:Int) (c:Bq):Bq:=
 if k=1 then c else if k=2 then{ Dq with N:=c.N,Via:=c.Via }else if k=3 then{ Dq with Levels:=c.Levels }else if k=4 then{ Dq with N:=c.N,Allow:=c.Allow }else
 if k=5 then{ Dq with N:=c.N }else if k=6 then{ Dq with Allow:=c.Allow,gB:=c.gB }else if k=14 then{ Dq with Target:=c.Target }else Dq
def adw {R:Type} (a b:Int) (x y:R):(bif a==b then x else y)=if a=b then x else y:=by
 by_cases h:a=b
 ·subst h;simp
 have :(a==b)=false:=Jf
 rw[this,D9 h];rfl
def adp {R:Type} (p:Prop) [Decidable p] (x y:R):(if p then some x else some y)=some (if p then x else y):=by split<;>rfl
def aD6 (k:Int) (c:Bq):jQ k c=some (Pq k c):=by
 unfold jQ Pq;simp only[adw,adp]
def texts_eq {l:List ByteArray} (h:l.length≤100):PZ l=some l:=by
 unfold PZ;rw[La AL zl];rfl
def aMg {l:D8} (j:l.Users.length≤100) (f:l.Kinds.length≤100):Yi l=some l:=by
 unfold Yi;rw[La AL zl,Af,La AL (by rw[J4];exact Dn f AL)];rfl
def zB (k:Int):Int:=if k=2 then 18 else if k=3 then 128 else if k=4 then 34 else if k=5 then 2 else if k=6 then 96 else if k=14 then 4 else 0
def aeh (k:Int):gJ k=some (zB k):=by
 by_cases j:k=2
 ·subst j;rfl
 by_cases m:k=3
 ·subst m;rfl
 by_cases q:k=4
 ·subst q;rfl
 by_cases s:k=5
 ·subst s;rfl
 by_cases f:k=6
 ·subst f;rfl
 unfold gJ er zB;simp only[adw,j,m,q,s,f,Jl,show(k==6)=false from by simpa using f,BO,adp]
def acY (k:Int) {c:Bq} (f:Po c):lC k c=some (Pq k c):=by
 by_cases m:k=1
 ·subst m;show(PZ c.Allow).bind (fun J=>(PZ c.gB).bind fun L=>(Yi c.Levels).bind fun M=>some ({ { { c with Allow:=J }with gB:=L }with Levels:=M }))=_;rw[texts_eq f.allow,Af,texts_eq f.deny,Af,aMg f.users f.kinds];rfl
 unfold lC;rw[show(k==1)=false from by simpa using m,BO,aeh,Af];by_cases q:k=2
 ·subst q;rfl
 by_cases s:k=3
 ·subst s;show(Yi c.Levels).bind (fun x=>some { Dq with Levels:=x })=_;rw[aMg f.users f.kinds];rfl
 by_cases u:k=4
 ·subst u;show(PZ c.Allow).bind (fun x=>some { Dq with N:=c.N,Allow:=x })=_;rw[texts_eq f.allow];rfl
 by_cases z:k=5
 ·subst z;rfl
 by_cases I:k=6
 ·subst I;show(PZ c.Allow).bind (fun x=>(PZ c.gB).bind fun y=>some { Dq with Allow:=x,gB:=y })=_;rw[texts_eq f.allow,Af,texts_eq f.deny];rfl
 by_cases j:k=14
 ·subst j;rfl
 have O:zB k=0:=by unfold zB;simp only[q,s,u,z,I,j,Jl]
 have U:Pq k c=Dq:=by unfold Pq;simp only[m,q,s,u,z,I,j,Jl]
 rw[O,U];rfl
def Po.strip {c:Bq} (h:Po c) (k:Int):Po (Pq k c):=by
 have f:(0:Nat)≤2000:=AL
 unfold Pq
 repeat' split
 all_goals first|exact h|exact⟨by simp[Dq,L8,h.allow],by simp[Dq,L8,h.deny],by simp[Dq,L8,h.users],by simp[Dq,L8,h.kinds],by first|exact h.text|exact f,by first|exact h.via|exact f,by first|exact h.allows|simp[Dq],by first|exact h.denies|simp[Dq],by first|exact h.names|simp[Dq,L8]⟩
def Qg (e:AU):AU:={ e with Content:=Pq e.Kind e.Content }
def Rh (e:AU):Prop:=H8 { e with nV:=Z8 }
def Rh.content {e:AU} (h:Rh e):Po e.Content:=H8.content (e:={ e with nV:=Z8 }) h
def H8.x {e:AU} (h:H8 e):Rh e:=⟨h.prev,h.auth,h.allow,h.deny,h.users,h.kinds,h.room,h.sender,h.key,h.text,h.via,EF _,h.allows,h.denies,h.names⟩
def aon {e:AU} (f:Rh e):aBN e=some (Qg e)∧Uj e=some (Qg e):=by
 unfold aBN Uj;rw[acY _ f.content,aD6];exact⟨rfl,rfl⟩
def oK (e:AU):Int:=zi (aj e.Content)
def sG (e:AU):AU:={ { Qg e with Id:=0 }with nV:=Z8 }
def aKI (e:AU):Int:=zi (vJ (sG e))
def Rh.bare {e:AU} (h:Rh e):H8 (sG e):=by
 have f:=h.content.strip e.Kind;exact⟨h.prev,h.auth,f.allow,f.deny,f.users,f.kinds,h.room,h.sender,h.key,f.text,f.via,by show(0:Nat)≤2000;omega,f.allows,f.denies,f.names⟩
def aLE {e:AU} (f:Rh e):bW e=some (oK e)∧aA7 e=some (oK e):=by
 obtain⟨a,b,h⟩:=aLg f.content;unfold bW aA7;rw[a,b,Af,Af,abl AL,aLo AL];exact⟨rfl,rfl⟩
def ae8 {e:AU} (f:Rh e):jq e=some (aKI e)∧aC0 e=some (aKI e):=by
 obtain⟨a,b⟩:=aon f;obtain⟨c,d,h⟩:=aqs f.bare;unfold jq aC0;rw[a,b,Af,Af];show(pK (sG e)).bind _=_∧(qI (sG e)).bind _=_;rw[c,d,Af,Af,abl AL,aLo AL];exact⟨rfl,rfl⟩
def Ob (s:ByteArray):Int:=bif Fz s 64 then 0 else 3
def TF (s:ByteArray):Int:=bif Fz s 33 then 0 else 3
def Vg {s:ByteArray} (f:s.size≤9223372036854775807):Xb s=some (Ob s)∧VX s=some (Ob s):=by
 unfold Xb jO VX Ob;rw[aGL f (marks:=lX) (by rw[show Bf lX=[64]from rfl];intro m j;simp only[Ew,GR,fB]at j;omega),aBz f BX,show((Bf lX).any fun m=>Fz s m)=(Fz s 64||false)from rfl];cases Fz s 64<;>exact⟨rfl,rfl⟩
def jw {s:ByteArray} (f:s.size≤9223372036854775807):o9 s=some (TF s)∧eB s=some (TF s):=by
 unfold o9 jO eB TF;rw[aGL f (marks:=o8) (by rw[show Bf o8=[33]from rfl];intro m j;simp only[Ew,GR,fB]at j;omega),aBz f BX,show((Bf o8).any fun m=>Fz s m)=(Fz s 33||false)from rfl];cases Fz s 33<;>exact⟨rfl,rfl⟩
def ag2 {l:List Int} (h:U4 l=true):(58:Int)∉l:=by
 intro f;unfold U4 OT at h;simp only[CP,Dk]at h;have :=h.2 58 f;exact absurd this BX
def arO (s:ByteArray) (j:s.size≤2000):(splitB s (Jo s)).1.size≤2000∧(58:Int)∉Bf (splitB s (Jo s)).1∧(splitB s (Jo s)).2.1.size≤2000:=by
 have m:BZ.size≤2000:=BX
 cases h:Jo s with
 |false=>exact⟨m,by show(58:Int)∉Bf BZ;decide,m⟩
 |true=>
  have f:Qe s=true:=by
   unfold Jo Fz at h;cases f:Qe s with
   |true=>rfl
   |false=>rw[f]at h;simp at h
  refine⟨Dn (extract_size _ _ _) j,ag2 ?_,Dn (extract_size _ _ _) j⟩;unfold Qe at f;simp only[CP]at f;exact f.1.2
def any_false {α:Type} (l:List α):(l.any fun _=>false)=false:=BK
def aHi {α:Type} {body:(Int→Option Bool)→Int→Option Bool} (l:List α) (hl:l.length≤1000) (rest:Option Bool) (f:∀k (i:Nat) (h:i<l.length),body k (i:Int)=k (BI ((i:Int)+1))) (j:∀k,body k (l.length:Int)=rest):bn body BA 0=rest:=by
 rw[IC l (pO AL) (fun _=>false) false rest (fun k i h=>by rw[f k i h];rfl) j,any_false];rfl
def ak3 {l:List ByteArray} (h:l.length≤1000):Ub l l=some true:=by
 unfold Ub aCM;rw[show((l.length:Int) != (l.length:Int))=false from by simp,BO];exact aHi l h _ (fun k i h=>by simp only[lY,dec_lt h,Bh,DI h,Af,Vl,ES,BO]) (fun k=>by simp only[lY,EH,BO])
structure JC (c:Bq):Prop where
 allow:c.Allow.length≤9223372036854775807
 deny:c.gB.length≤9223372036854775807
 users:c.Levels.Users.length≤9223372036854775807
 kinds:c.Levels.Kinds.length≤9223372036854775807
 text:c.Text.size≤9223372036854775807
 via:c.Via.size≤9223372036854775807
 allows:∀x∈c.Allow,x.size≤9223372036854775807
 denies:∀x∈c.gB,x.size≤9223372036854775807
 names:∀x∈c.Levels.Users,x.User.size≤9223372036854775807
structure NU (e:AU):Prop where
 prev:e.bD.length≤9223372036854775807
 auth:e.bJ.length≤9223372036854775807
 room:e.Room.size≤9223372036854775807
 sender:e.bC.size≤9223372036854775807
 key:e.Key.size≤9223372036854775807
 server:e.nV.Server.size≤9223372036854775807
 content:JC e.Content
def aA4 (k:Int):pX k=some (decide (k≥1)&&decide (k≤14))∧bF k=some (decide (k≥1)&&decide (k≤14)):=by
 unfold pX bF;cases decide (k≥1)<;>cases decide (k≤14)<;>exact⟨rfl,rfl⟩
def Q7 (n:Int):Bool:=decide (n< -1000)||decide (n>1000)
def uG (n:Int):aU n=some (Q7 n)∧Px n=some (Q7 n):=by
 unfold aU Px Q7;cases decide (n< -1000)<;>cases decide (n>1000)<;>exact⟨rfl,rfl⟩
def N8 (c:Int):Bool:=decide (c<33)||decide (c>126)
def aBA (s:ByteArray):(s.toList==BZ.toList)=((s.size:Int)==0):=by
 rw[Om];by_cases h:s=BZ
 ·subst h;rfl
 have :¬s.size=0:=fun f=>h (bytes_inj (by
  have j:Bf s=[]:=GY (by rw[GV];exact f)
  rw[j];rfl))
 rw[Gv h];symm;rw[Y5];omega
def tN (s:ByteArray):Int:=if s.size=0 then 9 else if s.size>64 then 7 else bif (Bf s).any N8 then 3 else 0
def aF4 {s:ByteArray} (f:s.size≤9223372036854775807):lN s=some (tN s)∧ZQ s=some (tN s):=by
 have q:aFw s 0=some (bif (Bf s).any N8 then 3 else 0):=by
  unfold aFw;rw[IC (Bf s) gV N8 3 (some 0) (fun k i h=>?_) (fun k=>?_),JZ]
  ·have h':i<s.size:=Ur
   simp only[aEf,dec_lt h',Bh,Sm h,Af,N8];cases decide ((Bf s)[i]<33)<;>cases decide ((Bf s)[i]>126)<;>rfl
  simp only[aEf,GV,EH,BO]
 have u:aFZ s 0=some (bif (Bf s).any N8 then 3 else 0):=by
  unfold aFZ;rw[IC (Bf s) gV N8 3 (some 0) (fun k i h=>?_) (fun k=>?_),JZ]
  ·have h':i<s.size:=Ur
   simp only[aI4,dec_lt h',Bh,Sm h,Af,N8];cases decide ((Bf s)[i]<33)<;>cases decide ((Bf s)[i]>126)<;>rfl
  simp only[aI4,GV,EH,BO]
 unfold lN ZQ tN;rw[aBA,q,u];by_cases j:s.size=0
 ·simp[j]
 have :((s.size:Int)==0)=false:=by rw[Y5];omega
 rw[this,D9 j];by_cases m:s.size>64
 ·have :decide ((s.size:Int)>64)=true:=E8
  rw[this,Cb m];exact⟨rfl,rfl⟩
 have :decide ((s.size:Int)>64)=false:=E8
 rw[this,D9 m];exact⟨rfl,rfl⟩
def nI (s:ByteArray):Bool:=decide ((s.size:Int)≥1)&&decide ((s.size:Int)≤32)&& !(Bf s).any N8
def amy {s:ByteArray} (f:s.size≤9223372036854775807):zV s=some (nI s):=by
 unfold zV abL;rw[IC (Bf s) gV N8 false (some (decide ((s.size:Int)≥1)&&decide ((s.size:Int)≤32))) (fun k i h=>?_) (fun k=>?_)]
 ·unfold nI;cases(Bf s).any N8<;>cases decide ((s.size:Int)≥1)<;>cases decide ((s.size:Int)≤32)<;>rfl
 ·have h':i<s.size:=Ur
  simp only[aDc,dec_lt h',Bh,Sm h,Af,N8];cases decide ((Bf s)[i]<33)<;>cases decide ((Bf s)[i]>126)<;>rfl
 simp only[aDc,GV,EH,BO];cases decide ((s.size:Int)≥1)<;>cases decide ((s.size:Int)≤32)<;>rfl
def Sr (k:Int) (s:ByteArray):Bool:=if k=2 then Ob s==0 else if k=9 then nI s else true
def abp {k:Int} {s:ByteArray} (m:s.size≤9223372036854775807):wM k s=some (Sr k s):=by
 have q:aD5 s 0=some (bif (Bf s).any N8 then false else true):=by
  unfold aD5;rw[IC (Bf s) (by rw[GV];exact pO m) N8 false (some true) (fun k i h=>?_) (fun k=>?_),JZ]
  ·have h':i<s.size:=Ur
   simp only[aCa,dec_lt h',Bh,Sm h,Af,N8];cases decide ((Bf s)[i]<33)<;>cases decide ((Bf s)[i]>126)<;>rfl
  simp only[aCa,GV,EH,BO]
 unfold wM Sr;rw[(Vg m).2,q];by_cases f:k=2
 ·subst f;rfl
 rw[show(k==2)=false from by simpa using f,D9 f,BO];by_cases j:k=9
 ·subst j;unfold nI;have u:decide ((s.size:Int)≥1)= !decide ((s.size:Int)<1):=aHq
  have z:decide ((s.size:Int)≤32)= !decide ((s.size:Int)>32):=aE7
  rw[u,z];cases decide ((s.size:Int)<1)<;>cases decide ((s.size:Int)>32)<;>cases(Bf s).any N8<;>rfl
 rw[show(k != 9)=true from by simpa using j,D9 j];rfl
def aqm {e:AU} (f:NU e):aAJ e=some (TF e.Room==0&&Ob e.bC==0&&Sr e.Kind e.Key):=by
 have m:=f.room;have q:=f.sender;have u:=f.key;unfold aAJ Sr;rw[(jw AL).1,(Vg (s:=e.bC) AL).1,(Vg (s:=e.Key) AL).1,amy AL];simp only[Af,bne];cases TF e.Room==0 with
 |false=>rfl
 |true=>
  cases Ob e.bC==0 with
  |false=>rfl
  |true=>
   by_cases k2:e.Kind=2
   ·rw[k2];rfl
   by_cases j:e.Kind=9
   ·rw[j];rfl
   rw[show(e.Kind==2)=false from by simpa using k2,show(e.Kind==9)=false from by simpa using j,D9 k2,D9 j];rfl
def CB {R:Type} (x y:Option R):Prop:=∃r,x=some r∧y=some r
section
variable {A R : Type}
def CB.ret (r:R):CB (some r) (some r):=⟨r,rfl,rfl⟩
def CB.bind {a b:Option A} {f g:A→Option R} (h:CB a b) (k:∀x,CB (f x) (g x)):CB (a.bind f) (b.bind g):=by
 obtain⟨x,rfl,rfl⟩:=h;exact k x
def CB.bif {c:Bool} {x y f j:Option R} (m:c=true→CB x f) (q:c=false→CB y j):CB (bif c then x else y) (bif c then f else j):=by
 cases c with
 |true=>exact m rfl
 |false=>exact q rfl
def CB.of {x y:Option R} {r:R} (f:x=some r) (j:y=some r):CB x y:=⟨r,f,j⟩
def CB.loop {f g:(Int→Option R)→Int→Option R} (n:Nat) (u:n≤9223372036854775807) (j:∀k k' (i:Nat),i<n→CB (k ((i+1:Nat):Int)) (k' ((i+1:Nat):Int))→CB (f k (i:Int)) (g k' (i:Int))) (q:∀k k',CB (f k (n:Int)) (g k' (n:Int))):CB (bn f BA 0) (bn g BA 0):=by
 have z:BA=9223372036854775808:=rfl
 have key:∀m (i:Nat),i+m=n→∀a,m<a→CB (bn f a (i:Int)) (bn g a (i:Int)):=by
  intro m
  induction m with
  |zero=>
   intro i hi a ha;obtain⟨a,rfl⟩:∃a',a=a'+1:=⟨a-1,AL⟩
   have :i=n:=AL
   subst this;exact q _ _
  |succ m s=>
   intro i hi a ha;obtain⟨a,rfl⟩:∃a',a=a'+1:=⟨a-1,AL⟩
   exact j _ _ i AL (s (i+1) AL a AL)
 exact key n 0 AL BA AL
end
def jT {i:Nat} (h:i≤9223372036854775806):BI ((i:Int)+1)=((i+1:Nat):Int):=wrap_succ i AL
def nP {α:Type} {l:List α} {i:Nat} (h:i<l.length) (hl:l.length≤9223372036854775807) (f:decide ((i:Int)>0)=true):BJ l (BI ((i:Int)-1))=some (l[i-1]' AL):=by
 have f:0<i:=RJ
 rw[Mc AL AL,show(i:Int)-1=((i-1:Nat):Int) by omega];exact DI AL
def aMZ {l:List Int} (hl:l.length≤9223372036854775807):CB (l9 l) (XM l):=by
 unfold l9 aJ5 XM aIW;refine CB.loop l.length hl (fun k k' i h f=>?_) (fun k k'=>?_)
 ·simp only[aDJ,aCE,Yx,dec_lt h,Bh,DI h,Af,jT (show i≤9223372036854775806 by omega)];cases decide (l[i]<0)with
  |true=>exact .ret _
  |false=>
   simp only[BO];cases j:decide ((i:Int)>0)with
   |true=>
    simp only[Bh,nP h hl j,Af,ge_iff_le];cases decide (l[i]≤l[i-1])with
    |true=>exact .ret _
    |false=>exact f
   |false=>exact f
 simp only[aDJ,aCE,EH,BO];exact .ret _
def aaB {l:List ByteArray} (hl:l.length≤9223372036854775807) (f:∀s∈l,s.size≤9223372036854775807):CB (Tz l) (QO l):=by
 unfold Tz QO;refine CB.bif (fun _=>.ret _) fun _=>?_;unfold ae9 aHJ;refine CB.loop l.length hl (fun k k' i h j=>?_) (fun k k'=>?_)
 ·obtain⟨m,q⟩:=aF4 (s:=l[i]) (by have :=f _ (Eh h);omega);simp only[aGt,ng,dec_lt h,Bh,DI h,Af,m,q,jT (show i≤9223372036854775806 by omega)];exact CB.bif (fun _=>.ret _) fun _=>j
 simp only[aGt,ng,EH,BO];exact .ret _
def aom {c:Bq} (f:JC c):CB (UR 4 c) (Yo c):=by
 have hl:=f.allow;unfold UR Yo;rw[show((4:Int)==6)=false from rfl,BO];refine CB.bind (CB.bif (fun _=>.ret _) fun _=>.ret _) fun x=>CB.bif (fun _=>.ret _) fun _=>CB.bif (fun _=>.ret _) fun _=>?_;unfold aaF aIl;refine CB.loop c.Allow.length AL (fun k k' i h j=>?_) (fun k k'=>?_)
 ·obtain⟨m,q⟩:=jw (s:=c.Allow[i]) (by have :=f.allows _ (Eh h);omega);simp only[aER,rX,nC,dec_lt h,Bh,DI h,Af,m,q,jT (show i≤9223372036854775806 by omega)];refine CB.bif (fun _=>.ret _) fun _=>?_;cases u:decide ((i:Int)>0)with
  |true=>
   simp only[Bh,nP h (show c.Allow.length≤9223372036854775807 by omega) u,Af];exact CB.bif (fun _=>.ret _) fun _=>j
  |false=>exact j
 simp only[aER,rX,EH,BO];exact .ret _
def ame {l:List Gi} (hl:l.length≤9223372036854775807) (j:∀u∈l,u.User.size≤9223372036854775807):CB (aC5 l) (Wi l):=by
 unfold aC5 Wi;refine CB.bif (fun _=>.ret _) fun _=>?_;unfold aJa aEA;refine CB.loop l.length hl (fun k k' i h f=>?_) (fun k k'=>?_)
 ·obtain⟨m,q⟩:=Vg (s:=l[i].User) (by have :=j _ (Eh h);omega);obtain⟨z,I⟩:=uG l[i].N;simp only[aGU,rC,uJ,bY,dec_lt h,Bh,DI h,Af,m,q,z,I,jT (show i≤9223372036854775806 by omega)];refine CB.bif (fun _=>.ret _) fun _=>?_;cases J:decide ((i:Int)>0)with
  |true=>
   simp only[Bh,nP h hl J,Af];exact CB.bif (fun _=>.ret _) fun _=>CB.bif (fun _=>.ret _) fun _=>f
  |false=>
   simp only[BO];exact CB.bif (fun _=>.ret _) fun _=>f
 simp only[aGU,rC,EH,BO];exact .ret _
def agR {l:List Hu} (hl:l.length≤9223372036854775807):CB (wo l) (XF l):=by
 unfold wo XF;refine CB.bif (fun _=>.ret _) fun _=>?_;unfold aJj aCf;refine CB.loop l.length hl (fun k k' i h f=>?_) (fun k k'=>?_)
 ·obtain⟨j,m⟩:=aA4 l[i].Kind;obtain⟨q,s⟩:=uG l[i].N;simp only[aDD,aBe,wH,aAI,dec_lt h,Bh,DI h,Af,j,m,q,s,jT (show i≤9223372036854775806 by omega)];refine CB.bif (fun _=>.ret _) fun _=>?_;cases u:decide ((i:Int)>0)with
  |true=>
   simp only[Bh,nP h hl u,Af];exact CB.bif (fun _=>.ret _) fun _=>CB.bif (fun _=>.ret _) fun _=>f
  |false=>
   simp only[BO];exact CB.bif (fun _=>.ret _) fun _=>f
 simp only[aDD,aBe,EH,BO];exact .ret _
def afl {l:D8} (q:l.Users.length≤9223372036854775807) (s:l.Kinds.length≤9223372036854775807) (f:∀u∈l.Users,u.User.size≤9223372036854775807):CB (YX l) (WT l):=by
 have j:aF2 l 0=some (bif (Ig l).any Q7 then 2 else 0):=by
  unfold aF2;rw[IC (Ig l) (by have :BA=9223372036854775808:=rfl;simp[Ig,this]) Q7 2 (some 0) (fun k i h=>?_) (fun k=>rfl),JZ];have z:i<7:=h;have m:BJ ([l.User,l.Message,l.State,l.fV,l.jH,l.nD,l.gQ]:List Int) (i:Int)=some ((Ig l)[i]'(h)):=DI h;simp only[aaL,show decide ((i:Int)<7)=true from by simp;omega,Bh,m,Af,(uG _).1]
 unfold YX WT;refine CB.bind (ame AL f) fun x=>CB.bif (fun _=>.ret _) fun _=>CB.bind (agR AL) fun y=>CB.bif (fun _=>.ret _) fun _=>?_;rw[j];simp only[(uG _).2,Af,Ig,YA,List.any_nil];cases Q7 l.User<;>cases Q7 l.Message<;>cases Q7 l.State<;>cases Q7 l.fV<;>cases Q7 l.jH<;>cases Q7 l.nD<;>cases Q7 l.gQ<;>exact .ret _
def Qr {α:Type} {l:List α} (h:((l.length:Int)==0)=true):l=[]:=GY aDr
def LU (l:D8):Bool:=((l.Users.length:Int)==0)&&((l.Kinds.length:Int)==0)&&(l.User==0)&&(l.Message==0)&&(l.State==0)&&(l.fV==0)&&(l.jH==0)&&(l.nD==0)&&(l.gQ==0)
def bare_eq (l:D8):aBC l=some (LU l):=by
 unfold aBC LU;simp only[JZ,Af,VL]
def abt (l:D8):Yn l L8=some (LU l):=by
 unfold Yn LU;show(bif ((l.Users.length:Int) != 0)then some true else some ((l.Kinds.length:Int) != 0)).bind _=_;simp only[bne];cases m:((l.Users.length:Int)==0)with
 |false=>rfl
 |true=>
  cases q:((l.Kinds.length:Int)==0)with
  |false=>rfl
  |true=>
   have f:=Qr m;have j:=Qr q
   have s:gI l L8 0=some ((l.User==0)&&(l.Message==0)&&(l.State==0)&&(l.fV==0)&&(l.jH==0)&&(l.nD==0)&&(l.gQ==0)):=by
    unfold gI;refine aHi l.Kinds (by rw[j];simp) _ (fun k i h=>by rw[j]at h;simp at h) (fun k=>?_);simp only[aAp,EH,BO,JZ,Af,VL];rfl
   have u:aB6 l L8 0=some ((l.User==0)&&(l.Message==0)&&(l.State==0)&&(l.fV==0)&&(l.jH==0)&&(l.nD==0)&&(l.gQ==0)):=by
    unfold aB6;refine aHi l.Users (by rw[f];simp) _ (fun k i h=>by rw[f]at h;simp at h) (fun k=>?_);simp only[su,EH,BO];exact s
   simp only[ES,BO,Af,u,G8]
def aqP (l:D8):uw l=some (LU l):=by
 unfold uw;rw[abt];rfl
def apE (l:List ByteArray):Ub l []=some ((l.length:Int)==0):=by
 cases h:((l.length:Int)==0)with
 |true=>rw[Qr h];exact ak3 (l:=[]) BK
 |false=>
  unfold Ub;show(bif ((l.length:Int) != 0)then some false else _)=_;simp only[bne,h,Jm,Bh]
def cV (a0 f j m q s u z:Bool):Bool:=a0&&f&&j&&m&&q&&s&&u&&z
def aJW (c:Bq):Un c Dq=some (cV (c.Text.toList==BZ.toList) (c.N==0) (c.Target==0) (!c.Thread) (c.Via.toList==BZ.toList) ((c.Allow.length:Int)==0) ((c.gB.length:Int)==0) (LU c.Levels)):=by
 unfold Un cV;show(bif c.Text.toList==BZ.toList then some (c.N==0)else some false).bind _=_;simp only[show Dq.Allow=[]from rfl,show Dq.gB=[]from rfl,show Dq.Levels=L8 from rfl,show Dq.Target=0 from rfl,show Dq.Thread=false from rfl,show Dq.Via=BZ from rfl,apE,abt,JZ,Af,VL];congr 1;cases c.Thread<;>simp
def xU (a0 f j m q s u z:Bool):Int:=
 let v:=bif !a0 then E5 .or .i64 0 1 else 0
 let v:=bif !f then E5 .or .i64 v 2 else v
 let v:=bif !j then E5 .or .i64 v 4 else v
 let v:=bif !m then E5 .or .i64 v 8 else v
 let v:=bif !q then E5 .or .i64 v 16 else v
 let v:=bif !s then E5 .or .i64 v 32 else v
 let v:=bif !u then E5 .or .i64 v 64 else v
 bif !z then E5 .or .i64 v 128 else v
def pos_eq {α:Type} (l:List α):decide ((l.length:Int)>0)= !((l.length:Int)==0):=by
 cases h:((l.length:Int)==0)with
 |true=>have :=eq_of_beq h;rw[ES,X5];omega
 |false=>have :=ne_of_beq_false h;rw[Jm,Fl];omega
def anA (c:Bq):jD c=some (xU (c.Text.toList==BZ.toList) (c.N==0) (c.Target==0) (!c.Thread) (c.Via.toList==BZ.toList) ((c.Allow.length:Int)==0) ((c.gB.length:Int)==0) (LU c.Levels)):=by
 unfold jD zZ yB aA1 aBG aAj Rep uX aB3 xU;rw[bare_eq,pos_eq,pos_eq];simp only[Af,bne,Bool.not_not];generalize(c.Text.toList==BZ.toList)=f;generalize(c.N==0)=j;generalize(c.Target==0)=m;generalize c.Thread=q;generalize(c.Via.toList==BZ.toList)=s;generalize((c.Allow.length:Int)==0)=u;generalize((c.gB.length:Int)==0)=z;generalize LU c.Levels=I;cases f<;>cases j<;>cases m<;>cases q<;>cases s<;>cases u<;>cases z<;>cases I<;>rfl
def aer :∀a0 f j m q s u z:Bool,(xU a0 f j m q s u z==0)=cV a0 f j m q s u z:=KT
def JV (f j m q s u z I a0 J L M O U Y Z:Bool):Bool:=(a0||f)&&(J||j)&&(L||m)&&(M||q)&&(O||s)&&(U||u)&&(Y||z)&&(Z||I)
def abJ {K:Int} {c:Bq} {f j m q s u z I:Bool} (J:Bj K GL=some f) (L:Bj K Gp=some j) (M:Bj K Gy=some m) (O:Bj K JE=some q) (U:Bj K JG=some s) (Y:Bj K IW=some u) (Z:Bj K J5=some z) (h7:Bj K JK=some I):YO K c=some (JV f j m q s u z I (c.Text.toList==BZ.toList) (c.N==0) (c.Target==0) (!c.Thread) (c.Via.toList==BZ.toList) ((c.Allow.length:Int)==0) ((c.gB.length:Int)==0) (LU c.Levels)):=by
 unfold YO JV;simp only[J,L,M,O,U,Y,Z,h7,aqP,JZ,Af,iV,VL]
def Fh (x r:Option Int):Option Int:=x.bind fun v=>bif v != 0 then some v else r
def Dt {x r:Option Int} (h:x=some 0):Fh x r=r:=by rw[h];rfl
def Kr {x y r s:Option Int} (h:CB x y) (k:CB r s):CB (Fh x r) (Fh y s):=CB.bind h fun _=>CB.bif (fun _=>.ret _) fun _=>k
def wS (x:Option Int):Fh x (some 0)=x:=by
 cases x with
 |none=>rfl
 |some v=>
  show(bif v != 0 then some v else some 0)=some v;by_cases h:v=0
  ·subst h;rfl
  rw[show(v != 0)=true from by simpa using h];rfl
def tC {A:Type} (x:Option A):(x.bind fun v=>some v)=x:=by cases x<;>rfl
def L9 (K:Int) (c:Bq):Option Int:=Fh (X8 K c) (Fh (Ln K c.N) (Fh (V8 K c) (Fh (X3 c) (bif K==4 then Yo c else Fh (QO c.Allow) (Fh (QO c.gB) (WT c.Levels))))))
def frame {K M kp:Int} {br:Bool} {c:Bq} {j m q s u z I J:Bool} (Z:ZO K=some M) (hk:(decide (K≥1)&&decide (K≤14))=true) (L:gJ K=some kp) (hb:zT K=some br) (h0:Bj K GL=some j) (h1:Bj K Gp=some m) (h2:Bj K Gy=some q) (h3:Bj K JE=some s) (h4:Bj K JG=some u) (h5:Bj K IW=some z) (h6:Bj K J5=some I) (h7:Bj K JK=some J)
 (hM:∀a0 a1 a2 a3 a4 a5 a6 a7:Bool,(E5 .andNot .i64 (xU a0 a1 a2 a3 a4 a5 a6 a7) M != 0)= !JV j m q s u z I J a0 a1 a2 a3 a4 a5 a6 a7) (O:(br=true→kp=0)) (hA:kp=0→br=false→Js M K 0 c=some 0)
 (f:JV j m q s u z I J (c.Text.toList==BZ.toList) (c.N==0) (c.Target==0) (!c.Thread) (c.Via.toList==BZ.toList) ((c.Allow.length:Int)==0) ((c.gB.length:Int)==0) (LU c.Levels)=true→CB (Js M K 0 c) (L9 K c)):CB (JU K c) (IG K c):=by
 have ht:IG K c=(bF K).bind fun x1=>(bif (!x1)then some true else(YO K c).bind fun x4=>some (!x4)).bind fun x2=>(bif x2 then some 1 else(zT K).bind fun x6=>(bif x6 then(Un c Dq).bind fun x9=>some x9 else some false).bind fun x7=>(bif x7 then some 0 else L9 K c)):=by
  unfold IG L9 Fh;simp only[tC]
 rw[ht];unfold JU;obtain⟨Y,k2⟩:=aA4 K;rw[hk]at Y k2;rw[Z,Y,k2,anA,L,hb,abJ h0 h1 h2 h3 h4 h5 h6 h7,aJW];simp only[Af,ES,BO,hM,aer];cases ho:JV j m q s u z I J (c.Text.toList==BZ.toList) (c.N==0) (c.Target==0) (!c.Thread) (c.Via.toList==BZ.toList) ((c.Allow.length:Int)==0) ((c.gB.length:Int)==0) (LU c.Levels)with
 |false=>exact .ret _
 |true=>
  simp only[ES,BO];have f:=f ho;cases ha:cV (c.Text.toList==BZ.toList) (c.N==0) (c.Target==0) (!c.Thread) (c.Via.toList==BZ.toList) ((c.Allow.length:Int)==0) ((c.gB.length:Int)==0) (LU c.Levels)with
  |false=>
   simp only[BO,Af];cases br<;>exact f
  |true=>
   simp only[Bh,Af];cases U:kp==0 with
   |false=>
    cases br with
    |false=>exact f
    |true=>rw[O rfl]at U;cases U
   |true=>
    cases br with
    |true=>exact .ret _
    |false=>
     have e:=hA (eq_of_beq U) rfl;rw[e]at f;exact f
def PG (M b:Int) (x r:Option Int):Option Int:=bif E5 .and .i64 M b==0 then r else Fh x r
def YK {S B R:Type} (body:(S→B→Option R)→S→B→Option R) (n:Nat) (a:S) (b:B):aX body (n+1) a b=body (aX body n) a b:=rfl
def arq (M K:Int) (c:Bq):Js M K 0 c=PG M 1 (Oc K c) (PG M 2 (MG K c) (PG M 4 (Q9 K c) (PG M 8 (YT K c) (PG M 16 (YG K c) (PG M 32 (UR K c)
 (bif E5 .and .i64 M 64 != 0 then Tz c.gB else bif E5 .and .i64 M 128 != 0 then YX c.Levels else some 0)))))):=by
 have f:BA=9223372036854775801+1+1+1+1+1+1+1:=rfl;have j:∀k,Vd M K k 0 c=PG M 1 (Oc K c) (k 1 c):=fun k=>rfl;have m:∀k,Vd M K k 1 c=PG M 2 (MG K c) (k 2 c):=fun k=>rfl;have q:∀k,Vd M K k 2 c=PG M 4 (Q9 K c) (k 3 c):=fun k=>rfl;have s:∀k,Vd M K k 3 c=PG M 8 (YT K c) (k 4 c):=fun k=>rfl;have u:∀k,Vd M K k 4 c=PG M 16 (YG K c) (k 5 c):=fun k=>rfl;have z:∀k,Vd M K k 5 c=PG M 32 (UR K c) (k 6 c):=fun k=>rfl;have I:∀k,Vd M K k 6 c=(bif E5 .and .i64 M 64 != 0 then(Tz c.gB).bind fun x=>some x else bif E5 .and .i64 M 128 != 0 then(YX c.Levels).bind fun x=>some x else some 0):=fun k=>rfl;unfold Js;rw[f,YK,j,YK,m,YK,q,YK,s,YK,u,YK,z,YK,I,tC,tC]
section
variable {c : Bq} {K : Int}
def text0 (h:(c.Text.toList==BZ.toList)=true) (f:K≠12):X8 K c=some 0:=by
 have j:(c.Text.size:Int)=0:=by rw[aBA]at h;exact eq_of_beq h
 unfold X8;rw[h,j,show(K==12)=false from by simpa using f];cases K==9<;>rfl
def Sz (h:Bj K Gy=some false) (f:(!c.Thread)=true):V8 K c=some 0:=by
 unfold V8;rw[h,show c.Thread=false from by simpa using f];rfl
def Oq (h:(c.Via.toList==BZ.toList)=true):X3 c=some 0:=by unfold X3;rw[h];rfl
def Ib {l:List ByteArray} (h:((l.length:Int)==0)=true):QO l=some 0:=by
 rw[Qr h];unfold QO aHJ;show bn (ng []) BA 0=some 0;rw[IC ([]:List ByteArray) BX (fun _=>false) 0 (some 0) (fun k i h=>Gw) (fun k=>rfl)];rfl
def Pz {l:D8} (h:LU l=true):WT l=some 0:=by
 unfold LU at h;simp only[CP]at h;obtain⟨⟨⟨⟨⟨⟨⟨⟨f,j⟩,m⟩,q⟩,s⟩,u⟩,z⟩,I⟩,J⟩:=h
 have L:Wi []=some 0:=by
  unfold Wi aEA;show bn (rC []) BA 0=some 0;rw[IC ([]:List ByteArray) BX (fun _=>false) 0 (some 0) (fun k i h=>Gw) (fun k=>rfl)];rfl
 have M:XF []=some 0:=by
  unfold XF aCf;show bn (aBe []) BA 0=some 0;rw[IC ([]:List ByteArray) BX (fun _=>false) 0 (some 0) (fun k i h=>Gw) (fun k=>rfl)];rfl
 unfold WT;rw[Qr f,Qr j,L,M,eq_of_beq m,eq_of_beq q,eq_of_beq s,eq_of_beq u,eq_of_beq z,eq_of_beq I,eq_of_beq J];rfl
def Xv (j:JC c):CB (Oc K c) (X8 K c):=by
 have z:=j.text;obtain⟨m,q⟩:=aF4 (s:=c.Text) AL;unfold Oc vP X8;rw[m,q];have e:=aBA c.Text;by_cases f:K=9
 ·subst f;cases h:(c.Text.toList==BZ.toList)with
  |false=>exact .ret _
  |true=>
   have u:(c.Text.size:Int)=0:=by rw[e]at h;exact eq_of_beq h
   rw[u];exact .ret _
 rw[show(K==9)=false from by simpa using f];cases K==12<;>cases(c.Text.toList==BZ.toList)<;>cases decide ((c.Text.size:Int)>32)<;>cases decide ((c.Text.size:Int)>400)<;>exact .ret _
def agh (f:JC c):CB (YG K c) (X3 c):=by
 have q:=f.via;obtain⟨j,m⟩:=Vg (s:=c.Via) AL;unfold YG X3;rw[j,m];exact CB.bif (fun _=>.ret _) fun _=>CB.bif (fun _=>.ret _) fun _=>.ret _
def aDA (h:Bj K Gy=some true) (f:(!c.Thread)=true):CB (Q9 K c) (V8 K c):=by
 unfold Q9 V8;rw[h,show c.Thread=false from by simpa using f];cases decide (c.Target<0)<;>cases c.Target==0<;>cases K != 11<;>exact .ret _
def aiM (h:Bj K Gy=some true):CB (Fh (Q9 K c) (YT K c)) (V8 K c):=by
 unfold Q9 YT V8 Fh;rw[h];cases decide (c.Target<0)<;>cases c.Target==0<;>cases K != 11<;>cases c.Thread<;>exact .ret _
def alH (f:JC c):CB (UR 6 c) (QO c.Allow):=by
 have j:=f.allow;have :=aaB (l:=c.Allow) AL f.allows;show CB ((Tz c.Allow).bind fun x=>some x) _;rw[tC];exact this
end
def kP (a b:Int):decide (a≥b)= !decide (a<b):=by by_cases h:a<b<;>simp[h]<;>omega
def jG (a b:Int):decide (a≤b)= !decide (a>b):=by by_cases h:a>b<;>simp[h]<;>omega
def afJ {c:Bq} (hc:JC c):CB (JU 1 c) (IG 1 c):=by
 have m:Bj 1 GL=some false:=A8
 have q:Bj 1 Gp=some false:=A8
 have j:Bj 1 Gy=some false:=A8
 have s:Bj 1 JE=some false:=A8
 have u:Bj 1 JG=some false:=A8
 have z:Bj 1 IW=some false:=A8
 have I:Bj 1 J5=some false:=A8
 have J:Bj 1 JK=some false:=A8
 refine frame (M:=0) (kp:=0) (br:=false) rfl rfl rfl rfl m q j s u z I J KT (fun h=>Gt) (fun h h'=>rfl) fun f=>?_;unfold JV at f;simp only[NS,KN,MV,G8,CP]at f;obtain⟨⟨⟨⟨⟨⟨⟨L,e1⟩,e2⟩,O⟩,U⟩,Y⟩,Z⟩,e7⟩:=f;have hL:Js 0 1 0 c=(some 0):=NW
 rw[hL];unfold L9;rw[Dt (text0 L BX),Dt (show Ln 1 c.N=some 0 from rfl),Dt (Sz j O),Dt (Oq U),show((1:Int)==4)=false from rfl,BO,Dt (Ib Y),Dt (Ib Z),Pz e7];exact .ret _
def as2 (c:Bq):CB (MG 2 c) (Ln 2 c.N):=by
 show CB ((bif decide (c.N<0)then some true else some (decide (c.N>4))).bind fun f=>(bif f then some 2 else some 0)) ((bif decide (c.N≥0)then some (decide (c.N≤4))else some false).bind fun j=>(bif (!j)then some 2 else some 0));rw[kP,jG];cases decide (c.N<0)<;>cases decide (c.N>4)<;>exact .ret _
def ar8 {c:Bq} (j:JC c):CB (JU 2 c) (IG 2 c):=by
 have q:Bj 2 GL=some true:=A8
 have s:Bj 2 Gp=some true:=A8
 have m:Bj 2 Gy=some false:=A8
 have u:Bj 2 JE=some false:=A8
 have z:Bj 2 JG=some true:=A8
 have I:Bj 2 IW=some false:=A8
 have J:Bj 2 J5=some false:=A8
 have L:Bj 2 JK=some false:=A8
 refine frame (M:=19) (kp:=18) (br:=false) rfl rfl rfl rfl q s m u z I J L KT (fun h=>Gt) (fun h h'=>Gt) fun f=>?_;unfold JV at f;simp only[NS,KN,MV,G8,CP]at f;obtain⟨⟨⟨⟨e2,O⟩,U⟩,Y⟩,Z⟩:=f;have hL:Js 19 2 0 c=(Fh (Oc 2 c) (Fh (MG 2 c) (Fh (YG 2 c) (some 0)))):=NW
 rw[hL];unfold L9;rw[Dt (Sz m O),show((2:Int)==4)=false from rfl,BO,Dt (Ib U),Dt (Ib Y),Pz Z];exact Kr (Xv j) (Kr (as2 c) (Kr (agh j) (.ret _)))
def agL {c:Bq} (f:JC c):CB (JU 3 c) (IG 3 c):=by
 have q:Bj 3 GL=some false:=A8
 have s:Bj 3 Gp=some false:=A8
 have m:Bj 3 Gy=some false:=A8
 have u:Bj 3 JE=some false:=A8
 have z:Bj 3 JG=some false:=A8
 have I:Bj 3 IW=some false:=A8
 have J:Bj 3 J5=some false:=A8
 have L:Bj 3 JK=some true:=A8
 refine frame (M:=128) (kp:=128) (br:=false) rfl rfl rfl rfl q s m u z I J L KT (fun h=>Gt) (fun h h'=>Gt) fun j=>?_;unfold JV at j;simp only[NS,KN,MV,G8,CP]at j;obtain⟨⟨⟨⟨⟨⟨O,e1⟩,e2⟩,U⟩,Y⟩,Z⟩,e6⟩:=j;have hL:Js 128 3 0 c=(YX c.Levels):=NW
 rw[hL];unfold L9;rw[Dt (text0 O BX),Dt (show Ln 3 c.N=some 0 from rfl),Dt (Sz m U),Dt (Oq Y),show((3:Int)==4)=false from rfl,BO,Dt (Ib Z),Dt (Ib e6)];exact afl f.users f.kinds f.names
def arM (c:Bq):CB (MG 4 c) (Ln 4 c.N):=by
 show CB ((bif decide (c.N<0)then some true else some (decide (c.N>3))).bind fun f=>(bif f then some 2 else some 0)) ((bif decide (c.N≥0)then some (decide (c.N≤3))else some false).bind fun j=>(bif (!j)then some 2 else some 0));rw[kP,jG];cases decide (c.N<0)<;>cases decide (c.N>3)<;>exact .ret _
def ajM {c:Bq} (m:JC c):CB (JU 4 c) (IG 4 c):=by
 have q:Bj 4 GL=some false:=A8
 have s:Bj 4 Gp=some true:=A8
 have j:Bj 4 Gy=some false:=A8
 have u:Bj 4 JE=some false:=A8
 have z:Bj 4 JG=some false:=A8
 have I:Bj 4 IW=some true:=A8
 have J:Bj 4 J5=some false:=A8
 have L:Bj 4 JK=some false:=A8
 refine frame (M:=34) (kp:=34) (br:=false) rfl rfl rfl rfl q s j u z I J L KT (fun h=>Gt) (fun h h'=>Gt) fun f=>?_;unfold JV at f;simp only[NS,KN,MV,G8,CP]at f;obtain⟨⟨⟨⟨⟨O,e2⟩,U⟩,Y⟩,e6⟩,e7⟩:=f;have Z:Js 34 4 0 c=(Fh (MG 4 c) (Fh (UR 4 c) (some 0))):=NW
 rw[Z];unfold L9;rw[Dt (text0 O BX),Dt (Sz j U),Dt (Oq Y),show((4:Int)==4)=true from rfl,Bh];rw[wS];exact Kr (arM c) (aom m)
def aku (c:Bq):CB (MG 5 c) (Ln 5 c.N):=by
 show CB ((bif decide (c.N<0)then some true else some (decide (c.N>3))).bind fun f=>(bif f then some 2 else some 0)) ((bif decide (c.N≥0)then some (decide (c.N≤3))else some false).bind fun j=>(bif (!j)then some 2 else some 0));rw[kP,jG];cases decide (c.N<0)<;>cases decide (c.N>3)<;>exact .ret _
def aiR {c:Bq} (hc:JC c):CB (JU 5 c) (IG 5 c):=by
 have m:Bj 5 GL=some false:=A8
 have q:Bj 5 Gp=some true:=A8
 have j:Bj 5 Gy=some false:=A8
 have s:Bj 5 JE=some false:=A8
 have u:Bj 5 JG=some false:=A8
 have z:Bj 5 IW=some false:=A8
 have I:Bj 5 J5=some false:=A8
 have J:Bj 5 JK=some false:=A8
 refine frame (M:=2) (kp:=2) (br:=false) rfl rfl rfl rfl m q j s u z I J KT (fun h=>Gt) (fun h h'=>Gt) fun f=>?_;unfold JV at f;simp only[NS,KN,MV,G8,CP]at f;obtain⟨⟨⟨⟨⟨⟨L,e2⟩,O⟩,U⟩,Y⟩,Z⟩,e7⟩:=f;have hL:Js 2 5 0 c=(Fh (MG 5 c) (some 0)):=NW
 rw[hL];unfold L9;rw[Dt (text0 L BX),Dt (Sz j O),Dt (Oq U),show((5:Int)==4)=false from rfl,BO,Dt (Ib Y),Dt (Ib Z),Pz e7];exact Kr (aku c) (.ret _)
def anB {c:Bq} (f:JC c):CB (JU 6 c) (IG 6 c):=by
 have s:Bj 6 GL=some false:=A8
 have m:Bj 6 Gp=some false:=A8
 have q:Bj 6 Gy=some false:=A8
 have u:Bj 6 JE=some false:=A8
 have z:Bj 6 JG=some false:=A8
 have I:Bj 6 IW=some true:=A8
 have J:Bj 6 J5=some true:=A8
 have L:Bj 6 JK=some false:=A8
 refine frame (M:=96) (kp:=96) (br:=false) rfl rfl rfl rfl s m q u z I J L KT (fun h=>Gt) (fun h h'=>Gt) fun j=>?_;unfold JV at j;simp only[NS,KN,MV,G8,CP]at j;obtain⟨⟨⟨⟨⟨O,e1⟩,e2⟩,U⟩,Y⟩,Z⟩:=j;have hL:Js 96 6 0 c=(Fh (UR 6 c) (Tz c.gB)):=NW
 rw[hL];unfold L9;rw[Dt (text0 O BX),Dt (show Ln 6 c.N=some 0 from rfl),Dt (Sz q U),Dt (Oq Y),show((6:Int)==4)=false from rfl,BO,Pz Z];have m:=f.deny;rw[wS];exact Kr (alH f) (aaB AL f.denies)
def ahG {c:Bq} (m:JC c):CB (JU 7 c) (IG 7 c):=by
 have q:Bj 7 GL=some true:=A8
 have s:Bj 7 Gp=some false:=A8
 have j:Bj 7 Gy=some false:=A8
 have u:Bj 7 JE=some false:=A8
 have z:Bj 7 JG=some false:=A8
 have I:Bj 7 IW=some false:=A8
 have J:Bj 7 J5=some false:=A8
 have L:Bj 7 JK=some false:=A8
 refine frame (M:=1) (kp:=0) (br:=true) rfl rfl rfl rfl q s j u z I J L KT (fun h=>rfl) (fun h h'=>Yw) fun f=>?_;unfold JV at f;simp only[NS,KN,MV,G8,CP]at f;obtain⟨⟨⟨⟨⟨⟨e1,e2⟩,O⟩,U⟩,Y⟩,Z⟩,e7⟩:=f;have hL:Js 1 7 0 c=(Fh (Oc 7 c) (some 0)):=NW
 rw[hL];unfold L9;rw[Dt (show Ln 7 c.N=some 0 from rfl),Dt (Sz j O),Dt (Oq U),show((7:Int)==4)=false from rfl,BO,Dt (Ib Y),Dt (Ib Z),Pz e7];exact Kr (Xv m) (.ret _)
def aox (c:Bq):CB (MG 8 c) (Ln 8 c.N):=by
 show CB ((bif decide (c.N<0)then some true else some (decide (c.N>1000000000))).bind fun f=>(bif f then some 2 else some 0)) ((bif decide (c.N≥0)then some (decide (c.N≤1000000000))else some false).bind fun j=>(bif (!j)then some 2 else some 0));rw[kP,jG];cases decide (c.N<0)<;>cases decide (c.N>1000000000)<;>exact .ret _
def aiB {c:Bq} (hc:JC c):CB (JU 8 c) (IG 8 c):=by
 have m:Bj 8 GL=some false:=A8
 have q:Bj 8 Gp=some true:=A8
 have j:Bj 8 Gy=some false:=A8
 have s:Bj 8 JE=some false:=A8
 have u:Bj 8 JG=some false:=A8
 have z:Bj 8 IW=some false:=A8
 have I:Bj 8 J5=some false:=A8
 have J:Bj 8 JK=some false:=A8
 refine frame (M:=2) (kp:=0) (br:=true) rfl rfl rfl rfl m q j s u z I J KT (fun h=>rfl) (fun h h'=>Yw) fun f=>?_;unfold JV at f;simp only[NS,KN,MV,G8,CP]at f;obtain⟨⟨⟨⟨⟨⟨L,e2⟩,O⟩,U⟩,Y⟩,Z⟩,e7⟩:=f;have hL:Js 2 8 0 c=(Fh (MG 8 c) (some 0)):=NW
 rw[hL];unfold L9;rw[Dt (text0 L BX),Dt (Sz j O),Dt (Oq U),show((8:Int)==4)=false from rfl,BO,Dt (Ib Y),Dt (Ib Z),Pz e7];exact Kr (aox c) (.ret _)
def apH (c:Bq):CB (MG 9 c) (Ln 9 c.N):=by
 show CB ((bif (c.N==1)then some true else some (c.N==2)).bind fun f=>(bif f then some true else some (c.N==6)).bind fun j=>(bif j then some 0 else some 2)) ((bif (c.N==1)then some true else some (c.N==2)).bind fun m=>(bif m then some true else some (c.N==6)).bind fun q=>(bif (!q)then some 2 else some 0));cases c.N==1<;>cases c.N==2<;>cases c.N==6<;>exact .ret _
def apQ {c:Bq} (m:JC c):CB (JU 9 c) (IG 9 c):=by
 have q:Bj 9 GL=some true:=A8
 have s:Bj 9 Gp=some true:=A8
 have j:Bj 9 Gy=some false:=A8
 have u:Bj 9 JE=some false:=A8
 have z:Bj 9 JG=some false:=A8
 have I:Bj 9 IW=some false:=A8
 have J:Bj 9 J5=some false:=A8
 have L:Bj 9 JK=some false:=A8
 refine frame (M:=3) (kp:=0) (br:=true) rfl rfl rfl rfl q s j u z I J L KT (fun h=>rfl) (fun h h'=>Yw) fun f=>?_;unfold JV at f;simp only[NS,KN,MV,G8,CP]at f;obtain⟨⟨⟨⟨⟨e2,O⟩,U⟩,Y⟩,Z⟩,e7⟩:=f;have hL:Js 3 9 0 c=(Fh (Oc 9 c) (Fh (MG 9 c) (some 0))):=NW
 rw[hL];unfold L9;rw[Dt (Sz j O),Dt (Oq U),show((9:Int)==4)=false from rfl,BO,Dt (Ib Y),Dt (Ib Z),Pz e7];exact Kr (Xv m) (Kr (apH c) (.ret _))
def apd (c:Bq):CB (MG 10 c) (Ln 10 c.N):=by
 show CB ((bif decide (c.N<1)then some true else some (decide (c.N>10000))).bind fun f=>(bif f then some 2 else some 0)) ((bif decide (c.N≥1)then some (decide (c.N≤10000))else some false).bind fun j=>(bif (!j)then some 2 else some 0));rw[kP,jG];cases decide (c.N<1)<;>cases decide (c.N>10000)<;>exact .ret _
def aol {c:Bq} (hc:JC c):CB (JU 10 c) (IG 10 c):=by
 have m:Bj 10 GL=some false:=A8
 have q:Bj 10 Gp=some true:=A8
 have j:Bj 10 Gy=some false:=A8
 have s:Bj 10 JE=some false:=A8
 have u:Bj 10 JG=some false:=A8
 have z:Bj 10 IW=some false:=A8
 have I:Bj 10 J5=some false:=A8
 have J:Bj 10 JK=some false:=A8
 refine frame (M:=2) (kp:=0) (br:=true) rfl rfl rfl rfl m q j s u z I J KT (fun h=>rfl) (fun h h'=>Yw) fun f=>?_;unfold JV at f;simp only[NS,KN,MV,G8,CP]at f;obtain⟨⟨⟨⟨⟨⟨L,e2⟩,O⟩,U⟩,Y⟩,Z⟩,e7⟩:=f;have hL:Js 2 10 0 c=(Fh (MG 10 c) (some 0)):=NW
 rw[hL];unfold L9;rw[Dt (text0 L BX),Dt (Sz j O),Dt (Oq U),show((10:Int)==4)=false from rfl,BO,Dt (Ib Y),Dt (Ib Z),Pz e7];exact Kr (apd c) (.ret _)
def apW {c:Bq} (m:JC c):CB (JU 11 c) (IG 11 c):=by
 have q:Bj 11 GL=some true:=A8
 have s:Bj 11 Gp=some false:=A8
 have j:Bj 11 Gy=some true:=A8
 have u:Bj 11 JE=some true:=A8
 have z:Bj 11 JG=some false:=A8
 have I:Bj 11 IW=some false:=A8
 have J:Bj 11 J5=some false:=A8
 have L:Bj 11 JK=some false:=A8
 refine frame (M:=13) (kp:=0) (br:=true) rfl rfl rfl rfl q s j u z I J L KT (fun h=>rfl) (fun h h'=>Yw) fun f=>?_;unfold JV at f;simp only[NS,KN,MV,G8,CP]at f;obtain⟨⟨⟨⟨e1,O⟩,U⟩,Y⟩,Z⟩:=f;have hL:Js 13 11 0 c=(Fh (Oc 11 c) (Fh (Q9 11 c) (Fh (YT 11 c) (some 0)))):=NW
 rw[hL];unfold L9;rw[Dt (show Ln 11 c.N=some 0 from rfl),Dt (Oq O),show((11:Int)==4)=false from rfl,BO,Dt (Ib U),Dt (Ib Y),Pz Z];rw[wS,wS];exact Kr (Xv m) (aiM j)
def aiT {c:Bq} (m:JC c):CB (JU 12 c) (IG 12 c):=by
 have q:Bj 12 GL=some true:=A8
 have s:Bj 12 Gp=some false:=A8
 have j:Bj 12 Gy=some true:=A8
 have u:Bj 12 JE=some false:=A8
 have z:Bj 12 JG=some false:=A8
 have I:Bj 12 IW=some false:=A8
 have J:Bj 12 J5=some false:=A8
 have L:Bj 12 JK=some false:=A8
 refine frame (M:=5) (kp:=0) (br:=true) rfl rfl rfl rfl q s j u z I J L KT (fun h=>rfl) (fun h h'=>Yw) fun f=>?_;unfold JV at f;simp only[NS,KN,MV,G8,CP]at f;obtain⟨⟨⟨⟨⟨e1,O⟩,U⟩,Y⟩,Z⟩,e7⟩:=f;have hL:Js 5 12 0 c=(Fh (Oc 12 c) (Fh (Q9 12 c) (some 0))):=NW
 rw[hL];unfold L9;rw[Dt (show Ln 12 c.N=some 0 from rfl),Dt (Oq U),show((12:Int)==4)=false from rfl,BO,Dt (Ib Y),Dt (Ib Z),Pz e7];exact Kr (Xv m) (Kr (aDA j O) (.ret _))
def am1 {c:Bq} (m:JC c):CB (JU 13 c) (IG 13 c):=by
 have q:Bj 13 GL=some true:=A8
 have s:Bj 13 Gp=some false:=A8
 have j:Bj 13 Gy=some true:=A8
 have u:Bj 13 JE=some false:=A8
 have z:Bj 13 JG=some false:=A8
 have I:Bj 13 IW=some false:=A8
 have J:Bj 13 J5=some false:=A8
 have L:Bj 13 JK=some false:=A8
 refine frame (M:=5) (kp:=0) (br:=true) rfl rfl rfl rfl q s j u z I J L KT (fun h=>rfl) (fun h h'=>Yw) fun f=>?_;unfold JV at f;simp only[NS,KN,MV,G8,CP]at f;obtain⟨⟨⟨⟨⟨e1,O⟩,U⟩,Y⟩,Z⟩,e7⟩:=f;have hL:Js 5 13 0 c=(Fh (Oc 13 c) (Fh (Q9 13 c) (some 0))):=NW
 rw[hL];unfold L9;rw[Dt (show Ln 13 c.N=some 0 from rfl),Dt (Oq U),show((13:Int)==4)=false from rfl,BO,Dt (Ib Y),Dt (Ib Z),Pz e7];exact Kr (Xv m) (Kr (aDA j O) (.ret _))
def ai7 {c:Bq} (m:JC c):CB (JU 14 c) (IG 14 c):=by
 have q:Bj 14 GL=some true:=A8
 have s:Bj 14 Gp=some false:=A8
 have j:Bj 14 Gy=some true:=A8
 have u:Bj 14 JE=some false:=A8
 have z:Bj 14 JG=some false:=A8
 have I:Bj 14 IW=some false:=A8
 have J:Bj 14 J5=some false:=A8
 have L:Bj 14 JK=some false:=A8
 refine frame (M:=5) (kp:=4) (br:=false) rfl rfl rfl rfl q s j u z I J L KT (fun h=>Gt) (fun h h'=>Gt) fun f=>?_;unfold JV at f;simp only[NS,KN,MV,G8,CP]at f;obtain⟨⟨⟨⟨⟨e1,O⟩,U⟩,Y⟩,Z⟩,e7⟩:=f;have hL:Js 5 14 0 c=(Fh (Oc 14 c) (Fh (Q9 14 c) (some 0))):=NW
 rw[hL];unfold L9;rw[Dt (show Ln 14 c.N=some 0 from rfl),Dt (Oq U),show((14:Int)==4)=false from rfl,BO,Dt (Ib Y),Dt (Ib Z),Pz e7];exact Kr (Xv m) (Kr (aDA j O) (.ret _))
def amS (k:Int) {c:Bq} (j:JC c):CB (JU k c) (IG k c):=by
 cases m:decide (k≥1)&&decide (k≤14)with
 |false=>
  obtain⟨q,k2⟩:=aA4 k;rw[m]at q k2
  have f:∀n:Int,1≤n→n≤14→(k==n)=false:=fun n s u=>by
   rw[Y5];rintro rfl;rw[He (show k≥1 from s),He u]at m;cases m
  have z:ZO k=some 0:=by
   unfold ZO qm qp;rw[f 2 BX BX,f 3 BX BX,f 4 BX BX,f 5 BX BX,f 8 BX BX,f 10 BX BX,f 6 BX BX,f 7 BX BX,f 9 BX BX,f 11 BX BX,f 12 BX BX,f 13 BX BX,f 14 BX BX];rfl
  unfold JU IG;rw[z,q,k2];exact .ret _
 |true=>
  simp only[CP,Fl]at m;have :k=1∨k=2∨k=3∨k=4∨k=5∨k=6∨k=7∨k=8∨k=9∨k=10∨k=11∨k=12∨k=13∨k=14:=AL
  rcases this with rfl|rfl|rfl|rfl|rfl|rfl|rfl|rfl|rfl|rfl|rfl|rfl|rfl|rfl
  ·exact afJ j
  ·exact ar8 j
  ·exact agL j
  ·exact ajM j
  ·exact aiR j
  ·exact anB j
  ·exact ahG j
  ·exact aiB j
  ·exact apQ j
  ·exact aol j
  ·exact apW j
  ·exact aiT j
  ·exact am1 j
  exact ai7 j
def Ko {α:Type} (p:α→α→Bool) (a b:List α):Bool:=((a.length:Int)==(b.length:Int))&& !((a.zip b).any fun x=> !p x.1 x.2)
def dB {α R:Type} {body:(Int→Option R)→Int→Option R} (p:α→α→Bool) (a b:List α) (ha:a.length≤1000) (f:a.length=b.length) (bad:R) (rest:Option R)
 (j:∀k (i:Nat) (h:i<a.length) (h':i<b.length),body k (i:Int)=bif !p a[i] b[i]then some bad else k (BI ((i:Int)+1))) (m:∀k,body k (a.length:Int)=rest):bn body BA 0=bif (a.zip b).any fun x=> !p x.1 x.2 then some bad else rest:=by
 have hl:(a.zip b).length=a.length:=E8
 refine IC (a.zip b) (by rw[hl];exact pO AL) (fun x=> !p x.1 x.2) bad rest (fun k i h=>?_) (fun k=>by rw[hl];exact m k);have q:i<a.length:=AL
 have s:i<b.length:=AL
 rw[j k i q s,aDX]
def len_eq {α:Type} {a b:List α} (h:((a.length:Int)==(b.length:Int))=true):a.length=b.length:=aDr
def Ua (x y:ByteArray):Bool:=x.toList==y.toList
def RG (x y:Gi):Bool:=x.User.toList==y.User.toList&&x.N==y.N
def QV (x y:Hu):Bool:=x.Kind==y.Kind&&x.N==y.N
def tY {a b:List ByteArray} (ha:a.length≤1000):lF a b=some (Ko Ua a b)∧Ub a b=some (Ko Ua a b):=by
 unfold lF Ub Ko;simp only[bne];cases h:((a.length:Int)==(b.length:Int))with
 |false=>exact⟨rfl,rfl⟩
 |true=>
  have f:=len_eq h;simp only[ES,BO,G8];unfold aa4 aCM
  rw[dB Ua a b ha f false (some true) (fun k i h h'=>by simp only[aHF,dec_lt h,Bh,DI h,DI h',Af];rfl) (fun k=>by simp only[aHF,EH,BO]),
   dB Ua a b ha f false (some true) (fun k i h h'=>by simp only[lY,dec_lt h,Bh,DI h,DI h',Af];rfl) (fun k=>by simp only[lY,EH,BO])]
  cases(a.zip b).any fun x=> !Ua x.1 x.2<;>exact⟨rfl,rfl⟩
def apI {a b:List Gi} (ha:a.length≤1000):uN a b=some (Ko RG a b):=by
 unfold uN Ko;simp only[bne];cases h:((a.length:Int)==(b.length:Int))with
 |false=>rfl
 |true=>
  have f:=len_eq h;simp only[ES,BO,G8];unfold aLO;rw[dB RG a b ha f false (some true) (fun k i h h'=>by simp only[aCZ,dec_lt h,Bh,DI h,DI h',Af,aCC,RG,MV]) (fun k=>by simp only[aCZ,EH,BO])];cases(a.zip b).any fun x=> !RG x.1 x.2<;>rfl
def afB {a b:List Hu} (ha:a.length≤1000):aAG a b=some (Ko QV a b):=by
 unfold aAG Ko;simp only[bne];cases h:((a.length:Int)==(b.length:Int))with
 |false=>rfl
 |true=>
  have f:=len_eq h;simp only[ES,BO,G8];unfold acZ;rw[dB QV a b ha f false (some true) (fun k i h h'=>by simp only[aHh,dec_lt h,Bh,DI h,DI h',Af,aAV,QV,MV]) (fun k=>by simp only[aHh,EH,BO])];cases(a.zip b).any fun x=> !QV x.1 x.2<;>rfl
def qU (a b:D8):Bool:=(a.User==b.User)&&(a.Message==b.Message)&&(a.State==b.State)&&(a.fV==b.fV)&&(a.jH==b.jH)&&(a.nD==b.nD)&&(a.gQ==b.gQ)
def eM (a b:D8):Bool:=Ko RG a.Users b.Users&&(Ko QV a.Kinds b.Kinds&&qU a b)
def akn {a b:D8} (f:a.Users.length≤1000) (j:a.Kinds.length≤1000):Yn a b=some (eM a b):=by
 unfold Yn eM Ko;simp only[bne];cases m:((a.Users.length:Int)==(b.Users.length:Int))with
 |false=>rfl
 |true=>
  cases q:((a.Kinds.length:Int)==(b.Kinds.length:Int))with
  |false=>simp
  |true=>
   have s:=len_eq m;have ek:=len_eq q
   have u:gI a b 0=bif (a.Kinds.zip b.Kinds).any fun x=> !QV x.1 x.2 then some false else some (qU a b):=by
    unfold gI;refine dB QV a.Kinds b.Kinds j ek false (some (qU a b)) (fun k i h h'=>?_) (fun k=>?_)
    ·simp only[aAp,dec_lt h,Bh,DI h,DI h',Af,aCG,QV,bne];cases a.Kinds[i].Kind==b.Kinds[i].Kind<;>cases a.Kinds[i].N==b.Kinds[i].N<;>rfl
    simp only[aAp,EH,BO,JZ,Af,VL];rfl
   simp only[ES,BO,Af,G8];unfold aB6
   rw[dB RG a.Users b.Users f s false (gI a b 0) (fun k i h h'=>by
    simp only[su,dec_lt h,Bh,DI h,DI h',Af,aAn,RG,bne]
    cases a.Users[i].User.toList==b.Users[i].User.toList<;>cases a.Users[i].N==b.Users[i].N<;>rfl) (fun k=>by simp only[su,EH,BO]),u]
   cases(a.Users.zip b.Users).any fun x=> !RG x.1 x.2<;>cases(a.Kinds.zip b.Kinds).any fun x=> !QV x.1 x.2<;>rfl
def jd (a b:Bq):Bool:=(a.Text.toList==b.Text.toList)&&(a.N==b.N)&&(a.Target==b.Target)&&(a.Thread==b.Thread)&&(a.Via.toList==b.Via.toList)&&Ko Ua a.Allow b.Allow&&Ko Ua a.gB b.gB&&eM a.Levels b.Levels
def aJF {a:Bq} (b:Bq) (ha:Po a):Un a b=some (jd a b):=by
 have f:=ha.allow;have j:=ha.deny;have m:=ha.users;have q:=ha.kinds;unfold Un jd;rw[(tY (a:=a.Allow) AL).2,(tY (a:=a.gB) AL).2,akn (a:=a.Levels) AL AL];simp only[JZ,Af,VL]
def asT {a:Bq} (b:Bq) (ha:Po a):vU a b=some (jd a b):=by
 have I:=ha.allow;have J:=ha.deny;have L:=ha.users;have M:=ha.kinds;unfold vU jd eM qU;rw[(tY (a:=a.Allow) AL).1,(tY (a:=a.gB) AL).1,apI (a:=a.Levels.Users) AL,afB (a:=a.Levels.Kinds) AL];simp only[JZ,Af,VL,iV,bne];generalize(a.Text.toList==b.Text.toList)=f;generalize(a.N==b.N)=j;generalize(a.Target==b.Target)=m;generalize(a.Thread==b.Thread)=q;generalize(a.Via.toList==b.Via.toList)=s;generalize Ko Ua a.Allow b.Allow=u;generalize Ko Ua a.gB b.gB=z;generalize Ko RG a.Levels.Users b.Levels.Users=O;generalize Ko QV a.Levels.Kinds b.Levels.Kinds=U;cases f<;>cases j<;>cases m<;>cases q<;>cases s<;>cases u<;>cases z<;>first|rfl|(simp only[ES,Bool.or_self,BO,G8,Bool.and_self,Bool.and_assoc])
def afW {e:AU} (f:NU e) (v:Bool):CB (WI e v) ((PO e v).bind fun j=>(bif (j != 0)then some j else(IG e.Kind e.Content).bind fun z=>some z)):=by
 have h1:=f.room;have h2:=f.sender;have h3:=f.key;have h4:=f.prev;have h5:=f.auth;unfold WI PO;rw[aqm f,(jw (s:=e.Room) AL).2,(Vg (s:=e.bC) AL).2,abp AL];cases v with
 |true=>exact .ret _
 |false=>
  simp only[BO,Af,bne,JZ,iV];generalize(TF e.Room==0)=a;generalize(Ob e.bC==0)=b;generalize Sr e.Kind e.Key=I;cases a with
  |false=>exact .ret _
  |true=>
   cases b with
   |false=>exact .ret _
   |true=>
    cases I with
    |false=>exact .ret _
    |true=>
     simp only[ES,Bool.or_self,Bool.and_self,BO,yh];refine CB.bif (fun _=>.ret _) fun _=>CB.bif (fun _=>.ret _) fun hlen=>?_;simp only[kC,X5]at hlen;obtain⟨J,L,M⟩:=aMZ (l:=e.bD) AL;obtain⟨O,U,Y⟩:=aMZ (l:=e.bJ) AL;rw[L,U,M,Y];simp only[Af,JZ,iV,yh];cases J with
     |false=>exact .ret _
     |true=>
     cases O with
     |false=>exact .ret _
     |true=>
     simp only[ES,BO]
     have Z:decide ((BI ((e.bD.length:Int)+(e.bJ.length:Int)))>0)=(decide ((e.bD.length:Int)>0)||decide ((e.bJ.length:Int)>0)):=by
      rw[Mc AL AL];by_cases m:(e.bD.length:Int)>0
      ·rw[He m,He AL];rfl
      by_cases u:(e.bJ.length:Int)>0
      ·rw[He u,He AL,NS]
      rw[Gv m,Gv u,Gv AL];rfl
     rw[Z];generalize(bif ((e.bD.length:Int)==0)then !e.Kind==1 else false)=p;generalize(bif (e.Kind==1)then(decide ((e.bD.length:Int)>0)||decide ((e.bJ.length:Int)>0))else false)=q;cases p with
     |true=>exact .ret _
     |false=>
      cases q with
      |true=>exact .ret _
      |false=>exact CB.bind (amS e.Kind f.content) fun x=>.ret _
def anz {e:AU} (j:NU e):CB (aBb e) (Zw e):=by
 have f:=afW j;unfold aBb Zw aA0;rw[show Xy e.Kind=Xm e.Kind from rfl];simp only[yh,bne,JZ,Af];refine CB.bif (fun _=>f _) fun _=>CB.bif (fun _=>f _) fun _=>?_;have m:∃b,Xm e.Kind=some b:=by unfold Xm;cases decide (e.Kind≥1)<;>cases decide (e.Kind≤10)<;>exact⟨_,rfl⟩
 obtain⟨b,q⟩:=m;rw[q];simp only[Af,yh];refine CB.bif (fun _=>f _) fun _=>CB.bif (fun _=>?_) fun _=>f _;cases e.Kind==2 with
 |true=>exact f _
 |false=>exact f _
def aFl {e:AU} (f:Rh e):Oj e=some (oK e==e.Hash)∧Rch e=some (oK e==e.Hash):=by
 unfold Oj Rch;rw[(aLE f).1,(aLE f).2];exact⟨rfl,rfl⟩
def aqu {e:AU} (f:Rh e) (v:Bool):CB (Yr e v) (ZX e v):=by
 have z:e.bC.size≤2000:=f.sender;unfold Yr ZX;obtain⟨j,m⟩:=ae8 f;obtain⟨q,u⟩:=aBI (s:=e.bC) AL;rw[j,m,q,u];refine CB.bif (fun _=>.ret _) fun _=>?_;simp only[Af];refine CB.bif (fun _=>.ret _) fun _=>?_;unfold aAT aBm;show CB (bif !((e.nV.Server.toList==(splitB e.bC (Jo e.bC)).2.1.toList)&&((e.nV.Sum==e.Id)&&true))then some 12 else some 0) _;simp only[bne];cases(e.nV.Server.toList==(splitB e.bC (Jo e.bC)).2.1.toList)<;>cases(e.nV.Sum==e.Id)<;>exact .ret _
def IU {a:Int} {c:Bool} {X:Option Int} (h:(bif c then some a else X)=some 0) (ha:a≠0):c=false∧X=some 0:=by
 cases c with
 |true=>exact absurd (CO h) ha
 |false=>exact⟨rfl,h⟩
def Rn {a:Int} {x:Option Int} (h:(bif a != 0 then some a else x)=some 0):a=0∧x=some 0:=by
 by_cases ha:a=0
 ·subst ha;exact⟨rfl,h⟩
 rw[show(a != 0)=true from by simpa using ha]at h;exact absurd (CO h) ha
def firsts {α R:Type} {body:(Int→Option R)→Int→Option R} {ok:R} (l:List α) (hl:l.length≤9223372036854775807) (P:Nat→Prop)
 (u:∀k (i:Nat),i<l.length→body k (i:Int)=some ok→P i∧k ((i+1:Nat):Int)=some ok) (q:Nat) (h:bn body BA (q:Int)=some ok):∀i,q≤i→i<l.length→P i:=by
 have key:∀n (i:Nat) m,i+n=l.length→n<m→bn body m (i:Int)=some ok→∀j,i≤j→j<l.length→P j:=by
  intro n
  induction n with
  |zero=>intro i m hi _ _ j f s;omega
  |succ n z=>
   intro i m hi L I j f s;obtain⟨m,rfl⟩:∃J,m=J+1:=⟨m-1,AL⟩
   obtain⟨a,b⟩:=u (bn body m) i AL I;rcases aFO f with rfl|f
   ·exact a
   exact z (i+1) m AL AL b j f s
 intro i f s;have M:BA=9223372036854775808:=rfl;exact key (l.length-q) q BA AL AL h i f s
def iW {α:Type} {l:List α} {Q:α→Prop} (h:∀i,0≤i→i<l.length→∀x,l[i]? =some x→Q x):∀x∈l,Q x:=fun x f=>by
 obtain⟨i,hi,rfl⟩:=Hf f;exact h i (EF _) hi _ (Dl hi)
def aia (s:ByteArray) (a b:Nat) (f:b≤s.size):(s.extract a b).size=b-a:=by rw[aEZ];omega
def aMc {l:List Int} {p:Int→Bool} (h:OT l p=true):l.length≤32:=(abq h).2
def qX {s:ByteArray} {m:Int} (h:Fz s m=true):s.size≤100:=by
 unfold Fz Qe at h;simp only[CP,Fl]at h;have q:=h.2.1.1;have f:=aMc h.2.1.2
 have j:(Bf (QX s)).length≤32:=by
  have :=h.2.2;unfold Va at this;simp only[CP]at this;exact aMc this.1.1
 rw[GV]at f j;unfold SQ at f;unfold QX at j;rw[aia _ _ _ AL]at f j;omega
def aa6 {s:ByteArray} (j:s.size≤9223372036854775807) (h:VX s=some 0):s.size≤100∧Fz s 64=true:=by
 rw[(Vg j).2]at h;have h:=CO h;unfold Ob at h;cases f:Fz s 64 with
 |true=>exact⟨qX f,rfl⟩
 |false=>rw[f]at h;cases h
def afq {s:ByteArray} (j:s.size≤9223372036854775807) (h:eB s=some 0):s.size≤100∧Fz s 33=true:=by
 rw[(jw j).2]at h;have h:=CO h;unfold TF at h;cases f:Fz s 33 with
 |true=>exact⟨qX f,rfl⟩
 |false=>rw[f]at h;cases h
def ad5 {s:ByteArray} (f:s.size≤9223372036854775807) (h:ZQ s=some 0):s.size≤100:=by
 rw[(aF4 f).2]at h;have h:=CO h;unfold tN at h;split at h
 ·omega
 split at h
 ·cases h
 omega
def aeE {l:List ByteArray} (hl:l.length≤9223372036854775807) (m:∀s∈l,s.size≤9223372036854775807) (h:QO l=some 0):l.length≤100∧∀s∈l,s.size≤100:=by
 unfold QO at h;obtain⟨q,h⟩:=IU h BX;refine⟨by have :=JI q;omega,iW (firsts l hl (fun i=>∀x,l[i]? =some x→x.size≤100) (fun k i hi f=>?_) 0 h)⟩;unfold ng at f;rw[DW hi]at f;obtain⟨x,u,f⟩:=DN f;obtain⟨e,f⟩:=Rn f;subst e;rw[wrap_succ i AL]at f;exact⟨fun y j=>by rw[Dl hi]at j;obtain rfl:=CO j;exact ad5 (m _ (Eh hi)) u,f⟩
def apV {c:Bq} (hl:c.Allow.length≤9223372036854775807) (u:∀s∈c.Allow,s.size≤9223372036854775807) (h:Yo c=some 0):c.Allow.length≤100∧∀s∈c.Allow,s.size≤100:=by
 unfold Yo at h;obtain⟨x,_,h⟩:=DN h;obtain⟨_,h⟩:=IU h BX;obtain⟨I,h⟩:=IU h BX;refine⟨by have :=JI I;omega,iW (firsts c.Allow hl (fun i=>∀x,c.Allow[i]? =some x→x.size≤100) (fun k i hi f=>?_) 0 h)⟩;unfold rX nC at f;rw[DW hi]at f;obtain⟨x,J,f⟩:=DN f;obtain⟨e,f⟩:=IU f BX;have j:x=0:=PY
 subst j;refine⟨fun y m=>by rw[Dl hi]at m;obtain rfl:=CO m;exact(afq (u _ (Eh hi)) J).1,?_⟩;cases q:decide ((i:Int)>0)with
 |true=>
  rw[q,Bh]at f;obtain⟨y,_,f⟩:=DN f;obtain⟨z,_,f⟩:=DN f;obtain⟨_,f⟩:=IU f BX
  rwa [wrap_succ i AL]at f
 |false=>
  rw[q,BO,BO]at f
  rwa [wrap_succ i AL]at f
def anM {l:List Gi} (hl:l.length≤9223372036854775807) (L:∀u∈l,u.User.size≤9223372036854775807) (h:Wi l=some 0):l.length≤100∧∀u∈l,u.User.size≤100:=by
 unfold Wi at h;obtain⟨M,h⟩:=IU h BX;refine⟨by have :=JI M;omega,iW (firsts l hl (fun i=>∀x,l[i]? =some x→x.User.size≤100) (fun k i hi j=>?_) 0 h)⟩
 have q:∀v,bY l (i:Int) k v=some 0→k ((i+1:Nat):Int)=some 0:=fun v f=>by
  unfold bY at f;obtain⟨_,f⟩:=IU f BX;obtain⟨y,_,f⟩:=DN f;obtain⟨z,_,f⟩:=DN f;obtain⟨_,f⟩:=IU f BX
  rwa [wrap_succ i AL]at f
 unfold rC at j;rw[DW hi]at j;obtain⟨x,s,O⟩:=DN j;obtain⟨e,hd⟩:=IU O BX;have m:x=0:=PY
 rw[m]at s;refine⟨fun y I=>by rw[Dl hi]at I;obtain rfl:=CO I;exact(aa6 (L _ (Eh hi)) s).1,?_⟩;cases J:decide ((i:Int)>0)with
 |true=>
  rw[J,Bh]at hd;obtain⟨y,_,U⟩:=DN hd;obtain⟨z,_,Y⟩:=DN U;exact q _ Y
 |false=>
  rw[J,BO]at hd;exact q _ hd
def aot {l:List Hu} (h:XF l=some 0):l.length≤100:=by
 unfold XF at h;obtain⟨f,_⟩:=IU h BX;have :=JI f;omega
def empty_of {s:ByteArray} (h:(s.toList==BZ.toList)=true):s.size≤100:=by rw[aBA]at h;have :=eq_of_beq h;omega
def abZ {l:D8} (h:LU l=true):l.Users=[]∧l.Kinds=[]:=by
 unfold LU at h;simp only[CP]at h;exact⟨Qr h.1.1.1.1.1.1.1.1,Qr h.1.1.1.1.1.1.1.2⟩
def af0 {k:Int} {c:Bq} (I:JC c) (h:IG k c=some 0):Po c:=by
 unfold IG at h;rw[(aA4 k).2,Af]at h;obtain⟨x2,L,h⟩:=DN h;obtain⟨e2,h⟩:=IU h BX;subst e2
 have q:YO k c=some true:=by
  cases hk:(decide (k≥1)&&decide (k≤14))with
  |false=>rw[hk]at L;cases L
  |true=>
   rw[hk]at L;obtain⟨y,M,J⟩:=DN (show(YO k c).bind (fun x4=>some (!x4))=some false from L);have J:=CO J;cases y with
   |true=>exact M
   |false=>cases J
 obtain⟨x6,_,h⟩:=DN h;obtain⟨x7,O,h⟩:=DN h;cases x7 with
 |true=>
  have J:cV (c.Text.toList==BZ.toList) (c.N==0) (c.Target==0) (!c.Thread) (c.Via.toList==BZ.toList) ((c.Allow.length:Int)==0) ((c.gB.length:Int)==0) (LU c.Levels)=true:=by
   cases x6 with
   |false=>cases O
   |true=>rw[aJW]at O;exact CO O
  unfold cV at J;simp only[CP]at J;obtain⟨⟨⟨⟨⟨⟨⟨t1,_⟩,_⟩,_⟩,t5⟩,t6⟩,t7⟩,t8⟩:=J;have p:=abZ t8;have q1:=empty_of t1;have q2:=empty_of t5;have a1:=Qr t6;have a2:=Qr t7;refine⟨?_,?_,?_,?_,AL,AL,?_,?_,?_⟩<;>first|rw[a1]|rw[a2]|rw[p.1]|rw[p.2]
  all_goals first|exact EF _|exact fun x hx=>absurd hx GR
 |false=>
  rw[BO]at h;obtain⟨x11,f,h⟩:=DN h;obtain⟨e,h⟩:=Rn h;subst e;obtain⟨Nr,_,h⟩:=DN h;obtain⟨_,h⟩:=Rn h;obtain⟨x15,_,h⟩:=DN h;obtain⟨_,h⟩:=Rn h;obtain⟨x17,m,h⟩:=DN h;obtain⟨e,h⟩:=Rn h;subst e
  have ht:c.Text.size≤2000:=by
   unfold X8 at f;cases h9:k==9 with
   |true=>
    rw[h9,Bh]at f;cases Y:(c.Text.toList==BZ.toList)with
    |true=>have :=empty_of Y;omega
    |false=>
     rw[Y,BO]at f;obtain⟨y,M,f⟩:=DN f;obtain rfl:=CO f;have :=ad5 I.text M;omega
   |false=>
    rw[h9,BO]at f;obtain⟨y,_,f⟩:=DN f;obtain⟨_,f⟩:=IU f BX;obtain⟨z,J,f⟩:=DN f;obtain⟨e,_⟩:=IU f BX;subst e;cases hd:decide ((c.Text.size:Int)>400)with
    |true=>rw[hd]at J;cases J
    |false=>have :=JI hd;omega
  have hv:c.Via.size≤2000:=by
   unfold X3 at m;cases Y:(c.Via.toList==BZ.toList)with
   |true=>have :=empty_of Y;omega
   |false=>
    rw[Y,BO]at m;obtain⟨_,m⟩:=IU m BX;obtain⟨y,M,m⟩:=DN m;obtain rfl:=CO m;have :=(aa6 I.via M).1;omega
  have U:∀{l:List ByteArray},(∀s∈l,s.size≤100)→∀s∈l,s.size≤2000:=fun h s hs=>Dn (h s hs) AL;cases h4:k==4 with
  |true=>
   have e4:=eq_of_beq h4;subst e4;rw[Vl,Bh]at h;obtain⟨y,M,h⟩:=DN h;obtain rfl:=CO h;obtain⟨r1,r2⟩:=apV I.allow I.allows M;rw[abJ (K:=4) (c:=c) (show _=some false by kernel_rfl) (show _=some true by kernel_rfl) (show _=some false by kernel_rfl) (show _=some false by kernel_rfl) (show _=some false by kernel_rfl) (show _=some true by kernel_rfl) (show _=some false by kernel_rfl) (show _=some false by kernel_rfl)]at q;have Z:=CO q;unfold JV at Z;simp only[CP,KN]at Z;have d:=Qr Z.1.2;have p:=abZ Z.2;refine⟨r1,?_,?_,?_,ht,hv,U r2,?_,?_⟩<;>first|rw[d]|rw[p.1]|rw[p.2]
   all_goals first|exact EF _|exact fun x hx=>absurd hx GR
  |false=>
   rw[h4,BO]at h;obtain⟨y1,hy1,h⟩:=DN h;obtain⟨e,h⟩:=Rn h;subst e;obtain⟨y2,hy2,h⟩:=DN h;obtain⟨e,h⟩:=Rn h;subst e;obtain⟨y3,j,h⟩:=DN h;obtain rfl:=CO h;unfold WT at j;obtain⟨z1,hz1,j⟩:=DN j;obtain⟨e,j⟩:=Rn j;subst e;obtain⟨z2,hz2,j⟩:=DN j;obtain⟨e,j⟩:=Rn j;subst e;obtain⟨a1,a2⟩:=aeE I.allow I.allows hy1;obtain⟨d1,d2⟩:=aeE I.deny I.denies hy2;obtain⟨u1,u2⟩:=anM I.users I.names hz1;exact⟨a1,d1,u1,aot hz2,ht,hv,U a2,U d2,fun u hu=>Dn (u2 u hu) AL⟩
structure nG (e:AU):Prop where
 kind:1≤e.Kind∧e.Kind≤14
 state:e.State=Hg e.Kind
 keyed:e.Key=BZ∨e.Kind=2∨e.Kind=9
 room:Fz e.Room 33=true
 sender:Fz e.bC 64=true
 key:Sr e.Kind e.Key=true
 time:0≤e.Time∧e.Time≤1000000000
 depth:1≤e.Depth∧e.Depth≤100000
 prev:e.bD.length≤10∧Inc e.bD∧∀x∈e.bD,0≤x
 auth:e.bJ.length≤8∧Inc e.bJ∧∀x∈e.bJ,0≤x
 short:e.bD=[]→e.Kind=1
 form:e.Kind=1→e.bD=[]∧e.bJ=[]
 content:IG e.Kind e.Content=some 0
 small:Rh e
def aId {l:List Int} (hl:l.length≤9223372036854775807) (h:XM l=some true):Inc l∧∀x∈l,0≤x:=by
 unfold XM aIW at h
 have m:=firsts l hl (fun i=>∀x,l[i]? =some x→0≤x∧∀y,0<i→l[i-1]? =some y→y<x) (fun k i hi f=>by
  have u:∀v,Yx k (i:Int) v=some true→v=false∧k ((i+1:Nat):Int)=some true:=fun v z=>by
   unfold Yx at z;cases v with
   |true=>cases z
   |false=>rw[BO,wrap_succ i AL]at z;exact⟨rfl,z⟩
  unfold aCE at f;rw[DW hi]at f;cases J:decide (l[i]<0)with
  |true=>rw[J,Bh]at f;cases(u _ f).1
  |false=>
   have Y:=JI J;rw[J,BO]at f;cases I:decide ((i:Int)>0)with
   |false=>
    have Z:=JI I;rw[I,BO]at f;refine⟨fun x q=>?_,(u _ f).2⟩;rw[Dl hi]at q;obtain rfl:=CO q;exact⟨AL,fun y Y L=>AL⟩
   |true=>
    rw[I,Bh,DI hi,Af,nP hi hl I,Af]at f;obtain⟨M,O⟩:=u _ f;refine⟨fun x q=>?_,O⟩;rw[Dl hi]at q;obtain rfl:=CO q;refine⟨AL,fun y Y L=>?_⟩;rw[Dl AL]at L;obtain rfl:=CO L
    have :=JI M;omega) 0 h
 have s:∀i,(hi:i+1<l.length)→l[i]<l[i+1]:=fun i hi=>(m (i+1) AL hi _ (Dl hi)).2 _ AL (Dl AL);refine⟨?_,fun x q=>?_⟩
 ·rw[Inc,KQ];intro i j hi u U
  induction j with
  |zero=>omega
  |succ j ih=>
   have M:=s j u;rcases aFO (Nat.le_of_lt_succ U)with rfl|O
   ·exact M
   have :=ih AL O;omega
 obtain⟨i,hi,rfl⟩:=Hf q;exact(m i (EF _) hi _ (Dl hi)).1
def kD {c:Bool} {X:Option Bool} {f:Bool→Option Int} {v:Int} (j:f true≠some v) (h:((bif c then some true else X).bind f)=some v):c=false∧X.bind f=some v:=by
 cases c with
 |true=>exact absurd h j
 |false=>exact⟨rfl,h⟩
def am4 {e:AU} (L:NU e) (h:Zw e=some 0):nG e:=by
 unfold Zw at h;obtain⟨x1,f,h⟩:=DN h;obtain⟨e1,h⟩:=Rn h;subst e1;obtain⟨x3,h3,h⟩:=DN h;obtain rfl:=CO h;have I:=af0 L.content h3
 have M:∀v,PO e v=some 0→v=false:=fun v hv=>by
  cases v with
  |true=>cases hv
  |false=>rfl
 have Z:PO e false=some 0∧(1≤e.Kind∧e.Kind≤14)∧e.State=Hg e.Kind∧(e.Key=BZ∨e.Kind=2∨e.Kind=9):=by
  unfold aA0 at f;cases Y:decide (e.Kind<1)with
  |true=>rw[Y,Bh]at f;cases M _ f
  |false=>
   cases c2:decide (e.Kind>14)with
   |true=>rw[Y,c2,BO,Bh]at f;cases M _ f
   |false=>
    rw[Y,c2,BO,BO,aiQ,Af]at f;have k1:=JI Y;have k2:=JI c2;cases c3:(e.State==Hg e.Kind)with
    |false=>rw[c3,Jm,Bh]at f;cases M _ f
    |true=>
     rw[c3,ES,BO]at f;refine⟨?_,⟨AL,AL⟩,eq_of_beq c3,?_⟩
     all_goals cases c4:(e.Key.toList==BZ.toList)with
     |true=>rw[c4,ES,BO]at f;first|exact f|exact .inl (toList_inj (eq_of_beq c4))
     |false=>
      rw[c4,Jm,Bh]at f;cases c5:(e.Kind != 2)with
      |false=>rw[c5,BO]at f;first|exact f|exact .inr (.inl (by simpa using c5))
      |true=>
       rw[c5,Bh]at f;have :=M _ f;rw[this]at f
       first|exact f|exact .inr (.inr aHL)
 clear f M;obtain⟨f,hk,hst,O⟩:=Z;unfold PO at f;rw[BO,(jw (s:=e.Room) L.room).2,(Vg (s:=e.bC) L.sender).2,abp L.key]at f;simp only[Af]at f
 have m:Fz e.Room 33=true:=by
  cases J:Fz e.Room 33 with
  |true=>rfl
  |false=>unfold TF at f;rw[J]at f;cases f
 have r0:TF e.Room=0:=by unfold TF;rw[m];rfl
 rw[r0,lI,BO,Af]at f
 have u:Fz e.bC 64=true:=by
  cases J:Fz e.bC 64 with
  |true=>rfl
  |false=>unfold Ob at f;rw[J]at f;cases f
 have u0:Ob e.bC=0:=by unfold Ob;rw[u];rfl
 rw[u0,lI,BO,Af]at f
 have j:Sr e.Kind e.Key=true:=by
  cases J:Sr e.Kind e.Key with
  |true=>rfl
  |false=>rw[J]at f;cases f
 rw[j,ES,BO]at f;obtain⟨t1,f⟩:=kD oZ f;rw[Af]at f;obtain⟨t2,f⟩:=kD oZ f;rw[Af]at f;obtain⟨t3,f⟩:=kD oZ f;rw[Af]at f;obtain⟨t4,f⟩:=IU f BX;obtain⟨t5,f⟩:=kD oZ f;rw[Af]at f;obtain⟨t6,f⟩:=IU f BX;obtain⟨x21,h21,f⟩:=DN f;obtain⟨t7,f⟩:=kD oZ f;rw[Option.bind_assoc]at f;obtain⟨x24,h24,f⟩:=DN f;rw[Af]at f;obtain⟨t8,f⟩:=IU f BX;obtain⟨Ed,U,f⟩:=DN f;obtain⟨t9,f⟩:=IU f BX;obtain⟨x29,z,f⟩:=DN f;obtain⟨t10,_⟩:=IU f BX;have e21:x21=true:=by simpa using t7
 have e24:x24=true:=by simpa using t8
 subst e21 e24 t9 t10;have p1:=JI t5;have p2:=JI t6;have r1:=aId L.prev h21;have r2:=aId L.auth h24;have d1:=JI t1;have d2:=JI t2;have d3:=JI t3;have d4:=JI t4
 have hkz:e.Key.size≤2000:=by
  rcases O with h|h|h
  ·rw[h];exact EF _
  ·unfold Sr at j;rw[Cb h]at j;have :Ob e.Key=0:=Ou
   unfold Ob at this;cases J:Fz e.Key 64 with
   |true=>have :=qX J;omega
   |false=>rw[J]at this;cases this
  unfold Sr at j;rw[D9 AL,Cb h]at j;unfold nI at j;simp only[CP,Fl]at j;have :=j.1.2;omega
 have z1:=qX m;have z2:=qX u;refine⟨hk,hst,O,m,u,j,⟨AL,AL⟩,⟨AL,AL⟩,⟨AL,r1⟩,⟨AL,r2⟩,fun hp=>?_,fun hk1=>?_,h3,⟨?_,?_,I.allow,I.deny,I.users,I.kinds,?_,?_,hkz,I.text,I.via,EF _,I.allows,I.denies,I.names⟩⟩
 ·rw[hp]at U;have :=CO U;simpa using this
 ·rw[hk1]at z;have z:((bif decide ((e.bD.length:Int)>0)then some true else some (decide ((e.bJ.length:Int)>0))).bind fun x31=>some x31)=some false:=z;cases q:decide ((e.bD.length:Int)>0)with
  |true=>rw[q]at z;cases z
  |false=>
   rw[q]at z;have q2:=CO z;have :=JI q;have :=JI q2;exact⟨GY AL,GY AL⟩
 ·show e.bD.length≤40;omega
 ·show e.bJ.length≤40;omega
 ·show e.Room.size≤2000;omega
 show e.bC.size≤2000;omega
def ads {e:AU} (J:NU e):∃c,uD e=some c∧aBk e=some c∧(c=0→nG e∧H8 e):=by
 obtain⟨x,z,m⟩:=anz J;unfold uD aBk;rw[z,m,Af,Af];cases u:x != 0 with
 |true=>exact⟨x,rfl,rfl,fun h=>by subst h;cases u⟩
 |false=>
  obtain rfl:x=0:=Md
  have L:=am4 J m;have f:=L.small;have I:e.bC.size≤2000:=f.sender;rw[BO,BO,(aFl f).1,(aFl f).2,acY _ f.content,aD6];simp only[Af];rw[asT _ f.content,aJF _ f.content];simp only[Af]
  have key:∀v,∃c,Yr e v=some c∧ZX e v=some c∧(c=0→nG e∧H8 e):=fun v=>by
   obtain⟨c,j,O⟩:=aqu f v;refine⟨c,j,O,fun U=>⟨L,?_⟩⟩;subst U;unfold Yr at j;obtain⟨_,j⟩:=IU j BX;rw[(ae8 f).1,Af]at j;obtain⟨_,j⟩:=IU j BX;rw[(aBI (s:=e.bC) AL).1,Af]at j;obtain⟨M,_⟩:=IU (show(bif !((e.nV.Server.toList==(splitB e.bC (Jo e.bC)).2.1.toList)&&((e.nV.Sum==e.Id)&&true))then some 12 else some 0)=some (0:Int)from j) BX
   have Y:e.nV.Server=(splitB e.bC (Jo e.bC)).2.1:=by
    cases q:(e.nV.Server.toList==(splitB e.bC (Jo e.bC)).2.1.toList)with
    |true=>exact toList_inj (eq_of_beq q)
    |false=>rw[q]at M;cases M
   have Z:=(arO e.bC I).2.2;exact⟨f.prev,f.auth,f.allow,f.deny,f.users,f.kinds,f.room,f.sender,f.key,f.text,f.via,by rw[Y];exact Z,f.allows,f.denies,f.names⟩
  cases(!(oK e==e.Hash))with
  |true=>rw[Bh,Bh];exact key _
  |false=>rw[BO,BO];exact key _
def aIT {f g:(Int→Option Int)→Int→Option Int} (N lo:Nat) (u:∀k k' (i:Nat),lo≤i→i<N→CB (k ((i+1:Nat):Int)) (k' ((i+1:Nat):Int))→CB (f k (i:Int)) (g k' (i:Int))) (z:∀k k',CB (f k (N:Int)) (g k' (N:Int))):
 ∀n (i:Nat),lo≤i→i+n=N→∀m j,n<m→n<j→CB (bn f m (i:Int)) (bn g j (i:Int)):=by
 intro n
 induction n with
 |zero=>
  intro i s hi m j I J;obtain⟨m,rfl⟩:∃q,m=q+1:=⟨m-1,AL⟩
  obtain⟨j,rfl⟩:∃q,j=q+1:=⟨j-1,AL⟩
  have :i=N:=AL
  subst this;exact z _ _
 |succ n L=>
  intro i s hi m j I J;obtain⟨m,rfl⟩:∃q,m=q+1:=⟨m-1,AL⟩
  obtain⟨j,rfl⟩:∃q,j=q+1:=⟨j-1,AL⟩
  exact u _ _ i s AL (L (i+1) AL AL m j AL AL)
def lasts {R:Type} {body:(Int→Option R)→Int→Option R} {ok:R} (N:Nat) (M:N≤9223372036854775807) (P:Nat→Prop)
 (I:∀k (i:Nat),i<N→body k (i:Int)=some ok→P i∧k ((i+1:Nat):Int)=some ok) (f:Nat) (O:f≤N) (h:bn body BA (f:Int)=some ok):(∀i,f≤i→i<N→P i)∧∃k,body k (N:Int)=some ok:=by
 have key:∀n (i:Nat) m,i+n=N→n<m→bn body m (i:Int)=some ok→(∀j,i≤j→j<N→P j)∧∃k,body k (N:Int)=some ok:=by
  intro n
  induction n with
  |zero=>
   intro i m hi J s;obtain⟨m,rfl⟩:∃u,m=u+1:=⟨m-1,AL⟩
   have :i=N:=AL
   subst this;exact⟨fun j q z=>AL,_,s⟩
  |succ n L=>
   intro i m hi J s;obtain⟨m,rfl⟩:∃u,m=u+1:=⟨m-1,AL⟩
   obtain⟨a,b⟩:=I (bn body m) i AL s;obtain⟨c,d⟩:=L (i+1) m AL AL b;refine⟨fun j q z=>?_,d⟩;rcases aFO q with rfl|q
   ·exact a
   exact c j q z
 have U:BA=9223372036854775808:=rfl;exact key (N-f) f BA AL AL h
def aK4 {α:Type} {l:List α} {i:Nat} (h:i+1<l.length) (hl:l.length≤1000000):BJ l (BI (((i+1:Nat):Int)-1))=some l[i]:=by
 rw[show BI (((i+1:Nat):Int)-1)=(i:Int) by rw[kn];omega,DI AL]
def aoR {l:List AU} (z:∀e∈l,NU e) (hl:l.length≤1000):CB (NC l) (Yk l):=by
 by_cases s:l=[]
 ·subst s;exact⟨0,A8,A8⟩
 have f:0<l.length:=aC7.2 s;have I:BA=9223372036854775807+1:=rfl
 have J:CB (wL l 1) (aGm l 1):=by
  unfold wL aGm;refine aIT l.length 1 (fun k k' i q hi m=>?_) (fun k k'=>?_) (l.length-1) 1 (Dw _) AL BA BA AL AL
  ·obtain⟨i,rfl⟩:∃j,i=j+1:=⟨i-1,AL⟩
   unfold aBZ aFI;rw[DW hi,dec_lt hi,Bh,aK4 hi AL,Af,Af,DI hi,Af,wrap_succ (i+1) AL];show CB (bif decide (l[i+1].Id≤l[i].Id)then some 8 else k _) (bif decide (l[i].Id≥l[i+1].Id)then some 8 else k' _);exact CB.bif (fun _=>.ret _) fun _=>m
  unfold aBZ aFI;rw[EH];exact .ret _
 have u:BJ l 0=some l[0]:=DI (i:=0) f
 have L:CB (qV l 0) (aEn l 1):=by
  have M:∀k,XI l k 0=k 1:=fun k=>by
   unfold XI;rw[show decide ((0:Int)<(l.length:Int))=true by simpa using f,Bh,u,Af,Af,Vl];rfl
  have O:qV l 0=bn (XI l) 9223372036854775807 1:=by
   unfold qV;rw[I];exact M _
  rw[O];unfold aEn;refine aIT l.length 1 (fun k k' i q hi m=>?_) (fun k k'=>?_) (l.length-1) 1 (Dw _) AL _ BA AL AL
  ·unfold XI aEM;rw[DW hi,DW hi,u,Af,Af,wrap_succ i AL];exact CB.bif (fun _=>.ret _) fun _=>m
  unfold XI aEM;rw[EH];exact J
 unfold NC Yk;rw[Gv (show ¬(l.length:Int)>2000 by omega),BO,BO];unfold aCH aaG;refine aIT l.length 0 (fun k k' i _ hi m=>?_) (fun k k'=>?_) l.length 0 (Dw _) AL BA BA AL AL
 ·unfold jh aFK;obtain⟨c,U,Y,_⟩:=ads (z _ (Eh hi));rw[DW hi,DW hi,U,Y,Af,Af,wrap_succ i AL];exact CB.bif (fun _=>.ret _) fun _=>m
 unfold jh aFK;rw[EH];exact L
structure Ud (l:List AU):Prop where
 ev:∀e∈l,nG e∧H8 e
 room:∀x∈l,∀y∈l,x.Room=y.Room
 inc:Inc (l.map (·.Id))
def ahW {f:Nat→Int}:∀(n i j:Nat),(∀k,i≤k→k<j→f k<f (k+1))→i+n=j→0<n→f i<f j:=by
 intro n
 induction n with
 |zero=>intro i j _ _ h;omega
 |succ n s=>
  intro i j h m _;rcases XW n with q|q
  ·subst q;rw[←m];exact h i (Dw _) AL
  have a:=h i (Dw _) AL;have b:=s (i+1) j (fun k z u=>h k AL u) AL q;omega
def aqk {l:List AU} (Z:∀e∈l,NU e) (hl:l.length≤1000) (h:NC l=some 0):Ud l:=by
 unfold NC at h;rw[Gv (show ¬(l.length:Int)>2000 by omega),BO]at h;unfold aCH at h
 obtain⟨p1,k1,h⟩:=lasts l.length AL (fun i=>∀x,l[i]? =some x→nG x∧H8 x) (fun k i hi m=>by
  unfold jh at m;obtain⟨c,c1,_,c3⟩:=ads (Z _ (Eh hi));rw[DW hi,c1,Af,wrap_succ i AL]at m;obtain⟨e,m⟩:=Rn m
  exact⟨fun x s=>by rw[Dl hi]at s;obtain rfl:=CO s;exact c3 e,m⟩) 0 (EF _) h
 unfold jh at h;rw[EH,BO]at h;unfold qV at h
 obtain⟨p2,k2,h⟩:=lasts l.length AL (fun i=>∀x y,l[i]? =some x→l[0]? =some y→x.Room=y.Room) (fun k i hi m=>by
  unfold XI at m;have g0:BJ l 0=some l[0]:=DI (i:=0) AL;rw[DW hi,g0,Af,wrap_succ i AL]at m;obtain⟨e,m⟩:=IU m BX;refine⟨fun x y s u=>?_,m⟩;rw[Dl hi]at s;rw[Dl AL]at u;obtain rfl:=CO s;obtain rfl:=CO u
  exact toList_inj PY) 0 (EF _) h
 unfold XI at h;rw[EH,BO]at h;refine⟨iW p1,fun x s y u=>?_,?_⟩
 ·have key:∀x∈l,∀y,l[0]? =some y→x.Room=y.Room:=iW fun i hi J x s y u=>p2 i hi J x y s u;have h0:0<l.length:=aFj s;have O:l[0]? =some l[0]:=Dl h0;rw[key x s _ O,key y u _ O]
 by_cases U:l=[]
 ·subst U;exact .nil
 have I:0<l.length:=aC7.2 U;unfold wL at h
 obtain⟨p3,_⟩:=lasts l.length AL (fun i=>∀j x y,i=j+1→l[i]? =some x→l[j]? =some y→y.Id<x.Id) (fun k i hi m=>by
  unfold aBZ at m;rw[DW hi]at m;obtain⟨z,Y,m⟩:=DN m;obtain⟨e,m⟩:=IU m BX;rw[wrap_succ i AL]at m;refine⟨fun j x y L s u=>?_,m⟩;subst L;rw[aK4 hi AL]at Y;rw[Dl hi]at s;rw[Dl AL]at u;obtain rfl:=CO s;obtain rfl:=CO u;obtain rfl:=CO Y
  have :=JI e;omega) 1 I h
 rw[Inc,List.pairwise_map,KQ];intro i j hi L hij
 have :=ahW (f:=fun q=>(l.getD q G6).Id) (j-i) i j (fun k h1 h2=>by
  have M:k+1<l.length:=AL
  have :=p3 (k+1) AL M k l[k+1] l[k] rfl (Dl M) (Dl AL)
  simpa[List.getD,Dl M,Dl (show k<l.length by omega)]using this) AL AL
 simpa[List.getD,Dl hi,Dl L]using this
def Ud.ok {l:List AU} (h:Ud l) (hl:l.length≤100):Ov l:=⟨hl,fun e f=>(h.ev e f).2,bf h.inc,fun e f=>(h.ev e f).1.depth⟩
def acg {l:List AU} (f:∀e∈l,NU e) (hl:l.length≤100):∃c,NC l=some c∧Yk l=some c∧(c=0→Ud l):=by
 obtain⟨c,j,m⟩:=aoR f AL;exact⟨c,j,m,fun h=>aqk f AL (by rw[j,h])⟩
def anb {e:AU} (h:H8 e):H8 (Qg e):=by
 have f:=h.content.strip e.Kind;exact⟨h.prev,h.auth,f.allow,f.deny,f.users,f.kinds,h.room,h.sender,h.key,f.text,f.via,h.server,f.allows,f.denies,f.names⟩
structure asw (l k:List AU):Prop where
 len:k.length=l.length
 at_:∀i (h:i<l.length) (h':i<k.length),k[i]=l[i]∨k[i]=Qg l[i]
structure asz (l k:List AU):Prop where
 ref:Yk k=some 0
 prog:NC k=some 0
 facts:Ud k
 deep:Ih k=0
 ids:k.map (·.Id)=l.map (·.Id)
 agr:FZ l k (l.map (·.Id))
def aBv :dA=some true:=A8
def Yp (t:List EC) (x:Int):List Az×Int:=match Eb t x with
 |some y=>(y.before,bif y.err != 0 then 2 else 4)
 |none=>([],0)
section
variable {l : List AU} {c : Int}
def aKh (m:NC l=some c) (h:c=0→Ov l) (id:Int):WC l id=some (Yp (Z7 l c) id):=by
 unfold WC;refine gy.eq ((run_eq l m h).bind fun o q=>?_);rcases q with⟨f,rfl⟩|⟨f,_,T,rfl,j⟩
 ·rw[f];exact .ret rfl
 rw[f];simp only[TR];unfold Zb wE Yp;rw[j.r,j.b];cases Eb (Hl l) id with
 |none=>exact .ret rfl
 |some y=>
  show gy ((bif y.err != 0 then some 2 else some 4).bind fun s=>some (y.before,s)) (fun r=>r=(y.before,bif y.err != 0 then 2 else 4));cases y.err != 0<;>exact .ret rfl
def aJ3 (m:NC l=some c) (h:c=0→Ov l) (id:Int):Yy l id=some (Gn (Z7 l c) id):=by
 unfold Yy;refine gy.eq ((run_eq l m h).bind fun o q=>?_);rcases q with⟨f,rfl⟩|⟨f,_,T,rfl,j⟩
 ·rw[f];exact .ret rfl
 rw[f];simp only[TR];unfold Zb Gn;rw[j.r,j.a];cases Eb (Hl l) id<;>exact .ret rfl
end
def aps {l:List AU} {t:List EC} (h:Le l t) {x:Int} {y:EC} (f:Eb t x=some y):II l y.before∧II l y.after:=h y (Ri f)
def arC (x:Int):(x != x)=false:=lI x
def aJH {l:List AU} {c:Int} (j:Yk l=some c) (h:c=0→Ov l):gU l=some (c==0&&Ih l==0):=by
 unfold gU;rw[j,Af];cases m:c==0 with
 |false=>rfl
 |true=>
  have f:=h (eq_of_beq m);rw[Bh,aj3 l f.len f.small f.dep];rfl
def acD {l:List AU} (hd:Ih l=0):Z7 l 0=Hl l:=by unfold Z7;rw[hd];rfl
def XD (l:List ByteArray):Nat:=(l.map fun s=>s.size).sum+l.length
def aGA (l:List Gi):Nat:=(l.map fun u=>u.User.size).sum+l.length
def Xn (c:Bq):Nat:=c.Text.size+c.Via.size+XD c.Allow+XD c.gB+aGA c.Levels.Users+c.Levels.Kinds.length
def alm (l:List ByteArray):(Ll l).length≤10*XD l+10:=by
 have j:=LV l.length
 have key:∀l:List ByteArray,(l.flatMap I4).length≤10*XD l:=by
  intro l
  induction l with
  |nil=>exact EF _
  |cons s l f=>
   have m:=XE s;unfold XD at f ⊢;rw[KW,Dx,JD,List.sum_cons,FK];omega
 have :=key l;unfold Ll;rw[Dx];omega
section
variable {b : List Int} {k : Nat}
def Vu (h:b.length≤k) (f:k≤1000000000) (n:Int):gy (KO b n) (fun r=>r.length≤k+10):=by
 have :=LV n;rw[eX AL];exact .ret JL
def ajB (h:b.length≤k) (j:k≤1000000000) (f:Bool):gy (UO b f) (fun r=>r.length≤k+10):=by
 rw[aIm AL];exact .ret xq
def aHA (h:b.length≤k) (f:k≤1000000000) {s:ByteArray} (m:Nat) (j:s.size≤m) (q:m≤1000000000):gy (Oa b s) (fun r=>r.length≤k+m+10):=by
 have :=XE s;rw[aJx AL];exact .ret JL
def aIj (h:b.length≤k) (f:k≤1000000000) {l:List ByteArray} (m:Nat) (hl:XD l≤m) (j:m≤10000000):gy (VI b l) (fun r=>r.length≤k+10*m+10):=by
 have q:=alm l;have s:l.length≤XD l:=Nat.le_add_left ..
 have :VI b l=some (b++Ll l):=by
  unfold VI;rw[Mc (x:=8*(l.length:Int)) AL AL,Mc AL AL,show 8*(l.length:Int)+10=((8*l.length+10:Nat):Int) by omega,eK AL,Af,adE JL AL];rfl
 rw[this];exact .ret JL
end
def ai8 (c:Bq) (h:Xn c≤1048576):gy (Yh c) (fun r=>r.length≤100000000):=by
 unfold Xn at h
 have q:∀i,(hi:i≤c.Levels.Users.length)→((c.Levels.Users.take i).map fun u=>u.User.size).sum≤((c.Levels.Users).map fun u=>u.User.size).sum:=fun i _=>by
  have :((c.Levels.Users.take i).map fun u=>u.User.size).sum+((c.Levels.Users.drop i).map fun u=>u.User.size).sum=(c.Levels.Users.map fun u=>u.User.size).sum:=by
   rw[←WL,←I9,VF]
  omega
 unfold aGA at h;unfold Yh
 refine(aHA (b:=[]) (k:=0) (Dw _) AL 1048576 AL AL).bind fun b1 z=>(Vu z AL _).bind fun b2 I=>(Vu I AL _).bind fun b3 J=>(ajB J AL _).bind fun b4 L=>
  (aHA L AL 1048576 AL AL).bind fun b5 M=>(aIj M AL 1048576 AL AL).bind fun b6 O=>(aIj O AL 1048576 AL AL).bind fun b7 U=>(Vu U AL _).bind fun Y Z=>?_
 have Z:Y.length≤24000000:=AL
 unfold aD9;refine RS c.Levels.Users.length (fuel_lt AL) (fun i a=>a.length≤24000000+((c.Levels.Users.take i).map fun u=>u.User.size).sum+i*20) E8 (fun i a k hi j f=>?_) fun a k j=>?_
 ·have q1:=q i AL;have q2:=q (i+1) AL;unfold fK;rw[DW hi,wrap_succ i AL]
  have e:((c.Levels.Users.take (i+1)).map fun u=>u.User.size).sum=((c.Levels.Users.take i).map fun u=>u.User.size).sum+c.Levels.Users[i].User.size:=by
   rw[RD hi,I9,WL];simp
  refine(aHA j AL c.Levels.Users[i].User.size (Dw _) AL).bind fun x m=>(Vu m AL _).bind fun y s=>f y (by rw[e];omega)
 have q1:=q c.Levels.Users.length AL;unfold fK;rw[EP];refine(Vu j AL _).bind fun x m=>?_;have m:x.length≤47000000:=AL
 unfold uY;refine RS c.Levels.Kinds.length (fuel_lt AL) (fun i a=>a.length≤47000000+i*20) AL (fun i a k hi j f=>?_) fun a k j=>?_
 ·unfold dW;rw[DW hi,wrap_succ i AL];refine(Vu j AL _).bind fun x m=>(Vu m AL _).bind fun y s=>f y AL
 unfold dW;rw[EP];have h0:a.length≤69000000:=AL
 unfold zS;refine RS 7 (fuel_lt AL) (fun i a=>a.length≤69000000+i*10) AL (fun i a k hi j f=>?_) fun a k j=>?_
 ·unfold jI;have m:∃y,BJ ([c.Levels.User,c.Levels.Message,c.Levels.State,c.Levels.fV,c.Levels.jH,c.Levels.nD,c.Levels.gQ]:List Int) (i:Int)=some y:=⟨_,DI (l:=[c.Levels.User,c.Levels.Message,c.Levels.State,c.Levels.fV,c.Levels.jH,c.Levels.nD,c.Levels.gQ]) hi⟩
  obtain⟨y,s⟩:=m;rw[show decide ((i:Int)<7)=true from by simp;omega,Bh,s,Af,wrap_succ i AL];exact(Vu j AL _).bind fun x m=>f x AL
 unfold jI;exact .ret (show a.length≤100000000 by omega)
def afz (b:List Int) (h:b.length≤100000000):gy (Xu b) (fun _=>True):=by
 unfold Xu wB;rw[Af];refine gy.bind (P:=fun _=>True) ?_ fun _ _=>.ret trivial;unfold aB9 aGS;refine RS b.length (fuel_lt AL) (fun _ _=>True) trivial (fun i a k hi _ f=>?_) fun a k _=>?_
 ·unfold kQ;rw[DW hi,wrap_succ i AL];exact f _ trivial
 unfold kQ;rw[EP];exact .ret trivial
def amH {e:AU} (h:Xn e.Content≤1048576):∃b,Oj e=some b:=by
 have :gy (Oj e) (fun _=>True):=by
  unfold Oj bW;exact((ai8 _ h).bind fun b f=>(afz b f).bind fun x _=>gy.ret (Q:=fun _=>True) trivial).bind fun _ _=>.ret trivial
 obtain⟨b,f,_⟩:=this;exact⟨b,f⟩
def pV (l:List AU) (e:AU):Nat:=l.findIdx fun x=> !decide (x.Id<e.Id)
def Vh (l:List AU) (e:AU):List AU:=l.take (pV l e)++e::l.drop (pV l e)
def aBO (e x:AU):Bool:= !(x.Room.toList==e.Room.toList)
def an1 (l:List AU) (e:AU):pV l e≤l.length:=rG
def aev (l:List AU) (e:AU):(Vh l e).length=l.length+1:=by
 have :=an1 l e;unfold Vh;rw[Dx,FK,Gx,Jc];omega
def ac3 {l:List AU} {e x:AU}:x∈Vh l e↔x=e∨x∈l:=by
 unfold Vh;rw[Gf,Ew];constructor
 ·rintro(h|h|h)
  ·exact .inr (Zz h)
  ·exact .inl h
  exact .inr (aBo h)
 rintro(h|h)
 ·exact .inr (.inl h)
 rw[←VF (pV l e) l]at h;rcases Gf.1 h with h|h
 ·exact .inl h
 exact .inr (.inr h)
section
variable {l : List AU} {e : AU} (hl : l.length ≤ 1000)
include hl
def aae :Qn l e=bif l.any (aBO e)then some ([],13)else(bif dM l e.Id then(Oj e).bind fun j=>(bif j then(BJ l ((l.findIdx fun x=>x.Id==e.Id:Nat):Int)).bind fun s=>(Oj s).bind fun u=>some (!u)else some false).bind fun f=>some ((bif f then l.set (l.findIdx fun x=>x.Id==e.Id) e else l),0)else some (Vh l e,0)):=by
 have m:mJ l=some l:=by
  unfold mJ;rw[Et VU];rfl
 have q:Zx l e.Id=some (if l.findIdx (fun x=>x.Id==e.Id)<l.length then((l.findIdx (fun x=>x.Id==e.Id):Nat):Int)else -1):=by
  unfold Zx qj;rw[aBj l AL _ (fun x=>x.Id==e.Id) fun _=>rfl];rfl
 have z:aCs l l e 0=some (Vh l e,0):=by
  have L:∀i:Nat,i≤l.length→(sO l (i:Int) [e]).bind (fun J=>some (J,(0:Int)))=some (l.take i++e::l.drop i,0):=fun i hi=>by
   have M:tK l (i:Int) [e]=some (l.take i++e::l.drop i):=by
    show(if(0≤(i:Int)∧(i:Int)≤(l.length:Int))∧l.length≤34359738368 then some (l.take (i:Int).toNat++e::l.drop (i:Int).toNat)else none)=_;rw[Cb ⟨⟨AL,AL⟩,AL⟩,Vw]
   unfold sO;rw[M];rfl
  unfold aCs;rw[QH l (fuel_lt AL) (fun x=> !decide (x.Id<e.Id)) (fun i=>some (l.take i++e::l.drop i,(0:Int))) (some (l.take l.length++e::l.drop l.length,0))]
  ·unfold Vh pV;split
   ·rfl
   rename_i O;have :=rG (xs:=l) (p:=fun x=> !decide (x.Id<e.Id));rw[show l.findIdx (fun x=> !decide (x.Id<e.Id))=l.length by omega]
  ·intro k i h;unfold aFh kM;rw[DW h,L i AL];cases decide (l[i].Id<e.Id)<;>rfl
  intro k;unfold aFh kM;rw[EH,BO,BO,L l.length (Dw _)]
 unfold Qn aMO;rw[IC l (fuel_lt AL) (aBO e) ([],13) (bif dM l e.Id then(Oj e).bind fun j=>(bif j then(BJ l ((l.findIdx fun x=>x.Id==e.Id:Nat):Int)).bind fun s=>(Oj s).bind fun u=>some (!u)else some false).bind fun f=>some ((bif f then l.set (l.findIdx fun x=>x.Id==e.Id) e else l),0)else some (Vh l e,0))]
 ·intro k i h;unfold aI2;rw[DW h];rfl
 intro k;unfold aI2;rw[EH,BO,q,Af,m,Af,z]
 have I:dM l e.Id=decide (l.findIdx (fun x=>x.Id==e.Id)<l.length):=by
  unfold dM EO;rw[Qa,List.find?_isSome,Fl,Xp]
 rw[I];by_cases h:l.findIdx (fun x=>x.Id==e.Id)<l.length
 ·rw[Cb h,He h,Gv (show ¬(((l.findIdx (fun x=>x.Id==e.Id):Nat):Int)<0) by omega),He (show((l.findIdx (fun x=>x.Id==e.Id):Nat):Int)≥0 by omega)];simp only[BO,Bh,Af];unfold xB;congr 1;funext j;congr 1;funext f;cases f with
  |true=>rw[Bh,DI h,Vw];rfl
  |false=>rfl
 rw[D9 h,Gv h,He (show(-1:Int)<0 by omega),Gv (show ¬((-1:Int)≥0) by omega),Gv (show ¬((l.length:Int)≥2000) by omega)];rfl
end
def acG {α:Type} {p:α→α→Bool} (j:∀x y,p x y=true→x=y) {a b:List α} (h:Ko p a b=true):a=b:=by
 unfold Ko at h;rw[CP]at h;have hlen:a.length=b.length:=by have :=eq_of_beq h.1;omega
 have f:((a.zip b).any fun x=> !p x.1 x.2)=false:=by simpa using h.2
 refine Z9 hlen fun i q s=>?_
 have :=aAq.1 f (a[i],b[i]) (by
  have m:i<(a.zip b).length:=E8
  have :=Eh m
  rwa [aDX]at this)
 exact j _ _ aHL
def aob {a b:D8} (h:eM a b=true):a=b:=by
 unfold eM qU at h;simp only[CP,PX]at h;obtain⟨f,j,⟨⟨⟨⟨⟨⟨m,q⟩,s⟩,u⟩,z⟩,I⟩,J⟩⟩:=h
 have L:=acG (p:=RG) (fun x y h=>by
  unfold RG at h;rw[CP]at h;cases x;cases y;simp only at h
  rw[toList_inj (eq_of_beq h.1),eq_of_beq h.2]) f
 have M:=acG (p:=QV) (fun x y h=>by
  unfold QV at h;rw[CP]at h;cases x;cases y;simp only at h
  rw[eq_of_beq h.1,eq_of_beq h.2]) j
 cases a;cases b;simp only at *;subst L M m q s u z I J;rfl
def aqi {a b:AU} (ha:Po (Qg a).Content) (J:a.bD.length≤1000) (L:a.bJ.length≤1000):∃r,Opu (Qg a) (Qg b)=some r∧(r=true→a.Id=b.Id∧Hw a b):=by
 unfold Opu;rw[abh _ _ (show(Qg a).bD.length≤_ from Dn J AL),abh _ _ (show(Qg a).bJ.length≤_ from Dn L AL),aJF _ ha];simp only[JZ,Af,VL];refine⟨_,rfl,fun h=>?_⟩;simp only[CP,PX]at h;obtain⟨⟨⟨⟨⟨⟨⟨⟨⟨⟨⟨⟨⟨I,M⟩,O⟩,q⟩,h5⟩,U⟩,Y⟩,Z⟩,u⟩,f⟩,j⟩,h12⟩,h13⟩,h14⟩:=h;have q:a.Kind=b.Kind:=q;have u:a.bD=b.bD:=by unfold bG at u;exact PK u
 have f:a.bJ=b.bJ:=by unfold bG at f;exact PK f
 unfold jd at j;simp only[CP,PX]at j;have z:(Pq a.Kind a.Content).N=(Pq b.Kind b.Content).N:=j.1.1.1.1.1.1.2;have s:(Pq a.Kind a.Content).Levels=(Pq b.Kind b.Content).Levels:=aob j.2;refine⟨I,I.symm,toList_inj M.symm,toList_inj O.symm,q.symm,toList_inj U.symm,Y.symm,Z.symm,u.symm,f.symm,fun m=>?_,fun m=>?_⟩
 ·rw[←q]at z;rcases m with m|m<;>rw[m]at z<;>exact z.symm
 rw[←q,m]at s;exact s.symm
def aie {l k:List AU} (q:(l.map (·.Id)).Nodup) (I:(k.map (·.Id)).Nodup) (hd:Ih l=0) (J:∀e∈l,∃f∈k,f.Id=e.Id∧Hw e f):FZ l k (l.map (·.Id)):=by
 have m:∀x∈l.map (·.Id),ev l x∈l:=fun x j=>Jz (Ic (V7.2 j)).1;refine⟨q,fun x j=>?_,fun x j a ha=>V7.1 ((aBX hd (m x j)).2 a ha).1,fun x j a ha=>V7.1 ((aBX hd (m x j)).1 a ha).1⟩;obtain⟨e,s,rfl⟩:=F7.1 j;obtain⟨f,u,z,L⟩:=J e s;have M:ev l e.Id=e:=aCm q s;have O:ev k e.Id=f:=by rw[←z];exact aCm I u
 rw[M,O];exact⟨V7.2 j,V7.2 (F7.2 ⟨f,u,z⟩),L⟩
def aed {l k:List AU} (Z:Ud l) (hK:Ud k) (hl:l.length≤14) (hk:k.length≤100) (J:NC l=some 0) (L:NC k=some 0) (hd:Ih l=0) (s:Ih k=0) (hs:∀e∈l,∃f∈k,f.Id=e.Id∧Hw e f) (z:Int):aBn l (k,z) 0=some true:=by
 have m:=Z.ok AL;have j:=hK.ok hk;have hr:=ahJ (aie m.nodup j.nodup hd hs) m hd j s;have M:=aKh J fun _=>m;have O:=aKh L fun _=>j;have U:=aJ3 J fun _=>m;have Y:=aJ3 L fun _=>j;rw[acD hd]at M U;rw[acD s]at O Y;unfold aBn;refine gy.eq (xK l.length (fuel_lt AL) (fun _=>True) trivial (fun i f hi _ hf=>?_) fun f _=>?_)
 ·obtain⟨q,_⟩:=hr l[i].Id (F7.2 ⟨_,Eh hi,rfl⟩);have u:Yp (Hl k) l[i].Id=Yp (Hl l) l[i].Id:=by unfold Yp;rw[q]
  have I:Gn (Hl k) l[i].Id=Gn (Hl l) l[i].Id:=by unfold Gn;rw[q]
  have h1:(Yp (Hl l) l[i].Id).1.length≤l.length:=by
   unfold Yp;cases hy:Eb (Hl l) l[i].Id with
   |none=>exact EF _
   |some y=>exact(aps (ac1 m) hy).1.length
  have h2:=((ac1 m).after l[i].Id).length;unfold aDZ jK;rw[DW hi,M,Af,DI hi,Af,O,Af,u,ac6 _ AL];simp only[arC,BO,Af,ES,U,Y,I,ac6 _ (show(Gn (Hl l) l[i].Id).length≤1000000 by omega),wrap_succ i (show i<9223372036854775807 by omega)];exact hf trivial
 unfold aDZ;rw[EH,BO,aBv];exact .ret rfl
def ajH (l:List AU) (more:AU):NG l more true=some true:=by
 unfold NG;rw[Bh,aBv];rfl
def ais {l:List AU} {more:AU} (f:Qn l more=some ([],13)):NG l more false=some true:=by
 unfold NG;rw[BO,f,Af,aBv];rfl
def afE {l k:List AU} {more:AU} (f:Qn l more=some (k,0)) (j:((bif ((0:Int) != 0)then some true else(gU k).bind fun x8=>some (!x8)).bind fun x6=>(bif x6 then(dA).bind fun x10=>some x10 else aBn l (k,0) 0))=some true):NG l more false=some true:=by
 unfold NG;rw[BO,f,Af];exact j
def aKa (x:AU):Uj x=some (Qg x):=by unfold Uj;rw[aD6];rfl
def aif {l:List AU} {m more:AU} {n:Nat} (z:n<l.length) (s:l[n]=m) (u:more.Id=m.Id) (I:Hw m more):∀e∈l,∃f∈l.set n more,f.Id=e.Id∧Hw e f:=fun e J=>by
 obtain⟨j,L,rfl⟩:=Hf J;by_cases q:n=j
 ·subst q;rw[s];exact⟨more,List.mem_iff_getElem.2 ⟨n,by rw[Us];exact z,by rw[List.getElem_set_self]⟩,u,I⟩
 exact⟨l[j],List.mem_iff_getElem.2 ⟨j,by rw[Us];exact L,by rw[List.getElem_set_ne q]⟩,rfl,.refl _⟩
def aGy {l:List AU} (z:Ud l) (hl:l.length≤14) (I:NC l=some 0) (hd:Ih l=0) {more:AU} {k:List AU} (J:Qn l more=some (k,0)) (m:k.length≤100) (q:∀e∈k,NU e) (L:∀e∈l,∃f∈k,f.Id=e.Id∧Hw e f):NG l more false=some true:=by
 refine afE J ?_;obtain⟨s,M,O,u⟩:=acg q m;rw[aJH O fun U=>(u U).ok m,aBv];cases j:(s==0&&Ih k==0)with
 |false=>rfl
 |true=>
  rw[CP]at j;obtain rfl:s=0:=eq_of_beq j.1;exact aed z (u rfl) hl m I M hd (eq_of_beq j.2) L 0
def akr {l:List AU} {more:AU} (L:Ud l) (hl:l.length≤14) (M:NC l=some 0) (hd:Ih l=0) (O:∀e∈l,NU e) (hm:NU more) (hb:Xn more.Content≤1048576) (hr:l.any (aBO more)=false) (U:dM l more.Id=true) (z:Hw (ev l more.Id) more):NG l more false=some true:=by
 have f:=aae (l:=l) (e:=more) AL;rw[hr,BO,U,Bh]at f;obtain⟨Y,Z⟩:=Ic U;have m:=Jz Y;have I:=L.ev _ m
 have j:l.findIdx (fun x=>x.Id==more.Id)<l.length:=by
  rw[Xp];exact⟨_,m,by rw[Z];exact Vl _⟩
 have s:l[l.findIdx (fun x=>x.Id==more.Id)]=ev l more.Id:=by
  have h3:l.find? (fun x=>x.Id==more.Id)=some (ev l more.Id):=Y;rw[O9,Dl j]at h3;exact CO h3
 obtain⟨b1,w1⟩:=amH hb;have w2:=(aFl I.2.x).1;rw[w1,Af,DI j,Af,s,w2,Af]at f;generalize l.findIdx (fun x=>x.Id==more.Id)=n at f j s
 have q:∀u:Bool,Qn l more=some ((bif u then l.set n more else l),0)→NG l more false=some true:=fun u hp=>by
  cases u with
  |false=>exact aGy L hl M hd hp (show l.length≤100 by omega) O fun e J=>⟨e,J,rfl,.refl e⟩
  |true=>
   refine aGy L hl M hd hp (show(l.set n more).length≤100 by rw[Us];omega) (fun e J=>?_) (aif j s Z.symm z);rcases List.mem_or_eq_of_mem_set J with J|rfl
   ·exact O e J
   exact hm
 cases b1 with
 |false=>exact q false f
 |true=>exact q _ f
def agz {l:List AU} {more:AU} (hlen:l.length≤1048576) (I:∀e∈l,NU e) (O:NU more) (Z:Xn more.Content≤1048576):aBM l more=some true:=by
 have q:=ajH l more;unfold aBM aIF;rw[aF8 l _ AL,Af,Af];by_cases hl:l.length≤14
 ·rw[He (show(l.length:Int)≤14 by omega),ES,BO];obtain⟨c,U,c2,Y⟩:=acg I AL;have ho:c=0→Ov l:=fun h0=>(Y h0).ok AL;rw[aJH c2 ho,Af];cases J:(c==0&&Ih l==0)with
  |false=>rw[Jm,Bh];exact q
  |true=>
   rw[CP]at J;obtain rfl:c=0:=eq_of_beq J.1;have hd:Ih l=0:=eq_of_beq J.2;have L:=Y rfl;rw[ES,BO];have f:=aae (l:=l) (e:=more) AL
   have s:(dM l more.Id=true→Hw (ev l more.Id) more)→NG l more false=some true:=fun hs=>by
    cases M:l.any (aBO more)with
    |true=>rw[M,Bh]at f;exact ais f
    |false=>
     cases m:dM l more.Id with
     |true=>exact akr L hl U hd I O Z M m (hs m)
     |false=>
      rw[M,BO,m,BO]at f;exact aGy L hl U hd f (by rw[aev];omega) (fun e u=>by rcases ac3.1 u with rfl|u;exact O;exact I e u) fun e u=>⟨e,ac3.2 (.inr u),rfl,.refl e⟩
   cases z:(IE l more.Id).2 with
   |false=>
    rw[BO];exact s fun m=>by rw[SP]at z;unfold dM at m;rw[m]at z;cases z
   |true=>
    have m:dM l more.Id=true:=by unfold dM;rw[←SP];exact z
    have j:=L.ev _ (Jz (Ic m).1);obtain⟨r,h1,h2⟩:=aqi (a:=ev l more.Id) (b:=more) (anb j.2).content (by have :=j.2.prev;omega) (by have :=j.2.auth;omega);rw[Bh];show(Uj (ev l more.Id)).bind _=_;rw[aKa,aKa,Af,Af,h1,Af];cases r with
    |false=>exact q
    |true=>exact s fun _=>(h2 rfl).2
 rw[Gv (show ¬(l.length:Int)≤14 by omega),Jm,Bh];exact q
def RN {H:Type} (d:DataW H):1≤Rows.uptoBulk d:=by
 cases d with
 |lit l=>cases l<;>simp[Rows.uptoBulk]
 |nil=>simp[Rows.uptoBulk]
 |ptr d=>simp[Rows.uptoBulk]
 |slice j spare=>simp[Rows.uptoBulk]
 |agg m=>simp[Rows.uptoBulk]
 |iface t d=>simp[Rows.uptoBulk]
 |map f=>simp[Rows.uptoBulk]
 |held h=>simp[Rows.uptoBulk]
def aGb {H:Type} {d:DataW H} {l:List (DataW H)} (h:d∈l):Rows.uptoBulk d≤Rows.uptoBulkAll l:=by
 induction l with
 |nil=>cases h
 |cons x r f=>
  simp only[Rows.uptoBulkAll];cases Ew.1 h with
  |inl e=>subst e;omega
  |inr e=>have :=f e;omega
def apl {H:Type} (l:List (DataW H)):l.length≤Rows.uptoBulkAll l:=by
 induction l with
 |nil=>simp[Rows.uptoBulkAll]
 |cons x r f=>have :=RN x;simp only[Rows.uptoBulkAll,FK];omega
def agJ {H:Type} (f spare:List (DataW H)):Rows.uptoBulkAll f+1≤Rows.uptoBulk (.slice f spare):=by
 simp only[Rows.uptoBulk];omega
def yt {H:Type} {f:List (DataW H)} {d:DataW H} (j:Rows.uptoSmall H f=true) (h:d∈f):Rows.uptoBulk d≤1048576:=Dn (aGb h) (PK j)
def MF {α:Type} (f:α→Nat) (l:List α):Nat:=(l.map f).sum+l.length
def aGd {H:Type}:∀l:List (DataW H),Rows.uptoBulkAll l=(l.map Rows.uptoBulk).sum
 | []=>rfl
 |d::l=>by rw[JD,List.sum_cons,←aGd l];rfl
def apN {α H:Type} {f:α→Nat} (l:List α) (D:Nat→DataW H) (h:∀i (hi:i<l.length),f l[i]+1≤Rows.uptoBulk (D i)):MF f l≤Rows.uptoBulkAll ((List.range l.length).map D):=by
 rw[aGd,ZI]
 have key:∀n,n≤l.length→((l.take n).map f).sum+n≤((List.range n).map (Rows.uptoBulk∘D)).sum:=by
  intro n
  induction n with
  |zero=>exact fun _=>EF _
  |succ n j=>
   intro m;have hi:n<l.length:=m;rw[RD hi,I9,WL,wW,I9,WL];have u:=j AL;have z:=h n hi;have q:([n].map (Rows.uptoBulk∘D)).sum=Rows.uptoBulk (D n):=BK
   have s:([l[n]].map f).sum=f l[n]:=BK
   rw[q,s];omega
 have :=key l.length (Dw _);rw[Jy]at this;exact this
def partAt {H:Type} (x:DataW H) (i:Nat):Nat:=match x with
 | .agg f=>match f[i]? with
   |some d=>Rows.uptoBulk d
   |none=>0
 |_=>0
def Zv {H:Type} (x:DataW H) (n:Nat):((List.range n).map (partAt x)).sum+1≤Rows.uptoBulk x:=by
 have j:∀n,((List.range n).map fun _=>0).sum=0:=fun n=>by
  induction n with
  |zero=>rfl
  |succ n m=>rw[wW,I9,WL,m];rfl
 cases x with
 |agg f=>
  have s:Rows.uptoBulk (DataW.agg f)=Rows.uptoBulkAll f+1:=by simp only[Rows.uptoBulk]
  rw[s,aGd]
  have key:∀n,((List.range n).map (partAt (DataW.agg f))).sum=((f.take n).map Rows.uptoBulk).sum:=by
   intro n
   induction n with
   |zero=>rfl
   |succ n m=>
    rw[wW,I9,WL,m];by_cases q:n<f.length
    ·rw[RD q,I9,WL];simp[partAt,Dl q]
    rw[Ns AL,Ns AL];simp[partAt,Jp (RI q)]
  rw[key]
  have :((f.take n).map Rows.uptoBulk).sum+((f.drop n).map Rows.uptoBulk).sum=(f.map Rows.uptoBulk).sum:=by
   rw[←WL,←I9,VF]
  omega
 |lit l=>exact Dn (OZ (by rw[show partAt (DataW.lit (H:=H) l)=fun _=>0 from rfl,j])) (RN _)
 |nil=>exact Dn (OZ (by rw[show partAt (DataW.nil (H:=H))=fun _=>0 from rfl,j])) (RN _)
 |ptr d=>exact Dn (OZ (by rw[show partAt (DataW.ptr (H:=H) d)=fun _=>0 from rfl,j])) (RN _)
 |slice a b=>exact Dn (OZ (by rw[show partAt (DataW.slice (H:=H) a b)=fun _=>0 from rfl,j])) (RN _)
 |iface t d=>exact Dn (OZ (by rw[show partAt (DataW.iface (H:=H) t d)=fun _=>0 from rfl,j])) (RN _)
 |map a=>exact Dn (OZ (by rw[show partAt (DataW.map (H:=H) a)=fun _=>0 from rfl,j])) (RN _)
 |held a=>exact Dn (OZ (by rw[show partAt (DataW.held (H:=H) a)=fun _=>0 from rfl,j])) (RN _)
section
variable {N : Nat} {H : Type} {enc : TypeId × Value → H} {w : World} {base : Nat} {spare : Nat → Bool} {held : Bool} {P : Program} {t : TypeId}
def QC {α:Type} (N:Nat) (enc:TypeId×Value→H) (P:Program) (w:World) (base:Nat) (spare:Nat→Bool) (held:Bool) (t:TypeId) (e:α→D) (V:α→Prop) (f:α→Nat):Prop:=
 ∀BA cs x,DataW.trod enc P w base spare held BA t cs=some x→Rows.uptoBulk x.1≤N→∃a:α,V a∧f a+1≤Rows.uptoBulk x.1∧E9 w (e a).cells cs
def Ye {α:Type} {wt:α→Nat} {e:TypeId} {sz:Nat} {U:α→D} {V:α→Prop} (ht:P.underlying t=some (.slice e)) (hc:P.cellsOf e=sz) (Z:0<sz) (hsz:∀a,(U a).cells.length=sz) (hR:QC N enc P w base spare held e U V wt):
 QC N enc P w base spare held t (Ai U) (fun l=>l.length≤N∧∀x∈l,V x) (MF wt):=by
 intro BA cs x h hb;rcases Go.Deep.open_slice ht h with⟨rfl,rfl⟩|⟨a,len,cap,m,n,D,Pl,rfl, -,hl,hm,hmm,rfl,hx⟩
 ·exact⟨[],⟨EF _,fun x h=>Gw⟩,RN _,.one rfl rfl (.sl0 none 0)⟩
 have hlm:len≤m:=by rw[hmm];split<;>omega
 have hb0:=agJ ((List.range len).map D) ((List.range (m-len)).map fun j=>D (len+j));have hb1:=Dn hb0 hb;have hb2:=apl ((List.range len).map D);rw[Ch,List.length_range]at hb2;rw[hc]at hx
 have hex:∀i,i<len→∃y:α,(V y∧wt y+1≤Rows.uptoBulk (D i))∧∃q:List Value,w.cells? base (a.add (i*sz)) sz=some q∧E9 w (U y).cells q:=by
  intro i hi;obtain⟨q,Y,h2⟩:=hx i AL;obtain⟨y,h3,h3w,z⟩:=hR _ _ _ h2 (Dn (aGb (F7.2 ⟨i,Ze.2 hi,rfl⟩)) AL);exact⟨y,⟨h3,h3w⟩,q,Y,z⟩
 obtain⟨l,hlen,J⟩:=aLN len hex;subst hlen;refine⟨l,⟨AL,fun x hx=>?_⟩,Dn (Nat.succ_le_succ (apN l D fun i hi=>(J i hi).1.2)) hb0,?_⟩
 ·obtain⟨i,hi,rfl⟩:=Hf hx;exact(J i hi).1.1
 rcases XW l.length with h0|hlp
 ·have :l=[]:=GY h0;subst this;exact .one rfl rfl (.sl0 _ _)
 have f:∀i,(hi:i<l.length)→∀j,j<sz→∃u,w.cell? ((a.add (i*sz)).add j)=some u∧((U l[i]).cells.getD j DR).leaf=true∧DT (fun b=>b<w.heap.size) w ((U l[i]).cells.getD j DR) u:=by
  intro i hi j hj;obtain⟨-,q,Y,h2⟩:=J i hi;obtain⟨-,h6,h5⟩:=World.cells?_some Y;have hcl:q.length=sz:=by rw[h2.1,hsz]
  have h7:=h5 j hj;rw[Dl AL]at h7;refine⟨_,h7,?_⟩;have h8:=h2.2 j (by rw[hsz];exact hj);simpa[List.getD,show j<q.length by omega]using h8
 have L:a.spot=none:=by
  obtain⟨u,z, -⟩:=f 0 hlp 0 Z;have e0:(a.add (0*sz)).add 0=a:=by simp[Addr.add]
  rw[e0]at z;unfold World.cell? at z;cases hsp:a.spot with
  |none=>rfl
  |some s=>
   rw[hsp]at z;cases hh:w.heap[a.block]? with
   |none=>rw[hh]at z;simp at z
   |some o=>rw[hh]at z;cases o<;>simp at z
 have hblk:a.block<w.heap.size:=by
  obtain⟨u,z, -⟩:=f 0 hlp 0 Z;have e0:(a.add (0*sz)).add 0=a:=by simp[Addr.add]
  rw[e0]at z;unfold World.cell? at z;apply UN;intro hn;rw[Array.getElem?_eq_none (RI hn)]at z;simp at z
 obtain⟨b,o,s⟩:=a;simp only at L hblk;subst L;have I:(List.map U l).length=l.length:=Ch _;have M:∀i,(hi:i<l.length)→(List.map U l).getD i DR=U l[i]:=fun i hi=>Ky
 have O:∀i j,((⟨b,o,none⟩:Addr).add (i*sz)).add j=⟨b,o+(i*sz+j),none⟩:=fun i j=>by simp only[Addr.add];split<;>split<;>simp_all<;>omega
 refine .one rfl rfl ?_
 have :=DT.sl (ok:=fun b=>b<w.heap.size) (w:=w) (List.map U l) b o cap sz (by rw[I];exact hl) (fun _ _=>hblk) (fun i hi=>by rw[I]at hi;rw[M i hi];exact hsz _)
  (fun i hi j hj=>by rw[I]at hi;obtain⟨u,_,h2,_⟩:=f i hi j hj;rw[M i hi];exact h2)
  (fun i hi j hj=>by rw[I]at hi;obtain⟨u,Y,_,_⟩:=f i hi j hj;rw[O]at Y;rw[Y];rfl)
  (fun i hi j hj=>by rw[I]at hi;obtain⟨u,Y,_,h3⟩:=f i hi j hj;rw[O]at Y;rw[M i hi];unfold cellAt;rw[Y];exact h3)
 rw[I]at this;exact this
def Jd {k:IntKind} (f:P.underlying t=some (.int k)):QC N enc P w base spare held t (fun n=>D.lit (.int k n)) (fun n:Int=>k.min≤n∧n≤k.max) (fun _=>0):=fun BA cs x h _=>by
 obtain⟨a,j,m⟩:=ahe f BA cs x h;exact⟨a,j,RN _,m⟩
def aLZ (f:P.underlying t=some .bool):QC N enc P w base spare held t Cj (fun _=>True) (fun _=>0):=fun BA cs x h _=>by
 obtain⟨a,j,m⟩:=ajg f BA cs x h;exact⟨a,j,RN _,m⟩
def Ue (j:P.underlying t=some .string):QC N enc P w base spare held t CQ (fun s=>s.size≤N) (fun s=>s.size):=by
 intro BA cs x h f;obtain⟨n,rfl,rfl,m⟩:=DataW.trod_string j h;have q:Rows.uptoBulk (DataW.lit (H:=H) (.string n.data.toList))=n.data.toList.length+1:=by simp[Rows.uptoBulk]
 have u:n.data.toList.length=n.size:=by rw[QN];rfl
 have f:Rows.uptoBulk (DataW.lit (H:=H) (.string n.data.toList))≤N:=f;exact⟨n,AL,by show n.size+1≤Rows.uptoBulk (DataW.lit (H:=H) (.string n.data.toList));omega,.one rfl rfl (.lit _)⟩
def Fb {α:Type} {z:Array Field} {BA:Nat} {cs:List Value} {x:DataW H×List MemPlace} (O:P.underlying t=some (.struct z)) (h:DataW.trod enc P w base spare held BA t cs=some x) (J:Rows.uptoBulk x.1≤N) (i:Nat) (u o n:Nat) (m:(z[i]?).map (fun f=>(f.type,f.offset,P.cellsOf f.type))=some (u,o,n))
 {L:α→D} {V:α→Prop} {I:α→Nat} (U:QC N enc P w base spare held u L V I):∃a:α,(V a∧I a+1≤partAt x.1 i)∧E9 w (L a).cells ((cs.drop o).take n):=by
 obtain⟨xs,k, -,rfl, -,hlen,q⟩:=DataW.trod_struct O h;cases j:z[i]? with
 |none=>rw[j]at m;simp at m
 |some f=>
  rw[j]at m;simp only[HY,Jq,Qx]at m;obtain⟨rfl,rfl,rfl⟩:=m;have M:=q i f j;have hi:i<z.size:=(FN.1 j).1;have s:i<xs.length:=AL
  rw[Dl s]at M;have h2:Rows.uptoBulk (DataW.agg (xs.map (·.1)))=Rows.uptoBulkAll (xs.map (·.1))+1:=by simp only[Rows.uptoBulk]
  have h3:=aGb (H:=H) (F7.2 ⟨xs[i],Eh _,rfl⟩:xs[i].1∈xs.map (·.1));have J:Rows.uptoBulk (DataW.agg (xs.map (·.1)))≤N:=J;obtain⟨a,Y,Z,q3⟩:=U _ _ _ M AL;refine⟨a,⟨Y,?_⟩,q3⟩;have :partAt (DataW.agg (xs.map (·.1))) i=Rows.uptoBulk xs[i].1:=by unfold partAt;simp[Dl s]
  show I a+1≤partAt (DataW.agg (xs.map (·.1))) i;rw[this];exact Z
end
end Go.Proofs.YtolgdkhlelfpoaaGreat
end
