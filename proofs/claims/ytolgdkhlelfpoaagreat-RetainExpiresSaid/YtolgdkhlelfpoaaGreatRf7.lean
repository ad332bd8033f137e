/- Part 7 of what the laws' proofs lean on: states of the walk, typed functions of the program and their laws (short forms written by wip/shrink.py; no condition). -/
import Derived.Test.YtolgdkhlelfpoaaGreatRf6
set_option linter.defProp false
set_option linter.unnecessarySimpa false
set_option linter.unusedVariables false
set_option linter.unusedSimpArgs false
section
namespace Go.Proofs.YtolgdkhlelfpoaaGreat
open Go.RowKit
def Vt (l:List AX) (e:AX):Bool:=e.bK.all (dX l)&&e.bP.all (dX l)
def Xj (l:List AX):Bool:=l.all (Vt l)
def bC {α:Type} {l:List α} {p:α→Bool} {x:α} (h:x∈l) (f:p x=false):l.all p=false:=by
 rw[←LZ,EZ];exact fun j=>by rw[j x h]at f;cases f
def all_good {α:Type} {l:List α} {p:α→Bool} (h:∀j,(hj:j<l.length)→p l[j]=true):l.all p=true:=EZ.2 (aNL h)
def aPs (f:List Int) (l:List AX) (m:List (Int×Int)) (h:XY l m) (j:f.length≤1000):uV f m=some (f.all (dX l)):=by
 unfold uV acn;rw[Gl f (fuel_lt AA) (fun x=> !dX l x) false (some true)]
 ·rw[List.all_eq_not_any_not];cases(f.any fun x=> !dX l x)<;>rfl
 ·intro k i hi;unfold aNw;rw[CZ hi,h.isSome]
 intro k;unfold aNw;rw[DZ]
def atB (l:List AX) (I:l.length≤100) (J:E8 l):aEe l=some (Xj l):=by
 refine fE.eq ?_;unfold aEe;refine(yJ l AA).bind fun m s=>?_;unfold aap;refine Xi (body:=aMt l) (Q:=fun b=>b=Xj l) (fun n a b=>∃i:Nat,a=i∧i+n=l.length∧b=m∧∀j,(f:j<i)→(I:j<l.length)→Vt l l[j]=true) ?_ Ap l.length 0 m (fuel_lt AA) ⟨0,rfl,AA,rfl,fun j f=>AA⟩;rintro n a b k ⟨i,rfl,M,rfl,u⟩ L;unfold aMt;by_cases hi:i<l.length
 ·have z:=J l[i] (Eb hi);have O:=z.prev;have S:=z.auth;rw[CZ hi,aPs _ l b s AA,Aa,CB hi,Aa,aPs _ l b s AA];cases h:l[i].bK.all (dX l)with
  |false=>exact .ret (bC (Eb hi) (by unfold Vt;rw[h];rfl)).symm
  |true=>
   cases ha:l[i].bP.all (dX l)with
   |false=>exact .ret (bC (Eb hi) (by unfold Vt;rw[h,ha];rfl)).symm
   |true=>
    refine L (n-1) _ _ AA ⟨i+1,wrap_succ i AA,AA,rfl,fun j f q=>?_⟩;by_cases e:j=i
    ·subst e;unfold Vt;rw[h,ha];rfl
    exact u j AA q
 have :i=l.length:=AA
 subst this;rw[DZ];exact .ret (all_good fun j f=>u j f f).symm
def Zl (l:List AX):List Int:=l.foldl (fun r e=>e.bP.foldl put (e.bK.foldl put r)) []
def atF {l:List AX} {i:Nat} (hi:i<l.length) (f:List Int→Int→Option (List Int)) (v:List Int) (n:Inc v) (q:v.length≤900000) (ha:l[i].bP.length≤40):
 Fn1 l (i:Int) f v 0=f (l[i].bP.foldl put v) (Aw ((i:Int)+1)):=by
 unfold Fn1;rw[Gs l[i].bP AA put (fun j a=>Inc a∧a.length≤v.length+j) (fun a=>f a (Aw ((i:Int)+1))) ⟨n,AA⟩]
 ·intro k a j h m;have s:=jF a l[i].bP[j];refine⟨⟨Qm m.1,AA⟩,?_⟩;unfold aOy;rw[CB hi,Aa,dec_lt h,Ba,Aa,CB h,Aa,aI4 a _ m.1 AA,Aa]
 intro k a _;unfold aOy;rw[CB hi,Aa,DT];rfl
def arK {l:List AX} {i:Nat} (hi:i<l.length) (f:List Int→Int→Option (List Int)) (v:List Int) (m:Inc v) (u:v.length≤800000) (s:l[i].bK.length≤40) (ha:l[i].bP.length≤40):
 aHu l (i:Int) f v 0=f (l[i].bP.foldl put (l[i].bK.foldl put v)) (Aw ((i:Int)+1)):=by
 unfold aHu;rw[Gs l[i].bK AA put (fun j a=>Inc a∧a.length≤v.length+j) (fun a=>Fn1 l (i:Int) f a 0) ⟨m,AA⟩]
 ·have h:=Yv l[i].bK v;exact atF hi f _ (aDI m) AA ha
 ·intro k a j n q;have s:=jF a l[i].bK[j];refine⟨⟨Qm q.1,AA⟩,?_⟩;unfold aNg;rw[CB hi,Aa,dec_lt n,Ba,Aa,CB n,Aa,aI4 a _ q.1 AA,Aa]
 intro k a _;unfold aNg;rw[CB hi,Aa,DT];rfl
def aA2 :∀(l:List AX) (r:List Int),Inc r→(∀e∈l,e.bK.length≤40∧e.bP.length≤40)→
 Inc (l.foldl (fun r e=>e.bP.foldl put (e.bK.foldl put r)) r)∧(l.foldl (fun r e=>e.bP.foldl put (e.bK.foldl put r)) r).length≤r.length+l.length*80∧
 ∀x,x∈l.foldl (fun r e=>e.bP.foldl put (e.bK.foldl put r)) r↔x∈r∨∃e∈l,x∈e.bK∨x∈e.bP
 | [],r,h,_=>⟨h,BP,fun x=>BP⟩
 |e::l,r,h,j=>by
  have s:=j e (Hy ..);obtain⟨m,u,n⟩:=aA2 l (e.bP.foldl put (e.bK.foldl put r)) (aDI (aDI h)) fun x q=>j x (IY _ q);have z:=Yv e.bK r;have I:=Yv e.bP (e.bK.foldl put r);rw[Fb];refine⟨m,by rw[GI];omega,fun x=>(n x).trans ?_⟩;rw[aLh,aLh];constructor
  ·rintro(((h|h)|h)|⟨y,f,h⟩)
   ·exact .inl h
   ·exact .inr ⟨e,Hy ..,.inl h⟩
   ·exact .inr ⟨e,Hy ..,.inr h⟩
   exact .inr ⟨y,IY _ f,h⟩
  rintro(h|⟨y,f,h⟩)
  ·exact .inl (.inl (.inl h))
  rcases F9.1 f with rfl|f
  ·exact h.elim (fun h=>.inl (.inl (.inr h))) fun h=>.inl (.inr h)
  exact .inr ⟨y,f,h⟩
def E8.lists {l:List AX} (f:E8 l):∀e∈l,e.bK.length≤40∧e.bP.length≤40:=fun e h=>⟨(f e h).prev,(f e h).auth⟩
def akw {l:List AX} {i:Nat} (h:i<l.length):(l.take (i+1)).foldl (fun r e=>e.bP.foldl put (e.bK.foldl put r)) ([]:List Int)=l[i].bP.foldl put (l[i].bK.foldl put ((l.take i).foldl (fun r e=>e.bP.foldl put (e.bK.foldl put r)) [])):=by
 rw[SG,Dx h,Qb,Uc];rfl
def aqX (l:List AX) (s:l.length≤1000) (f:E8 l):aFw l=some (Zl l):=by
 unfold aFw aRV;refine fE.eq (KC l.length (fuel_lt AA) (fun i a=>a=(l.take i).foldl (fun r e=>e.bP.foldl put (e.bK.foldl put r)) []) rfl (fun i a k hi ha m=>?_) fun a k ha=>?_)
 ·subst ha;obtain⟨n,h,_⟩:=aA2 (l.take i) [] .nil fun e q=>f.lists e (xK q);have j:=f.lists l[i] (Eb hi);unfold aLf;rw[dec_lt hi,Ba,arK hi k _ n (by rw[GH]at h;simp only[ML]at h;omega) j.1 j.2,wrap_succ i AA];exact m _ (akw hi).symm
 unfold aLf;rw[DT];refine .ret ?_;rw[ha,Gi];rfl
def agh {l:List AX} (f:E8 l):(Zl l).length≤l.length*80:=by
 have :=(aA2 l [] .nil f.lists).2.1;unfold Zl;simpa using this
def aT1 {l:List AX} (f:E8 l) {x:Int}:x∈Zl l↔∃e∈l,x∈e.bK∨x∈e.bP:=by
 have :=(aA2 l [] .nil f.lists).2.2 x;unfold Zl;rw[this];simp
def arI {l:List AX}:Xj l=true↔∀e∈l,(∀x∈e.bK,dX l x=true)∧∀x∈e.bP,dX l x=true:=by
 unfold Xj Vt;simp only[EZ,DL]
def afS (l:List AX) (q:l.length≤1000) (j:E8 l):aCn l=some (Xj l):=by
 have J:=agh j;unfold aCn;rw[aqX l q j,Aa,aL3 l _ q AA,Aa];refine BR some ?_;rw[Ph,arI];constructor
 ·intro h e m;have n:Yh l (Zl l)=[]:=H9 aIt
  have key:∀x,x∈e.bK∨x∈e.bP→dX l x=true:=fun x f=>by
   cases u:dX l x with
   |true=>rfl
   |false=>have :=aHW.2 ⟨(aT1 j).2 ⟨e,m,f⟩,u⟩;rw[n]at this;cases this
  exact⟨fun x f=>key x (.inl f),fun x f=>key x (.inr f)⟩
 intro h
 have n:Yh l (Zl l)=[]:=List.eq_nil_iff_forall_not_mem.2 fun x f=>by
  obtain⟨z,s⟩:=aHW.1 f;obtain⟨e,m,I⟩:=(aT1 j).1 z;rw[I.elim ((h e m).1 x) ((h e m).2 x)]at s;cases s
 rw[n];rfl
def jU (l:List AX):Prop:=∀e∈l,1≤e.Depth∧e.Depth≤100000
def Gh (l:List AX) (x:Int):Int:=(I4 l x).1.Depth
def UH (l:List AX) (e:AX):Bool:=e.bP.all (fun x=>decide (Gh l x<e.Depth))&&bif (e.bK.length:Int)==0 then e.Depth==1 else e.bK.all (fun x=>decide (Gh l x<e.Depth))&&e.bK.any fun x=>Gh l x==e.Depth-1
def Tv (l:List AX):Int:=bif Xj l then bif l.all (UH l)then 0 else 15 else 14
def ads {l:List AX} (h:jU l) (x:Int):0≤Gh l x∧Gh l x≤100000:=by
 unfold Gh I4;cases f:ET l x with
 |none=>exact⟨Int.le_refl 0,BQ⟩
 |some e=>have :=h e (OG f);exact⟨by show 0≤e.Depth;omega,this.2⟩
def aOe (a b:Int):decide (a≥b)= !decide (a<b):=by by_cases h:a<b<;>simp[h];omega
def vU {α:Type} (l:List α) (p:α→Bool):l.any (fun x=> !p x)= !l.all p:=by rw[List.all_eq_not_any_not,vW]
def anp (l:List AX) (e:AX) (z:l.length≤1000) (u:Fa e) (hd:jU l) (I:1≤e.Depth∧e.Depth≤100000):nE l e=some (UH l e):=by
 have S:=u.prev;have U:=u.auth;have w:Aw (e.Depth-1)=e.Depth-1:=OI AA AA
 have m:aCC e l ((e.bK.length:Int)==0) 0=some (bif (e.bK.length:Int)==0 then true else e.bK.all (fun x=>decide (Gh l x<e.Depth))&&e.bK.any fun x=>Gh l x==e.Depth-1):=by
  unfold aCC;refine fE.eq (KC e.bK.length (fuel_lt AA) (fun i a=>(∀j,(h:j<i)→(z:j<e.bK.length)→decide (Gh l e.bK[j]<e.Depth)=true)∧a=(((e.bK.length:Int)==0)||(e.bK.take i).any fun x=>Gh l x==e.Depth-1)) ⟨fun j h=>AA,BP⟩ (fun i a k hi ha J=>?_) fun a k ha=>?_)
  ·have L:((e.bK.length:Int)==0)=false:=by simp;intro M;rw[M]at hi;simp at hi
   unfold aBJ;rw[CZ hi,Ln l _ AA,Aa,aOe];refine fE.bif (fun f=>.ret ?_) fun f=>?_
   ·have f:decide (Gh l e.bK[i]<e.Depth)=false:=by unfold Gh;simpa using f
    rw[L,bC (Eb hi) f];rfl
   have f:decide (Gh l e.bK[i]<e.Depth)=true:=by unfold Gh;simpa using f
   rw[show(bif a then some true else some ((I4 l e.bK[i]).1.Depth==Aw (e.Depth-1)))=some (a||(Gh l e.bK[i]==e.Depth-1)) by rw[w];cases a<;>rfl,Aa,wrap_succ i AA];refine J _ ⟨fun j h n=>?_,?_⟩
   ·by_cases O:j=i
    ·subst O;exact f
    exact ha.1 j AA n
   rw[ha.2,SG,Dx hi,Qb,aIu,Bool.or_assoc];simp
  unfold aBJ;rw[DZ];refine .ret ?_;rw[ha.2,Gi,all_good fun j h=>ha.1 j h h];cases((e.bK.length:Int)==0)<;>simp
 unfold nE
 have q:aLu e l 0=some (e.bP.all (fun x=>decide (Gh l x<e.Depth))&&(bif (e.bK.length:Int)==0 then true else e.bK.all (fun x=>decide (Gh l x<e.Depth))&&e.bK.any fun x=>Gh l x==e.Depth-1)):=by
  unfold aLu;rw[Gl e.bP (fuel_lt AA) (fun x=> !decide (Gh l x<e.Depth)) false (aCC e l ((e.bK.length:Int)==0) 0)]
  ·rw[m,vU];cases e.bP.all (fun x=>decide (Gh l x<e.Depth))<;>rfl
  ·intro k i hi;unfold aDG;rw[CZ hi,Ln l _ AA,Aa,aOe];rfl
  intro k;unfold aDG;rw[DZ]
 rw[q];unfold UH;have s:(e.Depth != 1)= !(e.Depth==1):=rfl;rw[s];cases((e.bK.length:Int)==0)<;>cases(e.Depth==1)<;>cases e.bP.all (fun x=>decide (Gh l x<e.Depth))<;>rfl
def aOt {l:List AX} {m:List (Int×Int)} (h:XY l m) {x:Int} (f:dX l x=true):∃e,Aj l ((Cb m x).getD 0)=some e∧e.Depth=Gh l x:=⟨_,h.get (TY f).1,rfl⟩
def asA (p:List Int) (f:Int→Int) (d a:Int) (j:∃y∈p,f y=a) (ha:∀y∈p,f y≤a):(p.all (fun x=>decide (f x<d))&&p.any fun x=>f x==d-1)=bif decide (d>a)then d-a==1 else false:=by
 obtain⟨y,j,e⟩:=j;by_cases h:d>a
 ·have q:p.all (fun x=>decide (f x<d))=true:=EZ.2 fun x m=>by have :=ha x m;simp;omega
  rw[q,FX,Ht h,Ba,Ph,Hd];constructor
  ·rintro⟨x,m,n⟩;have :=ha x m;have :=eq_of_beq n;simp;omega
  intro n;have :=eq_of_beq n;exact⟨y,j,E5⟩
 rw[IJ h,BM,bC j E5];rfl
def ahj (l:List AX) (m:List (Int×Int)) (e:AX) (J:XY l m) (O:Fa e) (s:Vt l e=true) (hd:jU l) (S:1≤e.Depth∧e.Depth≤100000):aAa l m e=some (UH l e,m):=by
 have h1:=O.prev;have h2:=O.auth;unfold Vt at s;simp only[DL,EZ]at s;unfold aAa aPp;rw[Gl e.bP (fuel_lt AA) (fun x=> !decide (Gh l x<e.Depth)) (false,m) (some ((bif (e.bK.length:Int)==0 then e.Depth==1 else e.bK.all (fun x=>decide (Gh l x<e.Depth))&&e.bK.any fun x=>Gh l x==e.Depth-1),m))]
 ·rw[vU];unfold UH;cases e.bP.all (fun x=>decide (Gh l x<e.Depth))<;>rfl
 ·intro k i hi;unfold aPG;obtain⟨x,L,j⟩:=aOt J (s.2 _ (Eb hi));rw[CZ hi,L,Aa,aOe,j]
 intro k;unfold aPG;rw[DZ];cases n:((e.bK.length:Int)==0)with
 |true=>rfl
 |false=>
  have M:0<e.bK.length:=by
   rcases XO e.bK.length with h|h
   ·rw[h]at n;cases n
   exact h
  obtain⟨x,L,j⟩:=aOt J (s.1 _ (Eb M));have U:Aj e.bK 0=some e.bK[0]:=CB (i:=0) M;rw[BM,BM,U,Aa,L,Aa,j];unfold aQF;refine fE.eq (KC e.bK.length (fuel_lt AA) (fun i a=>(0≤a∧a≤100000)∧(∃y∈e.bK,Gh l y=a)∧∀y∈e.bK.take i,Gh l y≤a) ⟨ads hd _,⟨_,Eb M,rfl⟩,fun y u=>by simp at u⟩ (fun i a k2 hi ha Y=>?_) fun a k2 ha=>?_)
  ·unfold aL9;obtain⟨y,u,q⟩:=aOt J (s.1 _ (Eb hi));have Z:=ads hd e.bK[i];rw[CZ hi,u,Aa,wrap_succ i AA,q]
   have I:Wn a (Gh l e.bK[i])=a∧Gh l e.bK[i]≤a∨Wn a (Gh l e.bK[i])=Gh l e.bK[i]∧a≤Gh l e.bK[i]:=by
    unfold Wn;by_cases h:Gh l e.bK[i]>a
    ·rw[Ht h];exact .inr ⟨rfl,AA⟩
    rw[IJ h];exact .inl ⟨rfl,AA⟩
   refine Y _ ⟨AA,?_,fun z n=>?_⟩
   ·rcases I with h|h
    ·rw[h.1];exact ha.2.1
    rw[h.1];exact⟨_,Eb hi,rfl⟩
   rw[SG,Dx hi,Qb,Ia,MW]at n;rcases n with n|rfl
   ·have :=ha.2.2 z n;omega
   omega
  obtain⟨Z,⟨y,u,q⟩,f⟩:=ha;rw[Gi]at f;unfold aL9;rw[DZ,OI AA AA,asA e.bK (Gh l) e.Depth a ⟨y,u,q⟩ f];cases decide (e.Depth>a)<;>exact .ret rfl
def aqi (l:List AX) (s:l.length≤100) (u:E8 l) (hd:jU l):aDo l=some (Tv l):=by
 unfold aDo Tv;rw[atB l s u,Aa];cases J:Xj l with
 |false=>rfl
 |true=>
  have L:∀e∈l,Vt l e=true:=EZ.1 J;refine fE.eq ((yJ l AA).bind fun m M=>?_);unfold aPT;refine Xi (body:=aO0 l) (Q:=fun b=>b=bif l.all (UH l)then 0 else 15) (fun n a b=>∃i:Nat,a=i∧i+n=l.length∧b=m∧∀j,(h:j<i)→(s:j<l.length)→UH l l[j]=true) ?_ Ap l.length 0 m (fuel_lt AA) ⟨0,rfl,AA,rfl,fun j h=>AA⟩;rintro n a b k ⟨i,rfl,S,rfl,z⟩ O;unfold aO0;by_cases hi:i<l.length
  ·have f:=Eb hi;rw[CZ hi,ahj l b l[i] M (u _ f) (L _ f) hd (hd _ f),Aa];cases I:UH l l[i]with
   |false=>exact .ret (by rw[bC f I];rfl)
   |true=>
    refine O (n-1) _ _ AA ⟨i+1,wrap_succ i AA,AA,rfl,fun j h q=>?_⟩;by_cases e:j=i
    ·subst e;exact I
    exact z j AA q
  have :i=l.length:=AA
  subst this;rw[DZ];exact .ret (by rw[all_good fun j h=>z j h h];rfl)
def alq (l:List AX) (u:l.length≤100) (q:E8 l) (hd:jU l):zM l=some (Tv l):=by
 unfold zM Tv;rw[afS l AA q,Aa];cases I:Xj l with
 |false=>rfl
 |true=>
  show aIY l 0=_;unfold aIY;refine fE.eq (dH l.length (fuel_lt AA) (fun i=>∀j,(h:j<i)→(u:j<l.length)→UH l l[j]=true) (fun j h=>AA) (fun i k hi m z=>?_) fun k m=>?_)
  ·have f:=Eb hi;unfold aP5;rw[CZ hi,anp l l[i] AA (q _ f) hd (hd _ f),Aa,wrap_succ i AA];cases s:UH l l[i]with
   |false=>exact .ret (by rw[bC f s];rfl)
   |true=>
    refine z fun j h n=>?_;by_cases e:j=i
    ·subst e;exact s
    exact m j AA n
  unfold aP5;rw[DT];exact .ret (by rw[all_good fun j h=>m j h h];rfl)
section
variable {α β R : Type} {lt : α → α → Bool}
def KQ (lt:α→α→Bool) (A:List α) (x:α):List α:=(A.reverse.dropWhile (lt x)).reverse++x::(A.reverse.takeWhile (lt x)).reverse
def ap1 {A:List α} {a x:α} (h:lt x a=true):KQ lt (A++[a]) x=KQ lt A x++[a]:=by
 unfold KQ;rw[aPF,List.reverse_singleton,List.singleton_append,ac4 h,List.takeWhile_cons_of_pos h,List.reverse_cons,J7];rfl
def ajK {A:List α} {a x:α} (h:lt x a=false):KQ lt (A++[a]) x=A++a::[x]:=by
 have h':¬lt x a=true:=by rw[h];simp
 unfold KQ;rw[aPF,List.reverse_singleton,List.singleton_append,aUt h',List.takeWhile_cons_of_neg h'];simp
def anW (A:List α) (x:α):(KQ lt A x).length=A.length+1:=by
 unfold KQ;have :=BR List.length (vP (p:=lt x) (l:=A.reverse));simp only[ES,List.length_reverse,GI]at this ⊢;omega
def aiO (A:List α) (x:α):(KQ lt A x).Perm (x::A):=by
 unfold KQ;refine aDZ.trans (List.Perm.cons x ?_);rw[←aPF,vP,List.reverse_reverse]
def anb {lt':β→β→Bool} {f:α→β} (h:∀x a,lt x a=lt' (f x) (f a)) (A:List α) (x:α):(KQ lt A x).map f=KQ lt' (A.map f) (f x):=by
 have e:lt x=lt' (f x)∘f:=funext fun a=>h x a;unfold KQ;have j:(A.map f).reverse=A.reverse.map f:=aHv.symm;rw[j,List.dropWhile_map,List.takeWhile_map,Jv,Ld,aHv,aHv,e]
def aa8 {lt':β→β→Bool} {f:α→β} (h:∀x a,lt x a=lt' (f x) (f a)):∀(l A:List α),(l.foldl (KQ lt) A).map f=(l.map f).foldl (KQ lt') (A.map f)
 | [],A=>rfl
 |x::l,A=>by rw[Fb,aa8 h l,Ld,Fb,anb h]
def aH7 :∀(l A:List α),(l.foldl (KQ lt) A).length=A.length+l.length
 | [],A=>rfl
 |x::l,A=>by rw[Fb,aH7 l,anW,GI];omega
def aa6 :∀(l A:List α),(l.foldl (KQ lt) A).Perm (A++l)
 | [],A=>by rw[RZ];exact .refl _
 |x::l,A=>by
  rw[Fb];exact(aa6 l (KQ lt A x)).trans (((aiO A x).append_right l).trans (aDZ (l₁:=A) (l₂:=l) (a:=x)).symm)
def aH1 (A:List α) (x:α) (B:List α):Aj (A++x::B) (A.length:Int)=some x:=by rw[jq];simp
def aOd (A:List α) (a x:α) (B:List α):Aj (A++a::x::B) ((A.length+1:Nat):Int)=some x:=by rw[jq];simp
def set_mid (A:List α) (x y:α) (B:List α):(A++x::B).set A.length y=A++y::B:=BP
def aaC (A:List α) (a x y:α) (B:List α):(A++a::x::B).set (A.length+1) y=A++a::y::B:=by
 have :=set_mid (A++[a]) x y B;simpa using this
def bubble {body:(Int→List α→Option R)→Int→List α→Option R} (f:List α→Option R) (N:Nat) (L:∀k x B,(x::B).length=N→body k 0 (x::B)=f (x::B))
 (M:∀k A a x B,(A++a::x::B).length=N→body k ((A.length+1:Nat):Int) (A++a::x::B)=bif lt x a then k (A.length:Int) (A++x::a::B)else f (A++a::x::B)):
 ∀n (A:List α) (x:α) (B:List α),A.length=n→(A++x::B).length=N→∀m,n<m→aS body m (A.length:Int) (A++x::B)=f (KQ lt A x++B):=by
 intro n
 induction n with
 |zero=>
  intro A x B s u m O;obtain⟨m,rfl⟩:∃z,m=z+1:=⟨m-1,AA⟩
  obtain rfl:=H9 s;exact L _ x B u
 |succ n S=>
  intro A x B s u m O;obtain⟨m,rfl⟩:∃z,m=z+1:=⟨m-1,AA⟩
  have h:A≠[]:=fun e=>by subst e;cases s
  obtain⟨A',a,rfl⟩:∃A' a,A=A'++[a]:=⟨A.dropLast,A.getLast h,(List.dropLast_concat_getLast h).symm⟩
  have I:A'.length=n:=Pg
  have J:A'++[a]++x::B=A'++a::x::B:=BP
  have j:(A'++a::x::B).length=N:=by rw[←J];exact u
  have U:(A'++[a]).length=A'.length+1:=BP
  rw[J,U];show body (aS body m) _ _=_;rw[M _ A' a x B j];cases q:lt x a with
  |true=>
   rw[Ba,S A' x (a::B) I (by simp at j ⊢;omega) m AA,ap1 q];simp
  |false=>rw[BM,ajK q];simp
end
def YD (a b:AX):Bool:=decide (a.Depth<b.Depth)||((a.Depth==b.Depth)&&decide (a.Id<b.Id))
def gX (l:List AX):List AX:=l.foldl (KQ YD) []
def Py (l:List AX):List Int:=(gX l).map (·.Id)
def aN1 (l:List AX):(gX l).length=l.length:=by unfold gX;rw[aH7];simp
def ahh (l:List AX):(gX l).Perm l:=by have :=aa6 (lt:=YD) l [];rwa [Hu]at this
def aqt (a b:AX):aEZ a b=some (YD a b):=by
 unfold aEZ YD;cases decide (a.Depth<b.Depth)<;>cases(a.Depth==b.Depth)<;>rfl
def aTQ {α β:Type} {f:β→α→β} {b:β} {l:List α} {i:Nat} (h:i<l.length):(l.take (i+1)).foldl f b=f ((l.take i).foldl f b) l[i]:=by
 rw[SG,Dx h,Qb,Uc];rfl
def map_take {α β:Type} {f:α→β} {l:List α} {i:Nat} (h:i<l.length):(l.take (i+1)).map f=(l.take i).map f++[f l[i]]:=by
 rw[SG,Dx h,Qb,Jv];rfl
def apT (l:List AX) (h:l.length≤1000000):aBi l=some (l.map (·.Id)):=by
 unfold aBi aaJ;refine fE.eq (KC l.length (fuel_lt AA) (fun i a=>a=(l.take i).map (·.Id)) rfl (fun i a k hi ha f=>?_) fun a k ha=>?_)
 ·unfold aMU;have hlen:a.length≤i:=sO
  rw[CZ hi,Di FZ,Aa,wrap_succ i AA];exact f _ aCG
 unfold aMU;rw[DZ];exact .ret ZW
def aqK (l:List AX) (n:l.length≤1000):aB7 l=some (Py l):=by
 unfold aB7 aSA;refine fE.eq (KC l.length (fuel_lt AA) (fun i a=>a=(l.take i).foldl (KQ YD) []) rfl (fun i a k hi ha j=>?_) fun a k ha=>?_)
 ·have hlen:a.length=i:=by rw[ha,aH7,GH];simp;omega
  unfold aM6;rw[CZ hi,Di FZ,Aa];unfold aSO;have f:=bubble (lt:=YD) (body:=aDc k (i:Int)) (fun v=>k v ((i+1:Nat):Int)) (i+1) (fun k2 x B h=>?_) (fun k2 A b x B h=>?_) i a l[i] [] hlen E5 Ap (fuel_lt AA)
  ·rw[hlen]at f;rw[f,RZ];exact j _ (by rw[aTQ hi,ha])
  ·unfold aDc sN;rw[wrap_succ i AA];rfl
  have q:A.length+2≤i+1:=by rw[←h];simp
  have m:Aw (((A.length+1:Nat):Int)-1)=(A.length:Int):=Yc
  unfold aDc sN;rw[Ht (show((A.length+1:Nat):Int)>0 by omega),Ba,aOd,Aa,m,aH1,Aa,aqt,Aa,wrap_succ i AA];cases YD x b with
  |false=>rfl
  |true=>
   simp only[Ba,Aa,Y2];rw[aaC,aH1,Aa,set_mid]
 unfold aM6;rw[DT,BM];have e:a=gX l:=by rw[ha,Gi];rfl
 rw[e,apT _ (by rw[aN1];omega)];exact .ret rfl
def wH (e:AX):Rj:=⟨e.Depth,e.Id⟩
def dc (a b:Rj):Bool:=decide (a.pW<b.pW)||((a.pW==b.pW)&&decide (a.nO<b.nO))
def aob (a x:Rj):(bif decide (a.pW<x.pW)then some true else(bif (a.pW==x.pW)then some (decide (a.nO≤x.nO))else some false).bind fun f=>some f)=some (!dc x a):=by
 unfold dc;by_cases h:a.pW<x.pW
 ·rw[Ht h,Ba,IJ AA,show(x.pW==a.pW)=false by simp;omega];rfl
 rw[IJ h,BM];by_cases j:a.pW=x.pW
 ·rw[j,IJ (show ¬x.pW<x.pW by omega)];simp only[OM,Ba,Aa,MG,FX];by_cases m:a.nO≤x.nO
  ·rw[Ht m,IJ AA];rfl
  rw[IJ m,Ht AA];rfl
 rw[show(a.pW==x.pW)=false by simpa using j,Ht (show x.pW<a.pW by omega)];rfl
def ars (l:List AX) (hl:l.length≤1000):aFj l=some (Py l):=by
 have u:JR 16 aGQ 0 (l.length:Int)=some []:=by unfold JR;rw[D9 ⟨Int.le_refl _,AA,AA⟩];rfl
 unfold aFj;rw[u,Aa];unfold abE;refine fE.eq (KC l.length (fuel_lt AA) (fun i a=>a=((l.take i).map wH).foldl (KQ dc) []) rfl (fun i a k hi ha I=>?_) fun a k ha=>?_)
 ·have hlen:a.length=i:=by rw[ha,aH7,D8,GH];simp;omega
  unfold aJb;rw[CZ hi,CB hi,Aa,Di FZ,Aa];unfold aRm;have J:Aw (((a++[(⟨l[i].Depth,l[i].Id⟩:Rj)]).length:Int)-1)=(a.length:Int):=aOn
  rw[J];have L:=bubble (lt:=dc) (body:=oO k (i:Int)) (fun v=>k v ((i+1:Nat):Int)) (i+1) (fun k2 x B m=>?_) (fun k2 A b x B m=>?_) i a (wH l[i]) [] hlen E5 Ap (fuel_lt AA)
  ·show fE (aS (oO k (i:Int)) Ap (a.length:Int) (a++[wH l[i]])) _;rw[L,RZ];exact I _ (by rw[map_take hi,Uc,ha];rfl)
  ·unfold oO qC;rw[wrap_succ i AA];rfl
  have hA:A.length+2≤i+1:=by rw[←m];simp
  have M:Aw (((A.length+1:Nat):Int)-1)=(A.length:Int):=Yc
  unfold oO qC;rw[Ht (show((A.length+1:Nat):Int)>0 by omega),Ba,M,aH1,Aa,aOd,Aa,aob,Aa,wrap_succ i AA];cases dc x b with
  |false=>rfl
  |true=>
   simp only[EM,BM,Ba,Aa,Y2];rw[set_mid,aOd,Aa,aaC]
 unfold aJb;rw[DZ];have e:a=(gX l).map wH:=by rw[ha,Gi];exact(aa8 (lt:=YD) (lt':=dc) (f:=wH) (fun _ _=>rfl) l []).symm
 have O:a.length=l.length:=by rw[e,D8,aN1]
 have S:JR 8 0 (a.length:Int) (a.length:Int)=some (List.replicate a.length (0:Int)):=by unfold JR;rw[D9 ⟨AA,Int.le_refl _,AA⟩];simp
 have U:Py l=a.map (·.nO):=by rw[e,uz];rfl
 rw[S,Aa,U];unfold aTV;refine Tn (body:=aNb a) (Q:=fun r=>r=a.map (·.nO)) (fun n (x:Int) (o:List Int) (p:List Rj)=>∃i:Nat,x=i∧i+n=a.length∧o=(a.take i).map (·.nO)++List.replicate (a.length-i) 0∧p=a) ?_ Ap a.length 0 (List.replicate a.length 0) a (fuel_lt AA) ⟨0,rfl,AA,BP,rfl⟩;rintro n x o p k2 ⟨i,rfl,hn,q,rfl⟩ j;unfold aNb;by_cases hi:i<p.length
 ·have s:((p.take i).map (·.nO)).length=i:=by rw[D8,GH];omega
  obtain⟨z,Y⟩:∃z,p.length-i=z+1:=⟨p.length-i-1,AA⟩
  have h:o=(p.take i).map (·.nO)++0::List.replicate z 0:=by rw[q,Y,List.replicate_succ]
  have Z:Aj o (i:Int)=some 0:=by have :=aH1 ((p.take i).map (·.nO)) 0 (List.replicate z 0);rw[s]at this;rw[h];exact this
  have s2:o.set i p[i].nO=(p.take i).map (·.nO)++p[i].nO::List.replicate z 0:=by have :=set_mid ((p.take i).map (·.nO)) 0 p[i].nO (List.replicate z 0);rw[s]at this;rw[h];exact this
  rw[CZ hi,Z,Aa];refine j (n-1) _ _ _ AA ⟨i+1,wrap_succ i AA,AA,?_,rfl⟩;rw[Y2,s2,map_take hi,show p.length-(i+1)=z by omega];simp
 have :i=p.length:=AA
 subst this;rw[DZ];exact .ret (by rw[q];simp)
def JE (l:List AX) (x y:Int):Bool:=dX l y&&(y != x&&Dj (ev l y).bK x)
def Uj (l:List AX) (ids:List Int):List Int:=(ER ids).filter fun x=> !ids.any (JE l x)
def arh {α:Type} {a b:List α} (p:α→Bool) (h:∀x,x∈a↔x∈b):a.any p=b.any p:=by
 rw[Ph,Hd,Hd];exact⟨fun⟨x,f,k⟩=>⟨x,(h x).1 f,k⟩,fun⟨x,f,k⟩=>⟨x,(h x).2 f,k⟩⟩
def ahC (ids:List Int) (p:Int→Bool):ER (ids.filter p)=(ER ids).filter p:=
 G9 (Lm _) ((Lm ids).sublist SH) fun x=>by rw[NC,Hf,Hf,NC]
def aN8 (l:List AX) (ids:List Int):(Uj l ids).length≤ids.length:=Ei (Js _ _) (MC ids)
def aG1 {α:Type} {p:α→Bool} {l:List α} {i:Nat} (h:i<l.length):(l.take (i+1)).filter p=(l.take i).filter p++bif p l[i]then[l[i]]else[]:=by
 rw[SG,Dx h,Qb,PZ];cases f:p l[i]<;>simp[f]
def vw {α:Type} {p:α→Bool} {l:List α} {i:Nat} (h:i<l.length):(l.take (i+1)).any p=((l.take i).any p||p l[i]):=by
 rw[SG,Dx h,Qb,aIu];simp
def anN (l:List AX) (ids:List Int) (hl:l.length≤100) (hs:E8 l) (hi0:ids.length≤1000):aBR l ids=some (Uj l ids):=by
 unfold aBR;refine fE.eq ((yJ l AA).bind fun m U=>?_);unfold aRx;refine Tn (body:=aIN ids l) (Q:=fun r=>r=Uj l ids) (fun n a b c=>∃i:Nat,a=i∧i+n=ids.length∧b=m∧∀x,(Cb c x).getD false=(ids.take i).any (JE l x)) ?_ Ap ids.length 0 m [] (fuel_lt AA) ⟨0,rfl,AA,rfl,fun x=>rfl⟩;rintro n a b c k ⟨i,rfl,hn,rfl,I⟩ J;unfold aIN;by_cases hi:i<ids.length
 ·have Y:∀M,(∀x,(Cb M x).getD false=((ids.take i).any (JE l x)||JE l x ids[i]))→fE (aBO k (i:Int) b M) (fun r=>r=Uj l ids):=fun M h8=>J (n-1) _ _ _ AA ⟨i+1,wrap_succ i AA,AA,rfl,fun x=>by rw[h8,vw hi]⟩;rw[CZ hi,U.isSome];cases f:dX l ids[i]with
  |false=>exact Y c fun x=>by rw[I];unfold JE;rw[f];simp
  |true=>
   obtain⟨Z,_⟩:=TY f;rw[U.get Z,Aa];have hp:=(hs _ (OG Z)).prev;simp only[EM,BM];unfold aPS;refine Tn (body:=aIF (ev l ids[i]) ids[i] k (i:Int)) (Q:=fun r=>r=Uj l ids) (fun L a2 b2 c2=>∃j:Nat,a2=j∧j+L=(ev l ids[i]).bK.length∧b2=b∧∀x,(Cb c2 x).getD false=((ids.take i).any (JE l x)||(ids[i] != x&&Dj ((ev l ids[i]).bK.take j) x))) ?_ Ap (ev l ids[i]).bK.length 0 b c (fuel_lt AA) ⟨0,rfl,AA,rfl,fun x=>by rw[I,aDg];unfold Dj;simp⟩;rintro L a2 b2 c2 k2 ⟨j,rfl,hn2,rfl,h⟩ q;unfold aIF;by_cases s:j<(ev l ids[i]).bK.length
   ·have u:∀x,Dj ((ev l ids[i]).bK.take (j+1)) x=(Dj ((ev l ids[i]).bK.take j) x||(x==(ev l ids[i]).bK[j])):=fun x=>by
     rw[Ph,iC,KZ,KZ,SG,Dx s,Qb,Ia,MW,Rk]
    rw[CZ s];cases z:(ev l ids[i]).bK[j] != ids[i]with
    |true=>
     refine q (L-1) _ _ _ AA ⟨j+1,wrap_succ j AA,AA,rfl,fun x=>?_⟩;rw[P7,u];cases O:x==(ev l ids[i]).bK[j]with
     |true=>
      have e:=eq_of_beq O;subst e;rw[show(ids[i] != (ev l ids[i]).bK[j])=true by rw[bne_comm];exact z];simp
     |false=>rw[BM,h,L9]
    |false=>
     refine q (L-1) _ _ _ AA ⟨j+1,wrap_succ j AA,AA,rfl,fun x=>?_⟩;rw[u,h];have e:(ev l ids[i]).bK[j]=ids[i]:=mG
     rw[e];cases O:x==ids[i]with
     |false=>simp
     |true=>have e2:=eq_of_beq O;subst e2;simp
   have :j=(ev l ids[i]).bK.length:=AA
   subst this;rw[DZ];exact Y _ fun x=>by rw[h,Gi];unfold JE;rw[f];rfl
 have :i=ids.length:=AA
 subst this;rw[DZ];unfold aag;rw[Gi]at I;refine KC ids.length (fuel_lt AA) (fun i a=>a=(ids.take i).filter fun x=> !ids.any (JE l x)) rfl (fun i a k2 hi ha J=>?_) fun a k2 ha=>?_
 ·have S:a.length≤i:=aMr
  unfold aLx aF7;rw[CZ hi,wrap_succ i AA,I];have hf:=aG1 (p:=fun x=> !ids.any (JE l x)) hi;cases hb:ids.any (JE l ids[i])with
  |true=>exact J _ (by rw[hf,ha,hb];simp)
  |false=>
   simp only[IX,Ba];rw[Di FZ,Aa];exact J _ (by rw[hf,ha,hb];rfl)
 have S:a.length≤ids.length:=aMr
 unfold aLx;rw[DZ,XG _ AA];exact .ret (by rw[ha,Gi,ahC];rfl)
def ahy {l:List Int} (h:Inc l) {i j:Nat} (hi:i<l.length) (m:j<l.length) (e:l[i]=l[j]):i=j:=by
 rcases aEQ i j with f|f|f
 ·have :=Ky.1 h i j hi m f;omega
 ·exact f
 have :=Ky.1 h j i m hi f;omega
def atO (l:List AX) (ids:List Int) (hl:l.length≤1000) (hs:E8 l) (hi0:ids.length≤1000):zN l ids=some (Uj l ids):=by
 have s:=Lm ids;have hlen:=MC ids;have u:∀x,(ER ids).any (JE l x)=ids.any (JE l x):=fun x=>arh _ fun _=>NC;unfold zN Uj;rw[aMJ _ AA,Aa];have f:(fun x=> !ids.any (JE l x))=fun x=> !(ER ids).any (JE l x):=funext fun x=>by rw[u]
 rw[f];generalize ER ids=S at s hlen;clear u f;unfold ab2;refine fE.eq (KC S.length (fuel_lt AA) (fun i a=>a=(S.take i).filter fun x=> !S.any (JE l x)) rfl (fun i a k hi ha Y=>?_) fun a k ha=>?_)
 ·have hal:a.length≤i:=aMr
  have Z:=aG1 (p:=fun x=> !S.any (JE l x)) hi;unfold aLd;rw[dec_lt hi,Ba];unfold acw;refine Tn (body:=aL7 S l (i:Int) k) (Q:=_) (fun n b x c=>∃j:Nat,x=j∧j+n=S.length∧c=a∧b= !(S.take j).any (JE l S[i])) ?_ Ap S.length true 0 a (fuel_lt AA) ⟨0,rfl,AA,rfl,BP⟩;rintro n b x c k2 ⟨j,rfl,hn,rfl,I⟩ J;unfold aL7;by_cases L:j<S.length
  ·have m:∀M,M=(!((S.take j).any (JE l S[i])||JE l S[i] S[j]))→fE (aAC k2 (j:Int) M c) (fun x=>x=(S.filter fun x=> !S.any (JE l x))):=fun M h'=>J (n-1) _ _ _ AA ⟨j+1,wrap_succ j AA,AA,rfl,by rw[vw L];exact h'⟩;rw[CZ L,Ln l _ AA,Aa,OZ]
   have O:(((j:Int) != (i:Int)))=(S[j] != S[i]):=by
    rw[Ph];simp only[bne_iff_ne,ne_eq];constructor
    ·intro h e;exact h (by rw[ahy s L hi e])
    intro h e;have :j=i:=AA
    subst this;exact h rfl
   rw[O];cases q:(ET l S[j]).isSome with
   |false=>
    unfold Z8;exact m b (by rw[I];unfold JE dX;rw[q];simp)
   |true=>
    cases U:S[j] != S[i]with
    |false=>
     unfold Z8;exact m b (by rw[I];unfold JE;rw[U];simp)
    |true=>
     simp only[Ba]
     have hpl:(I4 l S[j]).1.bK.length≤40:=by
      obtain⟨e,he⟩:=RH.1 q;rw[Na he];exact(hs e (OG he)).prev
     rw[CB hi,Aa,UY _ _ AA,Aa];unfold Z8;cases hh:Dj (I4 l S[j]).1.bK S[i]with
     |true=>exact m false (by unfold JE dX ev;rw[q,U,hh];simp)
     |false=>exact m b (by rw[I];unfold JE dX ev;rw[q,U,hh];simp)
  have :j=S.length:=AA
  subst this;rw[DZ,I,Gi];unfold aCq;rw[wrap_succ i AA];cases z:S.any (JE l S[i])with
  |true=>exact Y _ (by rw[Z,ha,z];simp)
  |false=>
   simp only[IX,Ba];rw[CB hi,Aa,Di FZ,Aa];exact Y _ (by rw[Z,ha,z];rfl)
 unfold aLd;rw[DT];exact .ret ZW
def iE (x y:AX):Bool:=y.Kind==x.Kind&&decide (y.Key=x.Key)
def Kw (h:List BH):List AX→List AX→Bool
 |_,[]=>true
 |f,x::xs=>(h.any fun k=>Ef k x)&& !f.any (iE x)&&Kw h (f++[x]) xs
def QM (x:AX):Bool:=x.Kind==1&&decide (x.Key=Bc)
def Sz (l:List AX) (e:AX):Int:=
 bif !e.bP.all (dX l)then 14 else bif !(ofIds l e.bP).all (fun x=>decide (x.Room=e.Room))then 13
 else bif Kw (keysOf e) [] (ofIds l e.bP)&&(e.Kind==1||(ofIds l e.bP).any QM)then 0 else 16
def Yt {k:BH} {x:AX}:Ef k x=true↔x.Kind=k.Kind∧x.Key=k.Key:=by unfold Ef;simp
def aaX {x y:AX}:iE x y=true↔y.Kind=x.Kind∧y.Key=x.Key:=by unfold iE;simp
def abW {f:List BH} {X:List AX} {i:Nat} (h:i<X.length):Kw f (X.take i) (X.drop i)=((f.any fun k=>Ef k X[i])&& !(X.take i).any (iE X[i])&&Kw f (X.take (i+1)) (X.drop (i+1))):=by
 rw[LY h,SG,Dx h];rfl
def aRh {f:List BH} (X:List AX):Kw f (X.take X.length) (X.drop X.length)=true:=by rw[Oe];rfl
def aU2 (X:List AX) (k:Int) (key:ByteArray) (h:X.length≤1000):Xt (X.map fun x=>(⟨x.Kind,x.Key,0⟩:BH)) k key=some (X.any fun y=>y.Kind==k&&decide (y.Key=key)):=by
 unfold Xt aJu;rw[Gl (X.map fun x=>(⟨x.Kind,x.Key,0⟩:BH)) (fuel_lt YT) (fun y=>y.Kind==k&&decide (y.Key=key)) true (some false)]
 ·rw[List.any_map];show(bif X.any (fun y=>y.Kind==k&&decide (y.Key=key))then some true else some false)=_;cases X.any (fun y=>y.Kind==k&&decide (y.Key=key))<;>rfl
 ·intro q i hi;unfold qO;rw[CZ hi,CB hi,Aa,Ij];cases((X.map fun x=>(⟨x.Kind,x.Key,0⟩:BH))[i].Kind==k)<;>rfl
 intro q;unfold qO;rw[DT];rfl
def ajf (f:List BH) (x:AX) (h:f.length≤1000):Xt f x.Kind x.Key=some (f.any fun k=>Ef k x):=by
 unfold Xt aJu;rw[Gl f (fuel_lt AA) (fun k=>Ef k x) true (some false)]
 ·cases f.any (fun k=>Ef k x)<;>rfl
 ·intro q i hi;unfold qO;rw[CZ hi,CB hi,Aa,Ij];have j:(f[i].Kind==x.Kind)=(x.Kind==f[i].Kind):=by rw[Ph,Rk,Rk];exact eq_comm
  have m:decide (f[i].Key=x.Key)=decide (x.Key=f[i].Key):=iq.2 eq_comm;unfold Ef;rw[j,m];cases(x.Kind==f[i].Kind)<;>rfl
 intro q;unfold qO;rw[DT];rfl
def aok (X:List AX) (e:AX) (I:X.length≤40):aNE X (keysOf e) e [] 0=some (bif Kw (keysOf e) [] X&&(e.Kind==1||X.any QM)then 0 else 16):=by
 have q:=Vd e;unfold aNE;refine fE.eq (KC X.length (fuel_lt AA) (fun i a=>a=(X.take i).map (fun x=>(⟨x.Kind,x.Key,0⟩:BH))∧Kw (keysOf e) [] X=Kw (keysOf e) (X.take i) (X.drop i)) ⟨rfl,rfl⟩ (fun i a k hi ha s=>?_) fun a k ha=>?_)
 ·obtain⟨rfl,f⟩:=ha;unfold aKY;rw[CZ hi,CB hi,Aa,ajf _ _ AA,Aa];rw[abW hi]at f
  have j:∀b,Kw (keysOf e) [] X=(!b&&Kw (keysOf e) (X.take (i+1)) (X.drop (i+1)))→fE (ny X (i:Int) ((X.take i).map fun x=>(⟨x.Kind,x.Key,0⟩:BH)) k b) (· =bif Kw (keysOf e) [] X&&(e.Kind==1||X.any QM)then 0 else 16):=fun b m=>by
   unfold ny;cases b with
   |true=>exact .ret (by rw[m];rfl)
   |false=>
    simp only[BM];rw[CB hi,Aa,Aa,Di (by simp only[Ou,D8,GH];omega),Aa,wrap_succ i AA];exact s _ ⟨by rw[map_take hi],by rw[m];rfl⟩
  cases n:(keysOf e).any fun k=>Ef k X[i]with
  |false=>
   rw[IX,Ba];exact j true (by rw[f,n];rfl)
  |true=>
   rw[EM,BM];have u:(fun y:AX=>y.Kind==X[i].Kind&&decide (y.Key=X[i].Key))=iE X[i]:=rfl;rw[Aa,Aa,aU2 _ _ _ atZ,Aa,u];exact j _ (by rw[f,n,FX])
 obtain⟨rfl,f⟩:=ha;rw[aRh]at f;unfold aKY;rw[DT,BM,Gi,f,aU2 _ _ _ AA];have z:(X.any fun y=>y.Kind==1&&decide (y.Key=Bc))=X.any QM:=rfl;rw[z];have h:(e.Kind != 1)= !(e.Kind==1):=rfl;rw[h];cases e.Kind==1<;>cases X.any QM<;>exact .ret rfl
def ao4 (X:List AX) (e:AX) (f:X.length≤40):aMv X e 0=some (bif !X.all (fun x=>decide (x.Room=e.Room))then 13 else bif Kw (keysOf e) [] X&&(e.Kind==1||X.any QM)then 0 else 16):=by
 unfold aMv;rw[Gl X (fuel_lt AA) (fun x=> !decide (x.Room=e.Room)) 13 (some (bif Kw (keysOf e) [] X&&(e.Kind==1||X.any QM)then 0 else 16))]
 ·rw[vU];cases X.all (fun x=>decide (x.Room=e.Room))<;>rfl
 ·intro k i hi;unfold aNq;rw[CZ hi,Ij]
 intro k;unfold aNq;rw[DZ,aNj,Aa,aok X e f]
def ajF (l:List AX) (e:AX) (h:l.length≤100) (f:Fa e):aG5 l e=some (Sz l e):=by
 have j:=f.auth;have m:=aB l e.bP;unfold aG5 abk Sz;rw[Gl e.bP (fuel_lt AA) (fun x=> !dX l x) 14 (some (bif !(ofIds l e.bP).all (fun x=>decide (x.Room=e.Room))then 13 else bif Kw (keysOf e) [] (ofIds l e.bP)&&(e.Kind==1||(ofIds l e.bP).any QM)then 0 else 16))]
 ·rw[vU];cases e.bP.all (dX l)<;>rfl
 ·intro k i hi;unfold aJI;rw[CZ hi,Ln l _ AA,Aa,OZ];rfl
 intro k;unfold aJI;rw[DT,BM,aHk l _ AA AA,Aa,ao4 _ e AA]
def agx (k:BH) (e:AX):WW (JD k) e=some (Ef k e):=by
 unfold WW Ef JD;cases h:(e.Kind==k.Kind)with
 |false=>rfl
 |true=>show some (e.Key.toList==k.Key.toList)=_;rw[Ij,FX]
def ar9 (f:List BH) (x:AX) (h:f.length≤100):aGb (f.map JD) x=some (if f.findIdx (fun k=>Ef k x)<f.length then((f.findIdx (fun k=>Ef k x):Nat):Int)else -1):=by
 unfold aGb aah
 have m:∀k (i:Nat),i<f.length→aHB (f.map JD) x k (i:Int)=bif Ef (f.getD i ⟨0,Bc,0⟩) x then some (i:Int)else k (Aw ((i:Int)+1)):=fun k i hi=>by
  unfold aHB;have j:i<(f.map JD).length:=aMG
  rw[CZ j,U5];show((WW (JD f[i]) x).bind _)=_;rw[agx,Aa];simp[List.getD,hi]
 rw[KD f (fuel_lt AA) (fun k=>Ef k x) (fun i=>some (i:Int)) (some (-1))]
 ·split<;>rfl
 ·intro k i hi;rw[m k i hi];simp[List.getD,hi]
 intro k;unfold aHB;rw[show((f.map JD).length:Int)=(f.length:Int) by rw[D8],DT];rfl
def aPa {α:Type} {p:α→Bool}:∀l:List α,l.Pairwise (fun a b=>¬(p a=true∧p b=true))→l.findIdx p<l.length→l.filter (fun x=> !p x)=l.take (l.findIdx p)++l.drop (l.findIdx p+1)
 | [],_,h=>absurd h (Nat.not_lt_zero _)
 |a::l,f,h=>by
  obtain⟨j,m⟩:=PY.1 f;rw[St]at h ⊢;cases ha:p a with
  |true=>
   rw[List.filter_cons_of_neg (by simp[ha]),qE.2 fun b n=>by
    cases q:p b with
    |false=>rfl
    |true=>exact absurd ⟨ha,q⟩ (j b n)]
   rfl
  |false=>
   rw[ha]at h;rw[List.filter_cons_of_pos (by simp[ha]),aPa l m Jc];rfl
def aVh {α:Type} {p:α→Bool}:∀l:List α,decide (l.findIdx p<l.length)=l.any p
 | []=>rfl
 |a::l=>by
  have f:=aVh (p:=p) l;rw[St,mM,←f];cases p a<;>simp
def akh (e:AX):JI (keysOf e):=by
 have z:JI (Lh e):=WL (WL (WL List.Pairwise.nil _ _ _) _ _ _) _ _ _;unfold keysOf;cases e.Kind==1<;>cases e.Kind==2<;>cases(e.Content.N==3||e.Content.N==1||e.Content.N==2)<;>simp only[Ba,BM]
 ·exact z
 ·exact z
 ·exact WL z _ _ _
 ·exact WL (WL z _ _ _) _ _ _
 all_goals exact List.Pairwise.nil
def akJ {e:AX} {k:BH} (h:k∈keysOf e) (j:k.Kind=1):k.Key=Bc:=by
 have z:∀x∈Lh e,x.Kind=1→x.Key=Bc:=fun x f n=>by
  unfold Lh at f;rcases U0 f with rfl|f
  ·cases n
  rcases U0 f with rfl|f
  ·cases n
  rcases U0 f with rfl|f
  ·rfl
  cases f
 unfold keysOf at h;cases m:e.Kind==1 with
 |true=>rw[m]at h;cases h
 |false=>
  cases q:e.Kind==2 with
  |false=>rw[m,q]at h;exact z k h j
  |true=>
   rw[m,q]at h;cases s:(e.Content.N==3||e.Content.N==1||e.Content.N==2)with
   |true=>
    rw[s]at h;rcases U0 h with rfl|h
    ·cases j
    rcases U0 h with rfl|h
    ·cases j
    exact z k h j
   |false=>
    rw[s]at h;rcases U0 h with rfl|h
    ·cases j
    exact z k h j
def aUn {m:List BH}:∀(X f:List AX),Kw m f X=true→∀x∈X,∃k∈m,Ef k x=true
 | [],_,_,_,h=>absurd h G7
 |y::X,f,h,x,j=>by
  unfold Kw at h;simp only[DL]at h;rcases F9.1 j with rfl|j
  ·obtain⟨k,n,q⟩:=Hd.1 h.1.1;exact⟨k,n,q⟩
  exact aUn X _ h.2 x j
def any_congr {α:Type} {l:List α} {p q:α→Bool} (h:∀x∈l,p x=q x):l.any p=l.any q:=by
 rw[Ph,Hd,Hd];exact⟨fun⟨x,f,k⟩=>⟨x,f,by rw[←h x f];exact k⟩,fun⟨x,f,k⟩=>⟨x,f,by rw[h x f];exact k⟩⟩
def apr (l:List AX) (e:AX) (hl:l.length≤100) (he:Fa e):nN l e=some (Sz l e):=by
 have h1:=he.auth;have hk5:=Vd e;have hsk:=akh e;unfold nN aRJ;refine fE.eq (KC e.bP.length (fuel_lt AA) (fun i a=>a=ofIds l (e.bP.take i)∧∀x∈e.bP.take i,dX l x=true) ⟨rfl,fun x M=>by simp at M⟩ (fun i a k hi ha u=>?_) fun a k ha=>?_)
 ·obtain⟨rfl,m⟩:=ha;have hal:=aB l (e.bP.take i);rw[GH]at hal;unfold aAO;rw[CZ hi,O9 l _ AA,Aa,wrap_succ i AA];cases O:ET l e.bP[i]with
  |none=>
   rw[Ri O];refine .ret ?_;unfold Sz;rw[bC (Eb hi) (show dX l e.bP[i]=false by unfold dX;rw[O];rfl)];rfl
  |some x=>
   rw[Na O];simp only[EM,BM];rw[Di FZ,Aa];refine u _ ⟨?_,fun y s=>?_⟩
   ·unfold ofIds;rw[SG,Dx hi,Qb,lT,Qs,O];rfl
   rw[SG,Dx hi,Qb,Ia,MW]at s;rcases s with s|rfl
   ·exact m y s
   unfold dX;rw[O];rfl
 obtain⟨rfl,m⟩:=ha;rw[Gi]at m ⊢;have M:=aB l e.bP;have S:e.bP.all (dX l)=true:=EZ.2 m;unfold aAO;rw[DZ];unfold Sz;rw[S];simp only[EM,BM];generalize ofIds l e.bP=X at M;unfold aTT;rw[Gl X (fuel_lt AA) (fun x=> !decide (x.Room=e.Room)) 13 (some (bif Kw (keysOf e) [] X&&(e.Kind==1||X.any QM)then 0 else 16))]
 ·rw[vU];cases X.all (fun x=>decide (x.Room=e.Room))<;>exact .ret rfl
 ·intro k2 i hi;unfold aBX;rw[CZ hi,Ij]
 intro k2;unfold aBX;rw[DZ,aPe,Aa];unfold adA;refine fE.eq (Tn (body:=aAG X) (Q:=(· =bif Kw (keysOf e) [] X&&(e.Kind==1||X.any QM)then 0 else 16)) (fun n b ks x=>∃i:Nat,x=i∧i+n=X.length∧ks=((keysOf e).filter fun k=> !(X.take i).any (Ef k)).map JD∧b=(e.Kind==1||(X.take i).any fun x=>x.Kind==1)∧Kw (keysOf e) [] X=Kw (keysOf e) (X.take i) (X.drop i)) ?_ Ap X.length (e.Kind==1) ((keysOf e).map JD) 0 (fuel_lt AA) ⟨0,rfl,AA,by rw[aDg];exact BR (List.map JD) (qE.2 fun _ _=>rfl).symm,BP,rfl⟩);rintro n b ks x k3 ⟨i,rfl,hn,hks,hb,q⟩ hk3;unfold aAG;by_cases hi:i<X.length
 ·rw[abW hi]at q;have hlk:((keysOf e).filter fun k=> !(X.take i).any (Ef k)).length≤5:=Ei (Js _ _) hk5;rw[CZ hi,hks,ar9 _ _ AA,Aa];have z:=aVh (p:=fun k=>Ef k X[i]) ((keysOf e).filter fun k=> !(X.take i).any (Ef k))
  have I:(((keysOf e).filter fun k=> !(X.take i).any (Ef k)).any fun k=>Ef k X[i])=((keysOf e).any (fun k=>Ef k X[i])&& !(X.take i).any (iE X[i])):=by
   rw[Ph,Hd,DL,Hd,RY,←LZ,Hd];constructor
   ·rintro⟨k,u,J⟩;obtain⟨hk1,U⟩:=Hf.1 u;refine⟨⟨k,hk1,J⟩,?_⟩;rintro⟨y,s,hs⟩;obtain⟨Y,Z⟩:=Yt.1 J;obtain⟨s1,s2⟩:=aaX.1 hs;rw[Hd.2 ⟨y,s,Yt.2 ⟨s1.trans Y,s2.trans Z⟩⟩]at U;cases U
   rintro⟨⟨k,u,J⟩,hno⟩;refine⟨k,Hf.2 ⟨u,?_⟩,J⟩;rw[RY,←LZ,Hd];rintro⟨y,s,hs⟩;obtain⟨Y,Z⟩:=Yt.1 J;obtain⟨s1,s2⟩:=Yt.1 hs;exact hno ⟨y,s,aaX.2 ⟨s1.trans Y.symm,s2.trans Z.symm⟩⟩
  rw[←I,←z]at q;by_cases f:((keysOf e).filter fun k=> !(X.take i).any (Ef k)).findIdx (fun k=>Ef k X[i])<((keysOf e).filter fun k=> !(X.take i).any (Ef k)).length
  ·rw[D9 f,IJ AA,BM];rw[Ht f,FX]at q;have hlm:(((keysOf e).filter fun k=> !(X.take i).any (Ef k)).map JD).length=((keysOf e).filter fun k=> !(X.take i).any (Ef k)).length:=D8 ..
   have hpw:((keysOf e).filter fun k=> !(X.take i).any (Ef k)).Pairwise (fun a b=>¬(Ef a X[i]=true∧Ef b X[i]=true)):=by
    refine(List.Pairwise.sublist SH hsk).imp fun{a b} hab h=>?_;obtain⟨a1,a2⟩:=Yt.1 h.1;obtain⟨b1,b2⟩:=Yt.1 h.2;rw[uy (Vy.2 ⟨a1.symm.trans b1,a2.symm.trans b2⟩)]at hab;cases hab
   have hd:=aPa _ hpw f
   have L:((keysOf e).filter fun k=> !(X.take i).any (Ef k)).filter (fun k=> !Ef k X[i])=(keysOf e).filter fun k=> !(X.take (i+1)).any (Ef k):=by
    rw[List.filter_filter];refine List.filter_congr fun k _=>?_;rw[vw hi];cases(X.take i).any (Ef k)<;>cases Ef k X[i]<;>rfl
   rw[L]at hd;generalize((keysOf e).filter fun k=> !(X.take i).any (Ef k))=K at f hd hlm hlk;generalize K.findIdx (fun k=>Ef k X[i])=j at f hd;have s1:HY (K.map JD) 0 (j:Int)=some (((K.map JD).drop 0).take (j-0)):=lu (lo:=0) (Eh _) AA;have s2:HY (K.map JD) (Aw ((j:Int)+1)) ((K.map JD).length:Int)=some (((K.map JD).drop (j+1)).take ((K.map JD).length-(j+1))):=by rw[wrap_succ j AA];exact lu AA (EG _)
   rw[s1,Aa,s2,Aa,Di (by simp only[GH,Q9];omega),Aa];have hb3:(bif b then some true else(Aj X (i:Int)).bind fun x28=>some (x28.Kind==1))=some (b||X[i].Kind==1):=by rw[CB hi];cases b<;>rfl
   rw[hb3,Aa];refine hk3 (n-1) _ _ _ AA ⟨i+1,wrap_succ i AA,AA,?_,?_,q⟩
   ·rw[hd,Jv,cD,eS,Nat.sub_zero,xX,Qp (l:=(K.map JD).drop (j+1)) (by rw[Q9];omega)]
   rw[vw hi,hb,Bool.or_assoc]
  rw[DN f];rw[IJ f,Bool.false_and]at q;exact .ret (by rw[q];rfl)
 have :i=X.length:=AA
 subst this;rw[aRh]at q;rw[DZ,q,hb,Gi,FX]
 have hc:(X.any fun x=>x.Kind==1)=X.any QM:=any_congr fun x M=>by
  obtain⟨k,u,J⟩:=aUn X [] q x M;obtain⟨Y,Z⟩:=Yt.1 J;unfold QM;cases hq:x.Kind==1 with
  |false=>rfl
  |true=>rw[Z,akJ u (by rw[←Y];exact eq_of_beq hq)];simp
 rw[hc];cases(e.Kind==1||X.any QM)<;>exact .ret rfl
def Po (l:List AX) (s:List BH):List AX:=ofIds l (s.map (·.Id))
def aBa (l:List AX) (s:List BH):(Po l s).length≤s.length:=by have :=aB l (s.map (·.Id));rwa [D8]at this
def aUp {l:List AX} (f:E8 l) (ids:List Int):E8 (ofIds l ids):=fun x h=>f x (aLt h)
def aCW {l:List AX} {s:List BH} {i:Nat} (h:i<s.length):Po l (s.take (i+1))=Po l (s.take i)++(ET l s[i].Id).toList:=by
 unfold Po ofIds;rw[map_take h,lT,Qs,List.filterMap_nil];cases ET l s[i].Id<;>rfl
def ajo (l:List AX) (s:List BH) (u:l.length≤100) (h:s.length≤1000):yg l s=some (Po l s):=by
 unfold yg sJ;rw[Aa];unfold aRG;refine fE.eq (aOC (body:=aJM s) (Q:=(· =Po l s)) (fun n a b c _ _=>∃i:Nat,b=i∧i+n=s.length∧c=l∧a=Po l (s.take i)) ?_ Ap s.length [] 0 l [] [] (fuel_lt AA) ⟨0,rfl,AA,rfl,rfl⟩);rintro n a b c d f k ⟨i,rfl,z,rfl,ha⟩ q;unfold aJM;by_cases hi:i<s.length
 ·have m:=aBa c (s.take i);rw[GH]at m;rw[CZ hi,O9 c _ AA,Aa,wrap_succ i AA];cases j:ET c s[i].Id with
  |none=>rw[Ri j];exact q (n-1) _ _ _ _ _ AA ⟨i+1,rfl,AA,rfl,by rw[aCW hi,j,ha];simp⟩
  |some x=>
   rw[Na j];simp only[Ba];rw[Di (by rw[ha];simp only[Ou];omega),Aa];exact q (n-1) _ _ _ _ _ AA ⟨i+1,rfl,AA,rfl,by rw[aCW hi,j,ha];rfl⟩
 have :i=s.length:=AA
 subst this;rw[DZ];exact .ret ZW
def akB (l:List AX) (s:List BH) (n:l.length≤100) (h:s.length≤1000):Opn l s=some (Po l s):=by
 unfold Opn aUh;refine fE.eq (KC s.length (fuel_lt AA) (fun i a=>a=Po l (s.take i)) rfl (fun i a k hi ha m=>?_) fun a k ha=>?_)
 ·have j:=aBa l (s.take i);rw[GH]at j;unfold aOY aFv;rw[CZ hi,Ln l _ AA,Aa,wrap_succ i AA];cases f:ET l s[i].Id with
  |none=>rw[Ri f];exact m _ (by rw[aCW hi,f,ha];simp)
  |some x=>
   rw[Na f];simp only[Ba];rw[Di (by rw[ha];simp only[Ou];omega),Aa];exact m _ (by rw[aCW hi,f,ha];rfl)
 unfold aOY;rw[DT];exact .ret ZW
structure FC where
 id:Int
 before:List BH
 after:List BH
 err:Int
def Ig (t:List FC) (x:Int):Option FC:=t.find? fun y=>y.id==x
def PU (t:List FC) (x:Int):List BH:=((Ig t x).map (·.after)).getD []
def errOf (t:List FC) (x:Int):Int:=((Ig t x).map (·.err)).getD 0
def zD (l:List AX) (e:AX):Int:=bif Sz l e != 0 then Sz l e else RX e (WU l e)
def Td (l:List AX) (t:List FC) (e:AX) (s:List BH):Int:=
 bif zD l e != 0 then zD l e else bif e.bP.any (fun x=>errOf t x != 0)then 16 else RX e (Po l s)
def stB (l:List AX) (t:List FC) (e:AX):List BH:=qY l (e.bK.map (PU t))
def aG (e:AX) (s:List BH) (r:Int):FC:=⟨e.Id,s,bif r==0&&IK e.Kind then FY s e.Kind e.Key e.Id else s,r⟩
def Ut (l:List AX) (t:List FC) (e:AX):FC:=aG e (stB l t e) (Td l t e (stB l t e))
def MO (l:List AX) (ids:List Int):List FC:=ids.foldl (fun t id=>t++[Ut l t (ev l id)]) []
def JM (l:List AX):List FC:=MO l (Py l)
def aRc (l:List AX) {ids:List Int} {i:Nat} (h:i<ids.length):MO l (ids.take (i+1))=MO l (ids.take i)++[Ut l (MO l (ids.take i)) (ev l ids[i])]:=aTQ h
def aRW {t:List FC} {x:Int}:Ig t x=none↔x∉t.map (·.id):=by
 unfold Ig;rw[aAh,GV];exact⟨fun h ⟨y,f,e⟩=>h y f Q7,fun h y f e=>h ⟨y,f,Q7⟩⟩
def aKz {t:List FC} {y:FC} (h:Ig t y.id=none) (x:Int):Ig (t++[y]) x=bif x==y.id then some y else Ig t x:=by
 unfold Ig at h ⊢;rw[aEH];cases f:x==y.id with
 |true=>
  have e:=eq_of_beq f;subst e;rw[h];simp
 |false=>
  have :(y.id==x)=false:=by rw[←f,Ph,Rk,Rk];exact eq_comm
  simp[this]
def aNR (l:List AX):∀(ids:List Int) (t:List FC),(∀x∈ids,dX l x=true)→(ids.foldl (fun t id=>t++[Ut l t (ev l id)]) t).map (·.id)=t.map (·.id)++ids
 | [],t,_=>BP
 |x::ids,t,h=>by
  have f:(Ut l t (ev l x)).id=x:=(TY (h x (Hy ..))).2;rw[Fb,aNR l ids _ fun y j=>h y (IY _ j),Jv,Ld,List.map_nil,f,J7];rfl
def N8 (l:List AX) (t:List FC):Prop:=∀y∈t,JH l y.before∧JH l y.after
def N8.after {l:List AX} {t:List FC} (h:N8 l t) (x:Int):JH l (PU t x):=by
 unfold PU;cases f:Ig t x with
 |none=>exact .nil l
 |some y=>exact(h y (Zv f)).2
def N8.states {l:List AX} {t:List FC} (h:N8 l t) (ids:List Int):∀s∈ids.map (PU t),JH l s:=fun s f=>by
 obtain⟨x,_,rfl⟩:=GV.1 f;exact h.after x
def N8.okay {l:List AX} {t:List FC} (h:N8 l t) (f:l.length≤100) (j:E8 l) (ids:List Int) (hi:ids.length≤100):Ll l (ids.map (PU t)):=JH.okay f j aMG (h.states ids)
def N8.stB {l:List AX} {t:List FC} (h:N8 l t) (f:l.length≤100) (j:E8 l) {e:AX} (m:e.bK.length≤40):JH l (stB l t e):=JH.resolve (h.okay f j _ AA) (h.states _)
def N8.line {l:List AX} {t:List FC} (h:N8 l t) (n:l.length≤100) (q:E8 l) {e:AX} (s:e.bK.length≤40) (u:IK e.Kind=true→dX l e.Id=true∧ev l e.Id=e):N8 l (t++[Ut l t e]):=fun y f=>by
 rcases Ia.1 f with f|f
 ·exact h y f
 rw[MW.1 f];have j:=h.stB n q s;refine⟨j,?_⟩;show JH l (bif Td l t e (Go.Proofs.YtolgdkhlelfpoaaGreat.stB l t e)==0&&IK e.Kind then FY _ e.Kind e.Key e.Id else _);cases m:(Td l t e (Go.Proofs.YtolgdkhlelfpoaaGreat.stB l t e)==0&&IK e.Kind)with
 |false=>exact j
 |true=>
  have hst:IK e.Kind=true:=by rw[DL]at m;exact m.2
  obtain⟨z,k2⟩:=u hst;exact j.set z k2 hst
def afZ {l:List AX} {id:Int} (h:IK (ev l id).Kind=true):dX l (ev l id).Id=true∧ev l (ev l id).Id=ev l id:=by
 cases f:ET l id with
 |none=>unfold ev at h;rw[Ri f]at h;exact absurd h BQ
 |some e=>
  have j:dX l id=true:=by unfold dX;rw[f];rfl
  have :=(TY j).2;rw[this];exact⟨j,rfl⟩
def atP :Fa F7:=⟨Eh _,Eh _,Eh _,Eh _,Eh _,Eh _,Eh _,Eh _,Eh _,Eh _,Eh _,Eh _,fun _ h=>absurd h G7,fun _ h=>absurd h G7,fun _ h=>absurd h G7⟩
def aIL {l:List AX} (f:E8 l) (id:Int):Fa (ev l id):=by
 unfold ev I4;cases h:ET l id with
 |none=>exact atP
 |some e=>exact f e (OG h)
def zW {l:List AX} (j:l.length≤100) (f:E8 l):∀(ids:List Int) (t:List FC),N8 l t→N8 l (ids.foldl (fun t id=>t++[Ut l t (ev l id)]) t)
 | [],t,h=>h
 |x::ids,t,h=>by rw[Fb];exact zW j f ids _ (h.line j f (aIL f x).prev afZ)
structure Om (t:List FC) (m1 m2:List (Int×List BH)) (m3:List (Int×Int)):Prop where
 b:∀x,Cb m1 x=(Ig t x).map (·.before)
 a:∀x,Cb m2 x=(Ig t x).map (·.after)
 r:∀x,Cb m3 x=(Ig t x).map (·.err)
def Om.after {t:List FC} {j f:List (Int×List BH)} {m:List (Int×Int)} (h:Om t j f m) (x:Int):(Cb f x).getD []=PU t x:=by rw[h.a];rfl
def Om.err {t:List FC} {j m:List (Int×List BH)} {f:List (Int×Int)} (h:Om t j m f) (x:Int):(Cb f x).getD 0=errOf t x:=by rw[h.r];rfl
def arP {t:List FC} {j m:List (Int×List BH)} {n:List (Int×Int)} (h:Om t j m n) (l:List AX) (e:AX) (s:List BH) (q:l.length≤100) (u:E8 l) (f:Fa e) (z:s.length≤100):
 aED j m n l e s=some (Td l t e s):=by
 have J:=f.auth;have L:=aBa l s;unfold aED Td zD;rw[apr l e q f,Aa];cases I:Sz l e != 0 with
 |true=>simp only[Ba];rw[I];rfl
 |false=>
  simp only[BM];rw[aQT l e AA AA,Aa,aIf e _ (Ei (yh l e) AA) (u.from e) f,Aa];cases ha:RX e (WU l e) != 0 with
  |true=>rfl
  |false=>
   simp only[BM];unfold aco;rw[Gl e.bP (fuel_lt AA) (fun x=>errOf t x != 0) 16 (some (RX e (Po l s)))]
   ·cases e.bP.any (fun x=>errOf t x != 0)<;>rfl
   ·intro k i hi;unfold aMs;rw[CZ hi,h.err]
   intro k;unfold aMs;rw[DZ,ajo l s q AA,Aa,aIf e (Po l s) AA (aUp u _) f];rfl
def Om.snoc {t:List FC} {q s f j:List (Int×List BH)} {u m:List (Int×Int)} (h:Om t q s u) {y:FC} (n:Ig t y.id=none)
 (z:∀x,Cb f x=bif x==y.id then some y.before else Cb q x) (I:∀x,Cb j x=bif x==y.id then some y.after else Cb s x) (J:∀x,Cb m x=bif x==y.id then some y.err else Cb u x):Om (t++[y]) f j m:=by
 refine⟨fun x=>?_,fun x=>?_,fun x=>?_⟩
 ·rw[z,aKz n,h.b];cases x==y.id<;>rfl
 ·rw[I,aKz n,h.a];cases x==y.id<;>rfl
 rw[J,aKz n,h.r];cases x==y.id<;>rfl
def add_eq {t:List FC} {s u:List (Int×List BH)} {z:List (Int×Int)} (h:Om t s u z) (l:List AX) (e:AX) (n:l.length≤100) (q:E8 l) (I:Fa e) (J:N8 l t) (L:Ig t e.Id=none):
 fE (aBP s u z l e) (fun r=>Om (t++[Ut l t e]) r.1 r.2.1 r.2.2):=by
 have M:=I.prev;unfold aBP aSS;refine KC e.bK.length (fuel_lt AA) (fun i a=>a=(e.bK.take i).map (PU t)) rfl (fun i a k hi ha O=>?_) fun a k ha=>?_
 ·have S:a.length≤i:=sO
  unfold aML;rw[CZ hi,Di FZ,Aa,wrap_succ i AA,h.after];exact O _ aCG
 rw[Gi]at ha;subst ha;unfold aML;have U:JH l (stB l t e):=J.stB n q M;have Y:=U.length;have m:eu l (e.bK.map (PU t))=some (stB l t e):=aUu (J.okay n q _ AA);rw[DZ,m,Aa,arP h l e _ n q I AA,Aa];have j:Ut l t e=aG e (stB l t e) (Td l t e (stB l t e)):=rfl;rw[j];generalize Td l t e (stB l t e)=r;have three:∀(c d f:Bool) {R:Type} (g:Bool→Option R),((bif c then some d else some false).bind fun Z=>(bif Z then some f else some false).bind g)=g (c&&(d&&f)):=fun c d f R g=>by cases c<;>cases d<;>rfl
 rw[three];show fE (bif (r==0&&IK e.Kind)then _ else _) _;unfold aG;cases hc:(r==0&&IK e.Kind)with
 |true=>
  simp only[Ba];rw[XW _ _ _ _ AA,Aa];refine .ret (h.snoc L (fun x=>P7 ..) (fun x=>?_) fun x=>P7 ..);rw[P7,P7];cases x==e.Id<;>rfl
 |false=>exact .ret (h.snoc L (fun x=>P7 ..) (fun x=>P7 ..) fun x=>P7 ..)
def run_go (l:List AX) (ids:List Int) (z:l.length≤100) (q:E8 l) (h:∀x∈ids,dX l x=true) (s:ids.Nodup) (I:ids.length≤1000):fE (aI9 ids l 0 [] [] []) (fun o=>∃T,o=some T∧Om (MO l ids) T.1 T.2.1 T.2.2):=by
 unfold aI9;refine aOo (body:=aOp ids l) (Q:=fun o=>∃T,o=some T∧Om (MO l ids) T.1 T.2.1 T.2.2) (fun n a b c d=>∃i:Nat,a=i∧i+n=ids.length∧Om (MO l (ids.take i)) b c d) ?_ Ap ids.length 0 [] [] [] (fuel_lt AA) ⟨0,rfl,AA,⟨fun x=>rfl,fun x=>rfl,fun x=>rfl⟩⟩;rintro n a b c d k ⟨i,rfl,U,m⟩ J;unfold aOp;by_cases hi:i<ids.length
 ·have u:=h _ (Eb hi)
  have f:Ig (MO l (ids.take i)) (ev l ids[i]).Id=none:=by
   rw[aRW,(TY u).2];unfold MO;rw[aNR l _ _ fun x L=>h x (xK L),List.map_nil,Hu];intro m;obtain⟨j,M,e⟩:=JJ m;rw[GH]at M;rw[aDJ]at e;have :=Ky.1 (acQ.1 s) j i AA hi AA;exact this e
  rw[CZ hi,O9 l _ AA,Aa];refine(add_eq m l _ z q (aIL q ids[i]) (zW z q _ _ fun y O=>absurd O G7) f).bind fun r S=>?_;exact J (n-1) _ _ _ _ AA ⟨i+1,wrap_succ i AA,AA,by rw[aRc l hi];exact S⟩
 have :i=ids.length:=AA
 subst this;rw[DZ];exact .ret ⟨_,rfl,by rw[Gi]at m;exact m⟩
structure Pm (l:List AX):Prop where
 len:l.length≤100
 small:E8 l
 nodup:(l.map (·.Id)).Nodup
 dep:jU l
def aac {l:List AX} {x:Int}:dX l x=true↔x∈l.map (·.Id):=by
 unfold dX ET;rw[List.find?_isSome,GV];exact⟨fun⟨e,f,h⟩=>⟨e,f,Jc⟩,fun⟨e,f,h⟩=>⟨e,f,Jc⟩⟩
def aUN (l:List AX):(Py l).Perm (l.map (·.Id)):=(ahh l).map _
def aN2 {l:List AX} {x:Int}:x∈Py l↔dX l x=true:=by rw[(aUN l).mem_iff,aac]
def aKT (l:List AX):(Py l).length=l.length:=by unfold Py;rw[D8,aN1]
def Pm.order {l:List AX} (h:Pm l):(Py l).Nodup:=(aUN l).nodup_iff.2 h.nodup
def JY (l:List AX) (c:Int):List FC:=bif c==0&&Tv l==0 then JM l else[]
def run_eq (l:List AX) {c:Int} (n:Uo l=some c) (h:c=0→Pm l):
 fE (aEL l) (fun o=>(JY l c=[]∧o=none)∨(JY l c=JM l∧Pm l∧∃T,o=some T∧Om (JM l) T.1 T.2.1 T.2.2)):=by
 unfold aEL JY;rw[n,Aa];by_cases m:c=0
 ·subst m;have f:=h rfl;rw[aqi l f.len f.small f.dep];cases hd:Tv l==0 with
  |false=>
   have j:(Tv l != 0)=true:=by unfold bne;rw[hd];rfl
   simp only[Vu,BM,Aa,j,Ba];exact .ret (.inl ⟨rfl,rfl⟩)
  |true=>
   have j:(Tv l != 0)=false:=by unfold bne;rw[hd];rfl
   simp only[Vu,BM,Aa,j];rw[ars l (by have :=f.len;omega),Aa];exact(run_go l (Py l) f.len f.small (fun x q=>aN2.1 q) f.order (by rw[aKT];have :=f.len;omega)).mono fun o s=>.inr ⟨rfl,f,s⟩
 have u:(c != 0)=true:=ZY
 have z:(c==0)=false:=ZY
 rw[u,z];exact .ret (.inl ⟨rfl,rfl⟩)
def aI1 {l:List AX} (h:Pm l):N8 l (JM l):=zW h.len h.small _ _ fun y f=>absurd f G7
def amm (l:List AX):(JM l).map (·.id)=Py l:=by
 have :=aNR l (Py l) [] fun x f=>aN2.1 f;simpa[JM,MO]using this
def apt {l:List AX} {x:Int} (h:dX l x=true):∃y,Ig (JM l) x=some y:=by
 cases f:Ig (JM l) x with
 |some y=>exact⟨y,rfl⟩
 |none=>rw[aRW,amm]at f;exact absurd (aN2.2 h) f
def V9 (t:List FC) (x:Int):Bool:=match Ig t x with
 |some y=>y.err==0
 |none=>false
def MR (l:List AX) (t:List FC):List Int:=(l.filter fun e=>V9 t e.Id).map (·.Id)
def MB (l:List AX) (t:List FC):List BH:=qY l ((Uj l (MR l t)).map (PU t))
def zJ (l:List AX) (t:List FC):(MR l t).length≤l.length:=by unfold MR;rw[D8];exact Js _ _
def ahP (l:List AX):MR l []=[]:=by
 unfold MR;rw[aCt.2 fun e _=>by unfold V9 Ig;simp];rfl
def aNJ (l:List AX):MB l []=[]:=by unfold MB;rw[ahP];rfl
def aGR {l:List AX} {t:List FC} {i:Nat} (h:i<l.length):MR (l.take (i+1)) t=MR (l.take i) t++bif V9 t l[i].Id then[l[i].Id]else[]:=by
 unfold MR;rw[aG1 h,Jv];cases V9 t l[i].Id<;>rfl
def aeg {l:List AX} {x:Int} (h:dX l x=true):V9 (JM l) x=(errOf (JM l) x==0):=by
 obtain⟨y,f⟩:=apt h;unfold V9 errOf;rw[f];rfl
def ajx {l:List AX} {f j:List (Int×List BH)} {m:List (Int×Int)} (h:Om (JM l) f j m) (z:l.length≤100):s0 f j m l=some (MR l (JM l)):=by
 unfold s0
 have s:aCo l f j m=some (MR l (JM l)):=by
  unfold aCo abM;refine fE.eq (KC l.length (fuel_lt AA) (fun i a=>a=MR (l.take i) (JM l)) rfl (fun i a k hi ha n=>?_) fun a k ha=>?_)
  ·have u:a.length≤i:=aSs
   unfold aL1 aPA aAm;rw[CZ hi,Aa,h.err,←aeg (aac.2 (GV.2 ⟨_,Eb hi,rfl⟩)),wrap_succ i AA];cases q:V9 (JM l) l[i].Id with
   |true=>
    rw[Ba,CB hi,Aa,Di FZ,Aa];exact n _ (by rw[aGR hi,q,ha];rfl)
   |false=>exact n _ (by rw[aGR hi,q,ha];simp)
  unfold aL1;rw[DZ];exact .ret ZW
 rw[s];rfl
def agI {l:List AX} {c:Int} (q:Uo l=some c) (h:c=0→Pm l):aGf l=some (MB l (JY l c)):=by
 unfold aGf;refine fE.eq ((run_eq l q h).bind fun o f=>?_);rcases f with⟨j,rfl⟩|⟨j,f,T,rfl,n⟩
 ·rw[j,aNJ];exact .ret rfl
 rw[j];have m:=f.len;have ha:=zJ l (JM l);have s:=aN8 l (MR l (JM l));show fE ((s0 T.1 T.2.1 T.2.2 l).bind _) _;rw[ajx n m,Aa,anN l _ m f.small AA,Aa];unfold MB;generalize Uj l (MR l (JM l))=H at s;unfold aaS;refine KC H.length (fuel_lt AA) (fun i a=>a=(H.take i).map (PU (JM l))) rfl (fun i a k hi ha u=>?_) fun a k ha=>?_
 ·have z:a.length≤i:=sO
  unfold aP7;rw[CZ hi,Di FZ,Aa,n.after,wrap_succ i AA];exact u _ aCG
 rw[Gi]at ha;unfold aP7;rw[DZ,ha,aUu ((aI1 f).okay m f.small _ AA),Aa];exact .ret rfl
def aJ5 {l:List AX} {c:Int} (h:c=0→Pm l):JH l (MB l (JY l c)):=by
 unfold JY;cases j:(c==0&&Tv l==0)with
 |false=>rw[BM,aNJ];exact .nil l
 |true=>
  rw[DL]at j;have f:=h (eq_of_beq j.1);have m:=aI1 f;have ha:=zJ l (JM l);have q:=aN8 l (MR l (JM l));have n:=f.len;rw[Ba];exact JH.resolve (m.okay n f.small _ AA) (m.states _)
def KN (x:FC):Hg:=⟨x.id,x.before,x.after,x.err⟩
def TQ (t:List FC) (x:Int):Hg×Bool:=match Ig t x with
 |some y=>(KN y,true)
 |none=>(Ug,false)
def aRH (t:List FC) (x:Int):(TQ t x).1.After=PU t x:=by unfold TQ PU;cases Ig t x<;>rfl
def asf (t:List FC) (x:Int):(TQ t x).1.Err=errOf t x:=by unfold TQ errOf;cases Ig t x<;>rfl
def aF9 (t:List FC) (x:Int) (L:t.length≤1000000):jQ (t.map KN) x=some (TQ t x):=by
 unfold jQ adR;have z:(t.map KN).length=t.length:=D8 ..;refine fE.eq (Xi (body:=aOc (t.map KN) x) (Q:=(· =TQ t x)) (fun n a _=>∃i:Nat,a=i∧i+n=t.length∧∀j,(f:j<i)→(u:j<t.length)→¬(t[j].id==x)=true) ?_ Ap t.length 0 _ (fuel_lt AA) ⟨0,rfl,AA,fun j f=>AA⟩);rintro n a b k ⟨i,rfl,M,m⟩ I;unfold aOc;by_cases hi:i<t.length
 ·have h:i<(t.map KN).length:=AA
  rw[CZ h,CB h,Aa,U5];show fE (bif t[i].id==x then some (KN t[i],true)else k _ b) _;cases s:t[i].id==x with
  |true=>
   have q:Ig t x=some t[i]:=by
    unfold Ig;rw[List.find?_eq_some_iff_getElem];exact⟨s,i,hi,rfl,fun j f=>by have :=m j f AA;simpa using this⟩
   exact .ret (by unfold TQ;rw[q])
  |false=>
   refine I (n-1) _ _ AA ⟨i+1,wrap_succ i AA,AA,fun j f u=>?_⟩;by_cases e:j=i
   ·subst e;rw[s];simp
   exact m j AA u
 have :i=t.length:=AA
 subst this;rw[←z,DT]
 have q:Ig t x=none:=by
  unfold Ig;rw[aAh];intro y J;obtain⟨j,f,rfl⟩:=JJ J;exact m j f f
 exact .ret (by unfold TQ;rw[q])
def aQP (t:List Hg) (x:Int):aGV t x=jQ t x:=rfl
def aqn (l:List AX) (t:List FC) (e:AX) (s:List BH) (n:l.length≤100) (q:E8 l) (m:Fa e) (J:s.length≤100) (S:t.length≤1000):oh l (t.map KN) e s=some (Td l t e s):=by
 have U:=m.auth;have Y:=aBa l s
 have u:∀v,tY e (t.map KN) l s v=some (bif v != 0 then v else bif e.bP.any (fun x=>errOf t x != 0)then 16 else RX e (Po l s)):=fun v=>by
  unfold tY aQY
  refine fE.eq (KC e.bP.length (fuel_lt AA) (fun i a=>a=bif v != 0 then v else bif (e.bP.take i).any (fun x=>errOf t x != 0)then 16 else 0) (by cases h:v != 0 with
   |true=>rfl
   |false=>exact Jc) (fun i a k hi ha z=>?_) fun a k ha=>?_)
  ·unfold aIy aCM;rw[CZ hi,aQP,aF9 _ _ AA,Aa,asf,wrap_succ i AA];have L:(bif a==0 then some (errOf t e.bP[i] != 0)else some false)=some (a==0&&errOf t e.bP[i] != 0):=by cases a==0<;>rfl
   rw[L,Aa]
   have f:∀b:Int,b=(bif a==0&&errOf t e.bP[i] != 0 then 16 else a)→b=bif v != 0 then v else bif (e.bP.take (i+1)).any (fun x=>errOf t x != 0)then 16 else 0:=fun b M=>by
    rw[vw hi,M,ha];cases h:v != 0 with
    |true=>
     have :(v==0)=false:=Jc
     simp only[Ba,this,Bool.false_and,BM]
    |false=>
     simp only[BM];cases(e.bP.take i).any (fun x=>errOf t x != 0)<;>cases errOf t e.bP[i] != 0<;>rfl
   cases I:(a==0&&errOf t e.bP[i] != 0)with
   |true=>exact z _ (f 16 (by rw[I];rfl))
   |false=>exact z _ (f a (by rw[I];rfl))
  unfold aIy;rw[DT,BM,ha,Gi,akB l s n AA,Aa,aOu e (Po l s) AA (aUp q _) m];cases h:v != 0 with
  |true=>simp only[Ba,h];exact .ret rfl
  |false=>
   cases e.bP.any (fun x=>errOf t x != 0)with
   |true=>exact .ret rfl
   |false=>exact .ret rfl
 unfold oh Td zD;rw[ajF l e n m,Aa,aUT l e AA AA,Aa,aOu e _ (Ei (yh l e) AA) (q.from e) m,Aa,u,u];have j:(Sz l e != 0)= !(Sz l e==0):=rfl;rw[j];cases O:Sz l e==0 with
 |true=>rfl
 |false=>rw[IX,Ba,Ba,j,O];rfl
def aOH (l:List AX):∀(ids:List Int) (t:List FC),(ids.foldl (fun t id=>t++[Ut l t (ev l id)]) t).length=t.length+ids.length
 | [],t=>rfl
 |x::ids,t=>by rw[Fb,aOH l ids,ES,GI];simp;omega
def ahI {l:List AX} (h:Pm l):aAi l=some ((JM l).map KN):=by
 have L:=h.len;have u:=h.small;have M:=aKT l;unfold aAi;rw[aqK l AA,Aa];unfold JM;generalize Py l=ids at M;unfold aaN;refine fE.eq (KC ids.length (fuel_lt AA) (fun i a=>a=(MO l (ids.take i)).map KN) rfl (fun i a k hi ha hk=>?_) fun a k ha=>?_)
 ·have O:N8 l (MO l (ids.take i)):=zW L u _ _ fun y S=>absurd S G7
  have U:(MO l (ids.take i)).length≤100:=by
   have :=aOH l (ids.take i) [];unfold MO;rw[this,GH,ML];omega
  have f:=aRc l hi;have he:=aIL u ids[i];have Y:=he.prev;generalize MO l (ids.take i)=t at ha O U f;subst ha;unfold aJD;rw[CZ hi,Ln l _ AA,Aa];have z:(I4 l ids[i]).1=ev l ids[i]:=rfl;unfold aR4;refine Tn (body:=aOl (I4 l ids[i]) l k (i:Int)) (Q:=_) (fun n a b c=>∃j:Nat,b=j∧j+n=(ev l ids[i]).bK.length∧c=t.map KN∧a=((ev l ids[i]).bK.take j).map (PU t)) ?_ Ap (ev l ids[i]).bK.length [] 0 (t.map KN) (fuel_lt AA) ⟨0,rfl,AA,rfl,rfl⟩;rintro n a b c k2 ⟨j,rfl,hn,rfl,ha⟩ Z;unfold aOl;rw[z];by_cases hj:j<(ev l ids[i]).bK.length
  ·have hal:a.length≤j:=sO
   rw[CZ hj,aQP,aF9 _ _ AA,Aa,aRH,Di FZ,Aa,wrap_succ j AA];exact Z (n-1) _ _ _ AA ⟨j+1,rfl,AA,rfl,by rw[map_take hj,ha]⟩
  have :j=(ev l ids[i]).bK.length:=AA
  subst this;rw[Gi]at ha;subst ha;rw[DT,BM];have hp:=O.stB L u Y;have I:=hp.length
  have hJ:fE (yc l (I4 l ids[i]) k (i:Int) (t.map KN) ⟨(ev l ids[i]).Id,stB l t (ev l ids[i]),[],0⟩) (fun x=>x=(MO l ids).map KN):=by
   unfold yc;rw[z];show fE ((oh l (t.map KN) (ev l ids[i]) (stB l t (ev l ids[i]))).bind _) _;rw[aqn l t (ev l ids[i]) _ L u he AA AA,Aa];have m:Ut l t (ev l ids[i])=aG (ev l ids[i]) (stB l t (ev l ids[i])) (Td l t (ev l ids[i]) (stB l t (ev l ids[i]))):=rfl;rw[m]at f;generalize Td l t (ev l ids[i]) (stB l t (ev l ids[i]))=r at f;generalize stB l t (ev l ids[i])=s at f I
   have J:∀y:FC,y=aG (ev l ids[i]) s r→fE (qM k (i:Int) (t.map KN) (KN y)) (fun x=>x=(MO l ids).map KN):=fun y S=>by
    unfold qM;rw[Di (by simp only[Ou,D8];omega),Aa,wrap_succ i AA];exact hk _ (by rw[f,S,Jv];rfl)
   show fE ((bif r==0 then(SK (ev l ids[i]).Kind).bind fun q=>some q else some false).bind _) _;rw[aAz,show(bif r==0 then(some (IK (ev l ids[i]).Kind)).bind fun q=>some q else some false)=some (r==0&&IK (ev l ids[i]).Kind) by cases r==0<;>rfl,Aa];cases hc:(r==0&&IK (ev l ids[i]).Kind)with
   |true=>
    rw[Ba];show fE ((Z4 s (ev l ids[i]).Kind (ev l ids[i]).Key (ev l ids[i]).Id).bind _) _;rw[aIc _ _ _ _ AA,Aa];exact J ⟨(ev l ids[i]).Id,s,FY s (ev l ids[i]).Kind (ev l ids[i]).Key (ev l ids[i]).Id,r⟩ (by unfold aG;rw[hc];rfl)
   |false=>
    rw[BM];exact J ⟨(ev l ids[i]).Id,s,s,r⟩ (by unfold aG;rw[hc];rfl)
  by_cases hz:(ev l ids[i]).bK=[]
  ·have hst:stB l t (ev l ids[i])=[]:=by unfold stB;rw[hz];rfl
   rw[hst]at hJ;rw[hz];exact hJ
  have hpos:0<(ev l ids[i]).bK.length:=l9.2 hz;rw[Ht YT,Ba,ac7 (O.okay L u _ AA),Aa];exact hJ
 unfold aJD;rw[DT];exact .ret ZW
def akp (l:List AX) (t:List FC) (n:l.length≤1000) (q:t.length≤1000):aDB l (t.map KN)=some (MR l t):=by
 unfold aDB aSU;refine fE.eq (KC l.length (fuel_lt AA) (fun i a=>a=MR (l.take i) t) rfl (fun i a k hi ha h=>?_) fun a k ha=>?_)
 ·have m:a.length≤i:=aSs
  unfold aIA aFc;have f:(bif (TQ t l[i].Id).2 then some ((TQ t l[i].Id).1.Err==0)else some false)=some (V9 t l[i].Id):=by unfold TQ V9;cases Ig t l[i].Id<;>rfl
  rw[CZ hi,aF9 _ _ AA,Aa,f,Aa,wrap_succ i AA];cases j:V9 t l[i].Id with
  |true=>
   rw[Ba,CB hi,Aa,Di FZ,Aa];exact h _ (by rw[aGR hi,j,ha];rfl)
  |false=>exact h _ (by rw[aGR hi,j,ha];simp)
 unfold aIA;rw[DT];exact .ret ZW
def amY (l:List AX) (t:List FC) (j:l.length≤100) (h:E8 l) (m:N8 l t) (f:t.length≤1000):aC8 l (t.map KN)=some (MB l t):=by
 have ha:=zJ l t;have n:=aN8 l (MR l t);unfold aC8 aJq MB;rw[akp l t AA f,Aa,atO l _ AA h AA,Aa,Aa];generalize Uj l (MR l t)=H at n;unfold ab7;refine fE.eq (KC H.length (fuel_lt AA) (fun i a=>a=(H.take i).map (PU t)) rfl (fun i a k hi ha q=>?_) fun a k ha=>?_)
 ·have s:a.length≤i:=sO
  unfold aHm;rw[CZ hi,aF9 _ _ AA,Aa,aRH,Di FZ,Aa,wrap_succ i AA];exact q _ aCG
 rw[Gi]at ha;unfold aHm;rw[DT,BM,ha,ac7 (m.okay j h _ AA),Aa];cases H with
 |nil=>exact .ret rfl
 |cons x H=>exact .ret rfl
def anB {l:List AX} {c:Int} (m:Yi l=some c) (h:c=0→Pm l):aCk l=some ((JY l c).map KN)∧N8 l (JY l c)∧(JY l c).length≤l.length:=by
 unfold aCk aOU JY;rw[m,Aa];cases n:c==0 with
 |false=>exact⟨rfl,fun y j=>absurd j G7,Eh _⟩
 |true=>
  have f:=h (eq_of_beq n);have hlen:(JM l).length=l.length:=by rw[←aKT l];have :=aOH l (Py l) [];simpa[JM,MO]using this
  rw[Ba,alq l f.len f.small f.dep,Aa,Aa,Aa,FX];cases hd:Tv l==0 with
  |false=>exact⟨rfl,fun y j=>absurd j G7,Eh _⟩
  |true=>
   rw[EM,BM,ahI f,Aa,Ba];exact⟨rfl,aI1 f,kV hlen⟩
def aou {l:List AX} {c:Int} (f:Yi l=some c) (h:c=0→Pm l) (j:l.length≤100) (m:E8 l):aFt l=some (MB l (JY l c)):=by
 obtain⟨n,q,s⟩:=anB f h;unfold aFt;rw[n,Aa,amY l _ j m q AA];rfl
end Go.Proofs.YtolgdkhlelfpoaaGreat
end
section
namespace Go.Proofs.YtolgdkhlelfpoaaGreat
def SV (n:Int):Int:=if n<0 then bits .xor .u64 IntKind.u64.max (IntKind.u64.wrap (IntKind.u64.wrap n*2))else IntKind.u64.wrap (IntKind.u64.wrap n*2)
def qZ (n:Int):0≤SV n∧SV n<18446744073709551616:=by
 unfold SV;have f:∀x:Int,0≤IntKind.u64.wrap x∧IntKind.u64.wrap x<18446744073709551616:=fun x=>by rw[jI];omega
 split
 ·obtain⟨h,m⟩:=f (IntKind.u64.wrap n*2);generalize IntKind.u64.wrap (IntKind.u64.wrap n*2)=y at *;obtain⟨k,rfl⟩:=Int.eq_ofNat_of_zero_le h;have :(IntKind.u64.max:Int)=((18446744073709551615:Nat):Int):=BQ
  rw[this,bits_xor_u64_nat _ _ AA AA];have :18446744073709551615^^^k<2^64:=Nat.xor_lt_two_pow AA AA;constructor
  ·exact aKL _
  have j:(2:Nat)^64=18446744073709551616:=BQ
  omega
 exact f _
def O8 (u:Nat):List Int:=if u<128 then[(u:Int)]else((u % 128+128:Nat):Int)::O8 (u/128)
termination_by u
decreasing_by omega
def eA {u:Nat} (h:u<128):O8 u=[(u:Int)]:=by rw[O8,D9 h]
def aKb {u:Nat} (h:¬u<128):O8 u=((u % 128+128:Nat):Int)::O8 (u/128):=by rw[O8,DN h]
def aSi :∀(j u:Nat),u<128^(j+1)→(O8 u).length≤j+1
 |0,u,h=>by rw[eA Jc];simp
 |j+1,u,h=>by
  by_cases f:u<128
  ·rw[eA f];simp
  rw[aKb f]
  have :u/128<128^(j+1):=by
   rw[Nat.div_lt_iff_lt_mul AA];rw[Nat.pow_succ]at h;exact h
  have :=aSi j (u/128) this;simp;omega
def enc (n:Int):List Int:=O8 (SV n).toNat
def Oq (n:Int):(enc n).length≤10:=by
 have h:=(qZ n).2;refine aSi 9 _ ?_;have :(128:Nat)^10=1180591620717411303424:=BQ
 rw[this];have :=(qZ n).1;omega
def amU (k:Nat):bits .or .u8 ((k:Int) % 256) 128=((k % 128+128:Nat):Int):=by
 have h:=u8_or_nat (k % 256) 128 AA AA;rw[show((k:Int) % 256)=((k % 256:Nat):Int)from by omega];have f:(128:Int)=((128:Nat):Int):=rfl;rw[f,h];congr 1;have key:∀x,x<256→x|||128=x % 128+128:=Nv
 rw[key _ AA];omega
def yV (u c:Int):Int:=(IntKind.u64.wrap (bits .xor .u64 u (IntKind.u64.wrap c)*1099511628211)).tmod 4611686018427387904
def aS0 (x:Int):bits .and .u64 (IntKind.u64.wrap x) 4611686018427387903=(IntKind.u64.wrap x).tmod 4611686018427387904:=by
 rw[jI];have h:=bits_mask .u64 64 BQ (fun n j m=>by rw[jI];omega) 62 BQ (x % 18446744073709551616) AA AA;have e:((2:Int)^62-1)=4611686018427387903:=BQ
 have f:((2:Int)^62)=4611686018427387904:=BQ
 rw[aSq AA];simpa[e,f]using h
def ah4 (u c:Int):bits .and .u64 (IntKind.u64.wrap (bits .xor .u64 u (IntKind.u64.wrap c)*1099511628211)) 4611686018427387903=yV u c:=aS0 _
def Res (op:BinOp) (k:IntKind) (x y:Int) (h:op=.and∨op=.or∨op=.xor):EX op k x y=bits op k x y:=by
 rcases h with rfl|rfl|rfl<;>rfl
def NJ {α:Type} {b:Nat} {l m:List α} (f:b≤100) (h:(l++m).length≤1099511627776):CY b l m=some (l++m):=by
 refine Di ?_;rw[ES]at h;have :(l.length+m.length)*b≤1099511627776*100:=aH5 h f;omega
def arB (u:Nat):EX .or .u8 (IntKind.u8.wrap (u:Int)) 128=((u % 128+128:Nat):Int):=by
 rw[Res _ _ _ _ (.inr (.inl rfl)),show IntKind.u8.wrap (u:Int)=(u:Int) % 256 from by rw[jJ],amU]
def aj8 (u:Nat):OQ .shr .u64 (u:Int) 7=some ((u/128:Nat):Int):=by
 unfold OQ;rw[DN AA];show some ((u:Int).fdiv (2^7))=_;rw[abw _ BQ];congr 1
def adB {u n:Nat} (h:u<128^(n+1+1)):u/128<128^(n+1):=by
 rw[Nat.div_lt_iff_lt_mul AA];rw[Nat.pow_succ]at h;exact h
def apO :∀(n u:Nat),u<128^(n+1)→∀m b,n<m→(b++O8 u).length≤1099511627776→aS WI m b (u:Int)=some (b++O8 u):=by
 intro n
 induction n with
 |zero=>
  intro u j m b z f;obtain⟨m,rfl⟩:∃q,m=q+1:=⟨m-1,AA⟩
  have h:u<128:=Oh
  rw[eA h]at f ⊢;show WI (aS WI m) b (u:Int)=_;simp only[WI,show decide ((u:Int)≥128)=false from by simp;omega,BM];rw[show IntKind.u8.wrap (u:Int)=(u:Int)from by rw[jJ];omega,NJ AA f];rfl
 |succ n I=>
  intro u j m b z f;obtain⟨m,rfl⟩:∃q,m=q+1:=⟨m-1,AA⟩
  show WI (aS WI m) b (u:Int)=_;by_cases h:u<128
  ·rw[eA h]at f ⊢;simp only[WI,show decide ((u:Int)≥128)=false from by simp;omega,BM];rw[show IntKind.u8.wrap (u:Int)=(u:Int)from by rw[jJ];omega,NJ AA f];rfl
  rw[aKb h]at f ⊢;have e:(b++((u % 128+128:Nat):Int)::O8 (u/128))=(b++[((u % 128+128:Nat):Int)])++O8 (u/128):=BP
  have s:(b++[((u % 128+128:Nat):Int)]).length≤1099511627776:=by simp only[ES,GI,ML]at f ⊢;omega
  simp only[WI,show decide ((u:Int)≥128)=true from by simp;omega,Ba,arB,NJ (show 1≤100 by omega) s,aj8,Aa];rw[e];exact I (u/128) (adB j) m _ AA (by rw[←e];exact f)
def agN :∀(n u:Nat),u<128^(n+1)→u<18446744073709551616→∀m b,n<m→(b++O8 u).length≤1099511627776→aS WO m (u:Int) b=some (b++O8 u):=by
 intro n
 induction n with
 |zero=>
  intro u j _ m b z f;obtain⟨m,rfl⟩:∃q,m=q+1:=⟨m-1,AA⟩
  have h:u<128:=Oh
  rw[eA h]at f ⊢;show WO (aS WO m) (u:Int) b=_;simp only[WO,show decide ((u:Int)≥128)=false from by simp;omega,BM];rw[show IntKind.u8.wrap (u:Int)=(u:Int)from by rw[jJ];omega,NJ AA f];rfl
 |succ n I=>
  intro u j J m b z f;obtain⟨m,rfl⟩:∃q,m=q+1:=⟨m-1,AA⟩
  show WO (aS WO m) (u:Int) b=_;by_cases h:u<128
  ·rw[eA h]at f ⊢;simp only[WO,show decide ((u:Int)≥128)=false from by simp;omega,BM];rw[show IntKind.u8.wrap (u:Int)=(u:Int)from by rw[jJ];omega,NJ AA f];rfl
  rw[aKb h]at f ⊢;have e:(b++((u % 128+128:Nat):Int)::O8 (u/128))=(b++[((u % 128+128:Nat):Int)])++O8 (u/128):=BP
  have s:(b++[((u % 128+128:Nat):Int)]).length≤1099511627776:=by simp only[ES,GI,ML]at f ⊢;omega
  have L:Vh (u:Int) 128=some ((u % 128:Nat):Int):=by unfold Vh;rw[DN AA,aSq AA];congr 1
  have M:ou .u64 (u:Int) 128=some ((u/128:Nat):Int):=by
   unfold ou;rw[DN AA,Int.tdiv_eq_ediv_of_nonneg AA];congr 1;rw[jI];omega
  have O:IntKind.u8.wrap (IntKind.u64.wrap (((u % 128:Nat):Int)+128))=((u % 128+128:Nat):Int):=by rw[jI,jJ];omega
  simp only[WO,show decide ((u:Int)≥128)=true from by simp;omega,Ba,L,O,M,NJ (show 1≤100 by omega) s,Aa];rw[e];exact I (u/128) (adB j) AA m _ AA (by rw[←e];exact f)
def aSX (x:Int):OQ .shl .u64 x 1=some (IntKind.u64.wrap (x*2)):=rfl
def abH (x:Int):Zh .u64 x=bits .xor .u64 IntKind.u64.max x:=rfl
def aR5 (n:Int):(SV n).toNat<128^(9+1):=by
 have f:=qZ n;have :(128:Nat)^(9+1)=1180591620717411303424:=BQ
 rw[this];omega
def abg :9<Ap:=dn
def number_eq {b:List Int} {n:Int} (h:(b++enc n).length≤1099511627776):Xa b n=some (b++enc n):=by
 have m:=qZ n
 have f:aTo b (SV n)=some (b++enc n):=by
  have :=apO 9 (SV n).toNat (aR5 n) Ap b abg h
  rwa [Int.toNat_of_nonneg m.1]at this
 unfold Xa;rw[aSX,Aa];unfold aFg;unfold SV at f;by_cases j:n<0
 ·rw[D9 j]at f;rw[show decide (n<0)=true by simpa using j,Ba,abH];exact f
 rw[DN j]at f;rw[show decide (n<0)=false by simpa using j,BM];exact f
def anJ (n:Int):([]++enc n).length≤1099511627776:=by have :=Oq n;simp only[Hu];omega
def aRA (n:Int):wF n=some (enc n):=by
 have j:=qZ n
 have f:aSh (SV n) []=some (enc n):=by
  have :=agN 9 (SV n).toNat (aR5 n) AA Ap [] abg (anJ n)
  rwa [Int.toNat_of_nonneg j.1]at this
 unfold wF;rw[aSX,Aa];unfold aFy;unfold SV at f;by_cases h:n<0
 ·rw[D9 h]at f;rw[show decide (n<0)=true by simpa using h,Ba,abH];exact f
 rw[DN h]at f;rw[show decide (n<0)=false by simpa using h,BM];exact f
def vI {b:List Int} {m:Nat} (h:b.length+m≤1099511627776):XF b (m:Int)=some b:=by
 unfold XF;rw[OI AA AA];unfold JR;rw[D9 ⟨AA,AA,AA⟩];simp[gCopy]
def aEF {a b:List Int} (h:(a++b).length≤1099511627776):a.length≤1099511627776:=by rw[ES]at h;omega
def Jd (s:ByteArray):List Int:=enc s.size++Bq s
def text_eq {b:List Int} {s:ByteArray} (h:(b++Jd s).length≤1099511627776):yB b s=some (b++Jd s):=by
 unfold Jd at h ⊢;rw[←J7]at h ⊢;unfold yB;rw[number_eq (aEF h),Aa,NJ AA h];rfl
def rM {b:List Int} {n:Int} (h:b.length+10≤1099511627776):NR b n=some (b++enc n):=by
 have :=Oq n;unfold NR;rw[show(10:Int)=((10:Nat):Int)from rfl,vI AA,Aa,number_eq KT];rfl
def XT {b:List Int} {n:Int} (h:b.length+10≤1099511627776):Kq b n=some (b++enc n):=by
 have :=Oq n;unfold Kq;rw[NJ AA aBb,Aa,aRA,Aa,Hu,NJ AA KT];rfl
def mY (s:ByteArray):(Jd s).length≤s.size+10:=by
 have :=Oq s.size;unfold Jd;rw[ES,H7];omega
def apU {b:List Int} {s:ByteArray} (h:b.length+s.size+10≤1099511627776):Rh b s=some (b++Jd s):=by
 have :=mY s;unfold Rh;rw[OI AA AA,show(s.size:Int)+10=((s.size+10:Nat):Int) by omega,vI AA,Aa,text_eq KT];rfl
def aUL {b:List Int} {s:ByteArray} (h:b.length+s.size+10≤1099511627776):QL b s=some (b++Jd s):=by
 have :=mY s;unfold QL;rw[XT AA,Aa,NJ AA (by unfold Jd at this;rw[ES]at this;rw[ES,ES];omega)];simp[Jd]
def aqV {b:List Int} {f:Bool} (h:b.length+10≤1099511627776):XE b f=some (b++[bif f then 1 else 0]):=by
 unfold XE;rw[show(1:Int)=((1:Nat):Int)from rfl,vI AA,Aa];cases f<;>simp only[Ba,BM]<;>rw[NJ AA aIR]<;>rfl
def amb {b:List Int} {f:Bool} (h:b.length+10≤1099511627776):jy b f=some (b++[bif f then 1 else 0]):=by
 unfold jy;rw[NJ AA aBb,Aa,Hu];cases f<;>simp only[Ba,BM]<;>rw[NJ AA aIR]<;>rfl
def aN5 {α:Type} {body:(List Int→Int→Option (List Int))→List Int→Int→Option (List Int)} (l:List α) (s:l.length<Ap) (g:α→List Int)
 (u:∀k b (i:Nat) (h:i<l.length),(b++g l[i]).length≤1099511627776→body k b (i:Int)=k (b++g l[i]) (Aw ((i:Int)+1))) (z:∀k b,body k b (l.length:Int)=some b) (b:List Int) (f:(b++l.flatMap g).length≤1099511627776):
 aS body Ap b 0=some (b++l.flatMap g):=by
 have L:Ap=9223372036854775808:=rfl
 have key:∀n (i:Nat) b,i+n=l.length→(b++(l.drop i).flatMap g).length≤1099511627776→∀m,n<m→aS body m b (i:Int)=some (b++(l.drop i).flatMap g):=by
  intro n
  induction n with
  |zero=>
   intro i b hi f m I;obtain⟨m,rfl⟩:∃q,m=q+1:=⟨m-1,AA⟩
   have :i=l.length:=AA
   subst this;show body (aS body m) _ _=_;rw[z,Oe];simp
  |succ n J=>
   intro i b hi f m I;obtain⟨m,rfl⟩:∃q,m=q+1:=⟨m-1,AA⟩
   have j:i<l.length:=AA
   rw[LY j,Oi,←J7]at f ⊢;show body (aS body m) _ _=_;rw[u _ _ i j (aEF f),wrap_succ i AA];exact J (i+1) _ AA f m AA
 exact key l.length 0 b AA f Ap s
def Pe (l:List Int):List Int:=enc l.length++l.flatMap enc
def Oy (l:List ByteArray):List Int:=enc l.length++l.flatMap Jd
def aiu {b:List Int} {l:List Int} (h:(b++Pe l).length≤1099511627776) (j:l.length≤1000):aCR b l=some (b++Pe l):=by
 have m:Ap=9223372036854775808:=rfl;unfold Pe at h ⊢;rw[←J7]at h ⊢;unfold aCR;rw[number_eq (aEF h),Aa];unfold aT2;refine aN5 l AA enc (fun k b i hi f=>?_) (fun k b=>?_) _ h
 ·simp only[aIn,dec_lt hi,Ba,CB hi,number_eq f,Aa]
 simp only[aIn,DT,BM]
def an6 {b:List Int} {l:List ByteArray} (h:(b++Oy l).length≤1099511627776) (j:l.length≤1000):aAE b l=some (b++Oy l):=by
 have m:Ap=9223372036854775808:=rfl;unfold Oy at h ⊢;rw[←J7]at h ⊢;unfold aAE;rw[number_eq (aEF h),Aa];unfold aSz;refine aN5 l AA Jd (fun k b i hi f=>?_) (fun k b=>?_) _ h
 ·simp only[aKP,dec_lt hi,Ba,CB hi,text_eq f,Aa]
 simp only[aKP,DT,BM]
def aDs {α:Type} {g:α→List Int} {m:Nat}:∀{l:List α},(∀x∈l,(g x).length≤m)→(l.flatMap g).length≤l.length*m
 | [],_=>BP
 |x::l,h=>by
  rw[Oi,ES,GI,Ud];have :=h x Hy;have :=aDs (l:=l) (fun y f=>h y (IY _ f));omega
def aKM (l:List Int):(Pe l).length≤l.length*10+10:=by
 have f:=Oq l.length;have h:=aDs (g:=enc) (m:=10) (l:=l) (fun x _=>Oq x);unfold Pe;rw[ES];omega
def aHM {l:List ByteArray} {m:Nat} (h:∀s∈l,s.size≤m):(Oy l).length≤l.length*(m+10)+10:=by
 have j:=Oq l.length;have n:=aDs (g:=Jd) (m:=m+10) (l:=l) (fun s f=>by have :=mY s;have :=h s f;omega);unfold Oy;rw[ES];omega
def arl {b:List Int} {l:List Int} (h:b.length+20000≤1099511627776) (f:l.length≤1000):Xb b l=some (b++Pe l):=by
 have j:=aKM l;unfold Xb;rw[OI (x:=2*(l.length:Int)) AA AA,OI AA AA,show 2*(l.length:Int)+10=((2*l.length+10:Nat):Int) by omega,vI AA,Aa,aiu KT f];rfl
def atc {b:List Int} {l:List Int} (j:b.length+20000≤1099511627776) (m:l.length≤1000):gG b l=some (b++Pe l):=by
 have n:Ap=9223372036854775808:=rfl;have q:=aKM l;have h:(b++Pe l).length≤1099511627776:=KT
 unfold Pe at h ⊢;rw[←J7]at h ⊢;unfold gG;rw[XT AA,Aa];unfold aU7;refine aN5 l AA enc (fun k b i hi f=>?_) (fun k b=>?_) _ h
 ·simp only[aHR,dec_lt hi,Ba,CB hi,aRA,NJ (show 1≤100 by omega) f,Aa]
 simp only[aHR,DT,BM]
def afC {b:List Int} {l:List ByteArray} (j:b.length+3000000≤1099511627776) (f:l.length≤1000) (h:∀s∈l,s.size≤2000):lZ b l=some (b++Oy l):=by
 have m:=aHM h;unfold lZ;rw[OI (x:=8*(l.length:Int)) AA AA,OI AA AA,show 8*(l.length:Int)+10=((8*l.length+10:Nat):Int) by omega,vI AA,Aa,an6 KT f];rfl
def aqb {b:List Int} {l:List ByteArray} (J:b.length+3000000≤1099511627776) (L:l.length≤1000) (q:∀s∈l,s.size≤2000):kM b l=some (b++Oy l):=by
 have M:Ap=9223372036854775808:=rfl;have O:=aHM q;have h:(b++Oy l).length≤1099511627776:=KT
 have key:∀n (i:Nat) b,i+n=l.length→b.length+(n*2020)≤1099511620000→∀m,n<m→aS (Xm l) m b (i:Int)=some (b++(l.drop i).flatMap Jd):=by
  intro n
  induction n with
  |zero=>
   intro i b hi u m z;obtain⟨m,rfl⟩:∃j,m=j+1:=⟨m-1,AA⟩
   have :i=l.length:=AA
   subst this;show Xm l (aS (Xm l) m) _ _=_;simp only[Xm,DT,BM,Oe];simp
  |succ n I=>
   intro i b hi u m z;obtain⟨m,rfl⟩:∃j,m=j+1:=⟨m-1,AA⟩
   have f:i<l.length:=AA
   have S:=q l[i] (Eb f);have U:=mY l[i];rw[LY f,Oi,←J7];show Xm l (aS (Xm l) m) _ _=_;simp only[Xm,dec_lt f,Ba,CB f,Aa];rw[aUL AA,Aa,wrap_succ i AA];exact I (i+1) _ AA KT m AA
 unfold Oy;rw[←J7];unfold kM;rw[XT AA,Aa];unfold ac2;have :=key l.length 0 (b++enc l.length) AA (by have :=Oq l.length;rw[ES];omega) Ap AA;exact this
structure Qj (c:CU):Prop where
 allow:c.Allow.length≤100
 deny:c.gY.length≤100
 users:c.Levels.Users.length≤100
 kinds:c.Levels.Kinds.length≤100
 text:c.Text.size≤2000
 via:c.Via.size≤2000
 allows:∀x∈c.Allow,x.size≤2000
 denies:∀x∈c.gY,x.size≤2000
 names:∀x∈c.Levels.Users,x.User.size≤2000
def Fa.content {e:AX} (h:Fa e):Qj e.Content:=⟨h.allow,h.deny,h.users,h.kinds,h.text,h.via,h.allows,h.denies,h.names⟩
section
variable {b : List Int} {k : Nat}
def SI (h:b.length≤k) (f:k≤1000000000) (n:Int):NR b n=some (b++enc n)∧Kq b n=some (b++enc n)∧(b++enc n).length≤k+10:=by
 have :=Oq n;exact⟨rM AA,XT AA,KT⟩
def aae (h:b.length≤k) (j:k≤1000000000) (f:Bool):XE b f=some (b++[bif f then 1 else 0])∧jy b f=some (b++[bif f then 1 else 0])∧(b++[bif f then(1:Int)else 0]).length≤k+10:=
 ⟨aqV AA,amb AA,aIR⟩
def WZ (h:b.length≤k) (f:k≤1000000000) {s:ByteArray} (m:Nat) (j:s.size≤m) (n:m≤1000000000):Rh b s=some (b++Jd s)∧QL b s=some (b++Jd s)∧(b++Jd s).length≤k+m+10:=by
 have :=mY s;exact⟨apU AA,aUL AA,KT⟩
def aU3 (h:b.length≤k) (f:k≤1000000000) {l:List Int} (j:l.length≤100):Xb b l=some (b++Pe l)∧gG b l=some (b++Pe l)∧(b++Pe l).length≤k+1010:=by
 have :=aKM l;exact⟨arl AA AA,atc AA AA,KT⟩
def aS8 (h:b.length≤k) (j:k≤1000000000) {l:List ByteArray} (m:l.length≤100) (f:∀s∈l,s.size≤2000):lZ b l=some (b++Oy l)∧kM b l=some (b++Oy l)∧(b++Oy l).length≤k+201010:=by
 have :=aHM f;exact⟨afC AA AA f,aqb AA AA f,KT⟩
end
def Rw (u:Gw):List Int:=Jd u.User++enc u.N
def RV (u:Iz):List Int:=enc u.Kind++enc u.N
def Jb (l:CG):List Int:=[l.User,l.Message,l.State,l.gK,l.jV,l.mW,l.gZ]
def aeU (b:List Int) (l:CG):List Int:=b++enc l.Users.length++l.Users.flatMap Rw++enc l.Kinds.length++l.Kinds.flatMap RV++(Jb l).flatMap enc
def jX (c:CU):List Int:=aeU ([]++Jd c.Text++enc c.N++enc c.Target++[bif c.Thread then 1 else 0]++Jd c.Via++Oy c.Allow++Oy c.gY) c.Levels
def ahf {u:Gw} (h:u.User.size≤2000):(Rw u).length≤2020:=by
 have :=mY u.User;have :=Oq u.N;unfold Rw;rw[ES];omega
def aSf (u:Iz):(RV u).length≤20:=by
 have :=Oq u.Kind;have :=Oq u.N;unfold RV;rw[ES];omega
def fK {R α:Type} {body:(List Int→Int→Option R)→List Int→Int→Option R} (l:List α) (u:l.length≤1000) (g:α→List Int) (m:Nat) (j:∀x∈l,(g x).length≤m) (f:List Int→Option R) (b:List Int)
 (n:∀k a (i:Nat) (h:i<l.length),a.length≤b.length+i*m→body k a (i:Int)=k (a++g l[i]) (Aw ((i:Int)+1)))
 (q:∀k a,a.length≤b.length+l.length*m→body k a (l.length:Int)=f a):aS body Ap b 0=f (b++l.flatMap g)∧(b++l.flatMap g).length≤b.length+l.length*m:=by
 constructor
 ·rw[Gs l AA (fun a x=>a++g x) (fun i a=>a.length≤b.length+i*m) f AA (fun k a i h s=>⟨?_,n k a i h s⟩) q,foldl_append g];have :=j l[i] (Eb h);rw[ES,Ud];omega
 have :=aDs j;rw[ES];omega
def agi (c:CU) (b:List Int) (s:b.length≤900000):(aHT c b 0=some (b++(Jb c.Levels).flatMap enc)∧aLa (Jb c.Levels) b 0=some (b++(Jb c.Levels).flatMap enc))∧(b++(Jb c.Levels).flatMap enc).length≤b.length+70:=by
 have m:∀i:Nat,(h:i<(Jb c.Levels).length)→Aj ([c.Levels.User,c.Levels.Message,c.Levels.State,c.Levels.gK,c.Levels.jV,c.Levels.mW,c.Levels.gZ]:List Int) (i:Int)=some (Jb c.Levels)[i]:=fun i h=>CB h
 have j:=fK (body:=aJZ c) (Jb c.Levels) (by simp[Jb]) enc 10 (fun x _=>Oq x) some b (fun k a i h f=>by
  have n:i<7:=h;unfold aJZ
  rw[Ht (show(i:Int)<7 by omega),Ba,m i h,Aa,rM AA,Aa]) fun k a f=>rfl
 have q:=fK (body:=aCA (Jb c.Levels)) (Jb c.Levels) (by simp[Jb]) enc 10 (fun x _=>Oq x) some b (fun k a i h f=>by
  have n:i<7:=h;unfold aCA
  rw[CZ h,XT AA,Aa]) fun k a f=>by unfold aCA;rw[DT];rfl
 exact⟨⟨j.1,q.1⟩,j.2⟩
def ahn (c:CU) (b:List Int) (u:b.length≤800000) (z:c.Levels.Kinds.length≤100):(aMB c b 0=some (b++c.Levels.Kinds.flatMap RV++(Jb c.Levels).flatMap enc)∧aOS c b 0=some (b++c.Levels.Kinds.flatMap RV++(Jb c.Levels).flatMap enc))∧(b++c.Levels.Kinds.flatMap RV++(Jb c.Levels).flatMap enc).length≤b.length+2070:=by
 have m:=fK (body:=zy c) c.Levels.Kinds AA RV 20 (fun x _=>aSf x) (fun a=>aHT c a 0) b (fun k a i h f=>by
  obtain⟨j,_,q⟩:=SI (b:=a) (k:=900000) AA AA c.Levels.Kinds[i].Kind;unfold zy
  rw[CZ h,j,Aa,rM AA,Aa,J7];rfl) fun k a f=>by unfold zy;rw[DT];rfl
 have s:=fK (body:=aAU c) c.Levels.Kinds AA RV 20 (fun x _=>aSf x) (fun a=>aLa (Jb c.Levels) a 0) b (fun k a i h f=>by
  obtain⟨_,j,q⟩:=SI (b:=a) (k:=900000) AA AA c.Levels.Kinds[i].Kind;unfold aAU
  rw[CZ h,j,Aa,CB h,Aa,XT AA,Aa,J7];rfl) fun k a f=>by unfold aAU aMp;rw[DT,BM,Aa];rfl
 have I:=m.2;have n:=agi c (b++c.Levels.Kinds.flatMap RV) AA;exact⟨⟨m.1.trans n.1.1,s.1.trans n.1.2⟩,AA⟩
def ahi (c:CU) (b:List Int) (S:b.length≤500000) (f:Qj c):(aQa c b 0=some (b++c.Levels.Users.flatMap Rw++enc c.Levels.Kinds.length++c.Levels.Kinds.flatMap RV++(Jb c.Levels).flatMap enc)∧acz c b 0=some (b++c.Levels.Users.flatMap Rw++enc c.Levels.Kinds.length++c.Levels.Kinds.flatMap RV++(Jb c.Levels).flatMap enc))∧(b++c.Levels.Users.flatMap Rw++enc c.Levels.Kinds.length++c.Levels.Kinds.flatMap RV++(Jb c.Levels).flatMap enc).length≤b.length+204080:=by
 have U:=f.users;have u:∀x∈c.Levels.Users,(Rw x).length≤2020:=fun x I=>ahf (f.names x I)
 have z:=fK (body:=aFl c) c.Levels.Users AA Rw 2020 u (fun a=>aMB c (a++enc c.Levels.Kinds.length) 0) b (fun k a i h j=>by
  have m:=f.names _ (Eb h);obtain⟨n,_,J⟩:=WZ (b:=a) (k:=900000) AA AA (s:=c.Levels.Users[i].User) 2000 m AA;unfold aFl
  rw[CZ h,n,Aa,rM AA,Aa,J7];rfl) fun k a j=>by unfold aFl;rw[DT,BM,rM AA,Aa]
 have L:=fK (body:=aAd c) c.Levels.Users AA Rw 2020 u (fun a=>aOS c (a++enc c.Levels.Kinds.length) 0) b (fun k a i h j=>by
  have m:=f.names _ (Eb h);obtain⟨_,n,J⟩:=WZ (b:=a) (k:=900000) AA AA (s:=c.Levels.Users[i].User) 2000 m AA;unfold aAd
  rw[CZ h,n,Aa,CB h,Aa,XT AA,Aa,J7];rfl) fun k a j=>by unfold aAd;rw[DT,BM,XT AA,Aa]
 have Y:=z.2;have Z:=Oq (c.Levels.Kinds.length:Int);have M:(b++c.Levels.Users.flatMap Rw++enc c.Levels.Kinds.length).length=(b++c.Levels.Users.flatMap Rw).length+(enc c.Levels.Kinds.length).length:=ES ..;have q:=ahn c (b++c.Levels.Users.flatMap Rw++enc c.Levels.Kinds.length) AA f.kinds;have O:=q.2;rw[M]at O;exact⟨⟨z.1.trans q.1.1,L.1.trans q.1.2⟩,AA⟩
def acL {c:CU} (f:Qj c):sV c=some (jX c)∧ug c=some (jX c)∧(jX c).length≤700000:=by
 obtain⟨h,j,m⟩:=WZ (b:=[]) (k:=0) (EG _) AA 2000 f.text AA;obtain⟨n,q,s⟩:=SI m AA c.N;obtain⟨u,z,I⟩:=SI s AA c.Target;obtain⟨J,L,M⟩:=aae I AA c.Thread;obtain⟨O,S,U⟩:=WZ M AA 2000 f.via AA;obtain⟨Y,Z,h6⟩:=aS8 U AA f.allow f.allows;obtain⟨a7,b7,h7⟩:=aS8 h6 AA f.deny f.denies;obtain⟨a8,b8,h8⟩:=SI h7 AA (c.Levels.Users.length:Int);obtain⟨⟨a9,b9⟩,h9⟩:=ahi c _ (Ei h8 AA) f;refine⟨?_,?_,Ei h9 AA⟩
 ·unfold sV;rw[h,Aa,n,Aa,u,Aa,J,Aa,O,Aa,Y,Aa,a7,Aa,a8,Aa];exact a9
 unfold ug;rw[j,Aa,q,Aa,z,Aa,L,Aa,S,Aa,Z,Aa,b7,Aa,b8,Aa];exact b9
def aH9 (e:AX):List Int:=
 []++enc e.Id++Jd e.Room++Jd e.bH++enc e.Kind++[bif e.State then 1 else 0]++Jd e.Key++enc e.Time++enc e.Depth++Pe e.bK++Pe e.bP++Jd (Pn (jX e.Content))++enc e.Hash++Jd e.qR.Server++enc e.qR.Sum
def anz (l:List Int):(Pn l).size=l.length:=by
 have key:∀(l:List Int) (r:ByteArray),(l.foldl (fun r n=>r.push (UInt8.ofNat n.toNat)) r).size=r.size+l.length:=by
  intro l
  induction l with
  |nil=>intro r;rfl
  |cons x l f=>intro r;rw[Fb,f,ByteArray.size_push,GI];omega
 unfold Pn;rw[key];simp
def aFm {S α:Type} {body:(Int→S→Option S)→Int→S→Option S} (l:List α) (L:l.length<1000) (f:S→α→Option S)
 (u:∀k (i:Nat) (h:i<l.length) s,body k (i:Int) s=(f s l[i]).bind fun x=>k (Aw ((i:Int)+1)) x) (z:∀k s,body k (l.length:Int) s=some s) (s:S):aS body Ap 0 s=l.foldlM f s:=by
 have M:Ap=9223372036854775808:=rfl
 have key:∀n (i:Nat) s,i+n=l.length→∀m,n<m→aS body m (i:Int) s=(l.drop i).foldlM f s:=by
  intro n
  induction n with
  |zero=>
   intro i s hi m I;obtain⟨m,rfl⟩:∃q,m=q+1:=⟨m-1,AA⟩
   have :i=l.length:=AA
   subst this;rw[Oe];exact z _ _
  |succ n J=>
   intro i s hi m I;obtain⟨m,rfl⟩:∃q,m=q+1:=⟨m-1,AA⟩
   have j:i<l.length:=AA
   rw[LY j,UK];show body (aS body m) _ _=(f s l[i]).bind _;rw[u _ i j,wrap_succ i AA];congr 1;funext x;exact J (i+1) x AA m AA
 exact key l.length 0 s AA Ap AA
def acv (w:F6) (l:List Int) (f:l.length<1000):TA w l=l.foldlM iy w:=by
 unfold TA aaj;exact aFm l f _ (fun k i h s=>by simp only[aIp,dec_lt h,Ba,CB h,Aa]) (fun k s=>by simp only[aIp,DT,BM]) w
def aa3 (w:F6) (l:List ByteArray) (f:l.length<1000):Wi w l=l.foldlM jK w:=by
 unfold Wi abt;exact aFm l f _ (fun k i h s=>by simp only[aMz,dec_lt h,Ba,CB h,Aa]) (fun k s=>by simp only[aMz,DT,BM]) w
def ahx (w:F6) (l:List Bool) (f:l.length<1000):rO w l=l.foldlM rU w:=by
 unfold rO aRK;exact aFm l f _ (fun k i h s=>by simp only[aL4,dec_lt h,Ba,CB h,Aa]) (fun k s=>by simp only[aL4,DT,BM]) w
def arF (w:F6) (l:List (List Int)) (f:l.length<1000):tK w l=l.foldlM dz w:=by
 unfold tK aRU;exact aFm l f _ (fun k i h s=>by simp only[aNO,dec_lt h,Ba,CB h,Aa]) (fun k s=>by simp only[aNO,DT,BM]) w
def aOw {b c:List Int} {n:Int} (h:NR b n=some c):iy ⟨b⟩ n=some ⟨c⟩:=by unfold iy;rw[h];rfl
def aMC {b c:List Int} {n:ByteArray} (h:Rh b n=some c):jK ⟨b⟩ n=some ⟨c⟩:=by unfold jK;rw[h];rfl
def ate {b c:List Int} {n:Bool} (h:XE b n=some c):rU ⟨b⟩ n=some ⟨c⟩:=by unfold rU;rw[h];rfl
def aUC {b c:List Int} {n:List Int} (h:Xb b n=some c):dz ⟨b⟩ n=some ⟨c⟩:=by unfold dz;rw[h];rfl
def aAf {b c:List Int} {n:Int} (h:NR b n=some c):TA ⟨b⟩ [n]=some ⟨c⟩:=by
 rw[acv _ _ BP,UK,aOw h];rfl
def anw {b c d:List Int} {n m:Int} (h:NR b n=some c) (k:NR c m=some d):TA ⟨b⟩ [n,m]=some ⟨d⟩:=by
 rw[acv _ _ BP,UK,aOw h];show(iy ⟨c⟩ m).bind _=_;rw[aOw k];rfl
def aM4 {b c:List Int} {n:ByteArray} (h:Rh b n=some c):Wi ⟨b⟩ [n]=some ⟨c⟩:=by
 rw[aa3 _ _ BP,UK,aMC h];rfl
def amn {b c d:List Int} {n m:ByteArray} (h:Rh b n=some c) (k:Rh c m=some d):Wi ⟨b⟩ [n,m]=some ⟨d⟩:=by
 rw[aa3 _ _ BP,UK,aMC h];show(jK ⟨c⟩ m).bind _=_;rw[aMC k];rfl
def anM {b c:List Int} {n:Bool} (h:XE b n=some c):rO ⟨b⟩ [n]=some ⟨c⟩:=by
 rw[ahx _ _ BP,UK,ate h];rfl
def apu {b c d:List Int} {n m:List Int} (h:Xb b n=some c) (k:Xb c m=some d):tK ⟨b⟩ [n,m]=some ⟨d⟩:=by
 rw[arF _ _ BP,UK,aUC h];show(dz ⟨c⟩ m).bind _=_;rw[aUC k];rfl
def ap8 {e:AX} (f:Fa e):tu e=some (aH9 e)∧oK e=some (aH9 e)∧(aH9 e).length≤1000000:=by
 obtain⟨Z,bc,hc⟩:=acL f.content;obtain⟨a1,b1,h1⟩:=SI (b:=[]) (k:=0) (EG _) AA e.Id;obtain⟨a2,b2,h2⟩:=WZ h1 AA 2000 f.room AA;obtain⟨a3,b3,h3⟩:=WZ h2 AA 2000 f.sender AA;obtain⟨a4,b4,h4⟩:=SI h3 AA e.Kind;obtain⟨a5,b5,h5⟩:=aae h4 AA e.State;obtain⟨a6,b6,h6⟩:=WZ h5 AA 2000 f.key AA;obtain⟨a7,b7,h7⟩:=SI h6 AA e.Time;obtain⟨a8,b8,h8⟩:=SI h7 AA e.Depth;obtain⟨a9,b9,h9⟩:=aU3 h8 AA (Ei f.prev AA);obtain⟨h,j,m⟩:=aU3 h9 AA (Ei f.auth AA);obtain⟨n,q,u⟩:=WZ m AA (s:=Pn (jX e.Content)) 700000 (by rw[anz];exact hc) AA;obtain⟨z,I,J⟩:=SI u AA e.Hash;obtain⟨L,M,O⟩:=WZ J AA 2000 f.server AA;obtain⟨S,U,Y⟩:=SI O AA e.qR.Sum;refine⟨?_,?_,Ei Y AA⟩
 ·unfold tu
  rw[show TA aFP [e.Id]=_ from aAf a1,Aa,amn a2 a3,Aa,aAf a4,Aa,anM a5,Aa,aM4 a6,Aa,anw a7 a8,Aa,apu a9 h,Aa,
   Z,Aa,aM4 n,Aa,aAf z,Aa,aM4 L,Aa,aAf S,Aa]
  rfl
 unfold oK;rw[b1,Aa,b2,Aa,b3,Aa,b4,Aa,b5,Aa,b6,Aa,b7,Aa,b8,Aa,b9,Aa,j,Aa,bc,Aa,q,Aa,I,Aa,M,Aa,U,Aa];rfl
def aB0 (l:List Int):Int:=Aw (l.foldl yV ((IntKind.u64.wrap 860922984064492325).tmod 4611686018427387904))
def aTs {l:List Int} (f:l.length≤1000000):vG l=some (aB0 l):=by
 unfold vG aLL;rw[Aa];unfold aL6 aSM
 rw[Res _ _ _ _ (.inl rfl),aS0,Gs l AA yV (fun _ _=>True) (fun s=>some (Aw s)) trivial (fun k s i h _=>⟨trivial,by
  simp only[aK1,dec_lt h,Ba,CB h,Aa,Res _ _ _ _ (.inl rfl),Res _ _ _ _ (.inr (.inr rfl)),ah4]⟩) fun k s _=>by
  simp only[aK1,DT,BM]]
 rfl
def aRd {l:List Int} (f:l.length≤1000000):uJ l=some (aB0 l):=by
 unfold uJ;rw[show aJe=some 860922984064492325 from rfl,Aa];unfold aHO aSF
 rw[show Vh (IntKind.u64.wrap 860922984064492325) 4611686018427387904=some ((IntKind.u64.wrap 860922984064492325).tmod 4611686018427387904)from rfl,Aa,Gs l AA yV (fun _ _=>True) (fun s=>some (Aw s)) trivial (fun k s i h _=>⟨trivial,by
  have e:Vh (IntKind.u64.wrap ((EX .xor .u64 s (IntKind.u64.wrap l[i]))*1099511628211)) 4611686018427387904=some (yV s l[i]):=rfl
  simp only[aHH,dec_lt h,Ba,CB h,Aa,e]⟩) fun k s _=>by
  simp only[aHH,DT,BM]]
 rfl
def XK (k:Int) (c:CU):CU:=
 if k=1 then c else if k=2 then{ EO with N:=c.N,Via:=c.Via }else if k=3 then{ EO with Levels:=c.Levels }else if k=4 then{ EO with N:=c.N,Allow:=c.Allow }else
 if k=5 then{ EO with N:=c.N }else if k=6 then{ EO with Allow:=c.Allow,gY:=c.gY }else if k=14 then{ EO with Target:=c.Target }else EO
def adH {R:Type} (a b:Int) (x y:R):(bif a==b then x else y)=if a=b then x else y:=by
 by_cases h:a=b
 ·subst h;simp
 have :(a==b)=false:=Jc
 rw[this,DN h];rfl
def aS5 {R:Type} (p:Prop) [Decidable p] (x y:R):(if p then some x else some y)=some (if p then x else y):=by split<;>rfl
def aRE (k:Int) (c:CU):sD k c=some (XK k c):=by
 unfold sD XK;simp only[adH,aS5]
def texts_eq {l:List ByteArray} (h:l.length≤100):SA l=some l:=by
 unfold SA;rw[NJ AA aBb];rfl
def aRf {l:CG} (h:l.Users.length≤100) (f:l.Kinds.length≤100):ZT l=some l:=by
 unfold ZT;rw[NJ AA aBb,Aa,NJ AA (by rw[Hu];exact Ei f AA)];rfl
def aE7 (k:Int):Int:=if k=2 then 18 else if k=3 then 128 else if k=4 then 34 else if k=5 then 2 else if k=6 then 96 else if k=14 then 4 else 0
def afl (k:Int):lY k=some (aE7 k):=by
 by_cases h:k=2
 ·subst h;rfl
 by_cases j:k=3
 ·subst j;rfl
 by_cases m:k=4
 ·subst m;rfl
 by_cases n:k=5
 ·subst n;rfl
 by_cases f:k=6
 ·subst f;rfl
 unfold lY kJ aE7;simp only[adH,h,j,m,n,f,Jq,show(k==6)=false from by simpa using f,BM,aS5]
def aTX (k:Int) {c:CU} (f:Qj c):pJ k c=some (XK k c):=by
 by_cases j:k=1
 ·subst j;show(SA c.Allow).bind (fun z=>(SA c.gY).bind fun I=>(ZT c.Levels).bind fun J=>some ({ { { c with Allow:=z }with gY:=I }with Levels:=J }))=_;rw[texts_eq f.allow,Aa,texts_eq f.deny,Aa,aRf f.users f.kinds];rfl
 unfold pJ;rw[show(k==1)=false from by simpa using j,BM,afl,Aa];by_cases m:k=2
 ·subst m;rfl
 by_cases n:k=3
 ·subst n;show(ZT c.Levels).bind (fun x=>some { EO with Levels:=x })=_;rw[aRf f.users f.kinds];rfl
 by_cases q:k=4
 ·subst q;show(SA c.Allow).bind (fun x=>some { EO with N:=c.N,Allow:=x })=_;rw[texts_eq f.allow];rfl
 by_cases s:k=5
 ·subst s;rfl
 by_cases u:k=6
 ·subst u;show(SA c.Allow).bind (fun x=>(SA c.gY).bind fun y=>some { EO with Allow:=x,gY:=y })=_;rw[texts_eq f.allow,Aa,texts_eq f.deny];rfl
 by_cases h:k=14
 ·subst h;rfl
 have L:aE7 k=0:=by unfold aE7;simp only[m,n,q,s,u,h,Jq]
 have M:XK k c=EO:=by unfold XK;simp only[j,m,n,q,s,u,h,Jq]
 rw[L,M];rfl
def Qj.strip {c:CU} (h:Qj c) (k:Int):Qj (XK k c):=by
 have f:(0:Nat)≤2000:=AA
 unfold XK
 repeat' split
 all_goals first|exact h|exact⟨by simp[EO,Iq,h.allow],by simp[EO,Iq,h.deny],by simp[EO,Iq,h.users],by simp[EO,Iq,h.kinds],by first|exact h.text|exact f,by first|exact h.via|exact f,by first|exact h.allows|simp[EO],by first|exact h.denies|simp[EO],by first|exact h.names|simp[EO,Iq]⟩
def aNc (e:AX):AX:={ e with Content:=XK e.Kind e.Content }
def TB (e:AX):Prop:=Fa { e with qR:=ZL }
def TB.content {e:AX} (h:TB e):Qj e.Content:=Fa.content (e:={ e with qR:=ZL }) h
def Fa.x {e:AX} (h:Fa e):TB e:=⟨h.prev,h.auth,h.allow,h.deny,h.users,h.kinds,h.room,h.sender,h.key,h.text,h.via,Eh _,h.allows,h.denies,h.names⟩
def agd {e:AX} (f:TB e):aBg e=some (aNc e)∧aG2 e=some (aNc e):=by
 unfold aBg aG2;rw[aTX _ f.content,aRE];exact⟨rfl,rfl⟩
def xR (e:AX):Int:=aB0 (jX e.Content)
def aFx (e:AX):AX:={ { aNc e with Id:=0 }with qR:=ZL }
def acf (e:AX):Int:=aB0 (aH9 (aFx e))
def TB.bare {e:AX} (h:TB e):Fa (aFx e):=by
 have f:=h.content.strip e.Kind;exact⟨h.prev,h.auth,f.allow,f.deny,f.users,f.kinds,h.room,h.sender,h.key,f.text,f.via,by show(0:Nat)≤2000;omega,f.allows,f.denies,f.names⟩
def acR {e:AX} (f:TB e):aFG e=some (xR e)∧zZ e=some (xR e):=by
 obtain⟨a,b,h⟩:=acL f.content;unfold aFG zZ;rw[a,b,Aa,Aa,aTs AA,aRd AA];exact⟨rfl,rfl⟩
def aUO {e:AX} (f:TB e):aCQ e=some (acf e)∧aCE e=some (acf e):=by
 obtain⟨a,b⟩:=agd f;obtain⟨c,d,h⟩:=ap8 f.bare;unfold aCQ aCE;rw[a,b,Aa,Aa];show(tu (aFx e)).bind _=_∧(oK (aFx e)).bind _=_;rw[c,d,Aa,Aa,aTs AA,aRd AA];exact⟨rfl,rfl⟩
def Qd (s:ByteArray):Int:=bif GY s 64 then 0 else 3
def VI (s:ByteArray):Int:=bif GY s 33 then 0 else 3
def Y8 {s:ByteArray} (f:s.size≤9223372036854775807):dJ s=some (Qd s)∧YB s=some (Qd s):=by
 unfold dJ sU YB Qd;rw[aO5 f (marks:=pS) (by rw[show Bq pS=[64]from rfl];intro m h;simp only[F9,G7,nC]at h;omega),aBA f BQ,show((Bq pS).any fun m=>GY s m)=(GY s 64||false)from rfl];cases GY s 64<;>exact⟨rfl,rfl⟩
def uw {s:ByteArray} (f:s.size≤9223372036854775807):nU s=some (VI s)∧jD s=some (VI s):=by
 unfold nU sU jD VI;rw[aO5 f (marks:=tX) (by rw[show Bq tX=[33]from rfl];intro m h;simp only[F9,G7,nC]at h;omega),aBA f BQ,show((Bq tX).any fun m=>GY s m)=(GY s 33||false)from rfl];cases GY s 33<;>exact⟨rfl,rfl⟩
def akQ {l:List Int} (h:VX l=true):(58:Int)∉l:=by
 intro f;unfold VX QC at h;simp only[DL,EZ]at h;have :=h.2 58 f;exact absurd this BQ
def apR (s:ByteArray) (j:s.size≤2000):(splitB s (Jg s)).1.size≤2000∧(58:Int)∉Bq (splitB s (Jg s)).1∧(splitB s (Jg s)).2.1.size≤2000:=by
 have m:Bc.size≤2000:=BQ
 cases h:Jg s with
 |false=>exact⟨m,by show(58:Int)∉Bq Bc;decide,m⟩
 |true=>
  have f:TI s=true:=by
   unfold Jg GY at h;cases f:TI s with
   |true=>rfl
   |false=>rw[f]at h;simp at h
  refine⟨Ei (extract_size _ _ _) j,akQ ?_,Ei (extract_size _ _ _) j⟩;unfold TI at f;simp only[DL]at f;exact f.1.2
def any_false {α:Type} (l:List α):(l.any fun _=>false)=false:=BP
def aNn {α:Type} {body:(Int→Option Bool)→Int→Option Bool} (l:List α) (m:l.length≤1000) (rest:Option Bool) (f:∀k (i:Nat) (h:i<l.length),body k (i:Int)=k (Aw ((i:Int)+1))) (j:∀k,body k (l.length:Int)=rest):bn body Ap 0=rest:=by
 rw[Gl l (wC AA) (fun _=>false) false rest (fun k i h=>by rw[f k i h];rfl) j,any_false];rfl
def ajv {l:List ByteArray} (h:l.length≤1000):Tq l l=some true:=by
 unfold Tq zH;rw[show((l.length:Int) != (l.length:Int))=false from by simp,BM];exact aNn l h _ (fun k i h=>aQc) (fun k=>aHJ)
structure Jy (c:CU):Prop where
 allow:c.Allow.length≤9223372036854775807
 deny:c.gY.length≤9223372036854775807
 users:c.Levels.Users.length≤9223372036854775807
 kinds:c.Levels.Kinds.length≤9223372036854775807
 text:c.Text.size≤9223372036854775807
 via:c.Via.size≤9223372036854775807
 allows:∀x∈c.Allow,x.size≤9223372036854775807
 denies:∀x∈c.gY,x.size≤9223372036854775807
 names:∀x∈c.Levels.Users,x.User.size≤9223372036854775807
structure SC (e:AX):Prop where
 prev:e.bK.length≤9223372036854775807
 auth:e.bP.length≤9223372036854775807
 room:e.Room.size≤9223372036854775807
 sender:e.bH.size≤9223372036854775807
 key:e.Key.size≤9223372036854775807
 server:e.qR.Server.size≤9223372036854775807
 content:Jy e.Content
def Qj.wide {c:CU} (h:Qj c):Jy c:=by
 obtain⟨q,s,u,z,I,J,j,m,n⟩:=h;exact⟨AA,AA,AA,AA,AA,AA,fun x f=>by have :=j x f;omega,fun x f=>by have :=m x f;omega,fun x f=>by have :=n x f;omega⟩
def Fa.wide {e:AX} (h:Fa e):SC e:=by
 have f:=h.prev;have j:=h.auth;have m:=h.room;have n:=h.sender;have q:=h.key;have s:=h.server;exact⟨AA,AA,AA,AA,AA,AA,h.content.wide⟩
def pF (k:Int):wE k=some (decide (k≥1)&&decide (k≤14))∧jT k=some (decide (k≥1)&&decide (k≤14)):=by
 unfold wE jT;cases decide (k≥1)<;>cases decide (k≤14)<;>exact⟨rfl,rfl⟩
def Qr (n:Int):Bool:=decide (n< -1000)||decide (n>1000)
def aAc (n:Int):lH n=some (Qr n)∧Qy n=some (Qr n):=by
 unfold lH Qy Qr;cases decide (n< -1000)<;>cases decide (n>1000)<;>exact⟨rfl,rfl⟩
def OX (c:Int):Bool:=decide (c<33)||decide (c>126)
def aB2 (s:ByteArray):(s.toList==Bc.toList)=((s.size:Int)==0):=by
 rw[Ij];by_cases h:s=Bc
 ·subst h;rfl
 have :¬s.size=0:=fun f=>h (bytes_inj (by
  have j:Bq s=[]:=H9 (by rw[H7];exact f)
  rw[j];rfl))
 rw[IJ h];symm;rw[wQ];omega
def aAM (s:ByteArray):Int:=if s.size=0 then 9 else if s.size>64 then 7 else bif (Bq s).any OX then 3 else 0
def aIU {s:ByteArray} (f:s.size≤9223372036854775807):uK s=some (aAM s)∧lg s=some (aAM s):=by
 have n:aLl s 0=some (bif (Bq s).any OX then 3 else 0):=by
  unfold aLl;rw[Gl (Bq s) iZ OX 3 (some 0) (fun k i h=>?_) (fun k=>?_),Jf]
  ·have h':i<s.size:=WS
   simp only[aNS,dec_lt h',Ba,VA h,Aa,OX];cases decide ((Bq s)[i]<33)<;>cases decide ((Bq s)[i]>126)<;>rfl
  simp only[aNS,H7,DT,BM]
 have q:aN4 s 0=some (bif (Bq s).any OX then 3 else 0):=by
  unfold aN4;rw[Gl (Bq s) iZ OX 3 (some 0) (fun k i h=>?_) (fun k=>?_),Jf]
  ·have h':i<s.size:=WS
   simp only[aK6,dec_lt h',Ba,VA h,Aa,OX];cases decide ((Bq s)[i]<33)<;>cases decide ((Bq s)[i]>126)<;>rfl
  simp only[aK6,H7,DT,BM]
 unfold uK lg aAM;rw[aB2,n,q];by_cases j:s.size=0
 ·simp[j]
 have :((s.size:Int)==0)=false:=by rw[wQ];omega
 rw[this,DN j];by_cases m:s.size>64
 ·have :decide ((s.size:Int)>64)=true:=E5
  rw[this,D9 m];exact⟨rfl,rfl⟩
 have :decide ((s.size:Int)>64)=false:=E5
 rw[this,DN m];exact⟨rfl,rfl⟩
def rX (s:ByteArray):Bool:=decide ((s.size:Int)≥1)&&decide ((s.size:Int)≤32)&& !(Bq s).any OX
def aoq {s:ByteArray} (f:s.size≤9223372036854775807):aEf s=some (rX s):=by
 unfold aEf aa0;rw[Gl (Bq s) iZ OX false (some (decide ((s.size:Int)≥1)&&decide ((s.size:Int)≤32))) (fun k i h=>?_) (fun k=>?_)]
 ·unfold rX;cases(Bq s).any OX<;>cases decide ((s.size:Int)≥1)<;>cases decide ((s.size:Int)≤32)<;>rfl
 ·have h':i<s.size:=WS
  simp only[aO6,dec_lt h',Ba,VA h,Aa,OX];cases decide ((Bq s)[i]<33)<;>cases decide ((Bq s)[i]>126)<;>rfl
 simp only[aO6,H7,DT,BM];cases decide ((s.size:Int)≥1)<;>cases decide ((s.size:Int)≤32)<;>rfl
def V5 (k:Int) (s:ByteArray):Bool:=if k=2 then Qd s==0 else if k=9 then rX s else true
def aUr {k:Int} {s:ByteArray} (m:s.size≤9223372036854775807):aDH k s=some (V5 k s):=by
 have n:aP4 s 0=some (bif (Bq s).any OX then false else true):=by
  unfold aP4;rw[Gl (Bq s) (by rw[H7];exact wC m) OX false (some true) (fun k i h=>?_) (fun k=>?_),Jf]
  ·have h':i<s.size:=WS
   simp only[aMN,dec_lt h',Ba,VA h,Aa,OX];cases decide ((Bq s)[i]<33)<;>cases decide ((Bq s)[i]>126)<;>rfl
  simp only[aMN,H7,DT,BM]
 unfold aDH V5;rw[(Y8 m).2,n];by_cases f:k=2
 ·subst f;rfl
 rw[show(k==2)=false from by simpa using f,DN f,BM];by_cases j:k=9
 ·subst j;unfold rX;have q:decide ((s.size:Int)≥1)= !decide ((s.size:Int)<1):=aHp
  have u:decide ((s.size:Int)≤32)= !decide ((s.size:Int)>32):=aNz
  rw[q,u];cases decide ((s.size:Int)<1)<;>cases decide ((s.size:Int)>32)<;>cases(Bq s).any OX<;>rfl
 rw[show(k != 9)=true from by simpa using j,DN j];rfl
def aqc {e:AX} (f:SC e):aD5 e=some (VI e.Room==0&&Qd e.bH==0&&V5 e.Kind e.Key):=by
 have j:=f.room;have m:=f.sender;have n:=f.key;unfold aD5 V5;rw[(uw AA).1,(Y8 (s:=e.bH) AA).1,(Y8 (s:=e.Key) AA).1,aoq AA];simp only[Aa,bne];cases VI e.Room==0 with
 |false=>rfl
 |true=>
  cases Qd e.bH==0 with
  |false=>rfl
  |true=>
   by_cases k2:e.Kind=2
   ·rw[k2];rfl
   by_cases h:e.Kind=9
   ·rw[h];rfl
   rw[show(e.Kind==2)=false from by simpa using k2,show(e.Kind==9)=false from by simpa using h,DN k2,DN h];rfl
def Ch {R:Type} (x y:Option R):Prop:=∃r,x=some r∧y=some r
section
variable {A R : Type}
def Ch.ret (r:R):Ch (some r) (some r):=⟨r,rfl,rfl⟩
def Ch.bind {a b:Option A} {f g:A→Option R} (h:Ch a b) (k:∀x,Ch (f x) (g x)):Ch (a.bind f) (b.bind g):=by
 obtain⟨x,rfl,rfl⟩:=h;exact k x
def Ch.bif {c:Bool} {x y f h:Option R} (j:c=true→Ch x f) (m:c=false→Ch y h):Ch (bif c then x else y) (bif c then f else h):=by
 cases c with
 |true=>exact j rfl
 |false=>exact m rfl
def Ch.of {x y:Option R} {r:R} (f:x=some r) (h:y=some r):Ch x y:=⟨r,f,h⟩
def Ch.loop {f g:(Int→Option R)→Int→Option R} (n:Nat) (s:n≤9223372036854775807) (h:∀k k' (i:Nat),i<n→Ch (k ((i+1:Nat):Int)) (k' ((i+1:Nat):Int))→Ch (f k (i:Int)) (g k' (i:Int))) (j:∀k k',Ch (f k (n:Int)) (g k' (n:Int))):Ch (bn f Ap 0) (bn g Ap 0):=by
 have u:Ap=9223372036854775808:=rfl
 have key:∀m (i:Nat),i+m=n→∀a,m<a→Ch (bn f a (i:Int)) (bn g a (i:Int)):=by
  intro m
  induction m with
  |zero=>
   intro i hi a ha;obtain⟨a,rfl⟩:∃a',a=a'+1:=⟨a-1,AA⟩
   have :i=n:=AA
   subst this;exact j _ _
  |succ m q=>
   intro i hi a ha;obtain⟨a,rfl⟩:∃a',a=a'+1:=⟨a-1,AA⟩
   exact h _ _ i AA (q (i+1) AA a AA)
 exact key n 0 AA Ap AA
end
def nT {i:Nat} (h:i≤9223372036854775806):Aw ((i:Int)+1)=((i+1:Nat):Int):=wrap_succ i AA
def oP {α:Type} {l:List α} {i:Nat} (h:i<l.length) (j:l.length≤9223372036854775807) (f:decide ((i:Int)>0)=true):Aj l (Aw ((i:Int)-1))=some (l[i-1]' AA):=by
 have f:0<i:=LJ
 rw[OI AA AA,show(i:Int)-1=((i-1:Nat):Int) by omega];exact CB AA
def ac8 {l:List Int} (f:l.length≤9223372036854775807):Ch (xJ l) (aF l):=by
 unfold xJ ad3 aF aOG;refine Ch.loop l.length f (fun k k' i h j=>?_) (fun k k'=>?_)
 ·simp only[aIK,aEi,bT,dec_lt h,Ba,CB h,Aa,nT (show i≤9223372036854775806 by omega)];cases decide (l[i]<0)with
  |true=>exact .ret _
  |false=>
   simp only[BM];cases m:decide ((i:Int)>0)with
   |true=>
    simp only[Ba,oP h f m,Aa,ge_iff_le];cases decide (l[i]≤l[i-1])with
    |true=>exact .ret _
    |false=>exact j
   |false=>exact j
 simp only[aIK,aEi,DT,BM];exact .ret _
def aTl {l:List ByteArray} (f:l.length≤9223372036854775807) (j:∀s∈l,s.size≤9223372036854775807):Ch (Ve l) (Rf l):=by
 unfold Ve Rf;refine Ch.bif (fun _=>.ret _) fun _=>?_;unfold aPP aNr;refine Ch.loop l.length f (fun k k' i h m=>?_) (fun k k'=>?_)
 ·obtain⟨n,q⟩:=aIU (s:=l[i]) (by have :=j _ (Eb h);omega);simp only[aIh,xI,dec_lt h,Ba,CB h,Aa,n,q,nT (show i≤9223372036854775806 by omega)];exact Ch.bif (fun _=>.ret _) fun _=>m
 simp only[aIh,xI,DT,BM];exact .ret _
def agM {c:CU} (f:Jy c):Ch (Vg 4 c) (ZJ c):=by
 have u:=f.allow;unfold Vg ZJ;rw[show((4:Int)==6)=false from rfl,BM];refine Ch.bind (Ch.bif (fun _=>.ret _) fun _=>.ret _) fun x=>Ch.bif (fun _=>.ret _) fun _=>Ch.bif (fun _=>.ret _) fun _=>?_;unfold aQ1 aRu;refine Ch.loop c.Allow.length AA (fun k k' i h j=>?_) (fun k k'=>?_)
 ·obtain⟨m,n⟩:=uw (s:=c.Allow[i]) (by have :=f.allows _ (Eb h);omega);simp only[aHL,aAk,wP,dec_lt h,Ba,CB h,Aa,m,n,nT (show i≤9223372036854775806 by omega)];refine Ch.bif (fun _=>.ret _) fun _=>?_;cases q:decide ((i:Int)>0)with
  |true=>
   simp only[Ba,oP h (show c.Allow.length≤9223372036854775807 by omega) q,Aa];exact Ch.bif (fun _=>.ret _) fun _=>j
  |false=>exact j
 simp only[aHL,aAk,DT,BM];exact .ret _
def ahr {l:List Gw} (f:l.length≤9223372036854775807) (m:∀u∈l,u.User.size≤9223372036854775807):Ch (aA4 l) (Y6 l):=by
 unfold aA4 Y6;refine Ch.bif (fun _=>.ret _) fun _=>?_;unfold aSG aM7;refine Ch.loop l.length f (fun k k' i h j=>?_) (fun k k'=>?_)
 ·obtain⟨n,q⟩:=Y8 (s:=l[i].User) (by have :=m _ (Eb h);omega);obtain⟨z,I⟩:=aAc l[i].N;simp only[aKg,yK,zI,fM,dec_lt h,Ba,CB h,Aa,n,q,z,I,nT (show i≤9223372036854775806 by omega)];refine Ch.bif (fun _=>.ret _) fun _=>?_;cases J:decide ((i:Int)>0)with
  |true=>
   simp only[Ba,oP h f J,Aa];exact Ch.bif (fun _=>.ret _) fun _=>Ch.bif (fun _=>.ret _) fun _=>j
  |false=>
   simp only[BM];exact Ch.bif (fun _=>.ret _) fun _=>j
 simp only[aKg,yK,DT,BM];exact .ret _
def as9 {l:List Iz} (f:l.length≤9223372036854775807):Ch (aBM l) (Xh l):=by
 unfold aBM Xh;refine Ch.bif (fun _=>.ret _) fun _=>?_;unfold aUb aIq;refine Ch.loop l.length f (fun k k' i h j=>?_) (fun k k'=>?_)
 ·obtain⟨m,n⟩:=pF l[i].Kind;obtain⟨q,s⟩:=aAc l[i].N;simp only[aHX,aD8,aGj,zK,dec_lt h,Ba,CB h,Aa,m,n,q,s,nT (show i≤9223372036854775806 by omega)];refine Ch.bif (fun _=>.ret _) fun _=>?_;cases u:decide ((i:Int)>0)with
  |true=>
   simp only[Ba,oP h f u,Aa];exact Ch.bif (fun _=>.ret _) fun _=>Ch.bif (fun _=>.ret _) fun _=>j
  |false=>
   simp only[BM];exact Ch.bif (fun _=>.ret _) fun _=>j
 simp only[aHX,aD8,DT,BM];exact .ret _
def apv {l:CG} (n:l.Users.length≤9223372036854775807) (q:l.Kinds.length≤9223372036854775807) (f:∀u∈l.Users,u.User.size≤9223372036854775807):Ch (cG l) (Yk l):=by
 have j:aMf l 0=some (bif (Jb l).any Qr then 2 else 0):=by
  unfold aMf;rw[Gl (Jb l) (by have :Ap=9223372036854775808:=rfl;simp[Jb,this]) Qr 2 (some 0) (fun k i h=>?_) (fun k=>rfl),Jf];have s:i<7:=h;have m:Aj ([l.User,l.Message,l.State,l.gK,l.jV,l.mW,l.gZ]:List Int) (i:Int)=some ((Jb l)[i]'(h)):=CB h;simp only[aT6,show decide ((i:Int)<7)=true from by simp;omega,Ba,m,Aa,(aAc _).1]
 unfold cG Yk;refine Ch.bind (ahr AA f) fun x=>Ch.bif (fun _=>.ret _) fun _=>Ch.bind (as9 AA) fun y=>Ch.bif (fun _=>.ret _) fun _=>?_;rw[j];simp only[(aAc _).2,Aa,Jb,mM,List.any_nil];cases Qr l.User<;>cases Qr l.Message<;>cases Qr l.State<;>cases Qr l.gK<;>cases Qr l.jV<;>cases Qr l.mW<;>cases Qr l.gZ<;>exact .ret _
def SQ {α:Type} {l:List α} (h:((l.length:Int)==0)=true):l=[]:=H9 aIt
def MS (l:CG):Bool:=((l.Users.length:Int)==0)&&((l.Kinds.length:Int)==0)&&(l.User==0)&&(l.Message==0)&&(l.State==0)&&(l.gK==0)&&(l.jV==0)&&(l.mW==0)&&(l.gZ==0)
def bare_eq (l:CG):aHC l=some (MS l):=by
 unfold aHC MS;simp only[Jf,Aa,TR]
def aaI (l:CG):Wy l Iq=some (MS l):=by
 unfold Wy MS;show(bif ((l.Users.length:Int) != 0)then some true else some ((l.Kinds.length:Int) != 0)).bind _=_;simp only[bne];cases m:((l.Users.length:Int)==0)with
 |false=>rfl
 |true=>
  cases n:((l.Kinds.length:Int)==0)with
  |false=>rfl
  |true=>
   have f:=SQ m;have j:=SQ n
   have q:Xc l Iq 0=some ((l.User==0)&&(l.Message==0)&&(l.State==0)&&(l.gK==0)&&(l.jV==0)&&(l.mW==0)&&(l.gZ==0)):=by
    unfold Xc;refine aNn l.Kinds (by rw[j];simp) _ (fun k i h=>by rw[j]at h;simp at h) (fun k=>?_);simp only[iT,DT,BM,Jf,Aa,TR];rfl
   have s:rG l Iq 0=some ((l.User==0)&&(l.Message==0)&&(l.State==0)&&(l.gK==0)&&(l.jV==0)&&(l.mW==0)&&(l.gZ==0)):=by
    unfold rG;refine aNn l.Users (by rw[f];simp) _ (fun k i h=>by rw[f]at h;simp at h) (fun k=>?_);simp only[kN,DT,BM];exact q
   simp only[EM,BM,Aa,s,FX]
def aiV (l:CG):aBH l=some (MS l):=by
 unfold aBH;rw[aaI];rfl
def akU (l:List ByteArray):Tq l []=some ((l.length:Int)==0):=by
 cases h:((l.length:Int)==0)with
 |true=>rw[SQ h];exact ajv (l:=[]) BP
 |false=>
  unfold Tq;show(bif ((l.length:Int) != 0)then some false else _)=_;simp only[bne,h,IX,Ba]
def YM (a0 f h j m n q s:Bool):Bool:=a0&&f&&h&&j&&m&&n&&q&&s
def aJU (c:CU):TT c EO=some (YM (c.Text.toList==Bc.toList) (c.N==0) (c.Target==0) (!c.Thread) (c.Via.toList==Bc.toList) ((c.Allow.length:Int)==0) ((c.gY.length:Int)==0) (MS c.Levels)):=by
 unfold TT YM;show(bif c.Text.toList==Bc.toList then some (c.N==0)else some false).bind _=_;simp only[show EO.Allow=[]from rfl,show EO.gY=[]from rfl,show EO.Levels=Iq from rfl,show EO.Target=0 from rfl,show EO.Thread=false from rfl,show EO.Via=Bc from rfl,akU,aaI,Jf,Aa,TR];congr 1;cases c.Thread<;>simp
def aH3 (a0 f h j m n q s:Bool):Int:=
 let v:=bif !a0 then EX .or .i64 0 1 else 0
 let v:=bif !f then EX .or .i64 v 2 else v
 let v:=bif !h then EX .or .i64 v 4 else v
 let v:=bif !j then EX .or .i64 v 8 else v
 let v:=bif !m then EX .or .i64 v 16 else v
 let v:=bif !n then EX .or .i64 v 32 else v
 let v:=bif !q then EX .or .i64 v 64 else v
 bif !s then EX .or .i64 v 128 else v
def pos_eq {α:Type} (l:List α):decide ((l.length:Int)>0)= !((l.length:Int)==0):=by
 cases h:((l.length:Int)==0)with
 |true=>have :=eq_of_beq h;rw[EM,lJ];omega
 |false=>have :=ne_of_beq_false h;rw[IX,H6];omega
def aoh (c:CU):oG c=some (aH3 (c.Text.toList==Bc.toList) (c.N==0) (c.Target==0) (!c.Thread) (c.Via.toList==Bc.toList) ((c.Allow.length:Int)==0) ((c.gY.length:Int)==0) (MS c.Levels)):=by
 unfold oG aBD aEd aGX yu aFN aFo aE2 aFM aH3;rw[bare_eq,pos_eq,pos_eq];simp only[Aa,bne,vW];generalize(c.Text.toList==Bc.toList)=f;generalize(c.N==0)=h;generalize(c.Target==0)=j;generalize c.Thread=m;generalize(c.Via.toList==Bc.toList)=n;generalize((c.Allow.length:Int)==0)=q;generalize((c.gY.length:Int)==0)=s;generalize MS c.Levels=u;cases f<;>cases h<;>cases j<;>cases m<;>cases n<;>cases q<;>cases s<;>cases u<;>rfl
def agt :∀a0 f h j m n q s:Bool,(aH3 a0 f h j m n q s==0)=YM a0 f h j m n q s:=Nv
def LQ (f h j m n q s u a0 z I J L M O S:Bool):Bool:=(a0||f)&&(z||h)&&(I||j)&&(J||m)&&(L||n)&&(M||q)&&(O||s)&&(S||u)
def abG {K:Int} {c:CU} {f h j m n q s u:Bool} (z:CJ K Gp=some f) (I:CJ K I7=some h) (J:CJ K IG=some j) (L:CJ K KJ=some m) (M:CJ K Kr=some n) (O:CJ K JX=some q) (S:CJ K Ku=some s) (U:CJ K KY=some u):Zn K c=some (LQ f h j m n q s u (c.Text.toList==Bc.toList) (c.N==0) (c.Target==0) (!c.Thread) (c.Via.toList==Bc.toList) ((c.Allow.length:Int)==0) ((c.gY.length:Int)==0) (MS c.Levels)):=by
 unfold Zn LQ;simp only[z,I,J,L,M,O,S,U,aiV,Jf,Aa,aC,TR]
def Gg (x r:Option Int):Option Int:=x.bind fun v=>bif v != 0 then some v else r
def EN {x r:Option Int} (h:x=some 0):Gg x r=r:=by rw[h];rfl
def ND {x y r s:Option Int} (h:Ch x y) (k:Ch r s):Ch (Gg x r) (Gg y s):=Ch.bind h fun _=>Ch.bif (fun _=>.ret _) fun _=>k
def aDv (x:Option Int):Gg x (some 0)=x:=by
 cases x with
 |none=>rfl
 |some v=>
  show(bif v != 0 then some v else some 0)=some v;by_cases h:v=0
  ·subst h;rfl
  rw[show(v != 0)=true from by simpa using h];rfl
def aEx {A:Type} (x:Option A):(x.bind fun v=>some v)=x:=by cases x<;>rfl
def NK (K:Int) (c:CU):Option Int:=Gg (XI K c) (Gg (NT K c.N) (Gg (Wq K c) (Gg (YA c) (bif K==4 then ZJ c else Gg (Rf c.Allow) (Gg (Rf c.gY) (Yk c.Levels))))))
def frame {K M kp:Int} {br:Bool} {c:CU} {h j m n q s u z:Bool} (S:kK K=some M) (U:(decide (K≥1)&&decide (K≤14))=true) (I:lY K=some kp) (Y:aEI K=some br) (Z:CJ K Gp=some h) (h1:CJ K I7=some j) (h2:CJ K IG=some m) (h3:CJ K KJ=some n) (h4:CJ K Kr=some q) (h5:CJ K JX=some s) (h6:CJ K Ku=some u) (h7:CJ K KY=some z)
 (hM:∀a0 a1 a2 a3 a4 a5 a6 a7:Bool,(EX .andNot .i64 (aH3 a0 a1 a2 a3 a4 a5 a6 a7) M != 0)= !LQ h j m n q s u z a0 a1 a2 a3 a4 a5 a6 a7) (J:(br=true→kp=0)) (hA:kp=0→br=false→Ls M K 0 c=some 0)
 (f:LQ h j m n q s u z (c.Text.toList==Bc.toList) (c.N==0) (c.Target==0) (!c.Thread) (c.Via.toList==Bc.toList) ((c.Allow.length:Int)==0) ((c.gY.length:Int)==0) (MS c.Levels)=true→Ch (Ls M K 0 c) (NK K c)):Ch (Kv K c) (Ih K c):=by
 have ht:Ih K c=(jT K).bind fun x1=>(bif (!x1)then some true else(Zn K c).bind fun x4=>some (!x4)).bind fun x2=>(bif x2 then some 1 else(aEI K).bind fun x6=>(bif x6 then(TT c EO).bind fun x9=>some x9 else some false).bind fun x7=>(bif x7 then some 0 else NK K c)):=by
  unfold Ih NK Gg;simp only[aEx]
 rw[ht];unfold Kv;obtain⟨O,k2⟩:=pF K;rw[U]at O k2;rw[S,O,k2,aoh,I,Y,abG Z h1 h2 h3 h4 h5 h6 h7,aJU];simp only[Aa,EM,BM,hM,agt];cases ho:LQ h j m n q s u z (c.Text.toList==Bc.toList) (c.N==0) (c.Target==0) (!c.Thread) (c.Via.toList==Bc.toList) ((c.Allow.length:Int)==0) ((c.gY.length:Int)==0) (MS c.Levels)with
 |false=>exact .ret _
 |true=>
  simp only[EM,BM];have f:=f ho;cases ha:YM (c.Text.toList==Bc.toList) (c.N==0) (c.Target==0) (!c.Thread) (c.Via.toList==Bc.toList) ((c.Allow.length:Int)==0) ((c.gY.length:Int)==0) (MS c.Levels)with
  |false=>
   simp only[BM,Aa];cases br<;>exact f
  |true=>
   simp only[Ba,Aa];cases L:kp==0 with
   |false=>
    cases br with
    |false=>exact f
    |true=>rw[J rfl]at L;cases L
   |true=>
    cases br with
    |true=>exact .ret _
    |false=>
     have e:=hA (eq_of_beq L) rfl;rw[e]at f;exact f
def RS (M b:Int) (x r:Option Int):Option Int:=bif EX .and .i64 M b==0 then r else Gg x r
def Za {S B R:Type} (body:(S→B→Option R)→S→B→Option R) (n:Nat) (a:S) (b:B):aS body (n+1) a b=body (aS body n) a b:=rfl
def ape (M K:Int) (c:CU):Ls M K 0 c=RS M 1 (QF K c) (RS M 2 (O4 K c) (RS M 4 (Qx K c) (RS M 8 (ZU K c) (RS M 16 (ZX K c) (RS M 32 (Vg K c)
 (bif EX .and .i64 M 64 != 0 then Ve c.gY else bif EX .and .i64 M 128 != 0 then cG c.Levels else some 0)))))):=by
 have f:Ap=9223372036854775801+1+1+1+1+1+1+1:=rfl;have h:∀k,Xg M K k 0 c=RS M 1 (QF K c) (k 1 c):=fun k=>rfl;have j:∀k,Xg M K k 1 c=RS M 2 (O4 K c) (k 2 c):=fun k=>rfl;have m:∀k,Xg M K k 2 c=RS M 4 (Qx K c) (k 3 c):=fun k=>rfl;have n:∀k,Xg M K k 3 c=RS M 8 (ZU K c) (k 4 c):=fun k=>rfl;have q:∀k,Xg M K k 4 c=RS M 16 (ZX K c) (k 5 c):=fun k=>rfl;have s:∀k,Xg M K k 5 c=RS M 32 (Vg K c) (k 6 c):=fun k=>rfl;have u:∀k,Xg M K k 6 c=(bif EX .and .i64 M 64 != 0 then(Ve c.gY).bind fun x=>some x else bif EX .and .i64 M 128 != 0 then(cG c.Levels).bind fun x=>some x else some 0):=fun k=>rfl;unfold Ls;rw[f,Za,h,Za,j,Za,m,Za,n,Za,q,Za,s,Za,u,aEx,aEx]
section
variable {c : CU} {K : Int}
def text0 (h:(c.Text.toList==Bc.toList)=true) (f:K≠12):XI K c=some 0:=by
 have j:(c.Text.size:Int)=0:=by rw[aB2]at h;exact eq_of_beq h
 unfold XI;rw[h,j,show(K==12)=false from by simpa using f];cases K==9<;>rfl
def UL (h:CJ K IG=some false) (f:(!c.Thread)=true):Wq K c=some 0:=by
 unfold Wq;rw[h,show c.Thread=false from by simpa using f];rfl
def QT (h:(c.Via.toList==Bc.toList)=true):YA c=some 0:=by unfold YA;rw[h];rfl
def JW {l:List ByteArray} (h:((l.length:Int)==0)=true):Rf l=some 0:=by
 rw[SQ h];unfold Rf aNr;show bn (xI []) Ap 0=some 0;rw[Gl ([]:List ByteArray) BQ (fun _=>false) 0 (some 0) (fun k i h=>Hr) (fun k=>rfl)];rfl
def Rz {l:CG} (h:MS l=true):Yk l=some 0:=by
 unfold MS at h;simp only[DL]at h;obtain⟨⟨⟨⟨⟨⟨⟨⟨f,j⟩,m⟩,n⟩,q⟩,s⟩,u⟩,z⟩,I⟩:=h
 have J:Y6 []=some 0:=by
  unfold Y6 aM7;show bn (yK []) Ap 0=some 0;rw[Gl ([]:List ByteArray) BQ (fun _=>false) 0 (some 0) (fun k i h=>Hr) (fun k=>rfl)];rfl
 have L:Xh []=some 0:=by
  unfold Xh aIq;show bn (aD8 []) Ap 0=some 0;rw[Gl ([]:List ByteArray) BQ (fun _=>false) 0 (some 0) (fun k i h=>Hr) (fun k=>rfl)];rfl
 unfold Yk;rw[SQ f,SQ j,J,L,eq_of_beq m,eq_of_beq n,eq_of_beq q,eq_of_beq s,eq_of_beq u,eq_of_beq z,eq_of_beq I];rfl
def ZV (j:Jy c):Ch (QF K c) (XI K c):=by
 have u:=j.text;obtain⟨m,n⟩:=aIU (s:=c.Text) AA;unfold QF aDy XI;rw[m,n];have e:=aB2 c.Text;by_cases f:K=9
 ·subst f;cases h:(c.Text.toList==Bc.toList)with
  |false=>exact .ret _
  |true=>
   have q:(c.Text.size:Int)=0:=by rw[e]at h;exact eq_of_beq h
   rw[q];exact .ret _
 rw[show(K==9)=false from by simpa using f];cases K==12<;>cases(c.Text.toList==Bc.toList)<;>cases decide ((c.Text.size:Int)>32)<;>cases decide ((c.Text.size:Int)>400)<;>exact .ret _
def aiv (f:Jy c):Ch (ZX K c) (YA c):=by
 have m:=f.via;obtain⟨h,j⟩:=Y8 (s:=c.Via) AA;unfold ZX YA;rw[h,j];exact Ch.bif (fun _=>.ret _) fun _=>Ch.bif (fun _=>.ret _) fun _=>.ret _
def aKj (h:CJ K IG=some true) (f:(!c.Thread)=true):Ch (Qx K c) (Wq K c):=by
 unfold Qx Wq;rw[h,show c.Thread=false from by simpa using f];cases decide (c.Target<0)<;>cases c.Target==0<;>cases K != 11<;>exact .ret _
def atC (h:CJ K IG=some true):Ch (Gg (Qx K c) (ZU K c)) (Wq K c):=by
 unfold Qx ZU Wq Gg;rw[h];cases decide (c.Target<0)<;>cases c.Target==0<;>cases K != 11<;>cases c.Thread<;>exact .ret _
def ahJ (f:Jy c):Ch (Vg 6 c) (Rf c.Allow):=by
 have h:=f.allow;have :=aTl (l:=c.Allow) AA f.allows;show Ch ((Ve c.Allow).bind fun x=>some x) _;rw[aEx];exact this
end
def vF (a b:Int):decide (a≥b)= !decide (a<b):=by by_cases h:a<b<;>simp[h]<;>omega
def vg (a b:Int):decide (a≤b)= !decide (a>b):=by by_cases h:a>b<;>simp[h]<;>omega
def aoA {c:CU} (hc:Jy c):Ch (Kv 1 c) (Ih 1 c):=by
 have m:CJ 1 Gp=some false:=A8
 have n:CJ 1 I7=some false:=A8
 have j:CJ 1 IG=some false:=A8
 have q:CJ 1 KJ=some false:=A8
 have s:CJ 1 Kr=some false:=A8
 have u:CJ 1 JX=some false:=A8
 have z:CJ 1 Ku=some false:=A8
 have I:CJ 1 KY=some false:=A8
 refine frame (M:=0) (kp:=0) (br:=false) rfl rfl rfl rfl m n j q s u z I Nv (fun h=>He) (fun h h'=>rfl) fun f=>?_;unfold LQ at f;simp only[OO,L9,Lj,FX,DL]at f;obtain⟨⟨⟨⟨⟨⟨⟨J,e1⟩,e2⟩,L⟩,O⟩,S⟩,U⟩,Y⟩:=f;have Z:Ls 0 1 0 c=(some 0):=PW
 rw[Z];unfold NK;rw[EN (text0 J BQ),EN (show NT 1 c.N=some 0 from rfl),EN (UL j L),EN (QT O),show((1:Int)==4)=false from rfl,BM,EN (JW S),EN (JW U),Rz Y];exact .ret _
def alp (c:CU):Ch (O4 2 c) (NT 2 c.N):=by
 show Ch ((bif decide (c.N<0)then some true else some (decide (c.N>4))).bind fun f=>(bif f then some 2 else some 0)) ((bif decide (c.N≥0)then some (decide (c.N≤4))else some false).bind fun h=>(bif (!h)then some 2 else some 0));rw[vF,vg];cases decide (c.N<0)<;>cases decide (c.N>4)<;>exact .ret _
def ajM {c:CU} (j:Jy c):Ch (Kv 2 c) (Ih 2 c):=by
 have n:CJ 2 Gp=some true:=A8
 have q:CJ 2 I7=some true:=A8
 have m:CJ 2 IG=some false:=A8
 have s:CJ 2 KJ=some false:=A8
 have u:CJ 2 Kr=some true:=A8
 have z:CJ 2 JX=some false:=A8
 have I:CJ 2 Ku=some false:=A8
 have J:CJ 2 KY=some false:=A8
 refine frame (M:=19) (kp:=18) (br:=false) rfl rfl rfl rfl n q m s u z I J Nv (fun h=>He) (fun h h'=>He) fun f=>?_;unfold LQ at f;simp only[OO,L9,Lj,FX,DL]at f;obtain⟨⟨⟨⟨Z,L⟩,O⟩,S⟩,U⟩:=f;have Y:Ls 19 2 0 c=(Gg (QF 2 c) (Gg (O4 2 c) (Gg (ZX 2 c) (some 0)))):=PW
 rw[Y];unfold NK;rw[EN (UL m L),show((2:Int)==4)=false from rfl,BM,EN (JW O),EN (JW S),Rz U];exact ND (ZV j) (ND (alp c) (ND (aiv j) (.ret _)))
def arY {c:CU} (f:Jy c):Ch (Kv 3 c) (Ih 3 c):=by
 have n:CJ 3 Gp=some false:=A8
 have q:CJ 3 I7=some false:=A8
 have m:CJ 3 IG=some false:=A8
 have s:CJ 3 KJ=some false:=A8
 have u:CJ 3 Kr=some false:=A8
 have z:CJ 3 JX=some false:=A8
 have I:CJ 3 Ku=some false:=A8
 have J:CJ 3 KY=some true:=A8
 refine frame (M:=128) (kp:=128) (br:=false) rfl rfl rfl rfl n q m s u z I J Nv (fun h=>He) (fun h h'=>He) fun j=>?_;unfold LQ at j;simp only[OO,L9,Lj,FX,DL]at j;obtain⟨⟨⟨⟨⟨⟨L,e1⟩,e2⟩,O⟩,S⟩,U⟩,Y⟩:=j;have Z:Ls 128 3 0 c=(cG c.Levels):=PW
 rw[Z];unfold NK;rw[EN (text0 L BQ),EN (show NT 3 c.N=some 0 from rfl),EN (UL m O),EN (QT S),show((3:Int)==4)=false from rfl,BM,EN (JW U),EN (JW Y)];exact apv f.users f.kinds f.names
def akL (c:CU):Ch (O4 4 c) (NT 4 c.N):=by
 show Ch ((bif decide (c.N<0)then some true else some (decide (c.N>3))).bind fun f=>(bif f then some 2 else some 0)) ((bif decide (c.N≥0)then some (decide (c.N≤3))else some false).bind fun h=>(bif (!h)then some 2 else some 0));rw[vF,vg];cases decide (c.N<0)<;>cases decide (c.N>3)<;>exact .ret _
def ahp {c:CU} (m:Jy c):Ch (Kv 4 c) (Ih 4 c):=by
 have n:CJ 4 Gp=some false:=A8
 have q:CJ 4 I7=some true:=A8
 have j:CJ 4 IG=some false:=A8
 have s:CJ 4 KJ=some false:=A8
 have u:CJ 4 Kr=some false:=A8
 have z:CJ 4 JX=some true:=A8
 have I:CJ 4 Ku=some false:=A8
 have J:CJ 4 KY=some false:=A8
 refine frame (M:=34) (kp:=34) (br:=false) rfl rfl rfl rfl n q j s u z I J Nv (fun h=>He) (fun h h'=>He) fun f=>?_;unfold LQ at f;simp only[OO,L9,Lj,FX,DL]at f;obtain⟨⟨⟨⟨⟨L,Y⟩,O⟩,S⟩,Z⟩,e7⟩:=f;have U:Ls 34 4 0 c=(Gg (O4 4 c) (Gg (Vg 4 c) (some 0))):=PW
 rw[U];unfold NK;rw[EN (text0 L BQ),EN (UL j O),EN (QT S),show((4:Int)==4)=true from rfl,Ba];rw[aDv];exact ND (akL c) (agM m)
def ajw (c:CU):Ch (O4 5 c) (NT 5 c.N):=by
 show Ch ((bif decide (c.N<0)then some true else some (decide (c.N>3))).bind fun f=>(bif f then some 2 else some 0)) ((bif decide (c.N≥0)then some (decide (c.N≤3))else some false).bind fun h=>(bif (!h)then some 2 else some 0));rw[vF,vg];cases decide (c.N<0)<;>cases decide (c.N>3)<;>exact .ret _
def ao9 {c:CU} (hc:Jy c):Ch (Kv 5 c) (Ih 5 c):=by
 have m:CJ 5 Gp=some false:=A8
 have n:CJ 5 I7=some true:=A8
 have j:CJ 5 IG=some false:=A8
 have q:CJ 5 KJ=some false:=A8
 have s:CJ 5 Kr=some false:=A8
 have u:CJ 5 JX=some false:=A8
 have z:CJ 5 Ku=some false:=A8
 have I:CJ 5 KY=some false:=A8
 refine frame (M:=2) (kp:=2) (br:=false) rfl rfl rfl rfl m n j q s u z I Nv (fun h=>He) (fun h h'=>He) fun f=>?_;unfold LQ at f;simp only[OO,L9,Lj,FX,DL]at f;obtain⟨⟨⟨⟨⟨⟨J,e2⟩,L⟩,O⟩,S⟩,U⟩,Y⟩:=f;have Z:Ls 2 5 0 c=(Gg (O4 5 c) (some 0)):=PW
 rw[Z];unfold NK;rw[EN (text0 J BQ),EN (UL j L),EN (QT O),show((5:Int)==4)=false from rfl,BM,EN (JW S),EN (JW U),Rz Y];exact ND (ajw c) (.ret _)
def aoJ {c:CU} (f:Jy c):Ch (Kv 6 c) (Ih 6 c):=by
 have q:CJ 6 Gp=some false:=A8
 have m:CJ 6 I7=some false:=A8
 have n:CJ 6 IG=some false:=A8
 have s:CJ 6 KJ=some false:=A8
 have u:CJ 6 Kr=some false:=A8
 have z:CJ 6 JX=some true:=A8
 have I:CJ 6 Ku=some true:=A8
 have J:CJ 6 KY=some false:=A8
 refine frame (M:=96) (kp:=96) (br:=false) rfl rfl rfl rfl q m n s u z I J Nv (fun h=>He) (fun h h'=>He) fun j=>?_;unfold LQ at j;simp only[OO,L9,Lj,FX,DL]at j;obtain⟨⟨⟨⟨⟨L,Z⟩,e2⟩,O⟩,S⟩,U⟩:=j;have Y:Ls 96 6 0 c=(Gg (Vg 6 c) (Ve c.gY)):=PW
 rw[Y];unfold NK;rw[EN (text0 L BQ),EN (show NT 6 c.N=some 0 from rfl),EN (UL n O),EN (QT S),show((6:Int)==4)=false from rfl,BM,Rz U];have m:=f.deny;rw[aDv];exact ND (ahJ f) (aTl AA f.denies)
def apX {c:CU} (m:Jy c):Ch (Kv 7 c) (Ih 7 c):=by
 have n:CJ 7 Gp=some true:=A8
 have q:CJ 7 I7=some false:=A8
 have j:CJ 7 IG=some false:=A8
 have s:CJ 7 KJ=some false:=A8
 have u:CJ 7 Kr=some false:=A8
 have z:CJ 7 JX=some false:=A8
 have I:CJ 7 Ku=some false:=A8
 have J:CJ 7 KY=some false:=A8
 refine frame (M:=1) (kp:=0) (br:=true) rfl rfl rfl rfl n q j s u z I J Nv (fun h=>rfl) (fun h h'=>aY) fun f=>?_;unfold LQ at f;simp only[OO,L9,Lj,FX,DL]at f;obtain⟨⟨⟨⟨⟨⟨e1,e2⟩,L⟩,O⟩,S⟩,U⟩,Y⟩:=f;have Z:Ls 1 7 0 c=(Gg (QF 7 c) (some 0)):=PW
 rw[Z];unfold NK;rw[EN (show NT 7 c.N=some 0 from rfl),EN (UL j L),EN (QT O),show((7:Int)==4)=false from rfl,BM,EN (JW S),EN (JW U),Rz Y];exact ND (ZV m) (.ret _)
def ajr (c:CU):Ch (O4 8 c) (NT 8 c.N):=by
 show Ch ((bif decide (c.N<0)then some true else some (decide (c.N>1000000000))).bind fun f=>(bif f then some 2 else some 0)) ((bif decide (c.N≥0)then some (decide (c.N≤1000000000))else some false).bind fun h=>(bif (!h)then some 2 else some 0));rw[vF,vg];cases decide (c.N<0)<;>cases decide (c.N>1000000000)<;>exact .ret _
def aew {c:CU} (hc:Jy c):Ch (Kv 8 c) (Ih 8 c):=by
 have m:CJ 8 Gp=some false:=A8
 have n:CJ 8 I7=some true:=A8
 have j:CJ 8 IG=some false:=A8
 have q:CJ 8 KJ=some false:=A8
 have s:CJ 8 Kr=some false:=A8
 have u:CJ 8 JX=some false:=A8
 have z:CJ 8 Ku=some false:=A8
 have I:CJ 8 KY=some false:=A8
 refine frame (M:=2) (kp:=0) (br:=true) rfl rfl rfl rfl m n j q s u z I Nv (fun h=>rfl) (fun h h'=>aY) fun f=>?_;unfold LQ at f;simp only[OO,L9,Lj,FX,DL]at f;obtain⟨⟨⟨⟨⟨⟨J,e2⟩,L⟩,O⟩,S⟩,U⟩,Y⟩:=f;have Z:Ls 2 8 0 c=(Gg (O4 8 c) (some 0)):=PW
 rw[Z];unfold NK;rw[EN (text0 J BQ),EN (UL j L),EN (QT O),show((8:Int)==4)=false from rfl,BM,EN (JW S),EN (JW U),Rz Y];exact ND (ajr c) (.ret _)
def akR (c:CU):Ch (O4 9 c) (NT 9 c.N):=by
 show Ch ((bif (c.N==1)then some true else some (c.N==2)).bind fun f=>(bif f then some true else some (c.N==6)).bind fun h=>(bif h then some 0 else some 2)) ((bif (c.N==1)then some true else some (c.N==2)).bind fun j=>(bif j then some true else some (c.N==6)).bind fun m=>(bif (!m)then some 2 else some 0));cases c.N==1<;>cases c.N==2<;>cases c.N==6<;>exact .ret _
def alG {c:CU} (m:Jy c):Ch (Kv 9 c) (Ih 9 c):=by
 have n:CJ 9 Gp=some true:=A8
 have q:CJ 9 I7=some true:=A8
 have j:CJ 9 IG=some false:=A8
 have s:CJ 9 KJ=some false:=A8
 have u:CJ 9 Kr=some false:=A8
 have z:CJ 9 JX=some false:=A8
 have I:CJ 9 Ku=some false:=A8
 have J:CJ 9 KY=some false:=A8
 refine frame (M:=3) (kp:=0) (br:=true) rfl rfl rfl rfl n q j s u z I J Nv (fun h=>rfl) (fun h h'=>aY) fun f=>?_;unfold LQ at f;simp only[OO,L9,Lj,FX,DL]at f;obtain⟨⟨⟨⟨⟨e2,L⟩,O⟩,S⟩,U⟩,Y⟩:=f;have Z:Ls 3 9 0 c=(Gg (QF 9 c) (Gg (O4 9 c) (some 0))):=PW
 rw[Z];unfold NK;rw[EN (UL j L),EN (QT O),show((9:Int)==4)=false from rfl,BM,EN (JW S),EN (JW U),Rz Y];exact ND (ZV m) (ND (akR c) (.ret _))
def aly (c:CU):Ch (O4 10 c) (NT 10 c.N):=by
 show Ch ((bif decide (c.N<1)then some true else some (decide (c.N>10000))).bind fun f=>(bif f then some 2 else some 0)) ((bif decide (c.N≥1)then some (decide (c.N≤10000))else some false).bind fun h=>(bif (!h)then some 2 else some 0));rw[vF,vg];cases decide (c.N<1)<;>cases decide (c.N>10000)<;>exact .ret _
def agv {c:CU} (hc:Jy c):Ch (Kv 10 c) (Ih 10 c):=by
 have m:CJ 10 Gp=some false:=A8
 have n:CJ 10 I7=some true:=A8
 have j:CJ 10 IG=some false:=A8
 have q:CJ 10 KJ=some false:=A8
 have s:CJ 10 Kr=some false:=A8
 have u:CJ 10 JX=some false:=A8
 have z:CJ 10 Ku=some false:=A8
 have I:CJ 10 KY=some false:=A8
 refine frame (M:=2) (kp:=0) (br:=true) rfl rfl rfl rfl m n j q s u z I Nv (fun h=>rfl) (fun h h'=>aY) fun f=>?_;unfold LQ at f;simp only[OO,L9,Lj,FX,DL]at f;obtain⟨⟨⟨⟨⟨⟨J,e2⟩,L⟩,O⟩,S⟩,U⟩,Y⟩:=f;have Z:Ls 2 10 0 c=(Gg (O4 10 c) (some 0)):=PW
 rw[Z];unfold NK;rw[EN (text0 J BQ),EN (UL j L),EN (QT O),show((10:Int)==4)=false from rfl,BM,EN (JW S),EN (JW U),Rz Y];exact ND (aly c) (.ret _)
def alr {c:CU} (m:Jy c):Ch (Kv 11 c) (Ih 11 c):=by
 have n:CJ 11 Gp=some true:=A8
 have q:CJ 11 I7=some false:=A8
 have j:CJ 11 IG=some true:=A8
 have s:CJ 11 KJ=some true:=A8
 have u:CJ 11 Kr=some false:=A8
 have z:CJ 11 JX=some false:=A8
 have I:CJ 11 Ku=some false:=A8
 have J:CJ 11 KY=some false:=A8
 refine frame (M:=13) (kp:=0) (br:=true) rfl rfl rfl rfl n q j s u z I J Nv (fun h=>rfl) (fun h h'=>aY) fun f=>?_;unfold LQ at f;simp only[OO,L9,Lj,FX,DL]at f;obtain⟨⟨⟨⟨Z,L⟩,O⟩,S⟩,U⟩:=f;have Y:Ls 13 11 0 c=(Gg (QF 11 c) (Gg (Qx 11 c) (Gg (ZU 11 c) (some 0)))):=PW
 rw[Y];unfold NK;rw[EN (show NT 11 c.N=some 0 from rfl),EN (QT L),show((11:Int)==4)=false from rfl,BM,EN (JW O),EN (JW S),Rz U];rw[aDv,aDv];exact ND (ZV m) (atC j)
def aq9 {c:CU} (m:Jy c):Ch (Kv 12 c) (Ih 12 c):=by
 have n:CJ 12 Gp=some true:=A8
 have q:CJ 12 I7=some false:=A8
 have j:CJ 12 IG=some true:=A8
 have s:CJ 12 KJ=some false:=A8
 have u:CJ 12 Kr=some false:=A8
 have z:CJ 12 JX=some false:=A8
 have I:CJ 12 Ku=some false:=A8
 have J:CJ 12 KY=some false:=A8
 refine frame (M:=5) (kp:=0) (br:=true) rfl rfl rfl rfl n q j s u z I J Nv (fun h=>rfl) (fun h h'=>aY) fun f=>?_;unfold LQ at f;simp only[OO,L9,Lj,FX,DL]at f;obtain⟨⟨⟨⟨⟨e1,L⟩,O⟩,S⟩,U⟩,Y⟩:=f;have Z:Ls 5 12 0 c=(Gg (QF 12 c) (Gg (Qx 12 c) (some 0))):=PW
 rw[Z];unfold NK;rw[EN (show NT 12 c.N=some 0 from rfl),EN (QT O),show((12:Int)==4)=false from rfl,BM,EN (JW S),EN (JW U),Rz Y];exact ND (ZV m) (ND (aKj j L) (.ret _))
def afm {c:CU} (m:Jy c):Ch (Kv 13 c) (Ih 13 c):=by
 have n:CJ 13 Gp=some true:=A8
 have q:CJ 13 I7=some false:=A8
 have j:CJ 13 IG=some true:=A8
 have s:CJ 13 KJ=some false:=A8
 have u:CJ 13 Kr=some false:=A8
 have z:CJ 13 JX=some false:=A8
 have I:CJ 13 Ku=some false:=A8
 have J:CJ 13 KY=some false:=A8
 refine frame (M:=5) (kp:=0) (br:=true) rfl rfl rfl rfl n q j s u z I J Nv (fun h=>rfl) (fun h h'=>aY) fun f=>?_;unfold LQ at f;simp only[OO,L9,Lj,FX,DL]at f;obtain⟨⟨⟨⟨⟨e1,L⟩,O⟩,S⟩,U⟩,Y⟩:=f;have Z:Ls 5 13 0 c=(Gg (QF 13 c) (Gg (Qx 13 c) (some 0))):=PW
 rw[Z];unfold NK;rw[EN (show NT 13 c.N=some 0 from rfl),EN (QT O),show((13:Int)==4)=false from rfl,BM,EN (JW S),EN (JW U),Rz Y];exact ND (ZV m) (ND (aKj j L) (.ret _))
def af8 {c:CU} (m:Jy c):Ch (Kv 14 c) (Ih 14 c):=by
 have n:CJ 14 Gp=some true:=A8
 have q:CJ 14 I7=some false:=A8
 have j:CJ 14 IG=some true:=A8
 have s:CJ 14 KJ=some false:=A8
 have u:CJ 14 Kr=some false:=A8
 have z:CJ 14 JX=some false:=A8
 have I:CJ 14 Ku=some false:=A8
 have J:CJ 14 KY=some false:=A8
 refine frame (M:=5) (kp:=4) (br:=false) rfl rfl rfl rfl n q j s u z I J Nv (fun h=>He) (fun h h'=>He) fun f=>?_;unfold LQ at f;simp only[OO,L9,Lj,FX,DL]at f;obtain⟨⟨⟨⟨⟨e1,L⟩,O⟩,S⟩,U⟩,Y⟩:=f;have Z:Ls 5 14 0 c=(Gg (QF 14 c) (Gg (Qx 14 c) (some 0))):=PW
 rw[Z];unfold NK;rw[EN (show NT 14 c.N=some 0 from rfl),EN (QT O),show((14:Int)==4)=false from rfl,BM,EN (JW S),EN (JW U),Rz Y];exact ND (ZV m) (ND (aKj j L) (.ret _))
def aff (k:Int) {c:CU} (h:Jy c):Ch (Kv k c) (Ih k c):=by
 cases j:decide (k≥1)&&decide (k≤14)with
 |false=>
  obtain⟨m,k2⟩:=pF k;rw[j]at m k2
  have f:∀n:Int,1≤n→n≤14→(k==n)=false:=fun n q s=>by
   rw[wQ];rintro rfl;rw[Ht (show k≥1 from q),Ht s]at j;cases j
  have u:kK k=some 0:=by
   unfold kK oV uF;rw[f 2 BQ BQ,f 3 BQ BQ,f 4 BQ BQ,f 5 BQ BQ,f 8 BQ BQ,f 10 BQ BQ,f 6 BQ BQ,f 7 BQ BQ,f 9 BQ BQ,f 11 BQ BQ,f 12 BQ BQ,f 13 BQ BQ,f 14 BQ BQ];rfl
  unfold Kv Ih;rw[u,m,k2];exact .ret _
 |true=>
  simp only[DL,H6]at j;have :k=1∨k=2∨k=3∨k=4∨k=5∨k=6∨k=7∨k=8∨k=9∨k=10∨k=11∨k=12∨k=13∨k=14:=AA
  rcases this with rfl|rfl|rfl|rfl|rfl|rfl|rfl|rfl|rfl|rfl|rfl|rfl|rfl|rfl
  ·exact aoA h
  ·exact ajM h
  ·exact arY h
  ·exact ahp h
  ·exact ao9 h
  ·exact aoJ h
  ·exact apX h
  ·exact aew h
  ·exact alG h
  ·exact agv h
  ·exact alr h
  ·exact aq9 h
  ·exact afm h
  exact af8 h
def Nz {α:Type} (p:α→α→Bool) (a b:List α):Bool:=((a.length:Int)==(b.length:Int))&& !((a.zip b).any fun x=> !p x.1 x.2)
def lW {α R:Type} {body:(Int→Option R)→Int→Option R} (p:α→α→Bool) (a b:List α) (ha:a.length≤1000) (j:a.length=b.length) (bad:R) (rest:Option R)
 (m:∀k (i:Nat) (h:i<a.length) (h':i<b.length),body k (i:Int)=bif !p a[i] b[i]then some bad else k (Aw ((i:Int)+1))) (n:∀k,body k (a.length:Int)=rest):bn body Ap 0=bif (a.zip b).any fun x=> !p x.1 x.2 then some bad else rest:=by
 have f:(a.zip b).length=a.length:=E5
 refine Gl (a.zip b) (by rw[f];exact wC AA) (fun x=> !p x.1 x.2) bad rest (fun k i h=>?_) (fun k=>by rw[f];exact n k);have q:i<a.length:=AA
 have s:i<b.length:=AA
 rw[m k i q s,aMH]
def len_eq {α:Type} {a b:List α} (h:((a.length:Int)==(b.length:Int))=true):a.length=b.length:=aIt
def VL (x y:ByteArray):Bool:=x.toList==y.toList
def VY (x y:Gw):Bool:=x.User.toList==y.User.toList&&x.N==y.N
def UR (x y:Iz):Bool:=x.Kind==y.Kind&&x.N==y.N
def aEN {a b:List ByteArray} (ha:a.length≤1000):pY a b=some (Nz VL a b)∧Tq a b=some (Nz VL a b):=by
 unfold pY Tq Nz;simp only[bne];cases h:((a.length:Int)==(b.length:Int))with
 |false=>exact⟨rfl,rfl⟩
 |true=>
  have f:=len_eq h;simp only[EM,BM,FX];unfold aRq zH
  rw[lW VL a b ha f false (some true) (fun k i h h'=>by simp only[aJB,dec_lt h,Ba,CB h,CB h',Aa];rfl) (fun k=>by simp only[aJB,DT,BM]),
   lW VL a b ha f false (some true) (fun k i h h'=>by simp only[aH8,dec_lt h,Ba,CB h,CB h',Aa];rfl) (fun k=>aHJ)]
  cases(a.zip b).any fun x=> !VL x.1 x.2<;>exact⟨rfl,rfl⟩
def aeL {a b:List Gw} (ha:a.length≤1000):aBh a b=some (Nz VY a b):=by
 unfold aBh Nz;simp only[bne];cases h:((a.length:Int)==(b.length:Int))with
 |false=>rfl
 |true=>
  have f:=len_eq h;simp only[EM,BM,FX];unfold aQG;rw[lW VY a b ha f false (some true) (fun k i h h'=>by simp only[aP6,dec_lt h,Ba,CB h,CB h',Aa,aBY,VY,Lj]) (fun k=>by simp only[aP6,DT,BM])];cases(a.zip b).any fun x=> !VY x.1 x.2<;>rfl
def ar8 {a b:List Iz} (ha:a.length≤1000):aC2 a b=some (Nz UR a b):=by
 unfold aC2 Nz;simp only[bne];cases h:((a.length:Int)==(b.length:Int))with
 |false=>rfl
 |true=>
  have f:=len_eq h;simp only[EM,BM,FX];unfold abD;rw[lW UR a b ha f false (some true) (fun k i h h'=>by simp only[aLb,dec_lt h,Ba,CB h,CB h',Aa,aG7,UR,Lj]) (fun k=>by simp only[aLb,DT,BM])];cases(a.zip b).any fun x=> !UR x.1 x.2<;>rfl
def aFr (a b:CG):Bool:=(a.User==b.User)&&(a.Message==b.Message)&&(a.State==b.State)&&(a.gK==b.gK)&&(a.jV==b.jV)&&(a.mW==b.mW)&&(a.gZ==b.gZ)
def aEE (a b:CG):Bool:=Nz VY a.Users b.Users&&(Nz UR a.Kinds b.Kinds&&aFr a b)
def apY {a b:CG} (f:a.Users.length≤1000) (j:a.Kinds.length≤1000):Wy a b=some (aEE a b):=by
 unfold Wy aEE Nz;simp only[bne];cases m:((a.Users.length:Int)==(b.Users.length:Int))with
 |false=>rfl
 |true=>
  cases n:((a.Kinds.length:Int)==(b.Kinds.length:Int))with
  |false=>simp
  |true=>
   have q:=len_eq m;have ek:=len_eq n
   have s:Xc a b 0=bif (a.Kinds.zip b.Kinds).any fun x=> !UR x.1 x.2 then some false else some (aFr a b):=by
    unfold Xc;refine lW UR a.Kinds b.Kinds j ek false (some (aFr a b)) (fun k i h h'=>?_) (fun k=>?_)
    ·simp only[iT,dec_lt h,Ba,CB h,CB h',Aa,wG,UR,bne];cases a.Kinds[i].Kind==b.Kinds[i].Kind<;>cases a.Kinds[i].N==b.Kinds[i].N<;>rfl
    simp only[iT,DT,BM,Jf,Aa,TR];rfl
   simp only[EM,BM,Aa,FX];unfold rG
   rw[lW VY a.Users b.Users f q false (Xc a b 0) (fun k i h h'=>by
    simp only[kN,dec_lt h,Ba,CB h,CB h',Aa,vX,VY,bne]
    cases a.Users[i].User.toList==b.Users[i].User.toList<;>cases a.Users[i].N==b.Users[i].N<;>rfl) (fun k=>by simp only[kN,DT,BM]),s]
   cases(a.Users.zip b.Users).any fun x=> !VY x.1 x.2<;>cases(a.Kinds.zip b.Kinds).any fun x=> !UR x.1 x.2<;>rfl
def aAK (a b:CU):Bool:=(a.Text.toList==b.Text.toList)&&(a.N==b.N)&&(a.Target==b.Target)&&(a.Thread==b.Thread)&&(a.Via.toList==b.Via.toList)&&Nz VL a.Allow b.Allow&&Nz VL a.gY b.gY&&aEE a.Levels b.Levels
def aqC {a:CU} (b:CU) (ha:Qj a):TT a b=some (aAK a b):=by
 have f:=ha.allow;have h:=ha.deny;have j:=ha.users;have m:=ha.kinds;unfold TT aAK;rw[(aEN (a:=a.Allow) AA).2,(aEN (a:=a.gY) AA).2,apY (a:=a.Levels) AA AA];simp only[Jf,Aa,TR]
def aof {a:CU} (b:CU) (ha:Qj a):aFA a b=some (aAK a b):=by
 have u:=ha.allow;have z:=ha.deny;have I:=ha.users;have J:=ha.kinds;unfold aFA aAK aEE aFr;rw[(aEN (a:=a.Allow) AA).1,(aEN (a:=a.gY) AA).1,aeL (a:=a.Levels.Users) AA,ar8 (a:=a.Levels.Kinds) AA];simp only[Jf,Aa,TR,aC,bne];generalize(a.Text.toList==b.Text.toList)=f;generalize(a.N==b.N)=h;generalize(a.Target==b.Target)=j;generalize(a.Thread==b.Thread)=m;generalize(a.Via.toList==b.Via.toList)=n;generalize Nz VL a.Allow b.Allow=q;generalize Nz VL a.gY b.gY=s;generalize Nz VY a.Levels.Users b.Levels.Users=L;generalize Nz UR a.Levels.Kinds b.Levels.Kinds=M;cases f<;>cases h<;>cases j<;>cases m<;>cases n<;>cases q<;>cases s<;>first|rfl|(simp only[EM,Bool.or_self,BM,FX,Bool.and_self,Bool.and_assoc])
def arw {e:AX} (f:SC e) (v:Bool):Ch (XZ e v) ((Qv e v).bind fun h=>(bif (h != 0)then some h else(Ih e.Kind e.Content).bind fun n=>some n)):=by
 have U:=f.room;have Y:=f.sender;have Z:=f.key;have h4:=f.prev;have h5:=f.auth;unfold XZ Qv;rw[aqc f,(uw (s:=e.Room) AA).2,(Y8 (s:=e.bH) AA).2,aUr AA];cases v with
 |true=>exact .ret _
 |false=>
  simp only[BM,Aa,bne,Jf,aC];generalize(VI e.Room==0)=a;generalize(Qd e.bH==0)=b;generalize V5 e.Kind e.Key=u;cases a with
  |false=>exact .ret _
  |true=>
   cases b with
   |false=>exact .ret _
   |true=>
    cases u with
    |false=>exact .ret _
    |true=>
     simp only[EM,Bool.or_self,Bool.and_self,BM,aF8];refine Ch.bif (fun _=>.ret _) fun _=>Ch.bif (fun _=>.ret _) fun hlen=>?_;simp only[vS,lJ]at hlen;obtain⟨z,I,J⟩:=ac8 (l:=e.bK) AA;obtain⟨L,M,O⟩:=ac8 (l:=e.bP) AA;rw[I,M,J,O];simp only[Aa,Jf,aC,aF8];cases z with
     |false=>exact .ret _
     |true=>
     cases L with
     |false=>exact .ret _
     |true=>
     simp only[EM,BM]
     have S:decide ((Aw ((e.bK.length:Int)+(e.bP.length:Int)))>0)=(decide ((e.bK.length:Int)>0)||decide ((e.bP.length:Int)>0)):=by
      rw[OI AA AA];by_cases j:(e.bK.length:Int)>0
      ·rw[Ht j,Ht AA];rfl
      by_cases m:(e.bP.length:Int)>0
      ·rw[Ht m,Ht AA,OO]
      rw[IJ j,IJ m,IJ AA];rfl
     rw[S];generalize(bif ((e.bK.length:Int)==0)then !e.Kind==1 else false)=p;generalize(bif (e.Kind==1)then(decide ((e.bK.length:Int)>0)||decide ((e.bP.length:Int)>0))else false)=q;cases p with
     |true=>exact .ret _
     |false=>
      cases q with
      |true=>exact .ret _
      |false=>exact Ch.bind (aff e.Kind f.content) fun x=>.ret _
def asD {e:AX} (h:SC e):Ch (aA3 e) (kZ e):=by
 have f:=arw h;unfold aA3 kZ aAF;rw[show aT e.Kind=SK e.Kind from rfl];simp only[aF8,bne,Jf,Aa];refine Ch.bif (fun _=>f _) fun _=>Ch.bif (fun _=>f _) fun _=>?_;have j:∃b,SK e.Kind=some b:=by unfold SK;cases decide (e.Kind≥1)<;>cases decide (e.Kind≤10)<;>exact⟨_,rfl⟩
 obtain⟨b,m⟩:=j;rw[m];simp only[Aa,aF8];refine Ch.bif (fun _=>f _) fun _=>Ch.bif (fun _=>?_) fun _=>f _;cases e.Kind==2 with
 |true=>exact f _
 |false=>exact f _
def acT {e:AX} (f:TB e):aEP e=some (xR e==e.Hash)∧aCO e=some (xR e==e.Hash):=by
 unfold aEP aCO;rw[(acR f).1,(acR f).2];exact⟨rfl,rfl⟩
def akZ {e:AX} (f:TB e) (v:Bool):Ch (bV e v) (lN e v):=by
 have q:e.bH.size≤2000:=f.sender;unfold bV lN;obtain⟨h,j⟩:=aUO f;obtain⟨m,n⟩:=jH (s:=e.bH) AA;rw[h,j,m,n];refine Ch.bif (fun _=>.ret _) fun _=>?_;simp only[Aa];refine Ch.bif (fun _=>.ret _) fun _=>?_;unfold aAA aD9;show Ch (bif !((e.qR.Server.toList==(splitB e.bH (Jg e.bH)).2.1.toList)&&((e.qR.Sum==e.Id)&&true))then some 12 else some 0) _;simp only[bne];cases(e.qR.Server.toList==(splitB e.bH (Jg e.bH)).2.1.toList)<;>cases(e.qR.Sum==e.Id)<;>exact .ret _
def JK {a:Int} {c:Bool} {X:Option Int} (h:(bif c then some a else X)=some 0) (ha:a≠0):c=false∧X=some 0:=by
 cases c with
 |true=>exact absurd (Cx h) ha
 |false=>exact⟨rfl,h⟩
def QW {a:Int} {x:Option Int} (h:(bif a != 0 then some a else x)=some 0):a=0∧x=some 0:=by
 by_cases ha:a=0
 ·subst ha;exact⟨rfl,h⟩
 rw[show(a != 0)=true from by simpa using ha]at h;exact absurd (Cx h) ha
def firsts {α R:Type} {body:(Int→Option R)→Int→Option R} {ok:R} (l:List α) (L:l.length≤9223372036854775807) (P:Nat→Prop)
 (u:∀k (i:Nat),i<l.length→body k (i:Int)=some ok→P i∧k ((i+1:Nat):Int)=some ok) (q:Nat) (h:bn body Ap (q:Int)=some ok):∀i,q≤i→i<l.length→P i:=by
 have key:∀n (i:Nat) m,i+n=l.length→n<m→bn body m (i:Int)=some ok→∀j,i≤j→j<l.length→P j:=by
  intro n
  induction n with
  |zero=>intro i m hi _ _ j f s;omega
  |succ n z=>
   intro i m hi M I j f s;obtain⟨m,rfl⟩:∃J,m=J+1:=⟨m-1,AA⟩
   obtain⟨a,b⟩:=u (bn body m) i AA I;rcases aHK f with rfl|f
   ·exact a
   exact z (i+1) m AA AA b j f s
 intro i f s;have O:Ap=9223372036854775808:=rfl;exact key (l.length-q) q Ap AA AA h i f s
def qc {α:Type} {l:List α} {Q:α→Prop} (h:∀i,0≤i→i<l.length→∀x,l[i]? =some x→Q x):∀x∈l,Q x:=fun x f=>by
 obtain⟨i,hi,rfl⟩:=JJ f;exact h i (Eh _) hi _ (Dx hi)
def anP (s:ByteArray) (a b:Nat) (f:b≤s.size):(s.extract a b).size=b-a:=by rw[aMk];omega
def aaL {l:List Int} {p:Int→Bool} (h:QC l p=true):l.length≤32:=(aUs h).2
def yU {s:ByteArray} {m:Int} (h:GY s m=true):s.size≤100:=by
 unfold GY TI at h;simp only[DL,H6]at h;have n:=h.2.1.1;have f:=aaL h.2.1.2
 have j:(Bq (Ru s)).length≤32:=by
  have :=h.2.2;unfold Y1 at this;simp only[DL]at this;exact aaL this.1.1
 rw[H7]at f j;unfold Uk at f;unfold Ru at j;rw[anP _ _ _ AA]at f j;omega
def abX {s:ByteArray} (j:s.size≤9223372036854775807) (h:YB s=some 0):s.size≤100∧GY s 64=true:=by
 rw[(Y8 j).2]at h;have h:=Cx h;unfold Qd at h;cases f:GY s 64 with
 |true=>exact⟨yU f,rfl⟩
 |false=>rw[f]at h;cases h
def akd {s:ByteArray} (j:s.size≤9223372036854775807) (h:jD s=some 0):s.size≤100∧GY s 33=true:=by
 rw[(uw j).2]at h;have h:=Cx h;unfold VI at h;cases f:GY s 33 with
 |true=>exact⟨yU f,rfl⟩
 |false=>rw[f]at h;cases h
def aTJ {s:ByteArray} (f:s.size≤9223372036854775807) (h:lg s=some 0):s.size≤100:=by
 rw[(aIU f).2]at h;have h:=Cx h;unfold aAM at h;split at h
 ·omega
 split at h
 ·cases h
 omega
def aR1 {l:List ByteArray} (m:l.length≤9223372036854775807) (n:∀s∈l,s.size≤9223372036854775807) (h:Rf l=some 0):l.length≤100∧∀s∈l,s.size≤100:=by
 unfold Rf at h;obtain⟨q,h⟩:=JK h BQ;refine⟨by have :=Jk q;omega,qc (firsts l m (fun i=>∀x,l[i]? =some x→x.size≤100) (fun k i hi f=>?_) 0 h)⟩;unfold xI at f;rw[CZ hi]at f;obtain⟨x,u,f⟩:=DK f;obtain⟨e,f⟩:=QW f;subst e;rw[wrap_succ i AA]at f;exact⟨fun y j=>by rw[Dx hi]at j;obtain rfl:=Cx j;exact aTJ (n _ (Eb hi)) u,f⟩
def aeX {c:CU} (q:c.Allow.length≤9223372036854775807) (u:∀s∈c.Allow,s.size≤9223372036854775807) (h:ZJ c=some 0):c.Allow.length≤100∧∀s∈c.Allow,s.size≤100:=by
 unfold ZJ at h;obtain⟨x,_,h⟩:=DK h;obtain⟨_,h⟩:=JK h BQ;obtain⟨I,h⟩:=JK h BQ;refine⟨by have :=Jk I;omega,qc (firsts c.Allow q (fun i=>∀x,c.Allow[i]? =some x→x.size≤100) (fun k i hi f=>?_) 0 h)⟩;unfold aAk wP at f;rw[CZ hi]at f;obtain⟨x,J,f⟩:=DK f;obtain⟨e,f⟩:=JK f BQ;have j:x=0:=Q7
 subst j;refine⟨fun y m=>by rw[Dx hi]at m;obtain rfl:=Cx m;exact(akd (u _ (Eb hi)) J).1,?_⟩;cases n:decide ((i:Int)>0)with
 |true=>
  rw[n,Ba]at f;obtain⟨y,_,f⟩:=DK f;obtain⟨z,_,f⟩:=DK f;obtain⟨_,f⟩:=JK f BQ
  rwa [wrap_succ i AA]at f
 |false=>
  rw[n,BM,BM]at f
  rwa [wrap_succ i AA]at f
def arn {l:List Gw} (J:l.length≤9223372036854775807) (L:∀u∈l,u.User.size≤9223372036854775807) (h:Y6 l=some 0):l.length≤100∧∀u∈l,u.User.size≤100:=by
 unfold Y6 at h;obtain⟨M,h⟩:=JK h BQ;refine⟨by have :=Jk M;omega,qc (firsts l J (fun i=>∀x,l[i]? =some x→x.User.size≤100) (fun k i hi j=>?_) 0 h)⟩
 have n:∀v,fM l (i:Int) k v=some 0→k ((i+1:Nat):Int)=some 0:=fun v f=>by
  unfold fM at f;obtain⟨_,f⟩:=JK f BQ;obtain⟨y,_,f⟩:=DK f;obtain⟨z,_,f⟩:=DK f;obtain⟨_,f⟩:=JK f BQ
  rwa [wrap_succ i AA]at f
 unfold yK at j;rw[CZ hi]at j;obtain⟨x,q,O⟩:=DK j;obtain⟨e,hd⟩:=JK O BQ;have m:x=0:=Q7
 rw[m]at q;refine⟨fun y s=>by rw[Dx hi]at s;obtain rfl:=Cx s;exact(abX (L _ (Eb hi)) q).1,?_⟩;cases I:decide ((i:Int)>0)with
 |true=>
  rw[I,Ba]at hd;obtain⟨y,_,S⟩:=DK hd;obtain⟨z,_,U⟩:=DK S;exact n _ U
 |false=>
  rw[I,BM]at hd;exact n _ hd
def an0 {l:List Iz} (h:Xh l=some 0):l.length≤100:=by
 unfold Xh at h;obtain⟨f,_⟩:=JK h BQ;have :=Jk f;omega
def empty_of {s:ByteArray} (h:(s.toList==Bc.toList)=true):s.size≤100:=by rw[aB2]at h;have :=eq_of_beq h;omega
def aPc {l:CG} (h:MS l=true):l.Users=[]∧l.Kinds=[]:=by
 unfold MS at h;simp only[DL]at h;exact⟨SQ h.1.1.1.1.1.1.1.1,SQ h.1.1.1.1.1.1.1.2⟩
def aqF {k:Int} {c:CU} (q:Jy c) (h:Ih k c=some 0):Qj c:=by
 unfold Ih at h;rw[(pF k).2,Aa]at h;obtain⟨x2,J,h⟩:=DK h;obtain⟨e2,h⟩:=JK h BQ;subst e2
 have n:Zn k c=some true:=by
  cases hk:(decide (k≥1)&&decide (k≤14))with
  |false=>rw[hk]at J;cases J
  |true=>
   rw[hk]at J;obtain⟨y,L,I⟩:=DK (show(Zn k c).bind (fun x4=>some (!x4))=some false from J);have I:=Cx I;cases y with
   |true=>exact L
   |false=>cases I
 obtain⟨x6,_,h⟩:=DK h;obtain⟨x7,M,h⟩:=DK h;cases x7 with
 |true=>
  have I:YM (c.Text.toList==Bc.toList) (c.N==0) (c.Target==0) (!c.Thread) (c.Via.toList==Bc.toList) ((c.Allow.length:Int)==0) ((c.gY.length:Int)==0) (MS c.Levels)=true:=by
   cases x6 with
   |false=>cases M
   |true=>rw[aJU]at M;exact Cx M
  unfold YM at I;simp only[DL]at I;obtain⟨⟨⟨⟨⟨⟨⟨t1,_⟩,_⟩,_⟩,t5⟩,t6⟩,t7⟩,t8⟩:=I;have p:=aPc t8;have q1:=empty_of t1;have q2:=empty_of t5;have Y:=SQ t6;have Z:=SQ t7;refine⟨?_,?_,?_,?_,AA,AA,?_,?_,?_⟩<;>first|rw[Y]|rw[Z]|rw[p.1]|rw[p.2]
  all_goals first|exact Eh _|exact fun x hx=>absurd hx G7
 |false=>
  rw[BM]at h;obtain⟨x11,f,h⟩:=DK h;obtain⟨e,h⟩:=QW h;subst e;obtain⟨GX,_,h⟩:=DK h;obtain⟨_,h⟩:=QW h;obtain⟨x15,_,h⟩:=DK h;obtain⟨_,h⟩:=QW h;obtain⟨x17,m,h⟩:=DK h;obtain⟨e,h⟩:=QW h;subst e
  have ht:c.Text.size≤2000:=by
   unfold XI at f;cases h9:k==9 with
   |true=>
    rw[h9,Ba]at f;cases S:(c.Text.toList==Bc.toList)with
    |true=>have :=empty_of S;omega
    |false=>
     rw[S,BM]at f;obtain⟨y,L,f⟩:=DK f;obtain rfl:=Cx f;have :=aTJ q.text L;omega
   |false=>
    rw[h9,BM]at f;obtain⟨y,_,f⟩:=DK f;obtain⟨_,f⟩:=JK f BQ;obtain⟨z,I,f⟩:=DK f;obtain⟨e,_⟩:=JK f BQ;subst e;cases hd:decide ((c.Text.size:Int)>400)with
    |true=>rw[hd]at I;cases I
    |false=>have :=Jk hd;omega
  have hv:c.Via.size≤2000:=by
   unfold YA at m;cases S:(c.Via.toList==Bc.toList)with
   |true=>have :=empty_of S;omega
   |false=>
    rw[S,BM]at m;obtain⟨_,m⟩:=JK m BQ;obtain⟨y,L,m⟩:=DK m;obtain rfl:=Cx m;have :=(abX q.via L).1;omega
  have O:∀{l:List ByteArray},(∀s∈l,s.size≤100)→∀s∈l,s.size≤2000:=fun h s hs=>Ei (h s hs) AA;cases h4:k==4 with
  |true=>
   have e4:=eq_of_beq h4;subst e4;rw[OM,Ba]at h;obtain⟨y,L,h⟩:=DK h;obtain rfl:=Cx h;obtain⟨r1,r2⟩:=aeX q.allow q.allows L;rw[abG (K:=4) (c:=c) (show _=some false by kernel_rfl) (show _=some true by kernel_rfl) (show _=some false by kernel_rfl) (show _=some false by kernel_rfl) (show _=some false by kernel_rfl) (show _=some true by kernel_rfl) (show _=some false by kernel_rfl) (show _=some false by kernel_rfl)]at n;have U:=Cx n;unfold LQ at U;simp only[DL,L9]at U;have d:=SQ U.1.2;have p:=aPc U.2;refine⟨r1,?_,?_,?_,ht,hv,O r2,?_,?_⟩<;>first|rw[d]|rw[p.1]|rw[p.2]
   all_goals first|exact Eh _|exact fun x hx=>absurd hx G7
  |false=>
   rw[h4,BM]at h;obtain⟨y1,hy1,h⟩:=DK h;obtain⟨e,h⟩:=QW h;subst e;obtain⟨y2,hy2,h⟩:=DK h;obtain⟨e,h⟩:=QW h;subst e;obtain⟨y3,j,h⟩:=DK h;obtain rfl:=Cx h;unfold Yk at j;obtain⟨z1,hz1,j⟩:=DK j;obtain⟨e,j⟩:=QW j;subst e;obtain⟨z2,hz2,j⟩:=DK j;obtain⟨e,j⟩:=QW j;subst e;obtain⟨Y,Z⟩:=aR1 q.allow q.allows hy1;obtain⟨d1,d2⟩:=aR1 q.deny q.denies hy2;obtain⟨u1,u2⟩:=arn q.users q.names hz1;exact⟨Y,d1,u1,an0 hz2,ht,hv,O Z,O d2,fun u hu=>Ei (u2 u hu) AA⟩
structure vV (e:AX):Prop where
 kind:1≤e.Kind∧e.Kind≤14
 state:e.State=IK e.Kind
 keyed:e.Key=Bc∨e.Kind=2∨e.Kind=9
 room:GY e.Room 33=true
 sender:GY e.bH 64=true
 key:V5 e.Kind e.Key=true
 time:0≤e.Time∧e.Time≤1000000000
 depth:1≤e.Depth∧e.Depth≤100000
 prev:e.bK.length≤10∧Inc e.bK∧∀x∈e.bK,0≤x
 auth:e.bP.length≤8∧Inc e.bP∧∀x∈e.bP,0≤x
 short:e.bK=[]→e.Kind=1
 form:e.Kind=1→e.bK=[]∧e.bP=[]
 content:Ih e.Kind e.Content=some 0
 small:TB e
def adP {l:List Int} (S:l.length≤9223372036854775807) (h:aF l=some true):Inc l∧∀x∈l,0≤x:=by
 unfold aF aOG at h
 have m:=firsts l S (fun i=>∀x,l[i]? =some x→0≤x∧∀y,0<i→l[i-1]? =some y→y<x) (fun k i hi f=>by
  have s:∀v,bT k (i:Int) v=some true→v=false∧k ((i+1:Nat):Int)=some true:=fun v u=>by
   unfold bT at u;cases v with
   |true=>cases u
   |false=>rw[BM,wrap_succ i AA]at u;exact⟨rfl,u⟩
  unfold aEi at f;rw[CZ hi]at f;cases I:decide (l[i]<0)with
  |true=>rw[I,Ba]at f;cases(s _ f).1
  |false=>
   have U:=Jk I;rw[I,BM]at f;cases z:decide ((i:Int)>0)with
   |false=>
    have Y:=Jk z;rw[z,BM]at f;refine⟨fun x n=>?_,(s _ f).2⟩;rw[Dx hi]at n;obtain rfl:=Cx n;exact⟨AA,fun y U J=>AA⟩
   |true=>
    rw[z,Ba,CB hi,Aa,oP hi S z,Aa]at f;obtain⟨L,M⟩:=s _ f;refine⟨fun x n=>?_,M⟩;rw[Dx hi]at n;obtain rfl:=Cx n;refine⟨AA,fun y U J=>?_⟩;rw[Dx AA]at J;obtain rfl:=Cx J
    have :=Jk L;omega) 0 h
 have q:∀i,(hi:i+1<l.length)→l[i]<l[i+1]:=fun i hi=>(m (i+1) AA hi _ (Dx hi)).2 _ AA (Dx AA);refine⟨?_,fun x n=>?_⟩
 ·rw[Inc,Ky];intro i j hi s O
  induction j with
  |zero=>omega
  |succ j Z=>
   have L:=q j s;rcases aHK (Nat.le_of_lt_succ O)with rfl|M
   ·exact L
   have :=Z AA M;omega
 obtain⟨i,hi,rfl⟩:=JJ n;exact(m i (Eh _) hi _ (Dx hi)).1
def sQ {c:Bool} {X:Option Bool} {f:Bool→Option Int} {v:Int} (j:f true≠some v) (h:((bif c then some true else X).bind f)=some v):c=false∧X.bind f=some v:=by
 cases c with
 |true=>exact absurd h j
 |false=>exact⟨rfl,h⟩
def apd {e:AX} (J:SC e) (h:kZ e=some 0):vV e:=by
 unfold kZ at h;obtain⟨x1,f,h⟩:=DK h;obtain⟨e1,h⟩:=QW h;subst e1;obtain⟨x3,h3,h⟩:=DK h;obtain rfl:=Cx h;have z:=aqF J.content h3
 have L:∀v,Qv e v=some 0→v=false:=fun v hv=>by
  cases v with
  |true=>cases hv
  |false=>rfl
 have U:Qv e false=some 0∧(1≤e.Kind∧e.Kind≤14)∧e.State=IK e.Kind∧(e.Key=Bc∨e.Kind=2∨e.Kind=9):=by
  unfold aAF at f;cases S:decide (e.Kind<1)with
  |true=>rw[S,Ba]at f;cases L _ f
  |false=>
   cases Y:decide (e.Kind>14)with
   |true=>rw[S,Y,BM,Ba]at f;cases L _ f
   |false=>
    rw[S,Y,BM,BM,aAz,Aa]at f;have k1:=Jk S;have k2:=Jk Y;cases Z:(e.State==IK e.Kind)with
    |false=>rw[Z,IX,Ba]at f;cases L _ f
    |true=>
     rw[Z,EM,BM]at f;refine⟨?_,⟨AA,AA⟩,eq_of_beq Z,?_⟩
     all_goals cases c4:(e.Key.toList==Bc.toList)with
     |true=>rw[c4,EM,BM]at f;first|exact f|exact .inl (toList_inj (eq_of_beq c4))
     |false=>
      rw[c4,IX,Ba]at f;cases c5:(e.Kind != 2)with
      |false=>rw[c5,BM]at f;first|exact f|exact .inr (.inl (by simpa using c5))
      |true=>
       rw[c5,Ba]at f;have :=L _ f;rw[this]at f
       first|exact f|exact .inr (.inr aIB)
 clear f L;obtain⟨f,hk,hst,M⟩:=U;unfold Qv at f;rw[BM,(uw (s:=e.Room) J.room).2,(Y8 (s:=e.bH) J.sender).2,aUr J.key]at f;simp only[Aa]at f
 have m:GY e.Room 33=true:=by
  cases I:GY e.Room 33 with
  |true=>rfl
  |false=>unfold VI at f;rw[I]at f;cases f
 have r0:VI e.Room=0:=by unfold VI;rw[m];rfl
 rw[r0,Vu,BM,Aa]at f
 have n:GY e.bH 64=true:=by
  cases I:GY e.bH 64 with
  |true=>rfl
  |false=>unfold Qd at f;rw[I]at f;cases f
 have u0:Qd e.bH=0:=by unfold Qd;rw[n];rfl
 rw[u0,Vu,BM,Aa]at f
 have j:V5 e.Kind e.Key=true:=by
  cases I:V5 e.Kind e.Key with
  |true=>rfl
  |false=>rw[I]at f;cases f
 rw[j,EM,BM]at f;obtain⟨t1,f⟩:=sQ oH f;rw[Aa]at f;obtain⟨t2,f⟩:=sQ oH f;rw[Aa]at f;obtain⟨t3,f⟩:=sQ oH f;rw[Aa]at f;obtain⟨t4,f⟩:=JK f BQ;obtain⟨t5,f⟩:=sQ oH f;rw[Aa]at f;obtain⟨t6,f⟩:=JK f BQ;obtain⟨x21,h21,f⟩:=DK f;obtain⟨t7,f⟩:=sQ oH f;rw[Option.bind_assoc]at f;obtain⟨x24,h24,f⟩:=DK f;rw[Aa]at f;obtain⟨t8,f⟩:=JK f BQ;obtain⟨Ad,O,f⟩:=DK f;obtain⟨t9,f⟩:=JK f BQ;obtain⟨x29,u,f⟩:=DK f;obtain⟨t10,_⟩:=JK f BQ;have e21:x21=true:=by simpa using t7
 have e24:x24=true:=by simpa using t8
 subst e21 e24 t9 t10;have p1:=Jk t5;have p2:=Jk t6;have r1:=adP J.prev h21;have r2:=adP J.auth h24;have d1:=Jk t1;have d2:=Jk t2;have d3:=Jk t3;have d4:=Jk t4
 have hkz:e.Key.size≤2000:=by
  rcases M with h|h|h
  ·rw[h];exact Eh _
  ·unfold V5 at j;rw[D9 h]at j;have :Qd e.Key=0:=Oh
   unfold Qd at this;cases I:GY e.Key 64 with
   |true=>have :=yU I;omega
   |false=>rw[I]at this;cases this
  unfold V5 at j;rw[DN AA,D9 h]at j;unfold rX at j;simp only[DL,H6]at j;have :=j.1.2;omega
 have z1:=yU m;have z2:=yU n;refine⟨hk,hst,M,m,n,j,⟨AA,AA⟩,⟨AA,AA⟩,⟨AA,r1⟩,⟨AA,r2⟩,fun hp=>?_,fun hk1=>?_,h3,⟨?_,?_,z.allow,z.deny,z.users,z.kinds,?_,?_,hkz,z.text,z.via,Eh _,z.allows,z.denies,z.names⟩⟩
 ·rw[hp]at O;have :=Cx O;simpa using this
 ·rw[hk1]at u;have u:((bif decide ((e.bK.length:Int)>0)then some true else some (decide ((e.bP.length:Int)>0))).bind fun x31=>some x31)=some false:=u;cases q:decide ((e.bK.length:Int)>0)with
  |true=>rw[q]at u;cases u
  |false=>
   rw[q]at u;have q2:=Cx u;have :=Jk q;have :=Jk q2;exact⟨H9 AA,H9 AA⟩
 ·show e.bK.length≤40;omega
 ·show e.bP.length≤40;omega
 ·show e.Room.size≤2000;omega
 show e.bH.size≤2000;omega
def ad1 {e:AX} (I:SC e):∃c,aGY e=some c∧aCs e=some c∧(c=0→vV e∧Fa e):=by
 obtain⟨x,u,m⟩:=asD I;unfold aGY aCs;rw[u,m,Aa,Aa];cases n:x != 0 with
 |true=>exact⟨x,rfl,rfl,fun h=>by subst h;cases n⟩
 |false=>
  obtain rfl:x=0:=Nk
  have J:=apd I m;have f:=J.small;have z:e.bH.size≤2000:=f.sender;rw[BM,BM,(acT f).1,(acT f).2,aTX _ f.content,aRE];simp only[Aa];rw[aof _ f.content,aqC _ f.content];simp only[Aa]
  have key:∀v,∃c,bV e v=some c∧lN e v=some c∧(c=0→vV e∧Fa e):=fun v=>by
   obtain⟨c,j,M⟩:=akZ f v;refine⟨c,j,M,fun O=>⟨J,?_⟩⟩;subst O;unfold bV at j;obtain⟨_,j⟩:=JK j BQ;rw[(aUO f).1,Aa]at j;obtain⟨_,j⟩:=JK j BQ;rw[(jH (s:=e.bH) AA).1,Aa]at j;obtain⟨L,_⟩:=JK (show(bif !((e.qR.Server.toList==(splitB e.bH (Jg e.bH)).2.1.toList)&&((e.qR.Sum==e.Id)&&true))then some 12 else some 0)=some (0:Int)from j) BQ
   have S:e.qR.Server=(splitB e.bH (Jg e.bH)).2.1:=by
    cases q:(e.qR.Server.toList==(splitB e.bH (Jg e.bH)).2.1.toList)with
    |true=>exact toList_inj (eq_of_beq q)
    |false=>rw[q]at L;cases L
   have U:=(apR e.bH z).2.2;exact⟨f.prev,f.auth,f.allow,f.deny,f.users,f.kinds,f.room,f.sender,f.key,f.text,f.via,by rw[S];exact U,f.allows,f.denies,f.names⟩
  cases(!(xR e==e.Hash))with
  |true=>rw[Ba,Ba];exact key _
  |false=>rw[BM,BM];exact key _
def aLQ {f g:(Int→Option Int)→Int→Option Int} (N lo:Nat) (s:∀k k' (i:Nat),lo≤i→i<N→Ch (k ((i+1:Nat):Int)) (k' ((i+1:Nat):Int))→Ch (f k (i:Int)) (g k' (i:Int))) (u:∀k k',Ch (f k (N:Int)) (g k' (N:Int))):
 ∀n (i:Nat),lo≤i→i+n=N→∀m h,n<m→n<h→Ch (bn f m (i:Int)) (bn g h (i:Int)):=by
 intro n
 induction n with
 |zero=>
  intro i j hi m h z I;obtain⟨m,rfl⟩:∃q,m=q+1:=⟨m-1,AA⟩
  obtain⟨h,rfl⟩:∃q,h=q+1:=⟨h-1,AA⟩
  have :i=N:=AA
  subst this;exact u _ _
 |succ n J=>
  intro i j hi m h z I;obtain⟨m,rfl⟩:∃q,m=q+1:=⟨m-1,AA⟩
  obtain⟨h,rfl⟩:∃q,h=q+1:=⟨h-1,AA⟩
  exact s _ _ i j AA (J (i+1) AA AA m h AA AA)
def lasts {R:Type} {body:(Int→Option R)→Int→Option R} {ok:R} (N:Nat) (M:N≤9223372036854775807) (P:Nat→Prop)
 (I:∀k (i:Nat),i<N→body k (i:Int)=some ok→P i∧k ((i+1:Nat):Int)=some ok) (f:Nat) (O:f≤N) (h:bn body Ap (f:Int)=some ok):(∀i,f≤i→i<N→P i)∧∃k,body k (N:Int)=some ok:=by
 have key:∀n (i:Nat) m,i+n=N→n<m→bn body m (i:Int)=some ok→(∀j,i≤j→j<N→P j)∧∃k,body k (N:Int)=some ok:=by
  intro n
  induction n with
  |zero=>
   intro i m hi J s;obtain⟨m,rfl⟩:∃u,m=u+1:=⟨m-1,AA⟩
   have :i=N:=AA
   subst this;exact⟨fun j q z=>AA,_,s⟩
  |succ n L=>
   intro i m hi J s;obtain⟨m,rfl⟩:∃u,m=u+1:=⟨m-1,AA⟩
   obtain⟨a,b⟩:=I (bn body m) i AA s;obtain⟨c,d⟩:=L (i+1) m AA AA b;refine⟨fun j q z=>?_,d⟩;rcases aHK q with rfl|q
   ·exact a
   exact c j q z
 have S:Ap=9223372036854775808:=rfl;exact key (N-f) f Ap AA AA h
def aUY {α:Type} {l:List α} {i:Nat} (h:i+1<l.length) (f:l.length≤1000000):Aj l (Aw (((i+1:Nat):Int)-1))=some l[i]:=by
 rw[show Aw (((i+1:Nat):Int)-1)=(i:Int) by rw[Zy];omega,CB AA]
def ak0 {l:List AX} (s:∀e∈l,SC e) (S:l.length≤1000):Ch (Uo l) (Yi l):=by
 by_cases n:l=[]
 ·subst n;exact⟨0,A8,A8⟩
 have f:0<l.length:=l9.2 n;have u:Ap=9223372036854775807+1:=rfl
 have z:Ch (aE8 l 1) (aLO l 1):=by
  unfold aE8 aLO;refine aLQ l.length 1 (fun k k' i m hi h=>?_) (fun k k'=>?_) (l.length-1) 1 (EG _) AA Ap Ap AA AA
  ·obtain⟨i,rfl⟩:∃j,i=j+1:=⟨i-1,AA⟩
   unfold aDi aNA;rw[CZ hi,dec_lt hi,Ba,aUY hi AA,Aa,Aa,CB hi,Aa,wrap_succ (i+1) AA];show Ch (bif decide (l[i+1].Id≤l[i].Id)then some 8 else k _) (bif decide (l[i].Id≥l[i+1].Id)then some 8 else k' _);exact Ch.bif (fun _=>.ret _) fun _=>h
  unfold aDi aNA;rw[DT];exact .ret _
 have q:Aj l 0=some l[0]:=CB (i:=0) f
 have I:Ch (xM l 0) (aNv l 1):=by
  have J:∀k,Ya l k 0=k 1:=fun k=>by
   unfold Ya;rw[show decide ((0:Int)<(l.length:Int))=true by simpa using f,Ba,q,Aa,Aa,OM];rfl
  have L:xM l 0=bn (Ya l) 9223372036854775807 1:=by
   unfold xM;rw[u];exact J _
  rw[L];unfold aNv;refine aLQ l.length 1 (fun k k' i m hi h=>?_) (fun k k'=>?_) (l.length-1) 1 (EG _) AA _ Ap AA AA
  ·unfold Ya aMn;rw[CZ hi,CZ hi,q,Aa,Aa,wrap_succ i AA];exact Ch.bif (fun _=>.ret _) fun _=>h
  unfold Ya aMn;rw[DT];exact z
 unfold Uo Yi;rw[IJ (show ¬(l.length:Int)>2000 by omega),BM,BM];unfold aNp aaq;refine aLQ l.length 0 (fun k k' i _ hi h=>?_) (fun k k'=>?_) l.length 0 (EG _) AA Ap Ap AA AA
 ·unfold nM aJf;obtain⟨c,M,O,_⟩:=ad1 (s _ (Eb hi));rw[CZ hi,CZ hi,M,O,Aa,Aa,wrap_succ i AA];exact Ch.bif (fun _=>.ret _) fun _=>h
 unfold nM aJf;rw[DT];exact I
structure dF (l:List AX):Prop where
 ev:∀e∈l,vV e∧Fa e
 room:∀x∈l,∀y∈l,x.Room=y.Room
 inc:Inc (l.map (·.Id))
def an4 {f:Nat→Int}:∀(n i j:Nat),(∀k,i≤k→k<j→f k<f (k+1))→i+n=j→0<n→f i<f j:=by
 intro n
 induction n with
 |zero=>intro i j _ _ h;omega
 |succ n s=>
  intro i j h m _;rcases XO n with q|q
  ·subst q;rw[←m];exact h i (EG _) AA
  have a:=h i (EG _) AA;have b:=s (i+1) j (fun k z u=>h k AA u) AA q;omega
def ard {l:List AX} (U:∀e∈l,SC e) (hl:l.length≤1000) (h:Uo l=some 0):dF l:=by
 unfold Uo at h;rw[IJ (show ¬(l.length:Int)>2000 by omega),BM]at h;unfold aNp at h
 obtain⟨Y,k1,h⟩:=lasts l.length AA (fun i=>∀x,l[i]? =some x→vV x∧Fa x) (fun k i hi m=>by
  unfold nM at m;obtain⟨c,Z,_,c3⟩:=ad1 (U _ (Eb hi));rw[CZ hi,Z,Aa,wrap_succ i AA]at m;obtain⟨e,m⟩:=QW m
  exact⟨fun x n=>by rw[Dx hi]at n;obtain rfl:=Cx n;exact c3 e,m⟩) 0 (Eh _) h
 unfold nM at h;rw[DT,BM]at h;unfold xM at h
 obtain⟨p2,k2,h⟩:=lasts l.length AA (fun i=>∀x y,l[i]? =some x→l[0]? =some y→x.Room=y.Room) (fun k i hi m=>by
  unfold Ya at m;have g0:Aj l 0=some l[0]:=CB (i:=0) AA;rw[CZ hi,g0,Aa,wrap_succ i AA]at m;obtain⟨e,m⟩:=JK m BQ;refine⟨fun x y n s=>?_,m⟩;rw[Dx hi]at n;rw[Dx AA]at s;obtain rfl:=Cx n;obtain rfl:=Cx s
  exact toList_inj Q7) 0 (Eh _) h
 unfold Ya at h;rw[DT,BM]at h;refine⟨qc Y,fun x n y s=>?_,?_⟩
 ·have key:∀x∈l,∀y,l[0]? =some y→x.Room=y.Room:=qc fun i hi I x n y s=>p2 i hi I x y n s;have h0:0<l.length:=List.length_pos_of_mem n;have M:l[0]? =some l[0]:=Dx h0;rw[key x n _ M,key y s _ M]
 by_cases O:l=[]
 ·subst O;exact .nil
 have u:0<l.length:=l9.2 O;unfold aE8 at h
 obtain⟨p3,_⟩:=lasts l.length AA (fun i=>∀j x y,i=j+1→l[i]? =some x→l[j]? =some y→y.Id<x.Id) (fun k i hi m=>by
  unfold aDi at m;rw[CZ hi]at m;obtain⟨z,S,m⟩:=DK m;obtain⟨e,m⟩:=JK m BQ;rw[wrap_succ i AA]at m;refine⟨fun j x y J n s=>?_,m⟩;subst J;rw[aUY hi AA]at S;rw[Dx hi]at n;rw[Dx AA]at s;obtain rfl:=Cx n;obtain rfl:=Cx s;obtain rfl:=Cx S
  have :=Jk e;omega) 1 u h
 rw[Inc,aKQ,Ky];intro i j hi J hij
 have :=an4 (f:=fun q=>(l.getD q F7).Id) (j-i) i j (fun k h1 h2=>by
  have L:k+1<l.length:=AA
  have :=p3 (k+1) AA L k l[k+1] l[k] rfl (Dx L) (Dx AA)
  simpa[List.getD,Dx L,Dx (show k<l.length by omega)]using this) AA AA
 simpa[List.getD,Dx hi,Dx J]using this
def dF.ok {l:List AX} (h:dF l) (j:l.length≤100):Pm l:=⟨j,fun e f=>(h.ev e f).2,Xd h.inc,fun e f=>(h.ev e f).1.depth⟩
def af7 {l:List AX} (f:∀e∈l,SC e) (n:l.length≤100):∃c,Uo l=some c∧Yi l=some c∧(c=0→dF l):=by
 obtain⟨c,j,m⟩:=ak0 f AA;exact⟨c,j,m,fun h=>ard f AA (by rw[j,h])⟩
def aTP {α:Type} {v:List α} {i:Nat} {x:α} (h:v[i]? =some x):v.set i x=v:=by
 apply lX;intro j;rw[List.getElem?_set];split
 ·rename_i e;subst e;split
  ·rw[h]
  rename_i q;rw[II AA]
 rfl
def aU4 {R α:Type} (q:Nat→Int→List α→Option R) (l:List α) (f:α→α) (j:List α→Option R) (L:l.length≤1099511627776)
 (M:∀m (i:Nat) v (h:i<l.length),v.length=l.length→v[i]? =some l[i]→q (m+1) (i:Int) v=q m (Aw ((i:Int)+1)) (v.set i (f l[i])))
 (O:∀m v,v.length=l.length→q (m+1) (l.length:Int) v=j v):q Ap 0 l=j (l.map f):=by
 have key:∀n (i:Nat) (v:List α),i+n=l.length→v=(l.take i).map f++l.drop i→∀m,n<m→q m (i:Int) v=j (l.map f):=by
  intro n
  induction n with
  |zero=>
   intro i v hi u m S;obtain⟨m,rfl⟩:∃k,m=k+1:=⟨m-1,AA⟩
   have z:i=l.length:=AA
   subst z;have e:v=l.map f:=by rw[u];simp
   rw[O m v (by rw[e];simp),e]
  |succ n U=>
   intro i v hi u m S;obtain⟨m,rfl⟩:∃k,m=k+1:=⟨m-1,AA⟩
   have h:i<l.length:=AA
   have I:((l.take i).map f).length=i:=E5
   have J:v=(l.take i).map f++l[i]::l.drop (i+1):=by rw[u,LY h]
   have hlen:v.length=l.length:=by rw[u];simp;omega
   have s:v[i]? =some l[i]:=by rw[J,Jh AA,I];simp
   rw[M m i v h hlen s,wrap_succ i AA];refine U (i+1) _ AA ?_ m AA;rw[J,List.set_append_right _ _ AA,I,Nat.sub_self,List.set_cons_zero,P5 h,Jv,J7];rfl
 exact key l.length 0 l AA BP Ap (fuel_lt L)
def aS9 (l:List AX):fE (pX l 14) (fun b=>b=false→l.length≤14∧∀e∈l,Fa e):=by
 have I:Ap=9223372036854775808:=rfl;unfold pX;refine fE.bif (fun _=>.ret fun h=>He) fun q=>?_;have q:=KO q;unfold abm;refine dH l.length AA (fun i=>∀j,(f:j<i)→(hl:j<l.length)→Fa l[j]) (fun j f=>AA) ?_ ?_
 ·intro i k hi m s;unfold aKm;rw[CZ hi,wrap_succ i AA];refine(aoB l[i]).bind fun b u=>fE.bif (fun _=>.ret fun h=>He) fun e=>s fun j f n=>?_;by_cases z:j=i
  ·subst z;exact u e
  exact m j AA n
 intro k m;unfold aKm;rw[DZ];exact .ret fun _=>⟨AA,aNL fun j f=>m j f f⟩
structure rH (r:Dl):Prop where
 events:r.Events.length≤14
 small:∀e∈r.Events,Fa e
 waiting:r.Waiting.length≤14
 aGB:∀e∈r.Waiting,Fa e
 rows:r.Rows.length≤14
 heads:r.Ik.length≤40
 state:r.State.length≤60
 aGA:r.lF.length≤40
 typing:r.qI.length≤40
def aSw (r:Dl):fE (rP r 14) (fun b=>b=false→rH r):=by
 have j:Ap=9223372036854775808:=rfl;have f:∀{P:Prop},fE (some true) (fun b=>b=false→P):=.ret fun h=>He
 have c0:∀{b:Bool} {o:Option Bool},(bif b then some true else o).bind (fun x=>some x)=bif b then some true else o:=fun{b o}=>by cases b<;>simp
 unfold rP;refine(aS9 r.Events).bind fun z I=>?_;cases z with
 |true=>simp only[Ba,Aa];exact f
 |false=>
 refine fE.bind (P:=fun b=>b=false→r.Waiting.length≤14∧∀e∈r.Waiting,Fa e) ?_ fun J L=>?_
 ·rw[BM];exact(aS9 r.Waiting).bind fun b M=>.ret M
 cases J with
 |true=>simp only[Ba,Aa];exact f
 |false=>
 simp only[BM,Aa];obtain⟨O,S⟩:=L rfl;obtain⟨U,Y⟩:=I rfl
 have step:∀{a:Bool} {F:Bool→Option Bool},F true=some true→((a=false)→fE (F false) (fun b=>b=false→rH r))→fE (F a) (fun b=>b=false→rH r):=by
  intro a F Z j;cases a with
  |true=>rw[Z];exact f
  |false=>exact j rfl
 refine step (F:=fun a=>Option.bind (bif a then some true else some (decide ((r.Ik.length:Int)>40))) _) rfl fun m=>?_;simp only[BM,Aa];refine step (F:=fun a=>Option.bind (bif a then some true else some (decide ((r.State.length:Int)>60))) _) rfl fun n=>?_;simp only[BM,Aa];refine step (F:=fun a=>Option.bind (bif a then some true else some (decide ((r.lF.length:Int)>40))) _) rfl fun q=>?_;simp only[BM,Aa];refine step (F:=fun a=>Option.bind (bif a then some true else some (decide ((r.qI.length:Int)>40))) _) rfl fun s=>?_;simp only[BM,Aa];refine step (F:=fun a=>Option.bind (bif a then some true else some (decide ((r.Id.size:Int)>2000))) _) rfl fun u=>?_;simp only[BM,Aa];refine fE.bif (fun _=>f) fun a6=>?_;have m:=KO m;have n:=KO n;have q:=KO q;have s:=KO s;have u:=KO u;unfold aTj;refine dZ r.State AA (fun x=>decide ((x.Key.size:Int)>2000)) (aNm r 0) (fun k i h=>?_) (fun k=>?_) fun c1=>?_
 ·unfold aNC;rw[CZ h]
 ·unfold aNC;rw[DZ]
 unfold aNm;refine dZ r.lF AA (fun x=>decide ((x.User.size:Int)>2000)) (aLn r 0) (fun k i h=>?_) (fun k=>?_) fun c2=>?_
 ·unfold aOk;rw[CZ h]
 ·unfold aOk;rw[DZ]
 unfold aLn;refine dZ r.qI AA (fun x=>decide ((x.User.size:Int)>2000)) (some false) (fun k i h=>?_) (fun k=>?_) fun c3=>?_
 ·unfold aLH;rw[CZ h]
 ·unfold aLH;rw[DZ]
 exact .ret fun _=>⟨U,Y,O,S,AA,AA,AA,AA,AA⟩
def Uf {α:Type} {body:(Int→Option Bool)→Int→Option Bool} (l:List α) (u:l.length≤1000) (rest:Option Bool) (f:∀k (i:Nat) (h:i<l.length),body k (i:Int)=k (Aw ((i:Int)+1))) (j:∀k,body k (l.length:Int)=rest):bn body Ap 0=rest:=by
 have key:∀n (i:Nat),i+n=l.length→∀m,n<m→bn body m (i:Int)=rest:=by
  intro n
  induction n with
  |zero=>
   intro i hi m q;obtain⟨m,rfl⟩:∃k,m=k+1:=⟨m-1,AA⟩
   rw[show i=l.length by omega];exact j _
  |succ n s=>
   intro i hi m q;obtain⟨m,rfl⟩:∃k,m=k+1:=⟨m-1,AA⟩
   have :=f (bn body m) i AA;rw[wrap_succ i AA]at this;exact this.trans (s (i+1) AA m AA)
 exact key l.length 0 AA Ap (fuel_lt AA)
def Ub (n:Int):(n != n)=false:=BP
def abO {l:List Int} (h:l.length≤1000):Uw l l=some true:=by
 unfold Uw aNN;rw[Ub,BM];exact Uf l h _ (fun k i h=>by simp only[yC,dec_lt h,Ba,CB h,Aa,Vu,BM]) (fun k=>by simp only[yC,DT,BM])
def aRB {l:List ByteArray} (h:l.length≤1000):Tq l l=some true:=by
 unfold Tq zH;rw[Ub,BM];exact Uf l h _ (fun k i h=>aQc) (fun k=>aHJ)
def alQ {l:CG} (f:l.Users.length≤1000) (j:l.Kinds.length≤1000):Wy l l=some true:=by
 have m:Xc l l 0=some true:=by
  unfold Xc;exact Uf l.Kinds j _ (fun k i h=>by simp only[iT,dec_lt h,Ba,CB h,Aa,Vu,BM,wG]) (fun k=>by simp only[iT,DT,BM,OM,Ba,Aa])
 unfold Wy;rw[Ub,Ub,BM,Aa,BM];unfold rG;exact Uf l.Users f _ (fun k i h=>by simp only[kN,dec_lt h,Ba,CB h,Aa,OM,EM,Vu,BM,vX]) (fun k=>by simp only[kN,DT,BM];exact m)
def aq1 {c:CU} (f:c.Allow.length≤1000) (h:c.gY.length≤1000) (j:c.Levels.Users.length≤1000) (m:c.Levels.Kinds.length≤1000):TT c c=some true:=by
 unfold TT;simp only[OM,Ba,Aa,aRB f,aRB h,alQ j m]
def aj2 {e:AX} (h:Fa e):aF5 e e=some true:=by
 have :=h.prev;have :=h.auth;have f:=h.allow;have j:=h.deny;have m:=h.users;have n:=h.kinds;unfold aF5;simp only[OM,Ba,Aa,abO (l:=e.bK) AA,abO (l:=e.bP) AA,aq1 (c:=e.Content) AA AA AA AA]
def aa7 {l:List AX} (h:l.length≤1000) (f:∀e∈l,Fa e):uN l l=some true:=by
 unfold uN aTt;rw[Ub,BM];exact Uf l h _ (fun k i h=>by simp only[aIe,dec_lt h,Ba,CB h,Aa,aj2 (f _ (Eb h)),EM,BM]) (fun k=>by simp only[aIe,DT,BM])
def aom {l:List J9} (h:l.length≤1000):zS l l=some true:=by
 unfold zS aPQ;rw[Ub,BM];exact Uf l h _ (fun k i h=>by simp only[aLj,dec_lt h,Ba,CB h,Aa,aET,OM,Lj,EM,BM]) (fun k=>by simp only[aLj,DT,BM])
def ao1 {l:List Int} (h:l.length≤1000):aEp l l=some true:=by
 unfold aEp aRF;rw[Ub,BM];exact Uf l h _ (fun k i h=>by simp only[aNh,dec_lt h,Ba,CB h,Aa,Vu,BM]) (fun k=>by simp only[aNh,DT,BM])
def aeY {l:List BH} (h:l.length≤1000):aAs l l=some true:=by
 unfold aAs aRg;rw[Ub,BM];exact Uf l h _ (fun k i h=>by simp only[aOI,xA,dec_lt h,Ba,CB h,Aa,Vu,OM,EM,BM]) (fun k=>by simp only[aOI,DT,BM])
def am8 {r:Dl} (f:r.lF.length≤1000) (j:r.qI.length≤1000):sS r r=some true:=by
 have m:aM1 r r 0=some true:=by
  unfold aM1;exact Uf r.qI j _ (fun k i h=>by simp only[aJE,dec_lt h,Ba,CB h,Aa,aCD,OM,Lj,EM,BM]) (fun k=>by simp only[aJE,DT,BM])
 unfold sS;rw[Ub,Ub,BM,Aa,BM];unfold aUB;exact Uf r.lF f _ (fun k i h=>by simp only[aNe,dec_lt h,Ba,CB h,Aa,aCX,OM,Lj,EM,BM]) (fun k=>by simp only[aNe,DT,BM];exact m)
def af0 {r:Dl} (h:rH r) (rows:List J9) (f:rows.length≤1000):zq { r with Rows:=rows } { r with Rows:=rows }=some true:=by
 obtain⟨n,j,q,m,s,u,z,I,J⟩:=h;have e:sS { r with Rows:=rows } { r with Rows:=rows }=some true:=am8 (r:={ r with Rows:=rows }) (by show r.lF.length≤1000;omega) (by show r.qI.length≤1000;omega);unfold zq;simp only[OM,Ba,Aa,aa7 (l:=r.Events) AA j,aa7 (l:=r.Waiting) AA m,aom f,ao1 (l:=r.Ik) AA,aeY (l:=r.State) AA,e]
def YE (e:AX):Bool:=(e.Kind==11||e.Kind==12)||e.Kind==13
def ace (e:AX):sH e=some (YE e):=by
 unfold sH YE;cases(e.Kind==11)<;>cases(e.Kind==12)<;>cases(e.Kind==13)<;>rfl
def aiF (e:AX):aOK e=some (YE e):=ace e
def V7 (g:Int→Bool) (x:J9):J9:=bif g x.Id then{ x with Gone:=true }else x
def anQ (r:Dl) (m:List (Int×Bool)) (g:Int→Bool) (s:r.Rows.length≤1000) (j:∀x∈r.Rows,(Cb m x.Id).getD false=g x.Id):kR r m=some ({ r with Rows:=r.Rows.map (V7 g) },[]):=by
 unfold kR;rw[Di E5,Hu,Aa];unfold aPU;refine aU4 (fun n i v=>jk (bD r.Rows r) n i m v) r.Rows (V7 g) (fun v=>some ({ r with Rows:=v },[])) AA ?_ ?_
 ·intro n i v h q f;show bD r.Rows r _ (i:Int) m v=_;unfold bD;rw[dec_lt h,Ba,jq,f,Aa,Aa,j _ (Eb h),qB,qB,Y2];show _=jk (bD r.Rows r) n (Aw ((i:Int)+1)) m (v.set i (V7 g r.Rows[i]));unfold V7;cases g r.Rows[i].Id with
  |true=>rfl
  |false=>rw[BM,BM,aTP f];rfl
 intro n v q;show bD r.Rows r _ (r.Rows.length:Int) m v=_;unfold bD;rw[DT,BM]
def three {R:Type} {b c d:Bool} {k:Bool→Option R}:(bif b then some c else some false).bind (fun f=>(bif f then some d else some false).bind k)=k (b&&(c&&d)):=by cases b<;>cases c<;>rfl
def aR6 :Yz=some true:=A8
def aS1 (id:Int):∀(l:List Int) (m:List (Int×Bool)),(Cb (l.foldl (fun m x=>Df m x true) m) id).getD false=((l.any fun x=>id==x)||(Cb m id).getD false)
 | [],m=>BP
 |x::l,m=>by
  rw[Fb,aS1 id l,P7,mM];cases id==x<;>simp
def ajb {r:Dl} {now:Int} {ids:List Int} (j:VO r now=some ids) (q:ids.length≤100):∀rows:List J9,rows.length≤1000→oL { r with Rows:=rows } now=some { r with Rows:=rows.map (V7 fun id=>ids.any fun x=>id==x) }:=by
 intro rows n;have f:VO { r with Rows:=rows } now=some ids:=j;unfold oL;rw[f,Aa];unfold adE;rw[qQ ids AA (fun m x=>Df m x true) (fun _ _=>True) (fun m=>(kR { r with Rows:=rows } m).bind fun x=>some x.1) trivial]
 ·rw[anQ { r with Rows:=rows } _ (fun id=>ids.any fun x=>id==x) n fun x _=>by rw[aS1];simp[Cb]];rfl
 ·intro k a i h _;refine⟨trivial,?_⟩;unfold aLG;rw[CZ h]
 intro k a _;unfold aLG;rw[DZ]
def aBy (t a n:Int):Bool:= !decide (t≥n)&&(decide (Aw (n-t)<0)||decide (Aw (n-t)>a))
def anc (t a n:Int):aD1 t a n=some (aBy t a n):=by
 unfold aD1 aBy;cases decide (t≥n)<;>cases decide (Aw (n-t)<0)<;>cases decide (Aw (n-t)>a)<;>rfl
def Qo (a now:Int) (e:AX):Bool:=YE e&&aBy e.Time a now
def U1 (l:List AX) (a now:Int):List Int:=l.foldl (fun r e=>bif Qo a now e then r++[e.Id]else r) []
def aoX {r:Dl} {a:Int} (now:Int) (m:r.Events.length≤100) (ha:YO r.Events=some a):VO r now=some (bif decide (a≤0)then[]else ER (U1 r.Events a now)):=by
 unfold VO;rw[ha,Aa];cases decide (a≤0)with
 |true=>rfl
 |false=>
 rw[BM,BM];unfold acd;rw[Gs r.Events AA (fun r e=>bif Qo a now e then r++[e.Id]else r) (fun i a=>a.length≤i) (fun v=>(Qe v).bind fun x=>some x) (a0:=[]) (EG 0)]
 ·have hlen:(U1 r.Events a now).length≤r.Events.length:=by
   have key:∀(l:List AX) (r:List Int),(l.foldl (fun r e=>bif Qo a now e then r++[e.Id]else r) r).length≤r.length+l.length:=by
    intro l
    induction l with
    |nil=>intro r;simp
    |cons e l j=>
     intro r;rw[Fb];refine Ei (j _) ?_;cases Qo a now e<;>simp <;>omega
   simpa[U1]using key r.Events []
  show(Qe (U1 r.Events a now)).bind _=_;rw[XG _ AA];rfl
 ·intro k b i h n;have two:∀(c d:Bool) {R:Type} (g:Bool→Option R),((bif c then(some d).bind fun f=>some f else some false).bind g)=g (c&&d):=fun c d R g=>by cases c<;>cases d<;>rfl
  unfold aHh;rw[CZ h,ace,Aa,anc,two];show _∧(bif Qo a now r.Events[i]then _ else _)=_;unfold aAN;cases Qo a now r.Events[i]with
  |true=>exact⟨E5,by rw[Ba,Di FZ];rfl⟩
  |false=>exact⟨E5,rfl⟩
 intro k b _;unfold aHh;rw[DZ]
def Yf (l:List AX) (s:List BH):Int:=bif (Fl s 8 Bc).2 then(I4 l (Fl s 8 Bc).1).1.Content.N else 0
def aj7 {l:List AX} {c:Int} (j:Uo l=some c) (h:c=0→Pm l) (n:l.length≤100):YO l=some (Yf l (MB l (JY l c))):=by
 have f:=aJ5 h;have m:=f.length;unfold YO Yf;rw[agI j h,Aa,aBZ _ 8 Bc AA f.sorted,Aa];cases(Fl (MB l (JY l c)) 8 Bc).2 with
 |false=>rfl
 |true=>rw[EM,BM,O9 l _ AA];rfl
def atE {l:List AX} {c:Int} (f:Yi l=some c) (h:c=0→Pm l) (j:l.length≤100) (m:E8 l):dD l=some (Yf l (MB l (JY l c))):=by
 have n:=aJ5 h;have q:=n.length;unfold dD Yf;rw[aou f h j m,Aa,aEy _ 8 Bc AA,Aa];cases(Fl (MB l (JY l c)) 8 Bc).2 with
 |false=>rfl
 |true=>rw[EM,BM,Ln l _ AA];rfl
def afs {c:CU} (h:Ih 8 c=some 0):c.N≤1000000000:=by
 unfold Ih at h;rw[(pF 8).2,Aa]at h;obtain⟨J,_,h⟩:=DK h;obtain⟨_,h⟩:=JK h BQ;obtain⟨s,_,h⟩:=DK h;obtain⟨u,j,h⟩:=DK h;cases u with
 |true=>
  have n:YM (c.Text.toList==Bc.toList) (c.N==0) (c.Target==0) (!c.Thread) (c.Via.toList==Bc.toList) ((c.Allow.length:Int)==0) ((c.gY.length:Int)==0) (MS c.Levels)=true:=by
   cases s with
   |false=>cases j
   |true=>rw[aJU]at j;exact Cx j
  unfold YM at n;simp only[DL,Rk]at n;have :=n.1.1.1.1.1.1.2;omega
 |false=>
  rw[BM]at h;obtain⟨z,_,h⟩:=DK h;obtain⟨_,h⟩:=QW h;obtain⟨I,f,h⟩:=DK h;obtain⟨e,_⟩:=QW h;subst e;have f:((bif decide (c.N≥0)then some (decide (c.N≤1000000000))else some false).bind fun q=>YU q)=some 0:=f;obtain⟨y,m,f⟩:=DK f;cases y with
  |false=>cases f
  |true=>
   cases hd:decide (c.N≥0)with
   |false=>rw[hd]at m;cases m
   |true=>rw[hd]at m;exact TK (Cx m)
def an3 {l:List AX} {c:Int} (z:c=0→dF l) (I:l.length≤100) (h:0<Yf l (MB l (JY l c))):dF l∧Yf l (MB l (JY l c))≤1000000000:=by
 by_cases m:c=0
 ·have j:=z m;refine⟨j,?_⟩;have J:=aJ5 (l:=l) (c:=c) fun _=>j.ok I;unfold Yf at h ⊢;cases q:(Fl (MB l (JY l c)) 8 Bc).2 with
  |false=>rw[q]at h;exact absurd (show(0:Int)<0 from h) BQ
  |true=>
   rw[Ba];have L:=aPK (s:=MB l (JY l c)) (k:=8) (key:=Bc) (n:=(Fl (MB l (JY l c)) 8 Bc).1) (Prod.ext rfl q);obtain⟨M,_,O,_⟩:=J.named _ L;have S:(ev l (Fl (MB l (JY l c)) 8 Bc).1).Kind=8:=O;have f:=OG (TY M).1;have u:=(j.ev _ f).1.content;rw[S]at u;exact afs u
 have :JY l c=[]:=by unfold JY;rw[show(c==0)=false by simpa using m];rfl
 rw[this,aNJ]at h;exact absurd (show(0:Int)<0 from h) BQ
def PO (a now:Int) (e:AX):Bool:=YE e&&decide (Aw (e.Time+a)<now)
def aSt (l:List AX) (a now:Int):U1 l a now=(l.filter (Qo a now)).map (·.Id):=by
 have key:∀(l:List AX) (r:List Int),l.foldl (fun r e=>bif Qo a now e then r++[e.Id]else r) r=r++(l.filter (Qo a now)).map (·.Id):=by
  intro l
  induction l with
  |nil=>intro r;simp
  |cons e l f=>
   intro r;rw[Fb,f,QK];cases h:Qo a now e<;>simp
 simpa[U1]using key l []
def aga {l:List AX} (f:dF l) {a now:Int} (m:0<a) (n:a≤1000000000) (q:now≤IntKind.i64.max):l.filter (PO a now)=l.filter (Qo a now):=List.filter_congr fun e j=>by
 have s:=(f.ev e j).1.time;have u:IntKind.i64.max=9223372036854775807:=rfl;unfold PO Qo aBy;rw[OI AA AA];cases YE e with
 |false=>rfl
 |true=>
  rw[FX,FX];by_cases h:e.Time≥now
  ·rw[Ht h,IJ AA];rfl
  rw[IJ h,OI AA AA,IJ (show ¬now-e.Time<0 by omega),IX,FX,MG];exact iq.2 AA
def ai7 {l:List AX} {a now:Int} {i:Nat} (h:i<l.length):(((l.take (i+1)).filter (PO a now)).map (·.Id)).foldl put []=bif PO a now l[i]then put ((((l.take i).filter (PO a now)).map (·.Id)).foldl put []) l[i].Id else(((l.take i).filter (PO a now)).map (·.Id)).foldl put []:=by
 rw[aG1 h];cases PO a now l[i]with
 |true=>simp[Uc]
 |false=>simp
def arx (l:List AX) (a now:Int):((l.filter (PO a now)).map (·.Id)).length≤l.length:=by rw[D8];exact Js _ _
def aoQ {r:Dl} {a:Int} (now:Int) (J:r.Events.length≤100) (ha:dD r.Events=some a):bW r now=some (bif decide (a≤0)then[]else ER ((r.Events.filter (PO a now)).map (·.Id))):=by
 unfold bW;rw[ha,Aa];unfold abf;refine fE.eq (KC r.Events.length (fuel_lt AA) (fun i v=>v=bif decide (a≤0)then[]else(((r.Events.take i).filter (PO a now)).map (·.Id)).foldl put []) (by cases decide (a≤0)<;>rfl) (fun i v k hi h n=>?_) fun v k h=>?_)
 ·unfold aII;rw[dec_lt hi,Ba,Aa];by_cases j:a≤0
  ·rw[IJ (show ¬a>0 by omega),BM];rw[Ht j,Ba]at h;exact .ret (by rw[Ht j];exact h)
  rw[Ht (show a>0 by omega),Ba];have j:=IJ j;rw[j,BM]at h
  have s:v.length≤100:=by
   have u:=Yv (((r.Events.take i).filter (PO a now)).map (·.Id)) [];have z:=arx (r.Events.take i) a now;rw[GH]at z;rw[h];simp only[ML]at u;omega
  have I:(bif YE r.Events[i]then(Aj r.Events (i:Int)).bind fun m=>some (decide (Aw (m.Time+a)<now))else some false)=some (PO a now r.Events[i]):=by
   rw[CB hi];unfold PO;cases YE r.Events[i]<;>rfl
  rw[CB hi,Aa,aiF,Aa,←CB hi,I,Aa];unfold aG6;rw[wrap_succ i AA];have f:=ai7 (a:=a) (now:=now) hi;cases q:PO a now r.Events[i]with
  |true=>
   rw[Ba,CB hi,Aa,ZC _ _ AA,Aa];exact n (put v r.Events[i].Id) (by rw[j,BM,f,q,Ba,h])
  |false=>exact n v (by rw[j,BM,f,q,BM,h])
 unfold aII;rw[DT,BM,Aa,BM,Gi]at *;exact .ret h
def SC.all {l:List AX} (f:∀e∈l,Fa e):∀e∈l,SC e:=fun e h=>(f e h).wide
def acH {r:Dl} (h:rH r) (now:Int) (s:now≤IntKind.i64.max):∃a ids,YO r.Events=some a∧dD r.Events=some a∧VO r now=some ids∧bW r now=some ids∧ids.length≤100:=by
 have O:=h.events;obtain⟨c,u,z,n⟩:=af7 (SC.all h.small) AA;have q:c=0→Pm r.Events:=fun I=>(n I).ok AA;have j:=aj7 u q AA;have m:=atE z q AA h.small;have f:=an3 n AA;generalize Yf r.Events (MB r.Events (JY r.Events c))=a at j m f;refine⟨a,bif decide (a≤0)then[]else ER (U1 r.Events a now),j,m,aoX now AA j,?_,?_⟩
 ·rw[aoQ now AA m,aSt];by_cases J:a≤0
  ·rw[Ht J];rfl
  obtain⟨L,M⟩:=f AA;rw[aga L AA M s]
 cases decide (a≤0)with
 |true=>exact Eh _
 |false=>
  have :=MC (U1 r.Events a now);have S:(U1 r.Events a now).length≤r.Events.length:=by rw[aSt,D8];exact Js _ _
  show(ER (U1 r.Events a now)).length≤100;omega
def ae6 (r:Dl) (now:Int) (h:now≤IntKind.i64.max):aBL r now=some true:=by
 unfold aBL;refine fE.eq ((aSw r).bind fun b j=>fE.bif (fun _=>.ret rfl) fun e=>?_);obtain⟨a,ids,m,n,q,s,hlen⟩:=acH (j e) now h;rw[m,n,Aa,Aa,OM,Ba,q,s,Aa,Aa,anZ _ _ AA,Aa];have f:jO ids ids=true:=by unfold jO;simp
 rw[f,Ba,aR6];exact .ret rfl
def aho (r:Dl) (now:Int) {ids:List Int} (m:bW r now=some ids) (q:ids.length≤1000) (s:r.Rows.length≤1000):aCI r now=some { r with Rows:=r.Rows.map (V7 (Dj ids)) }:=by
 unfold aCI;rw[m,Aa,Di E5,Hu,Aa];unfold acS;refine aU4 (fun n i v=>aS (aJ ids r) n i v) r.Rows (V7 (Dj ids)) (fun v=>some { r with Rows:=v }) AA ?_ ?_
 ·intro n i v h f j;show aJ ids r _ (i:Int) v=_;unfold aJ;rw[f,dec_lt h,Ba,jq,j,Aa,UY _ _ AA,Aa,Aa,yM,yM,Y2];show(bif Dj ids r.Rows[i].Id then _ else _)=aS (aJ ids r) n (Aw ((i:Int)+1)) (v.set i (V7 (Dj ids) r.Rows[i]));unfold V7;cases Dj ids r.Rows[i].Id with
  |true=>rfl
  |false=>rw[BM,BM,aTP j];rfl
 intro n v f;show aJ ids r _ (r.Rows.length:Int) v=_;unfold aJ;rw[f,DT,BM]
def amN (r:Dl) (now:Int) (n:now≤IntKind.i64.max):aAD r now=some true:=by
 unfold aAD;refine fE.eq ((aSw r).bind fun b q=>fE.bif (fun _=>.ret rfl) fun e=>?_);have h:=q e;have z:=h.rows;obtain⟨a,ids,I,J,s,u,hlen⟩:=acH h now n;have m:oL r now=some { r with Rows:=r.Rows.map (V7 fun id=>ids.any fun x=>id==x) }:=ajb s hlen r.Rows AA
 have f:(fun id=>ids.any fun x=>id==x)=Dj ids:=funext fun id=>by
  rw[Ph,KZ,Hd];exact⟨fun⟨x,j,e⟩=>by rw[eq_of_beq e];exact j,fun j=>⟨id,j,BP⟩⟩
 rw[f]at m;rw[m,aho r now u AA AA,Aa,Aa,af0 h _ E5,Aa,Ba,aR6];exact .ret rfl
def ahH (r:Dl) (now:Int) {P:Prop} (_:P) (f:IntKind.i64.min≤now∧now≤IntKind.i64.max):aBL r now=some true:=ae6 r now f.2
def al7 (r:Dl) (now:Int) {P:Prop} (_:P) (f:IntKind.i64.min≤now∧now≤IntKind.i64.max):aAD r now=some true:=amN r now f.2
end Go.Proofs.YtolgdkhlelfpoaaGreat
end
