/- Part 5 of what the laws' proofs lean on: states of the walk, typed functions of the program and their laws (short forms written by wip/shrink.py; no condition). -/
import Derived.Test.YtolgdkhlelfpoaaGreatRh4
set_option linter.defProp false
set_option linter.unnecessarySimpa false
set_option linter.unusedVariables false
set_option linter.unusedSimpArgs false
section
namespace Go.Proofs.YtolgdkhlelfpoaaGreat
open Go.RowKit
def fuel_lt {n:Nat} (h:n≤1099511627776):n<Ar:=aAE
def dec_lt {i n:Nat} (h:i<n):decide ((i:Int)<(n:Int))=true:=Hf
def EG (n:Nat):decide ((n:Int)<(n:Int))=false:=BG
def LP {R A α:Type} {body:(A→Int→Option R)→A→Int→Option R} (l:List α) (s:l.length≤1099511627776) (step:A→α→A) (I:Nat→A→Prop) (f:A→Option R) {a0:A} (u:I 0 a0)
 (z:∀k a (i:Nat) (h:i<l.length),I i a→I (i+1) (step a l[i])∧body k a (i:Int)=k (step a l[i]) (BD ((i:Int)+1)))
 (J:∀k a,I l.length a→body k a (l.length:Int)=f a):aX body Ar a0 0=f (l.foldl step a0):=by
 have key:∀n (i:Nat) (a:A),i+n=l.length→I i a→∀m,n<m→aX body m a (i:Int)=f ((l.drop i).foldl step a):=by
  intro n
  induction n with
  |zero=>
   intro i a hi ha m L;obtain⟨m,rfl⟩:∃q,m=q+1:=⟨m-1,AA⟩
   have :i=l.length:=AA
   subst this;show body (aX body m) _ _=_;rw[J _ _ ha,Oa];rfl
  |succ n M=>
   intro i a hi ha m L;obtain⟨m,rfl⟩:∃q,m=q+1:=⟨m-1,AA⟩
   have j:i<l.length:=AA
   obtain⟨O,S⟩:=z (aX body m) a i j ha;show body (aX body m) _ _=_;rw[S,wrap_succ i AA,M (i+1) _ AA O m AA,NC j,GI]
 have :=key l.length 0 a0 AA u Ar (fuel_lt s);simpa using this
def aCJ {R A α:Type} {body:(Int→A→Option R)→Int→A→Option R} (l:List α) (s:l.length≤1099511627776) (step:A→α→A) (I:Nat→A→Prop) (f:A→Option R) {a0:A} (u:I 0 a0)
 (z:∀k a (i:Nat) (h:i<l.length),I i a→I (i+1) (step a l[i])∧body k (i:Int) a=k (BD ((i:Int)+1)) (step a l[i]))
 (J:∀k a,I l.length a→body k (l.length:Int) a=f a):aX body Ar 0 a0=f (l.foldl step a0):=by
 have key:∀n (i:Nat) (a:A),i+n=l.length→I i a→∀m,n<m→aX body m (i:Int) a=f ((l.drop i).foldl step a):=by
  intro n
  induction n with
  |zero=>
   intro i a hi ha m L;obtain⟨m,rfl⟩:∃q,m=q+1:=⟨m-1,AA⟩
   have :i=l.length:=AA
   subst this;show body (aX body m) _ _=_;rw[J _ _ ha,Oa];rfl
  |succ n M=>
   intro i a hi ha m L;obtain⟨m,rfl⟩:∃q,m=q+1:=⟨m-1,AA⟩
   have j:i<l.length:=AA
   obtain⟨O,S⟩:=z (aX body m) a i j ha;show body (aX body m) _ _=_;rw[S,wrap_succ i AA,M (i+1) _ AA O m AA,NC j,GI]
 have :=key l.length 0 a0 AA u Ar (fuel_lt s);simpa using this
def Ob {α:Type} (p:α→Bool):∀l:List α,l.find? p=l[l.findIdx p]?
 | []=>rfl
 |x::l=>by
  rw[kC,Rt];cases h:p x with
  |true=>rfl
  |false=>simp[Ob p l]
def E9 (l:List AO) (id:Int):Option AO:=l.find? fun e=>e.Id==id
def IB (l:List AO) (id:Int):AO×Bool:=match E9 l id with
 |some e=>(e,true)
 |none=>(FK,false)
def afW {l:List AO} {id:Int} {e:AO} (h:E9 l id=some e):e.Id=id:=by
 have :=yR h;simpa using this
def Ll {l:List AO} {id:Int} {e:AO} (h:E9 l id=some e):e∈l:=PO h
def Ux (l:List AO) (id:Int):(IB l id).2=(E9 l id).isSome:=by
 unfold IB;cases E9 l id<;>rfl
def aDw (l:List AO) (j:l.length≤1099511627776) (f:AO→Option Bool) (p:AO→Bool) (m:∀e,f e=some (p e)):
 Zh l f=some (if l.findIdx p<l.length then((l.findIdx p:Nat):Int)else -1):=by
 unfold Zh adI;rw[PL l (fuel_lt j) p (fun i=>some (i:Int)) (some (-1))]
 ·split<;>rfl
 ·intro k i h;unfold aF9;rw[D5 h,m];rfl
 intro k;unfold aF9;rw[E8]
def found_eq (l:List AO) (p:AO→Bool) {n:Int} (f:n=if l.findIdx p<l.length then((l.findIdx p:Nat):Int)else -1):
 (bif decide (n<0)then some (FK,false)else(BF l n).bind fun j=>some (j,true))=some (match l.find? p with |some e=>(e,true)|none=>(FK,false)):=by
 subst f;rw[Ob];by_cases h:l.findIdx p<l.length
 ·rw[CG h,DX h,show decide (((l.findIdx p:Nat):Int)<0)=false by simp,D9 h];rfl
 rw[CV h,Jm AA];rfl
def La (l:List AO) (id:Int) (f:l.length≤1099511627776):Kv l id=some (IB l id):=by
 unfold Kv sS yZ;rw[aDw l f _ (fun e=>e.Id==id) fun _=>rfl];exact found_eq l _ rfl
def alV (l:List AO) (id:Int) (f:l.length≤1099511627776):uS l id=some (if l.findIdx (fun e=>e.Id==id)<l.length then((l.findIdx (fun e=>e.Id==id):Nat):Int)else -1):=by
 unfold uS aIo;rw[PL l (fuel_lt f) (fun e=>e.Id==id) (fun i=>some (i:Int)) (some (-1))]
 ·split<;>rfl
 ·intro k i h;unfold aDs;rw[D5 h]
 intro k;unfold aDs;rw[E8]
def amZ (l:List AO) (id:Int) (f:l.length≤1099511627776):qo l id=some (IB l id):=by
 unfold qo;rw[alV l id f];exact found_eq l _ rfl
def ofIds (l:List AO) (ids:List Int):List AO:=ids.filterMap (E9 l)
def foldl_append {α β:Type} (f:α→List β):∀(l:List α) (a:List β),l.foldl (fun r x=>r++f x) a=a++l.flatMap f
 | [],a=>BG
 |x::l,a=>by rw[GI,foldl_append f l,LV,G6]
def aeK (l:List AO):∀ids,ofIds l ids=ids.flatMap fun id=>(E9 l id).toList
 | []=>rfl
 |id::ids=>by
  unfold ofIds;rw[P5,LV,←aeK l ids];cases E9 l id<;>rfl
def toList_le {α:Type} (o:Option α):o.toList.length≤1:=by cases o<;>simp
def NU {l:List AO} {id:Int} {e:AO} (h:E9 l id=some e):IB l id=(e,true):=by unfold IB;rw[h]
def Qi {l:List AO} {id:Int} (h:E9 l id=none):IB l id=(FK,false):=by unfold IB;rw[h]
def aAY (l:List AO) (ids:List Int):(ofIds l ids).length≤ids.length:=List.length_filterMap_le ..
def alH (l:List AO) (ids:List Int):ids.foldl (fun r id=>r++(E9 l id).toList) []=ofIds l ids:=by
 rw[foldl_append (fun id=>(E9 l id).toList),aeK];rfl
def alM (l:List AO) (ids:List Int) (n:l.length≤1000) (hi:ids.length≤1000000):aA6 l ids=some (ofIds l ids):=by
 unfold aA6
 have j:Gy 376 FK 0 (ids.length:Int)=some []:=by
  unfold Gy;rw[CG vO];rfl
 rw[j];simp only[Aa];unfold aJB;rw[LP ids AA (fun r id=>r++(E9 l id).toList) (fun i r=>r.length≤i) (fun r=>some r) BG]
 ·rw[alH]
 ·intro k a i h m;have q:=toList_le (E9 l ids[i]);refine⟨Jq,?_⟩;unfold aFY wM;rw[D5 h,La l _ AA];cases f:E9 l ids[i]with
  |none=>simp[Qi f]
  |some e=>
   rw[NU f];simp only[Aa,Ba,Rj];rw[ET Gz];rfl
 intro k a m;unfold aFY;rw[E8]
def dM (l:List AO) (id:Int):Bool:=(E9 l id).isSome
def Ky (l:List AO) (ids:List Int):List Int:=(El ids).filter (dM l)
def ZF {l:List AO} {ids:List Int} {x:Int}:x∈Ky l ids↔x∈ids∧dM l x=true:=by unfold Ky;rw[Fl,KN]
def aDn (l:List AO) (ids:List Int):Inc (Ky l ids):=(LH ids).sublist Qy
def Fp (l:List AO) (id:Int):List Int:=(IB l id).1.dh
def Y2 (l:List AO) (r:List Int) (x:Int):List Int:=bif dM l x then put r x else r
def Ig (l:List AO) (ids:List Int):List Int:=ids.foldl (fun r id=>(Fp l id).foldl (Y2 l) r) []
def aCh (l:List AO):∀(xs r:List Int),Inc r→Inc (xs.foldl (Y2 l) r)∧(∀x,x∈xs.foldl (Y2 l) r↔x∈r∨x∈xs∧dM l x=true)∧(xs.foldl (Y2 l) r).length≤r.length+xs.length
 | [],r,h=>⟨h,fun x=>BG,BG⟩
 |y::xs,r,h=>by
  rw[GI];unfold Y2;cases q:dM l y with
  |true=>
   obtain⟨m,n,f⟩:=aCh l xs (put r y) (ae8 h);refine⟨m,fun x=>(n x).trans ?_,?_⟩
   ·rw[aaE,Em];constructor
    ·rintro((h|rfl)|h)
     ·exact .inl h
     ·exact .inr ⟨.inl rfl,q⟩
     exact .inr ⟨.inr h.1,h.2⟩
    rintro(h|⟨rfl|h,j⟩)
    ·exact .inl (.inl h)
    ·exact .inl (.inr rfl)
    exact .inr ⟨h,j⟩
   have :=alu r y;simp only[FQ,Ba]at f ⊢;exact E5 f AA
  |false=>
   obtain⟨m,n,f⟩:=aCh l xs r h;refine⟨m,fun x=>(n x).trans ⟨fun h=>?_,fun h=>?_⟩,?_⟩
   ·rcases h with h|h
    ·exact .inl h
    exact .inr ⟨Gq _ h.1,h.2⟩
   ·rcases h with h|⟨h,j⟩
    ·exact .inl h
    rcases Em.1 h with rfl|h
    ·rw[q]at j;cases j
    exact .inr ⟨h,j⟩
   simp only[FQ,BK]at f ⊢;exact E5 f AA
def aDh (l:List AO):∀(ids r:List Int),Inc r→Inc (ids.foldl (fun r id=>(Fp l id).foldl (Y2 l) r) r)∧∀x,x∈ids.foldl (fun r id=>(Fp l id).foldl (Y2 l) r) r↔x∈r∨dM l x=true∧∃id∈ids,x∈Fp l id
 | [],r,h=>⟨h,fun x=>BG⟩
 |id::ids,r,h=>by
  rw[GI];obtain⟨j,m,_⟩:=aCh l (Fp l id) r h;obtain⟨n,q⟩:=aDh l ids _ j;refine⟨n,fun x=>(q x).trans ?_⟩;rw[m x];constructor
  ·rintro((h|h)|⟨h3,i,f,h5⟩)
   ·exact .inl h
   ·exact .inr ⟨h.2,id,Fa ..,h.1⟩
   exact .inr ⟨h3,i,Gq _ f,h5⟩
  rintro(h|⟨h3,i,f,h5⟩)
  ·exact .inl (.inl h)
  rcases Em.1 f with rfl|f
  ·exact .inl (.inr ⟨h5,h3⟩)
  exact .inr ⟨h3,i,f,h5⟩
def aDq (l:List AO) (ids:List Int):Inc (Ig l ids):=(aDh l ids [] .nil).1
def U5 {l:List AO} {ids:List Int} {x:Int}:x∈Ig l ids↔dM l x=true∧∃id∈ids,x∈Fp l id:=by
 unfold Ig;rw[(aDh l ids [] .nil).2 x];simp
def chainOf (l:List AO) (ids:List Int):List Int:=l.foldl (fun s _=>Gh s (Ig l s)) (Ig l (Ky l ids))
inductive LM (l:List AO) (ids:List Int):Int→Prop
 |one {i x:Int} (h:i∈ids) (hx:x∈Fp l i) (hk:dM l x=true):LM l ids x
 |more {y x:Int} (h:LM l ids y) (hx:x∈Fp l y) (hk:dM l x=true):LM l ids x
def aqd {l:List AO} {i x:Int} (h:x∈Fp l i):dM l i=true:=by
 unfold Fp at h;unfold dM;cases f:E9 l i with
 |none=>rw[Qi f]at h;cases h
 |some e=>rfl
def zl {s t:List Int} (j:Inc s) (m:Inc t) (h:∀x∈s,x∈t):s.length≤t.length∧(t.length≤s.length→s=t):=by
 have e:s=t.filter (fun x=>Dv s x):=ML j (m.sublist Qy) fun x=>by
  rw[Fl,KA];exact⟨fun f=>⟨h x f,f⟩,fun f=>f.2⟩
 have n:=Jk (fun x=>Dv s x) t;refine⟨by rw[e];exact n,fun q=>?_⟩;have u:(t.filter (fun x=>Dv s x)).length=t.length:=by have :=BX List.length e;omega
 rw[e];exact lY.2 (List.length_filter_eq_length_iff.1 u)
def RJ (l:List AO):List Int:=El (l.map (·.Id))
def xK {l:List AO} {x:Int} (h:dM l x=true):x∈RJ l:=by
 unfold dM at h;obtain⟨e,f⟩:=Rq.1 h;exact KN.2 (FM.2 ⟨e,Ll f,afW f⟩)
def aAa (l:List AO):∀(j:List AO) (s:List Int),Inc s→(∀x∈s,dM l x=true)→
 Inc (j.foldl (fun s _=>Gh s (Ig l s)) s)∧(∀x∈j.foldl (fun s _=>Gh s (Ig l s)) s,dM l x=true)∧(∀x∈s,x∈j.foldl (fun s _=>Gh s (Ig l s)) s)∧
 ((RJ l).length≤s.length+j.length→∀x∈Ig l (j.foldl (fun s _=>Gh s (Ig l s)) s),x∈j.foldl (fun s _=>Gh s (Ig l s)) s)
 | [],s,u,z=>⟨u,z,fun _ h=>h,fun hlen x m=>by
     have I:=(zl u (LH _) (fun x m=>xK (z x m))).2 (by show(RJ l).length≤s.length;simpa using hlen);have n:=xK (U5.1 m).1;unfold RJ at n
     rw[←I]at n;exact n⟩
 |e::j,s,u,z=>by
  rw[GI]
  have J:∀x∈Gh s (Ig l s),dM l x=true:=fun x m=>by
   rcases VB.1 m with h|h
   ·exact z x h
   exact(U5.1 h).1
  obtain⟨I,n,L,M⟩:=aAa l j (Gh s (Ig l s)) (rE _ _) J;refine⟨I,n,fun x m=>L x (VB.2 (.inl m)),fun hlen=>?_⟩;have q:=zl u (rE s (Ig l s)) fun x m=>VB.2 (.inl m);by_cases f:s=Gh s (Ig l s)
  ·
   have hst:∀(j:List AO),j.foldl (fun s _=>Gh s (Ig l s)) s=s:=by
    intro j
    induction j with
    |nil=>rfl
    |cons e j O=>rw[GI,←f,O]
   rw[←f,hst];intro x m;rw[f];exact VB.2 (.inr m)
  ·refine M ?_
   have :s.length<(Gh s (Ig l s)).length:=by
    rcases mX s.length (Gh s (Ig l s)).length with h|h
    ·exact h
    exact absurd (q.2 h) f
   simp only[FQ]at hlen;omega
def aH2 (l:List AO) (ids:List Int):Inc (chainOf l ids):=(aAa l l _ (aDq _ _) fun _ f=>(U5.1 f).1).1
def aj0 {l:List AO} {ids:List Int} {x:Int} (h:x∈chainOf l ids):dM l x=true:=(aAa l l _ (aDq _ _) fun _ f=>(U5.1 f).1).2.1 x h
def aIb (l:List AO) (ids:List Int):∀(j:List AO) (s:List Int),(∀x∈s,LM l ids x)→∀x∈j.foldl (fun s _=>Gh s (Ig l s)) s,LM l ids x
 | [],s,h=>h
 |e::j,s,h=>by
  rw[GI];refine aIb l ids j _ fun x f=>?_;rcases VB.1 f with f|f
  ·exact h x f
  obtain⟨m,y,n,q⟩:=U5.1 f;exact .more (h y n) q m
def aEB {l:List AO} {ids:List Int} {x:Int}:x∈chainOf l ids↔LM l ids x:=by
 constructor
 ·refine aIb l ids l _ (fun x f=>?_) x;obtain⟨n,y,q,j⟩:=U5.1 f;exact .one (ZF.1 q).1 j n
 obtain⟨n,q,j,s⟩:=aAa l l _ (aDq l (Ky l ids)) fun _ f=>(U5.1 f).1
 have hlen:(RJ l).length≤(Ig l (Ky l ids)).length+l.length:=by
  have :=Q9 (l.map (·.Id));unfold RJ;simp only[CB]at this;omega
 have u:=s hlen;intro h
 induction h with
 |one h f m=>exact j _ (U5.2 ⟨m,_,ZF.2 ⟨h,aqd f⟩,f⟩)
 |more h f m z=>exact u _ (U5.2 ⟨m,_,z,f⟩)
def yP (l:List AO) (ids:List Int):(chainOf l ids).length≤l.length:=by
 have f:=(zl (t:=RJ l) (aH2 l ids) (LH _) fun x h=>xK (aj0 h)).1;have j:=Q9 (l.map fun e:AO=>e.Id);unfold RJ at f;simp only[CB]at j;omega
def XY (l:List AO):Prop:=∀e∈l,e.dh.length≤40
def aAx {l:List AO} (h:XY l) (id:Int):(Fp l id).length≤40:=by
 unfold Fp;cases f:E9 l id with
 |none=>rw[Qi f];exact Dx _
 |some e=>rw[NU f];exact h e (Ll f)
def wW {l:List AO} {r:List Int} (hi:Inc r) (h:∀x∈r,dM l x=true):r.length≤l.length:=by
 have f:=(zl (t:=RJ l) hi (LH _) fun x j=>xK (h x j)).1;have m:=Q9 (l.map fun e:AO=>e.Id);unfold RJ at f;simp only[CB]at m;omega
section
variable {R A B C D E F G : Type} {Q : R → Prop}
def bT {body:(A→B→C→Option R)→A→B→C→Option R} (I:Nat→A→B→C→Prop) (u:∀m a b c k,I m a b c→(∀f a' j q,f<m→I f a' j q→gW (k a' j q) Q)→gW (body k a b c) Q):
 ∀n m a b c,m<n→I m a b c→gW (zq body n a b c) Q
 |0,m,_,_,_,h,_=>AA
 |n+1,m,a,b,c,h,hi=>u m a b c _ hi fun f a' j q h' s=>bT I u n f a' j q AA s
def aCq {body:(A→B→C→D→E→Option R)→A→B→C→D→E→Option R} (I:Nat→A→B→C→D→E→Prop) (z:∀m a b c d e k,I m a b c d e→(∀f a' j q s e',f<m→I f a' j q s e'→gW (k a' j q s e') Q)→gW (body k a b c d e) Q):
 ∀n m a b c d e,m<n→I m a b c d e→gW (yx body n a b c d e) Q
 |0,m,_,_,_,_,_,h,_=>AA
 |n+1,m,a,b,c,d,e,h,hi=>z m a b c d e _ hi fun f a' j q s e' h' u=>aCq I z n f a' j q s e' AA u
def aDj {body:(A→B→C→D→E→F→Option R)→A→B→C→D→E→F→Option R} (I:Nat→A→B→C→D→E→F→Prop) (L:∀m a b c d e f k,I m a b c d e f→(∀j a' q s u e' z,j<m→I j a' q s u e' z→gW (k a' q s u e' z) Q)→gW (body k a b c d e f) Q):
 ∀n m a b c d e f,m<n→I m a b c d e f→gW (AU body n a b c d e f) Q
 |0,m,_,_,_,_,_,_,h,_=>AA
 |n+1,m,a,b,c,d,e,f,h,hi=>L m a b c d e f _ hi fun j a' q s u e' z h' J=>aDj I L n j a' q s u e' z AA J
def aeL {body:(A→B→C→D→E→F→G→Option R)→A→B→C→D→E→F→G→Option R} (I:Nat→A→B→C→D→E→F→G→Prop) (M:∀m a b c d e f g k,I m a b c d e f g→(∀j a' q s u e' z J,j<m→I j a' q s u e' z J→gW (k a' q s u e' z J) Q)→gW (body k a b c d e f g) Q):
 ∀n m a b c d e f g,m<n→I m a b c d e f g→gW (UO body n a b c d e f g) Q
 |0,m,_,_,_,_,_,_,_,h,_=>AA
 |n+1,m,a,b,c,d,e,f,g,h,hi=>M m a b c d e f g _ hi fun j a' q s u e' z J h' L=>aeL I M n j a' q s u e' z J AA L
end
def O9 {V:Type}:∀(m:List (Int×V)) (k k':Int) (v:V),Bg (CW m k v) k'=bif k'==k then some v else Bg m k'
 | [],k,k',v=>by
   unfold CW Bg;rfl
 |p::m,k,k',v=>by
  unfold CW;cases h:k==p.1 with
  |true=>
   have f:k=p.1:=Hf
   subst f;simp only[Ba,Bg];cases k'==p.1<;>rfl
  |false=>
   have f:k≠p.1:=Hf
   simp only[BK,Bg,O9 m k k' v];cases j:k'==p.1 with
   |true=>
    have n:k'=p.1:=NI
    subst n;have :(p.1==k)=false:=by simpa using fun e:p.1=k=>f e.symm
    rw[this];rfl
   |false=>rfl
def Vm (l:List AO) (m:List (Int×Int)):Prop:=∀id,(Bg m id=none∧E9 l id=none)∨∃(n:Nat) (e:AO),Bg m id=some (n:Int)∧E9 l id=some e∧l[n]? =some e
def Vm.isSome {l:List AO} {m:List (Int×Int)} (h:Vm l m) (id:Int):(Bg m id).isSome=dM l id:=by
 unfold dM;rcases h id with⟨f,j⟩|⟨n,e,f,j,_⟩<;>rw[f,j]<;>rfl
def Vm.get {l:List AO} {m:List (Int×Int)} (h:Vm l m) {id:Int} {e:AO} (j:E9 l id=some e):BF l ((Bg m id).getD 0)=some e:=by
 rcases h id with⟨_,f⟩|⟨n,e',q,f,s⟩
 ·rw[j]at f;cases f
 rw[j]at f;cases f;rw[q];show BF l (n:Int)=_;rw[rX,s]
def gq (l:List AO) (I:l.length≤1000):gW (VW l) (Vm l):=by
 unfold VW afS
 refine Xf (fun m a b=>∃i:Nat,a=(i:Int)-1∧m=i∧i≤l.length∧∀id,(Bg b id=none∧(l.drop i).find? (fun e=>e.Id==id)=none)∨∃(n:Nat) (e:AO),Bg b id=some (n:Int)∧(l.drop i).find? (fun e=>e.Id==id)=some e∧l[n]? =some e) ?_ Ar l.length _ _ (fuel_lt AA)
  ⟨l.length,PN,rfl,Dn _,fun id=>.inl ⟨rfl,BG⟩⟩
 rintro m a b k ⟨i,rfl,J,hi,h⟩ s;unfold adS;refine gW.bif (fun e=>?_) fun e=>?_
 ·have q:0<i:=by have :=VP e;omega
  have f:i-1<l.length:=AA
  have u:(i:Int)-1=((i-1:Nat):Int):=AA
  rw[u,D9 f];simp only[Aa];refine s (i-1) _ _ AA ⟨i-1,PN,rfl,AA,fun id=>?_⟩;rw[O9,NC f,show i-1+1=i by omega,kC];cases j:l[i-1].Id==id with
  |true=>
   have :(id==l[i-1].Id)=true:=by have :l[i-1].Id=id:=NI
                                  simp[this]
   rw[this];exact .inr ⟨i-1,l[i-1],rfl,rfl,U0⟩
  |false=>
   have :(id==l[i-1].Id)=false:=by have :l[i-1].Id≠id:=NI
                                   simpa using fun e:id=l[i-1].Id=>this e.symm
   rw[this];exact h id
 have z:i=0:=by have :=IK e;omega
 subst z;refine .ret fun id=>?_;have :=h id;rw[eH]at this;exact this
inductive Rs (l:List AO) (from_:List Int):Int→Prop
 |one {x:Int} (h:x∈from_) (hk:dM l x=true):Rs l from_ x
 |more {y x:Int} (h:Rs l from_ y) (hx:x∈Fp l y) (hk:dM l x=true):Rs l from_ x
def Rs.dM {l:List AO} {f:List Int} {x:Int} (h:Rs l f x):dM l x=true:=by cases h<;>assumption
def akQ {r:List Int} {x:Int} (h:x∉r):(put r x).length=r.length+1:=by
 unfold put;rw[CV (by rw[KA];exact h),Dk,FQ];have :=BX List.length (je (p:=(decide<| · <x)) (l:=r));rw[Dk]at this;omega
def aq8 (r:List Int) (x:Int):El (r++[x])=put (El r) x:=by unfold El;rw[cZ];rfl
structure ahd (l:List AO) (from_ next al1:List Int) (i:Nat) (out later:List Int) (found level:List (Int×Bool)):Prop where
 found:∀x,(Bg found x).getD false=true↔x∈out
 level:∀x,(Bg level x).getD false=true→x∈out
 nodup:(El out).length=out.length
 rch:∀x∈out,Rs l from_ x
 seen:∀x∈next.take i,dM l x=true→x∈out
 sub:∀x∈al1,x∈out
 ref:∀y∈out,y∈al1∨∀x∈Fp l y,x∈later
 back:∀x∈later,∃y∈out,x∈Fp l y
 size:later.length+40*al1.length≤40*out.length
 same:out.length=al1.length→later=[]
def aFV {l:List AO} {f:List Int} (h:(El f).length=f.length) (j:∀x∈f,dM l x=true):f.length≤l.length:=by
 rw[←h];exact wW (LH f) fun x m=>j x (KN.1 m)
def asa (l:List AO) {x:Int} {e:AO} (h:E9 l x=some e):Uw e=some (Fp l x):=by
 unfold Uw Fp;rw[NU h]
def aq1 (l:List AO) (j:List Int) (hl:l.length≤1000) (ha:XY l) (hf:j.length≤10000000):
 gW (oD l j fun a0=>Uw a0) (fun r=>Inc r∧∀x,x∈r↔Rs l j x):=by
 unfold oD;refine(gq l hl).bind fun at_ O=>?_;unfold abY
 refine aCq (fun m q next at' found level=>at'=at_∧m=2*(l.length-q.length)+(if next=[]then 0 else 1)∧next.length≤10000000∧(∀x,(Bg found x).getD false=true↔x∈q)∧(El q).length=q.length∧
  (∀x∈q,Rs l j x)∧(∀x∈next,dM l x=true→Rs l j x)∧(∀x∈j,dM l x=true→x∈q∨x∈next)∧(∀y∈q,∀x∈Fp l y,dM l x=true→x∈q∨x∈next)) ?_ Ar (2*(l.length-([]:List Int).length)+(if j=[]then 0 else 1)) _ _ _ _ _ ?_ ?_
 ·rintro m q next at2 found level k ⟨S,rfl,hn,h1,h2,h3,h4,h5,h6⟩ I;subst S;unfold aH8;have hol:=aFV h2 fun x f=>(h3 x f).dM;refine gW.bif (fun e=>?_) fun e=>?_
  ·have hne:next≠[]:=by
    rintro rfl;simp at e
   unfold aJL;refine aDj (body:=aGB next l (fun a0=>Uw a0) k) (fun(m:Nat) (o la:List Int) (c:Int) (d:List (Int×Int)) (fo le:List (Int×Bool))=>∃i:Nat,c=i∧i+m=next.length∧d=at2∧ahd l j next q i o la fo le) ?_ Ar next.length _ _ _ _ _ _ aAE ?_
   ·rintro m o la c d fo le k2 ⟨i,rfl,hm,rfl,n⟩ L;unfold aGB;refine gW.bif (fun e=>?_) fun e=>?_
    ·have hi:i<next.length:=SY
     have w:=wrap_succ i AA;have U:=aFV n.nodup fun x f=>(n.rch x f).dM;rw[D9 hi];simp only[Aa];rw[O.isSome];unfold wE;have u:next.take (i+1)=next.take i++[next[i]]:=by rw[Xl hi]
     cases M:dM l next[i]with
     |false=>
      simp only[Jg,Ba,Aa,w];refine L (m-1) _ _ _ _ _ _ AA ⟨i+1,rfl,AA,rfl,{ n with seen:=fun x f I=>?_ }⟩;rw[u,Fe]at f;rcases f with f|f
      ·exact n.seen x f I
      rw[Gi.1 f,M]at I;cases I
     |true=>
      simp only[EF,BK,Aa];by_cases J:next[i]∈o
      ·rw[(n.found next[i]).2 J];simp only[Ba,Aa,w];refine L (m-1) _ _ _ _ _ _ AA ⟨i+1,rfl,AA,rfl,{ n with seen:=fun x f I=>?_ }⟩;rw[u,Fe]at f;rcases f with f|f
       ·exact n.seen x f I
       rw[Gi.1 f];exact J
      have f1:(Bg fo next[i]).getD false=false:=by
       cases h:(Bg fo next[i]).getD false with
       |false=>rfl
       |true=>exact absurd ((n.found _).1 h) J
      have f2:(Bg le next[i]).getD false=false:=by
       cases h:(Bg le next[i]).getD false with
       |false=>rfl
       |true=>exact absurd (n.level _ h) J
      rw[f1,f2];simp only[BK,Aa];obtain⟨ev,Y⟩:=Rq.1 (show(E9 l next[i]).isSome=true from M);rw[ET Gz];simp only[Aa];rw[O.get Y];simp only[Aa];rw[asa l Y];simp only[Aa];have hau:=aAx ha next[i];have hsz:=n.size;rw[ET AA];simp only[Aa,w];refine L (m-1) _ _ _ _ _ _ AA ⟨i+1,rfl,AA,rfl,?_⟩;have hnx:Rs l j next[i]:=h4 _ (EU hi) M;refine⟨fun x=>?_,fun x f=>?_,?_,fun x f=>?_,fun x f I=>?_,fun x f=>qH _ (n.sub x f),fun y z=>?_,fun x f=>?_,?_,fun h=>?_⟩
      ·rw[O9,Fe,Gi];cases f:x==next[i]with
       |true=>simp only[Ba,KF,true_iff];exact .inr L9
       |false=>simp only[BK];rw[n.found x];exact⟨.inl,fun h=>h.elim id fun h=>by simp[h]at f⟩
      ·rw[O9]at f;rw[Fe,Gi];cases Z:x==next[i]with
       |true=>exact .inr Yi
       |false=>rw[Z]at f;exact .inl (n.level x f)
      ·rw[aq8,akQ (fun h=>J (KN.1 h)),n.nodup];simp
      ·rcases Fe.1 f with f|f
       ·exact n.rch x f
       rw[Gi.1 f];exact hnx
      ·rw[u,Fe]at f;rcases f with f|f
       ·exact qH _ (n.seen x f I)
       exact aBV _ f
      ·rcases Fe.1 z with z|z
       ·exact(n.ref y z).imp id fun h x f=>qH _ (h x f)
       rw[Gi.1 z];exact .inr fun x f=>aBV _ f
      ·rcases Fe.1 f with f|f
       ·obtain⟨y,z,h⟩:=n.back x f;exact⟨y,qH _ z,h⟩
       exact⟨next[i],aBV _ (Gi.2 rfl),f⟩
      ·simp only[Dk,Qd];omega
      have :=n.size;simp only[Dk,Qd]at h;omega
    have hi:i=next.length:=by have :¬i<next.length:=SY
                              omega
    subst hi;have U:=aFV n.nodup fun x f=>(n.rch x f).dM;have hsz:=n.size;refine I (2*(l.length-o.length)+(if la=[]then 0 else 1)) _ _ _ _ _ ?_ ⟨rfl,rfl,AA,n.found,n.nodup,n.rch,fun x f s=>?_,fun x f s=>?_,fun y z x f s=>?_⟩
    ·rw[CV hne];have hle:q.length≤o.length:=AA
     rcases mX q.length o.length with h|h
     ·split<;>omega
     have :=n.same AA;rw[CG this];omega
    ·obtain⟨y,z,h⟩:=n.back x f;exact .more (n.rch y z) h s
    ·rcases h5 x f s with h|h
     ·exact .inl (n.sub x h)
     exact .inl (n.seen x (by rw[Hy];exact h) s)
    rcases n.ref y z with h|h
    ·rcases h6 y h x f s with h|h
     ·exact .inl (n.sub x h)
     exact .inl (n.seen x (by rw[Hy];exact h) s)
    exact .inr (h x f)
   exact⟨0,rfl,AA,rfl,⟨h1,fun x f=>by simp[Bg]at f,h2,h3,fun x f=>Qk,fun _ h=>h,fun y z=>.inl z,fun x f=>(FH f).elim,BG,fun _=>rfl⟩⟩
  have hz:next=[]:=by
   cases next with
   |nil=>rfl
   |cons a b=>simp at e
  subst hz;rw[Wi q AA];refine .ret ⟨LH _,fun x=>?_⟩;rw[KN];refine⟨h3 x,fun h=>?_⟩
  induction h with
  |one h s=>exact(h5 _ h s).elim id fun h=>(FH h).elim
  |more h f s ih=>exact(h6 _ ih _ f s).elim id fun h=>(FH h).elim
 ·have :Ar=9223372036854775808:=rfl;split<;>(simp only[Nu];omega)
 exact⟨rfl,rfl,hf,fun x=>by simp[Bg],rfl,fun x f=>(FH f).elim,fun x f I=>.one f I,fun x f _=>.inr f,fun y z=>(FH z).elim⟩
def aFS (l:List AO) (ids:List Int) (u:l.length≤1000) (ha:XY l) (hi:ids.length≤100000):VD l ids=some (chainOf l ids):=by
 refine gW.eq ?_;unfold VD;refine(gq l u).bind fun at_ j=>?_;unfold aIk;rw[LP ids AA (fun r id=>r++Fp l id) (fun i r=>r.length≤40*i) (fun r=>(oD l r fun a0=>Uw a0).bind fun s=>some s) BG]
 ·rw[foldl_append (Fp l),IC]
  have hlen:(ids.flatMap (Fp l)).length≤40*ids.length:=by
   have key:∀ids:List Int,(ids.flatMap (Fp l)).length≤40*ids.length:=by
    intro ids
    induction ids with
    |nil=>simp
    |cons x ids q=>have :=aAx ha x;rw[LV,Dk,FQ];omega
   exact key ids
  refine(aq1 l _ u ha AA).bind fun r z=>.ret ?_;refine ML z.1 (aH2 l ids) fun x=>(z.2 x).trans (Iff.trans ?_ aEB.symm);constructor
  ·intro h
   induction h with
   |one h f=>
    obtain⟨i,hi,h⟩:=Qn.1 h;exact .one hi h f
   |more h m f q=>exact .more q m f
  intro h
  induction h with
  |one h m f=>exact .one (Qn.2 ⟨_,h,m⟩) f
  |more h m f q=>exact .more q m f
 ·intro k r i h J;have I:=aAx ha ids[i];refine⟨by simp only[Dk];omega,?_⟩;unfold aBi aAX;rw[D5 h,j.isSome];cases f:dM l ids[i]with
  |false=>
   have :Fp l ids[i]=[]:=by
    unfold Fp;rw[Qi (by unfold dM at f;simpa using f)];rfl
   rw[this,QW];rfl
  |true=>
   obtain⟨ev,n⟩:=Rq.1 (show(E9 l ids[i]).isSome=true from f);simp only[Ba];rw[j.get n];simp only[Aa];have :Fp l ids[i]=ev.dh:=by unfold Fp;rw[NU n]
   rw[←this,ET AA];rfl
 intro k r _;unfold aBi;rw[E8]
def aCb :∀x:List UInt8,Op.bytesLess x x=false
 | []=>rfl
 |a::x=>by
  unfold Op.bytesLess;rw[aCb x];simp
def aeN :∀{x y z:List UInt8},Op.bytesLess x y=true→Op.bytesLess y z=true→Op.bytesLess x z=true
 |_,_,[],_,h=>zH
 | [],_,_::_,_,_=>rfl
 |_::_,[],_::_,h,_=>zH
 |a::x,b::y,c::z,h,k=>by
  simp only[Op.bytesLess,XJ,Bv,FI,QS]at h k ⊢;rcases h with h|⟨rfl,h⟩<;>rcases k with k|⟨rfl,k⟩
  ·exact .inl (UInt8.lt_trans h k)
  ·exact .inl h
  ·exact .inl k
  exact .inr ⟨rfl,aeN h k⟩
def ae6 :∀{x y:List UInt8},Op.bytesLess x y=false→Op.bytesLess y x=false→x=y
 | [],[],_,_=>rfl
 | [],_::_,h,_=>zH
 |_::_,[],_,h=>zH
 |a::x,b::y,h,k=>by
  simp only[Op.bytesLess,iw,aAs,VG,Wx]at h k;have e:a=b:=UInt8.le_antisymm (UInt8.not_lt.1 k.1) (UInt8.not_lt.1 h.1);subst e;have f:=h.2.resolve_left (fun h=>h rfl);have k2:=k.2.resolve_left (fun h=>h rfl);rw[ae6 f k2]
def En (a b:Ak):Bool:=decide (a.Kind<b.Kind)||(a.Kind==b.Kind&&Op.bytesLess a.Key.toList b.Key.toList)
def Gs (a b:Ak):Bool:=a.Kind==b.Kind&&decide (a.Key=b.Key)
def aly (a:Ak):En a a=false:=by unfold En;rw[aCb];simp
def aIe {a b c:Ak} (h:En a b=true) (k:En b c=true):En a c=true:=by
 unfold En at *;simp only[XJ,Bv,FI,QS]at *;rcases h with h|⟨j,f⟩<;>rcases k with k|⟨m,k2⟩
 ·exact .inl AA
 ·exact .inl AA
 ·exact .inl AA
 exact .inr ⟨AA,aeN f k2⟩
def TV {a b:Ak}:Gs a b=true↔a.Kind=b.Kind∧a.Key=b.Key:=by unfold Gs;simp
def afK {a b:Ak} (h:En a b=false) (k:En b a=false):Gs a b=true:=by
 unfold En at *;simp only[iw,aAs,VG,Wx]at *;have e:a.Kind=b.Kind:=AA
 rw[TV];exact⟨e,toList_inj (ae6 (h.2.resolve_left fun n=>n e) (k.2.resolve_left fun n=>n e.symm))⟩
def mV {a b:Ak} (h:Gs a b=true):En a b=false:=by
 obtain⟨f,j⟩:=TV.1 h;unfold En;rw[f,j,aCb];simp
def iH {a b c:Ak} (h:Gs a b=true):En a c=En b c∧En c a=En c b:=by
 obtain⟨f,j⟩:=TV.1 h;unfold En;rw[f,j];exact⟨rfl,rfl⟩
def aop (a b:Ak):ny a b=some (En a b):=by
 unfold ny En;cases f:decide (a.Kind<b.Kind)<;>cases h:a.Kind==b.Kind<;>rfl
def GU (s:List Ak) (e:Ak):Nat:=s.findIdx fun x=> !En x e
def MG (s:List Ak) (e:Ak):Bool:=match s[GU s e]? with
 |some x=>Gs x e
 |none=>false
def aFZ (s:List Ak) (e:Ak):GU s e≤s.length:=List.findIdx_le_length
def adZ {s:List Ak} {e:Ak} (h:GU s e<s.length):En s[GU s e] e=false:=by
 have :=List.findIdx_getElem (w:=h);unfold GU;simpa using this
def aIR (s:List Ak) (k:Int) (key:ByteArray) (q:s.length≤1000000):kP s k key=some (((GU s ⟨k,key,0⟩:Nat):Int),MG s ⟨k,key,0⟩):=by
 unfold kP aEu aH3;generalize u:(⟨k,key,0⟩:Ak)=e
 have j:bF (qE s (fun a0=>nN a0 e) (fun a0=>dI a0 e)) Ar 0=some (((GU s e:Nat):Int),MG s e):=by
  rw[PL s (fuel_lt AA) (fun x=> !En x e) (fun i=>some (((i:Nat):Int),match s[i]? with |some x=> !En e x|none=>false)) (some (((s.length:Nat):Int),false))]
  ·split
   ·rename_i h;congr 2;unfold MG GU;rw[DX h];have m:En s[s.findIdx fun x=> !En x e] e=false:=adZ h;show(!En e s[s.findIdx fun x=> !En x e])=Gs s[s.findIdx fun x=> !En x e] e;cases f:En e s[s.findIdx fun x=> !En x e]with
    |false=>rw[afK m f];rfl
    |true=>
     cases n:Gs s[s.findIdx fun x=> !En x e] e with
     |false=>rfl
     |true=>rw[(iH n).2,aly]at f;cases f
   rename_i h;have h':GU s e=s.length:=by have :=aFZ s e;unfold GU at *;omega
   have f:MG s e=false:=by unfold MG;rw[h',Jm (Dn _)]
   rw[h',f]
  ·intro k2 i h;unfold qE;rw[D5 h,D5 h];simp only[nN,dI,aop,Aa];rw[DX h];cases En s[i] e<;>rfl
  intro k2;unfold qE;rw[E8,E8];rfl
 rw[j];rfl
def Gl (s:List Ak):Prop:=s.Pairwise fun a b=>En a b=true
def H7 (s:List Ak) (k:Int) (key:ByteArray):Int×Bool:=match s.find? fun x=>Gs x ⟨k,key,0⟩with
 |some x=>(x.Id,true)
 |none=>(0,false)
def akK {s:List Ak} (h:Gl s) (e:Ak):s.find? (fun x=>Gs x e)=match s[GU s e]? with |some x=>if Gs x e then some x else none|none=>none:=by
 induction s with
 |nil=>rfl
 |cons a s n=>
  have h':=Ns.1 h;unfold GU;rw[kC,Rt];cases j:En a e with
  |true=>
   have f:Gs a e=false:=by
    cases f:Gs a e with
    |false=>rfl
    |true=>rw[mV f]at j;cases j
   rw[f];simp only[EF,BK,uP];exact n h'.2
  |false=>
   simp only[Jg,Ba,aC4];cases f:Gs a e with
   |true=>rfl
   |false=>
    simp only[Qu,Ic];refine aGE.2 fun x q u=>?_;have m:=h'.1 x q;rw[(iH u).2,j]at m;cases m
def aF7 (s:List Ak) (k:Int) (key:ByteArray) (j:s.length≤1000000) (h:Gl s):YC s k key=some (H7 s k key):=by
 unfold YC;rw[aIR s k key j];simp only[Aa];unfold H7 MG;rw[akK h];by_cases f:GU s ⟨k,key,0⟩<s.length
 ·rw[DX f];simp only;cases m:Gs s[GU s ⟨k,key,0⟩] ⟨k,key,0⟩with
  |true=>simp only[Ba,Iu];rw[D9 f];rfl
  |false=>rfl
 rw[Jm AA];rfl
def Fr (s:List Ak) (k:Int) (key:ByteArray) (id:Int):List Ak:=
 s.take (GU s ⟨k,key,0⟩)++⟨k,key,id⟩::s.drop (GU s ⟨k,key,0⟩+bif MG s ⟨k,key,0⟩then 1 else 0)
def amk {s:List Ak} {e:Ak} (h:MG s e=true):GU s e<s.length:=by
 unfold MG at h;by_cases f:GU s e<s.length
 ·exact f
 rw[Jm AA]at h;cases h
def aI4 {α:Type} {l:List α} {i:Nat} (hi:i≤l.length):KY l 0 (i:Int)=some (l.take i):=by
 have :=yc (l:=l) (lo:=0) (hi:=i) AA hi;simpa using this
def aDo {α:Type} {l:List α} {i:Nat} (hi:i≤l.length):KY l (i:Int) (l.length:Int)=some (l.drop i):=by
 rw[yc (l:=l) (lo:=i) (hi:=l.length) hi AA];congr 1;exact P6 BG
def Vf (s:List Ak) (k:Int) (key:ByteArray) (id:Int) (h:s.length≤1000000):P7 s k key id=some (Fr s k key id):=by
 unfold P7;rw[aIR s k key h];simp only[Aa];have f:=aFZ s ⟨k,key,0⟩;unfold vT Fr;rw[aI4 f];simp only[Aa];rw[ET Dp];simp only[Aa,IC];rw[ET Dp];simp only[Aa];cases j:MG s ⟨k,key,0⟩with
 |true=>
  have m:=amk j;simp only[Ba];rw[wrap_succ _ AA,aDo m];simp only[Aa];rw[ET Dp];simp
 |false=>
  simp only[BK];rw[aDo f];simp only[Aa];rw[ET Dp];simp
def Rz (s:List Ak) (k:Int) (key:ByteArray) (id:Int):(Fr s k key id).length≤s.length+1:=by
 unfold Fr;have :=aFZ s ⟨k,key,0⟩;simp only[Dk,FQ,G5,J3];omega
def ag6 {s:List Ak} {e x:Ak} (h:x∈s.take (GU s e)):En x e=true:=by
 obtain⟨i,hi,rfl⟩:=Gv h;have f:i<GU s e:=by simp at hi;omega
 have :=List.not_of_lt_findIdx f;rw[aAr];simpa using this
def aHB {s:List Ak} (u:Gl s) {e x:Ak} (h:x∈s.drop (GU s e+bif MG s e then 1 else 0)):En e x=true:=by
 generalize j:(GU s e+bif MG s e then 1 else 0)=n at h;obtain⟨i,hi,rfl⟩:=Gv h;rw[List.getElem_drop];rw[J3]at hi;by_cases m:GU s e<s.length
 ·have J:=adZ m;cases f:MG s e with
  |true=>
   rw[f]at j;simp only[Ba]at j;have q:Gs s[GU s e] e=true:=afa
   rw[←(iH q).1];exact Jt.1 u _ _ m AA AA
  |false=>
   rw[f]at j;simp only[BK,PY]at j;subst j;have q:Gs s[GU s e] e=false:=afa
   have z:En e s[GU s e]=true:=by
    cases h:En e s[GU s e]with
    |true=>rfl
    |false=>rw[afK J h]at q;cases q
   rcases Xr i with I|I
   ·subst I;simpa using z
   exact aIe z (Jt.1 u _ _ m AA AA)
 omega
def U6 {s:List Ak} (h:Gl s) (k:Int) (key:ByteArray) (id:Int):Gl (Fr s k key id):=by
 have m:Gs ⟨k,key,id⟩ ⟨k,key,0⟩=true:=TV.2 ⟨rfl,rfl⟩;unfold Fr Gl;refine aJ.2 ⟨h.sublist (List.take_sublist ..),Ns.2 ⟨fun x f=>?_,h.sublist (List.drop_sublist ..)⟩,fun x f y j=>?_⟩
 ·rw[(iH m).1];exact aHB h f
 have n:En x ⟨k,key,0⟩=true:=ag6 f;rcases Em.1 j with rfl|j
 ·rw[(iH m).2];exact n
 exact aIe n (aHB h j)
structure OH (l:List (List Ak)):Prop where
 len:l.length≤100
 each:∀s∈l,s.length≤100∧Gl s
def JH (l:List (List Ak)) (x:Ak):Bool:=l.all fun s=>(H7 s x.Kind x.Key).2&&(H7 s x.Kind x.Key).1==x.Id
def agM (l:List (List Ak)) (x:Ak) (h:OH l):uq l x=some (JH l x):=by
 unfold uq acG;rw[I5 l (fuel_lt (by have :=h.len;omega)) (fun s=> !((H7 s x.Kind x.Key).2&&(H7 s x.Kind x.Key).1==x.Id)) false (some true)]
 ·unfold JH;rw[J6,uQ]
 ·intro k i hi;obtain⟨j,f⟩:=h.each l[i] (EU hi);unfold aEQ;rw[D5 hi,aF7 _ _ _ AA f];simp only[Aa];cases(H7 l[i] x.Kind x.Key).2<;>simp[bne]
 intro k;unfold aEQ;rw[E8]
def J4 (l:List (List Ak)):List Ak:=match l with
 | []=>[]
 |s::_=>s.filter (JH l)
def SB (l:List (List Ak)):List Int:=(l.flatMap fun s=>s.filter fun x=> !JH l x).map (·.Id)
def UF (l:List (List Ak)) (i:Nat):List Ak:=if i=0 then[]else J4 l
def O5 (l:List (List Ak)) (i:Nat):List Int:=((l.take i).flatMap fun s=>s.filter fun x=> !JH l x).map (·.Id)
def amy {l:List (List Ak)} {i:Nat} (h:i<l.length):UF l (i+1)=UF l i++(if i=0 then l[i].filter (JH l)else[]):=by
 unfold UF J4;cases l with
 |nil=>simp at h
 |cons s l=>cases i<;>simp
def adh {l:List (List Ak)} {i:Nat} (h:i<l.length):O5 l (i+1)=O5 l i++(l[i].filter fun x=> !JH l x).map (·.Id):=by
 unfold O5;rw[Xl h,List.flatMap_append,JW];simp
def aa7 (l:List (List Ak)):O5 l l.length=SB l:=by unfold O5 SB;rw[Hy]
def anX (l:List (List Ak)):UF l l.length=J4 l:=by
 unfold UF;cases l with
 |nil=>rfl
 |cons s l=>simp
def ab1 {l:List (List Ak)} (h:OH l) (i:Nat):(O5 l i).length≤100*i:=by
 induction i with
 |zero=>simp[O5]
 |succ i f=>
  by_cases hi:i<l.length
  ·rw[adh hi,Dk,CB];have :=(h.each _ (EU hi)).1;have :=Jk (fun x=> !JH l x) l[i];omega
  have :O5 l (i+1)=O5 l i:=by unfold O5;rw[P6 AA,P6 AA]
  rw[this];omega
def aDM {l:List (List Ak)} (h:OH l):(SB l).length≤10000:=by
 have :=ab1 h l.length;rw[aa7]at this;have :=h.len;omega
def su {l:List (List Ak)} (h:OH l):(J4 l).length≤100:=by
 unfold J4;cases l with
 |nil=>exact Dx _
 |cons s l=>exact E5 (Jk _ _) (h.each s (Fa ..)).1
def aHP {l:List (List Ak)} (h:OH l):Gl (J4 l):=by
 unfold J4;cases l with
 |nil=>exact .nil
 |cons s l=>exact(h.each s (Fa ..)).2.sublist Qy
def aaA (l:List (List Ak)) (h:OH l):gJ l=some (J4 l,El (SB l)):=by
 have hlen:=h.len;refine gW.eq ?_;unfold gJ acK;refine aDj (body:=aGD l) (fun(m:Nat) (a:List Ak) (b:List Int) (c:Int) (d:List (List Ak)) (_:List Ak) (_:List Int)=>∃i:Nat,c=i∧i+m=l.length∧d=l∧a=UF l i∧b=O5 l i) ?_ Ar l.length [] [] 0 l [] [] (fuel_lt AA) ⟨0,rfl,AA,rfl,rfl,by simp[O5]⟩;rintro m a b c d e f k ⟨i,rfl,U,rfl,rfl,rfl⟩ M;unfold aGD;refine gW.bif (fun hi=>?_) fun hi=>?_
 ·have hi:i<d.length:=Ey
  have Y:=(h.each d[i] (EU hi)).1;have O:=ab1 h i;rw[D9 hi];simp only[Aa,lT];unfold abD
  refine aeL (body:=aD8 d[i] k (i:Int)) (fun(z:Nat) (a:List Ak) (b:List Int) (c:Int) (q:List (List Ak)) (_:List Ak) (_:List Int) (g:Int)=>
   ∃j:Nat,c=j∧j+z=d[i].length∧q=d∧g=i∧a=UF d i++(if i=0 then(d[i].take j).filter (JH d)else[])∧b=O5 d i++((d[i].take j).filter fun x=> !JH d x).map (·.Id)) ?_ Ar d[i].length _ _ _ _ _ _ _ (fuel_lt AA) ⟨0,rfl,AA,rfl,rfl,BG,BG⟩
  rintro z a b c q Z f2 g k2 ⟨j,rfl,S,rfl,rfl,rfl,rfl⟩ u;unfold aD8;refine gW.bif (fun s=>?_) fun s=>?_
  ·have s:j<q[i].length:=MS
   have n:q[i].take (j+1)=q[i].take j++[q[i][j]]:=by rw[Xl s]
   rw[D9 s];simp only[Aa];rw[agM q _ h];simp only[Aa];have w:=wrap_succ j AA;have I:=Jk (fun x=> !JH q x) (q[i].take j);have J:=Jk (JH q) (q[i].take j)
   have hst:(UF q i).length≤100:=by unfold UF;split; ·exact Dx _
                                    ·exact su h
   rw[G5]at I J;cases ha:JH q q[i][j]with
   |false=>
    simp only[Jg,Ba];rw[ET (by simp only[Dk,CB,Qd];omega)];simp only[Aa,w];refine u (z-1) _ _ _ _ _ _ _ AA ⟨j+1,rfl,AA,rfl,rfl,?_,?_⟩
    ·rw[n,Sr];simp[ha]
    rw[n,Sr];simp[ha]
   |true=>
    simp only[EF,BK];by_cases L:i=0
    ·subst L;simp only[show(((0:Nat):Int)==0)=true from rfl,Ba,Iu];rw[ET YA];simp only[Aa,w];refine u (z-1) _ _ _ _ _ _ _ AA ⟨j+1,rfl,AA,rfl,rfl,?_,?_⟩
     ·rw[n,Sr];simp[ha]
     rw[n,Sr];simp[ha]
    have :((i:Int)==0)=false:=pU
    rw[this];simp only[BK,w];refine u (z-1) _ _ _ _ _ _ _ AA ⟨j+1,rfl,AA,rfl,rfl,?_,?_⟩
    ·simp[L]
    rw[n,Sr];simp[ha]
  have s:j=q[i].length:=by have :¬j<q[i].length:=MS
                           omega
  subst s;rw[wrap_succ i AA,Hy];exact M (m-1) _ _ _ _ _ _ AA ⟨i+1,rfl,AA,rfl,(amy hi).symm,(adh hi).symm⟩
 have hi:i=d.length:=by have :¬i<d.length:=Ey
                        omega
 subst hi;have :=aDM h;rw[aa7,anX,Wi _ AA];exact .ret rfl
def RF (s:List Ak):List Int:=s.map (·.Id)
def Eu (l:List AO) (s:List Ak):List Int:=Gh (RF s) (chainOf l (RF s))
def allOf (l:List AO) (f:List (List Ak)):List Int:=f.foldl (fun a s=>Gh a (Eu l s)) []
def KZ (l:List AO) (f:List (List Ak)) (x:Int):Nat:=f.countP fun s=>Dv (Eu l s) x
def QM (l:List AO) (f:List (List Ak)):List Int:=(allOf l f).filter fun x=>decide (KZ l f x<f.length)
def Jy (l:List AO) (f:List (List Ak)):List Int:=Gh (El (SB f)) (QM l f)
def aHp (l:List AO) (s:List Ak):Inc (Eu l s):=rE _ _
def aIH (s:List Ak):(RF s).length=s.length:=CB _
def aEf (l:List AO) (s:List Ak):(Eu l s).length≤s.length+l.length:=by
 have f:=aB5 (RF s) (chainOf l (RF s));have h:=yP l (RF s);rw[aIH]at f;unfold Eu;omega
def aFk (l:List AO):∀(f:List (List Ak)) (a:List Int),Inc a→Inc (f.foldl (fun a s=>Gh a (Eu l s)) a)∧∀x,x∈f.foldl (fun a s=>Gh a (Eu l s)) a↔x∈a∨∃s∈f,x∈Eu l s
 | [],a,h=>⟨h,fun x=>BG⟩
 |s::f,a,h=>by
  rw[GI];obtain⟨m,n⟩:=aFk l f (Gh a (Eu l s)) (rE _ _);refine⟨m,fun x=>(n x).trans ?_⟩;rw[VB];constructor
  ·rintro((h|h)|⟨t,j,h4⟩)
   ·exact .inl h
   ·exact .inr ⟨s,Fa ..,h⟩
   exact .inr ⟨t,Gq _ j,h4⟩
  rintro(h|⟨t,j,h4⟩)
  ·exact .inl (.inl h)
  rcases Em.1 j with rfl|j
  ·exact .inl (.inr h4)
  exact .inr ⟨t,j,h4⟩
def aot (l:List AO) (f:List (List Ak)):Inc (allOf l f):=(aFk l f [] .nil).1
def aau {l:List AO} {f:List (List Ak)} {x:Int}:x∈allOf l f↔∃s∈f,x∈Eu l s:=by
 unfold allOf;rw[(aFk l f [] .nil).2 x];simp
def aiN (l:List AO) (f:List (List Ak)):Inc (QM l f):=(aot l f).sublist Qy
def cnt_lt {l:List AO} {f:List (List Ak)} {x:Int}:KZ l f x<f.length↔∃s∈f,x∉Eu l s:=by
 unfold KZ;have h:=List.countP_le_length (p:=fun s=>Dv (Eu l s) x) (l:=f);have q:=List.countP_eq_length (p:=fun s=>Dv (Eu l s) x) (l:=f);constructor
 ·intro z;by_cases j:∀s∈f,Dv (Eu l s) x=true
  ·have :=q.2 j;omega
  simp only[Classical.not_forall]at j;obtain⟨s,m,n⟩:=j;exact⟨s,m,fun I=>n (KA.2 I)⟩
 rintro⟨s,m,n⟩;rcases mX (f.countP fun s=>Dv (Eu l s) x) f.length with u|u
 ·exact u
 exact absurd (KA.1 (q.1 AA s m)) n
def aq9 {l:List AO} {f:List (List Ak)} {x:Int}:x∈QM l f↔(∃s∈f,x∈Eu l s)∧∃s∈f,x∉Eu l s:=by
 unfold QM;rw[Fl,aau,FI,cnt_lt]
def acO {f:List (List Ak)} {x:Ak}:JH f x=true↔∀s∈f,(H7 s x.Kind x.Key).2=true∧(H7 s x.Kind x.Key).1=x.Id:=by
 unfold JH;rw[DV];simp
def aFT (l:List AO):∀(f:List (List Ak)) (a:List Int),(∀s∈f,s.length≤100)→(f.foldl (fun a s=>Gh a (Eu l s)) a).length≤a.length+f.length*(100+l.length)
 | [],a,_=>BG
 |s::f,a,h=>by
  rw[GI];have m:=aFT l f (Gh a (Eu l s)) fun t j=>h t (Gq _ j);have n:=aB5 a (Eu l s);have q:=aEf l s;have u:=h s (Fa ..);rw[FQ,Ry];omega
def amK {l:List AO} {f:List (List Ak)} (j:OH f) (u:l.length≤1000):(QM l f).length≤110000:=by
 have m:=aFT l f [] fun s h=>(j.2 s h).1;have n:=j.1;have q:=Jk (fun x=>decide (KZ l f x<f.length)) (allOf l f);have z:f.length*(100+l.length)≤100*1100:=aGa n AA;unfold QM;unfold allOf at q ⊢;simp only[Nu]at m;omega
def arQ {s:List Ak} (h:Gl s) {x:Ak} (q:x∈s):H7 s x.Kind x.Key=(x.Id,true):=by
 unfold H7;cases n:s.find? (fun y=>Gs y ⟨x.Kind,x.Key,0⟩)with
 |none=>
  have :=aGE.1 n x q;unfold Gs at this;simp at this
 |some y=>
  have u:=yR n;have J:=PO n;have z:Gs y x=true:=by unfold Gs at u ⊢;exact u
  have :y=x:=by
   obtain⟨i,hi,rfl⟩:=Gv q;obtain⟨j,I,rfl⟩:=Gv J;rcases jR i j with f|f|f
   ·have m:=Jt.1 h i j hi I f;have L:Gs s[i] s[j]=true:=by obtain⟨a,b⟩:=TV.1 z;exact TV.2 ⟨a.symm,b.symm⟩
    rw[mV L]at m;cases m
   ·subst f;rfl
   have m:=Jt.1 h j i I hi f;rw[mV z]at m;cases m
  rw[this]
def alN {s:List Ak} {k:Int} {key:ByteArray} {n:Int} (h:H7 s k key=(n,true)):(⟨k,key,n⟩:Ak)∈s:=by
 unfold H7 at h;cases f:s.find? (fun y=>Gs y ⟨k,key,0⟩)with
 |none=>rw[f]at h;cases h
 |some y=>
  rw[f]at h;have m:Gs y ⟨k,key,0⟩=true:=by have :=yR f;exact this
  have j:=TV.1 m;have q:=PO f;obtain⟨a,b,c⟩:=y;cases h;simp only at j;rw[←j.1,←j.2];exact q
def aoB {f:List (List Ak)} {x:Ak} (h:JH f x=true) {s:List Ak} (j:s∈f):x∈s:=by
 obtain⟨m,q⟩:=acO.1 h s j;exact alN (s:=s) (k:=x.Kind) (key:=x.Key) (n:=x.Id) (by rw[←m,←q])
def ajZ {f:List (List Ak)} (h:OH f) {x:Ak} (m:∀s∈f,x∈s):JH f x=true:=
 acO.2 fun s j=>by rw[arQ (h.2 s j).2 (m s j)];exact⟨rfl,rfl⟩
def aaq {f:List (List Ak)} (h:OH f) (m:f≠[]) {x:Ak}:x∈J4 f↔∀s∈f,x∈s:=by
 cases f with
 |nil=>exact absurd rfl m
 |cons s f=>
  show x∈s.filter (JH (s::f))↔_;rw[Fl];exact⟨fun j t n=>aoB j.2 n,fun j=>⟨j s (Fa ..),ajZ h j⟩⟩
def adF (l:List Int) (h:l.length≤1099511627776):((MP l).bind fun x=>(TK x).bind fun y=>some y)=some (El l):=by
 unfold MP TK;have f:(P9 l).length≤1099511627776:=by rw[(Sv l).length_eq];exact h
 simp[h,aG7,aC0]
def aoF (s:List Ak):s.foldl (fun r x=>r++[x.Id]) []=RF s:=by
 rw[foldl_append (fun x:Ak=>[x.Id])];unfold RF;rw[IC]
 induction s with
 |nil=>rfl
 |cons x s f=>rw[LV,f];rfl
def aiH (l:List AO) (s:List Ak) (m:l.length≤1000) (ha:XY l) (I:s.length≤100):qc l s=some (Eu l s):=by
 unfold qc
 have n:Gy 8 (0:Int) 0 (s.length:Int)=some []:=by
  unfold Gy;rw[CG vO];rfl
 rw[n];simp only[Aa];unfold af7;rw[LP s AA (fun r x=>r++[x.Id]) (fun i r=>r.length≤i) (fun r=>(VD l r).bind fun q=>(Ci 8 r q).bind fun u=>(MP u).bind fun f=>(TK f).bind fun j=>some j) BG]
 ·have J:=yP l (RF s);have L:=aIH s;rw[aoF,aFS l _ m ha AA];simp only[Aa];rw[ET AA];simp only[Aa];rw[adF _ Jq];unfold Eu;rw[eM]
 ·intro k a i h z;refine⟨aG9,?_⟩;unfold aFX;rw[D5 h,ET Gz];rfl
 intro k a z;unfold aFX;rw[E8]
def stepM (m:List (Int×Int)) (x:Int):List (Int×Int):=CW m x (BD (((Bg m x).getD 0)+1))
structure JB (m:List (Int×Int)) (f:Int→Nat):Prop where
 nodup:(m.map (·.1)).Nodup
 find:∀x,Bg m x=if f x=0 then none else some (f x:Int)
def akI {m:List (Int×Int)} {k v y:Int}:y∈(CW m k v).map (·.1)↔y=k∨y∈m.map (·.1):=by
 induction m with
 |nil=>simp[CW]
 |cons p m f=>
  unfold CW;cases h:k==p.1 with
  |true=>
   have j:k=p.1:=Hf
   simp only[Ba,J5,Em];rw[j];simp
  |false=>
   simp only[BK,J5,Em,f];exact⟨fun h=>h.elim (fun e=>.inr (.inl e)) fun h=>h.elim .inl fun h=>.inr (.inr h),fun h=>h.elim (fun e=>.inr (.inl e)) fun h=>h.elim .inl fun h=>.inr (.inr h)⟩
def ahm {m:List (Int×Int)} {k v:Int} (h:(m.map (·.1)).Nodup):((CW m k v).map (·.1)).Nodup:=by
 induction m with
 |nil=>simp[CW]
 |cons p m q=>
  have h':=KD.1 h;unfold CW;cases n:k==p.1 with
  |true=>
   have f:k=p.1:=NQ
   simp only[Ba,J5];rw[f];exact h
  |false=>
   have f:k≠p.1:=NQ
   simp only[BK,J5];refine KD.2 ⟨fun j=>?_,q h'.2⟩;rcases akI.1 j with e|j
   ·exact f e.symm
   exact h'.1 j
def ahS (m:List (Int×Int)) (k v:Int):(CW m k v).length≤m.length+1:=by
 induction m with
 |nil=>simp[CW]
 |cons p m f=>
  unfold CW;cases k==p.1 with
  |true=>simp
  |false=>simp only[BK,FQ];omega
def JB.step {m:List (Int×Int)} {f:Int→Nat} (h:JB m f) (x:Int) (q:f x≤1000000):JB (stepM m x) (fun y=>f y+if y=x then 1 else 0):=by
 refine⟨ahm h.nodup,fun y=>?_⟩;unfold stepM;rw[O9,h.find x]
 have e:BD (((if f x=0 then none else some (f x:Int)).getD 0)+1)=((f x+1:Nat):Int):=by
  by_cases j:f x=0
  ·rw[CG j,j];rfl
  rw[CV j];show BD ((f x:Int)+1)=_;exact wrap_succ _ AA
 by_cases n:y=x
 ·subst n;simp only[Ws,Ba,Iu];rw[e,CV AA]
 have :(y==x)=false:=NQ
 rw[this];simp only[BK,CV n,PY];exact h.find y
def JB.fold:∀(c:List Int) {m:List (Int×Int)} {f:Int→Nat},c.Nodup→JB m f→(∀x,f x≤1000)→JB (c.foldl stepM m) (fun y=>f y+if y∈c then 1 else 0)
 | [],m,f,_,h,_=>by
   refine⟨h.nodup,fun x=>?_⟩;simp only[List.foldl_nil,FH,Ic,PY];exact h.find x
 |x::c,m,f,n,h,J=>by
  have j:=KD.1 n
  have key:∀(c:List Int) (m:List (Int×Int)) (g:Int→Nat),c.Nodup→JB m g→(∀x∈c,g x≤1000)→JB (c.foldl stepM m) (fun y=>g y+if y∈c then 1 else 0):=by
   intro c
   induction c with
   |nil=>intro m g _ h _;refine⟨h.nodup,fun x=>?_⟩;simp only[List.foldl_nil,FH,Ic,PY];exact h.find x
   |cons z c L=>
    intro m g n h s;have j:=KD.1 n
    have u:=L (stepM m z) (fun y=>g y+if y=z then 1 else 0) j.2 (h.step z (by have :=s z (Fa ..);omega)) fun y I=>by
     have q:y≠z:=fun e=>j.1 (e▸I);simp only[CV q,PY];exact s y (Gq _ I)
    refine⟨u.nodup,fun y=>?_⟩;rw[GI,u.find y]
    have :(g y+if y=z then 1 else 0)+(if y∈c then 1 else 0)=g y+if y∈z::c then 1 else 0:=by
     by_cases e:y=z
     ·subst e;simp[j.1]
     simp[e]
    simp only[this]
  exact key (x::c) m f n h fun y _=>J y
def aE3 :∀(c:List Int) (m:List (Int×Int)),(c.foldl stepM m).length≤m.length+c.length
 | [],m=>BG
 |x::c,m=>by
  have f:=aE3 c (stepM m x);have h:=ahS m x (BD (((Bg m x).getD 0)+1));rw[GI,FQ];unfold stepM at f ⊢;omega
def YO {l:List Int} (h:Inc l):l.Nodup:=h.imp fun h=>AA
def JB.mem {m:List (Int×Int)} {f:Int→Nat} (h:JB m f) {x n:Int}:(x,n)∈m↔f x≠0∧n=f x:=by
 have key:∀m:List (Int×Int),(m.map (·.1)).Nodup→((x,n)∈m↔Bg m x=some n):=by
  intro m
  induction m with
  |nil=>intro _;simp[Bg]
  |cons p m z=>
   intro I;have j:=KD.1 I;unfold Bg;rw[Em];cases u:x==p.1 with
   |true=>
    have q:x=p.1:=Oe
    simp only[Ba,Io];constructor
    ·rintro(e|hm)
     ·rw[←e]
     exact absurd (FM.2 ⟨_,hm,q⟩) j.1
    intro e;left;rw[q,←e]
   |false=>
    have q:x≠p.1:=Oe
    simp only[BK];rw[←z j.2];exact⟨fun h=>h.elim (fun e=>absurd (by rw[←e]) q) id,.inr⟩
 rw[key m h.nodup,h.find x];by_cases s:f x=0
 ·simp[s]
 rw[CV s];simp only[Io,ne_eq,s,not_false_eq_true,true_and];exact eq_comm
def aHg {l:List Int} (h:l.Nodup):P9 l=El l:=by
 refine ML ?_ (LH l) fun x=>by rw[KN];exact(Sv l).mem_iff
 have f:=aAd l;have j:(P9 l).Nodup:=(Sv l).nodup_iff.2 h;exact(f.and j).imp fun h=>AA
def aFP (n:Int):∀(m:List (Int×Int)) (r:List Int) (f:List (List Ak)),(f.length:Int)=n→r.length+m.length≤1000000→List.foldlM (UM f) r m=some (r++(m.filter fun p=>decide (p.2<n)).map (·.1))
 | [],r,f,_,_=>BG
 |p::m,r,f,h,q=>by
  simp only[FQ]at q;have e:UM f r p=(bif decide (p.2<n)then(Ci 8 r [p.1]).bind fun j=>some j else some r):=by unfold UM;rw[h]
  rw[RU,e];cases hd:decide (p.2<n)with
  |true=>
   simp only[Ba];rw[ET Gz];simp only[Aa];show List.foldlM (UM f) (r++[p.1]) m=_;rw[aFP n m (r++[p.1]) f h YA,VU,CG hd];simp
  |false=>
   simp only[BK];show List.foldlM (UM f) r m=_;rw[aFP n m r f h AA,VU,CV (by simp[hd])]
def aJH (l:List AO) (f:List (List Ak)) (x:Int):KZ l f x≤f.length:=List.countP_le_length
def JB.of_eq {m:List (Int×Int)} {f g:Int→Nat} (h:JB m f) (e:∀x,f x=g x):JB m g:=⟨h.nodup,fun x=>by rw[h.find,e]⟩
def alq (l:List AO) (f:List (List Ak)) (hl:l.length≤1000) (ha:XY l) (J:OH f):lG l f=some (QM l f):=by
 unfold lG aHY;have hsl:=J.len;rw[aCJ (a0:=[]) f AA (fun m s=>(Eu l s).foldl stepM m) (fun i m=>JB m (KZ l (f.take i))∧m.length≤1100*i) (fun v2=>(Gy 8 (0:Int) 0 (v2.length:Int)).bind fun M=>(List.foldlM (UM f) M v2).bind ZH) ⟨⟨Wh,fun x=>rfl⟩,Dx _⟩]
 ·obtain⟨L,hlen⟩:JB (f.foldl (fun m s=>(Eu l s).foldl stepM m) []) (KZ l f)∧(f.foldl (fun m s=>(Eu l s).foldl stepM m) []).length≤1100*f.length:=by
   have key:∀(b a:List (List Ak)) (m:List (Int×Int)),(∀s∈b,s.length≤100)→a.length+b.length≤100→JB m (KZ l a)→m.length≤1100*a.length→JB (b.foldl (fun m s=>(Eu l s).foldl stepM m) m) (KZ l (a++b))∧(b.foldl (fun m s=>(Eu l s).foldl stepM m) m).length≤1100*(a.length+b.length):=by
    intro b
    induction b with
    |nil=>intro a m _ _ z I;simpa using⟨z,I⟩
    |cons s b ih=>
     intro a m hb O z I;rw[GI,List.append_cons];have hc:=aEf l s;have q:=hb s (Fa ..);have S:=aE3 (Eu l s) m;simp only[FQ]at O ⊢;have :=ih (a++[s]) ((Eu l s).foldl stepM m) (fun t ht=>hb t (Gq _ ht)) YA ?_ YA
     ·simpa[LK,Nh 1]using this
     refine(JB.fold (Eu l s) (YO (aHp l s)) z fun x=>by have :=aJH l a x;omega).of_eq fun x=>?_;unfold KZ;rw[List.countP_append,List.countP_singleton];by_cases u:x∈Eu l s
     ·rw[CG u,CG (KA.2 u)]
     rw[CV u,CV (by rw[Pq.2 u];simp)]
   have :=key f [] [] (fun s h=>(J.each s h).1) (by simpa using J.len) ⟨Wh,fun x=>rfl⟩ (Dx _);simpa using this
  generalize f.foldl (fun m s=>(Eu l s).foldl stepM m) []=m at L hlen
  have hm:Gy 8 (0:Int) 0 (m.length:Int)=some []:=by
   unfold Gy;rw[CG vO];rfl
  rw[hm];simp only[Aa];rw[aFP (f.length:Int) m [] f rfl XQ];simp only[Aa,IC];have U:((m.filter fun p=>decide (p.2<(f.length:Int))).map (·.1)).Nodup:=L.nodup.sublist (Qy.map _);have hle:((m.filter fun p=>decide (p.2<(f.length:Int))).map (·.1)).length≤m.length:=by rw[CB];exact Jk _ _
  unfold ZH MP;rw[CG AA];simp only[Aa];congr 1;rw[aHg U];refine ML (LH _) (aiN _ _) fun x=>?_;rw[KN,FM];unfold QM;rw[Fl,aau];constructor
  ·rintro⟨⟨y,n⟩,Y,rfl⟩;rw[Fl]at Y;obtain⟨z,I⟩:=L.mem.1 Y.1;have S:n<(f.length:Int):=by simpa using Y.2
   subst I;refine⟨?_,Dp⟩;have :0<KZ l f y:=AA
   obtain⟨s,Z,hs2⟩:=List.countP_pos_iff.1 this;exact⟨s,Z,KA.1 hs2⟩
  rintro⟨⟨s,z,I⟩,S⟩;have h4:0<KZ l f x:=List.countP_pos_iff.2 ⟨s,z,KA.2 I⟩;refine⟨(x,(KZ l f x:Int)),Fl.2 ⟨L.mem.2 ⟨AA,rfl⟩,?_⟩,rfl⟩;have h5:KZ l f x<f.length:=kY
  simp;omega
 ·intro k m i h hI;have hc:=aEf l f[i];have q:=(J.each f[i] (EU h)).1;refine⟨⟨?_,?_⟩,?_⟩
  ·refine(JB.fold (Eu l f[i]) (YO (aHp l f[i])) hI.1 fun x=>by have :=aJH l (f.take i) x;rw[G5]at this;omega).of_eq fun x=>?_;rw[Xl h];unfold KZ;rw[List.countP_append,List.countP_singleton];by_cases u:x∈Eu l f[i]
   ·rw[CG u,CG (KA.2 u)]
   rw[CV u,CV (by rw[Pq.2 u];simp)]
  ·have :=aE3 (Eu l f[i]) m;have :=hI.2;omega
  unfold rM;rw[D5 h,aiH l _ hl ha q];simp only[Aa];unfold aHc;rw[aCJ (Eu l f[i]) AA stepM (fun _ _=>True) (fun v8=>k (BD ((i:Int)+1)) v8) trivial]
  ·intro k2 a j hj _;refine⟨trivial,?_⟩;unfold yM;rw[D5 hj];rfl
  intro k2 a _;unfold yM;rw[E8]
 intro k m hI;unfold rM;rw[E8]
def asz (l:List AO) (f:List (List Ak)) (j:l.length≤1000) (ha:XY l) (h:OH f):yK l f=some (Jy l f):=by
 have m:=aDM h;have n:=Q9 (SB f);have q:=amK h j;unfold yK;rw[aaA f h,alq l f j ha h];simp only[Aa];rw[ET AA];simp only[Aa];rw[adF _ Jq];unfold Jy;rw[eM]
def EK (l:List AO):Prop:=∀e∈l,H8 e
def EK.al9 {l:List AO} (h:EK l):XY l:=fun e f=>(h e f).auth
def aBt {R A α:Type} {body:(A→Int→Option R)→A→Int→Option R} (l:List α) (q:l.length<Ar) (p:α→Bool) (g:Nat→Option R) (rest:Option R) (a0:A)
 (s:∀k (i:Nat) (h:i<l.length),body k a0 (i:Int)=bif p l[i]then g i else k a0 (BD ((i:Int)+1))) (u:∀k,body k a0 (l.length:Int)=rest):
 aX body Ar a0 0=if l.findIdx p<l.length then g (l.findIdx p)else rest:=by
 have J:Ar=9223372036854775808:=rfl
 have key:∀n (i:Nat),i+n=l.length→∀m,n<m→aX body m a0 (i:Int)=if(l.drop i).findIdx p+i<l.length then g ((l.drop i).findIdx p+i)else rest:=by
  intro n
  induction n with
  |zero=>
   intro i hi m z;obtain⟨m,rfl⟩:∃j,m=j+1:=⟨m-1,AA⟩
   have :i=l.length:=AA
   subst this;show body (aX body m) _ _=_;rw[u,Oa,CV BG]
  |succ n I=>
   intro i hi m z;obtain⟨m,rfl⟩:∃j,m=j+1:=⟨m-1,AA⟩
   have f:i<l.length:=AA
   show body (aX body m) _ _=_;rw[s _ i f,wrap_succ i AA,I (i+1) AA m AA,NC f,Rt];cases p l[i]with
   |true=>simp only[Ba,Hz];rw[CG f]
   |false=>
    simp only[BK];rw[show(l.drop (i+1)).findIdx p+(i+1)=(l.drop (i+1)).findIdx p+1+i by omega]
 have :=key l.length 0 AA Ar q;simpa using this
def QU {s:List Ak} {k:Int} {key:ByteArray} {id:Int} {x:Ak} (h:x∈Fr s k key id):x=⟨k,key,id⟩∨x∈s:=by
 unfold Fr at h;rcases Fe.1 h with h|h
 ·exact .inr (aA2 h)
 rcases Em.1 h with h|h
 ·exact .inl h
 exact .inr (aEP h)
def Md (e:AO):List Ak:=Fr (Fr (Fr [] 1 BL 0) 3 BL 0) 2 e.bg 0
def keysOf (e:AO):List Ak:=
 bif e.Kind==1 then[]else bif e.Kind==2 then(bif e.Content.N==3||e.Content.N==1||e.Content.N==2 then Fr (Fr (Md e) 2 e.Key 0) 4 BL 0 else Fr (Md e) 2 e.Key 0)else Md e
def af2 (e:AO):(Md e).length≤3:=by
 have f:=Rz [] 1 BL 0;have h:=Rz (Fr [] 1 BL 0) 3 BL 0;have j:=Rz (Fr (Fr [] 1 BL 0) 3 BL 0) 2 e.bg 0;unfold Md;simp only[Nu]at f;omega
def Zu (e:AO):(keysOf e).length≤5:=by
 have f:=af2 e;have h:=Rz (Md e) 2 e.Key 0;have j:=Rz (Fr (Md e) 2 e.Key 0) 4 BL 0;unfold keysOf;cases e.Kind==1<;>cases e.Kind==2<;>cases(e.Content.N==3||e.Content.N==1||e.Content.N==2)<;>simp only[Ba,BK,Nu]<;>omega
def ad6 (e:AO):jv e=some (keysOf e):=by
 have h:=af2 e;have j:=Rz (Md e) 2 e.Key 0;have f:=Rz [] 1 BL 0;have m:=Rz (Fr [] 1 BL 0) 3 BL 0;simp only[Nu]at f;unfold jv keysOf;rw[Vf [] 1 BL 0 BG];simp only[Aa];rw[Vf _ 3 BL 0 AA];simp only[Aa];rw[Vf _ 2 e.bg 0 AA];simp only[Aa];show(bif e.Kind==1 then some []else bif e.Kind==2 then(P7 (Md e) 2 e.Key 0).bind _ else aF (Md e))=_;rw[Vf (Md e) 2 e.Key 0 AA];simp only[Aa];rw[Vf _ 4 BL 0 AA];unfold aF;cases e.Kind==1<;>cases e.Kind==2<;>cases e.Content.N==3<;>cases e.Content.N==1<;>cases e.Content.N==2<;>rfl
def Ec (k:Ak) (x:AO):Bool:=x.Kind==k.Kind&&decide (x.Key=k.Key)
def Uc (l:List AO) (e:AO):List AO:=(keysOf e).flatMap fun k=>((ofIds l e.dh).find? (Ec k)).toList
def flat_length {α β:Type} {f:α→List β} {n:Nat} (h:∀x,(f x).length≤n):∀l:List α,(l.flatMap f).length≤n*l.length
 | []=>BG
 |x::l=>by
  have j:=h x;have m:=flat_length h l;rw[LV,Dk,FQ,Nat.mul_succ];omega
def ae1 (l:List AO) (e:AO):(Uc l e).length≤5:=by
 have h:=flat_length (f:=fun k=>((ofIds l e.dh).find? (Ec k)).toList) (n:=1) (fun k=>toList_le _) (keysOf e);have j:=Zu e;unfold Uc;omega
def aD6 {l:List AO} {ids:List Int} {x:AO} (h:x∈ofIds l ids):x∈l:=by
 obtain⟨i,_,h⟩:=Ph.1 h;exact Ll h
def apX {l:List AO} {e x:AO} (h:x∈Uc l e):x∈l:=by
 obtain⟨k,_,h⟩:=Qn.1 h;have :(ofIds l e.dh).find? (Ec k)=some x:=Hf
 exact aD6 (PO this)
def Gj (x:Ak):Q7:=⟨x.Kind,x.Key⟩
def aaw (e:AO):jM e=some ((keysOf e).map Gj):=by
 unfold jM;rw[ad6];simp only[Aa];have j:=Zu e;unfold aHO;rw[LP (keysOf e) AA (fun r x=>r++[Gj x]) (fun i r=>r.length≤i) (fun r=>some r) (Dn _)]
 ·rw[foldl_append (fun x=>[Gj x]),IC];congr 1
  induction keysOf e with
  |nil=>rfl
  |cons x s f=>rw[LV,f];rfl
 ·intro k r i h m;refine⟨aG9,?_⟩;unfold aFI;rw[D5 h,ET Gz];rfl
 intro k r _;unfold aFI;rw[E8]
def abA (l:List AO) (p:AO→Bool):∀ids:List Int,(ofIds l ids).find? p=(ids.find? fun i=>match E9 l i with |some x=>p x|none=>false).bind (E9 l)
 | []=>rfl
 |i::ids=>by
  have f:=abA l p ids;unfold ofIds at f ⊢;rw[P5,kC];cases h:E9 l i with
  |none=>exact f
  |some x=>
   simp only;rw[kC];cases p x with
   |true=>exact h.symm
   |false=>exact f
def afR (l:List AO) (e:AO) (q:l.length≤1000) (s:e.dh.length≤40):kJ l e=some (Uc l e):=by
 unfold kJ;rw[aaw];simp only[Aa];have u:=Zu e;unfold aHx;rw[LP (a0:=[]) ((keysOf e).map Gj) wP (fun r k=>r++((ofIds l e.dh).find? fun x=>x.Kind==k.U3&&decide (x.Key=k.U4)).toList) (fun i r=>r.length≤i) (fun r=>some r) (Dn _)]
 ·congr 1;rw[foldl_append (fun k:Q7=>((ofIds l e.dh).find? fun x=>x.Kind==k.U3&&decide (x.Key=k.U4)).toList),IC,List.flatMap_map];rfl
 ·intro k r i h z;have I:=toList_le ((ofIds l e.dh).find? fun x=>x.Kind==((keysOf e).map Gj)[i].U3&&decide (x.Key=((keysOf e).map Gj)[i].U4));refine⟨Jq,?_⟩;have hi:i<5:=by rw[CB]at h;omega
  unfold aFs;rw[D5 h];generalize((keysOf e).map Gj)[i]=K;unfold abX
  rw[aBt e.dh (fuel_lt AA) (fun id=>match E9 l id with |some x=>x.Kind==K.U3&&decide (x.Key=K.U4)|none=>false)
   (fun j=>gV k (i:Int) (r++(match e.dh[j]? with |some id=>(E9 l id).toList|none=>[]))) (gV k (i:Int) r)]
  ·rw[abA,Ob];by_cases f:e.dh.findIdx (fun id=>match E9 l id with |some x=>x.Kind==K.U3&&decide (x.Key=K.U4)|none=>false)<e.dh.length
   ·rw[CG f,DX f];rfl
   rw[CV f,Jm AA];simp only[Option.bind_none,Option.toList_none,QW];rfl
  ·intro k2 j m;unfold aDl;rw[D5 m,La l _ AA,DX m];simp only[Aa];cases n:E9 l e.dh[j]with
   |none=>rw[Qi n];rfl
   |some x=>
    rw[NU n];simp only[Ba,Rj];unfold UH;rw[Np];rw[ET Gz];cases x.Kind==K.U3<;>cases decide (x.Key=K.U4)<;>rfl
  intro k2;unfold aDl;rw[E8]
 intro k r _;unfold aFs;rw[E8]
def jh (c:ByteArray):CP:=bif !(c.toList==BL.toList)then{ Sj with Users:=[⟨c,100⟩] }else Sj
def YG (l:List AO):ByteArray:=match l.find? fun x=>x.Kind==1 with |some x=>x.bg|none=>BL
def Ew (l:List AO):CP:=match l.find? fun x=>x.Kind==3 with |some x=>x.Content.Levels|none=>jh (YG l)
def alh (c:ByteArray):Mid c=some (jh c):=by
 unfold Mid jh rF;cases c.toList==BL.toList<;>rfl
def aJs (l:List AO) (k:Int) (f:l.length≤1000):lM l k=some (if l.findIdx (fun e=>e.Kind==k)<l.length then((l.findIdx (fun e=>e.Kind==k):Nat):Int)else -1):=by
 unfold lM;rw[aDw l AA (fun a0=>qw a0 k) (fun e=>e.Kind==k) fun _=>rfl];rfl
def aBH (l:List AO) (j:l.length≤1000) (q:EK l):YW l=some (Ew l,YG l):=by
 have m:∀c,ZY l c=some (match l.find? fun x=>x.Kind==3 with |some x=>x.Content.Levels|none=>jh c,c):=by
  intro c;unfold ZY;rw[aJs l 3 j,Ob];simp only[Aa];by_cases h:l.findIdx (fun e=>e.Kind==3)<l.length
  ·rw[CG h,show decide (((l.findIdx (fun e=>e.Kind==3):Nat):Int)≥0)=true by simp,D9 h,DX h];simp only[Ba,Aa];have n:=q _ (EU h);have s:=n.users;have u:=n.kinds;unfold ou rV;rw[ET XQ,ET XQ];rfl
  rw[CV h,Jm AA,alh];rfl
 unfold YW;rw[aJs l 1 j];simp only[Aa];by_cases h:l.findIdx (fun e=>e.Kind==1)<l.length
 ·have f:YG l=l[l.findIdx (fun e=>e.Kind==1)].bg:=by unfold YG;rw[Ob,DX h]
  rw[CG h,show decide (((l.findIdx (fun e=>e.Kind==1):Nat):Int)≥0)=true by simp,D9 h];simp only[Ba,Aa];rw[m,←f];rfl
 have f:YG l=BL:=by unfold YG;rw[Ob,Jm AA]
 rw[CV h];show ZY l BL=_;rw[m,←f];rfl
def ES (v:CP) (u:ByteArray):Int:=match v.Users.find? fun x=>decide (x.User=u)with |some x=>x.N|none=>v.User
def Xc (v:CP) (u:ByteArray) (h:v.Users.length≤1000):Pe v u=some (ES v u):=by
 unfold Pe aHK ES;rw[PL v.Users (fuel_lt AA) (fun x=>decide (x.User=u)) (fun i=>some (match v.Users[i]? with |some x=>x.N|none=>0)) (some v.User)]
 ·rw[Ob];by_cases h:v.Users.findIdx (fun x=>decide (x.User=u))<v.Users.length
  ·rw[CG h,DX h]
  rw[CV h,Jm AA]
 ·intro k i h;unfold aBf;rw[D5 h,Np,DX h]
 intro k;unfold aBf;rw[E8]
def xH {l:List AO} (h:EK l):(Ew l).Users.length≤100∧(Ew l).Kinds.length≤100:=by
 unfold Ew;cases f:l.find? fun x=>x.Kind==3 with
 |some x=>
  have :=h x (PO f);exact⟨this.users,this.kinds⟩
 |none=>
  simp only;unfold jh;cases(YG l).toList==BL.toList with
  |true=>
   show Sj.Users.length≤100∧Sj.Kinds.length≤100;exact⟨BP,BP⟩
  |false=>
   show 1≤100∧Sj.Kinds.length≤100;exact⟨BP,BP⟩
def acj (l:List AO) (e:AO):Int:=ES (Ew (Uc l e)) e.bg
def EK.from {l:List AO} (h:EK l) (e:AO):EK (Uc l e):=fun x f=>h x (apX f)
def aq5 (l:List AO) (e:AO) (h:l.length≤1000) (f:EK l) (j:e.dh.length≤40):SPr l e=some (acj l e):=by
 have m:=ae1 l e;have n:=(xH (f.from e)).1;unfold SPr;rw[afR l e h j];simp only[Aa];rw[aBH _ AA (f.from e)];simp only[Aa];rw[Xc _ _ AA];rfl
def zV (e:AO):Bool:=bif e.Kind==2 then(e.Content.N==0||e.Content.N==4)&& !(decide (e.Key=e.bg))else e.Kind==3||e.Kind==4
def ahB (e:AO):wH e=some (zV e):=by
 unfold wH tC zV;rw[Np];by_cases h:e.Kind=2
 ·simp[h];cases e.Content.N==0<;>cases e.Content.N==4<;>rfl
 have f:(e.Kind==2)=false:=Hf
 rw[f];cases e.Kind==3<;>cases e.Kind==4<;>rfl
def aeA (l:List Int) (x:Int) (h:l.length≤1099511627776):oI l x=some (if l.findIdx (· ==x)<l.length then((l.findIdx (· ==x):Nat):Int)else -1):=by
 unfold oI aHQ;rw[PL l (fuel_lt h) (· ==x) (fun i=>some (i:Int)) (some (-1))]
 ·split<;>rfl
 ·intro k i hi;unfold aFB;rw[D5 hi];have :(x==l[i])=(l[i]==x):=by rw[Y0];simp only[QS];exact eq_comm
  rw[this]
 intro k;unfold aFB;rw[E8]
def ab5 (l:List Int) (x:Int):decide (l.findIdx (· ==x)<l.length)=Dv l x:=by
 rw[Y0,KA,FI,bn];exact⟨fun⟨y,f,j⟩=>by rw[←(by simpa using j:y=x)];exact f,fun h=>⟨x,h,BG⟩⟩
def jI (l:List Int) (x:Int) (h:l.length≤1099511627776):Yz l x=some (Dv l x):=by
 unfold Yz;rw[aeA l x h,←ab5];by_cases f:l.findIdx (· ==x)<l.length
 ·rw[CG f,I4 f];simp
 rw[CV f,HY f];rfl
def adM (l:List Int) (x:Int) (h:l.length≤1099511627776):Yp l x=some (Dv l x):=by
 unfold Yp;rw[jI l x h];rfl
def ev (l:List AO) (id:Int):AO:=(IB l id).1
def WE (l:List AO) (id:Int):Bool:=dM l id&&zV (ev l id)
def Mc (l:List AO) (full:List Int):List Int:=full.filter (WE l)
def aB (l:List AO) (full:List Int):List Int:=El (Mc l full++full.filter (Dv (chainOf l (Mc l full))))
def aai {l:List AO} {full:List Int} {x:Int}:x∈aB l full↔x∈full∧(WE l x=true∨LM l (Mc l full) x):=by
 unfold aB;rw[KN,Fe,Fl,KA,aEB];unfold Mc;rw[Fl];exact⟨fun h=>h.elim (fun h=>⟨h.1,.inl h.2⟩) fun h=>⟨h.1,.inr h.2⟩,fun⟨h,k⟩=>k.elim (fun k=>.inl ⟨h,k⟩) fun k=>.inr ⟨h,k⟩⟩
def agJ (l:List AO) (full:List Int):Inc (aB l full):=LH _
def aGQ (p:Int→Bool):∀(S r:List Int),S.foldl (fun r x=>bif p x then r++[x]else r) r=r++S.filter p
 | [],r=>BG
 |x::S,r=>by
  rw[GI,aGQ p S,VU];cases p x<;>simp
def aix (l:List AO) (full:List Int) (n:l.length≤1000) (q:EK l) (u:full.length≤120000) (f:(Mc l full).length≤100000):sD l full=some (aB l full):=by
 unfold sD aam;rw[LP (a0:=[]) full AA (fun r x=>bif WE l x then r++[x]else r) (fun i r=>r.length≤i) (fun r=>(VD l r).bind fun j=>aGc full j r 0) (Dn _)]
 ·have s:full.foldl (fun r x=>bif WE l x then r++[x]else r) []=Mc l full:=by rw[aGQ];rfl
  have z:=yP l (Mc l full);rw[s,aFS l _ n q.al9 f];simp only[Aa];unfold aGc;rw[LP full AA (fun r x=>bif Dv (chainOf l (Mc l full)) x then r++[x]else r) (fun i r=>r.length≤(Mc l full).length+i) (fun r=>some (El r)) (Dn _)]
  ·rw[aGQ];rfl
  ·intro k r i h m;refine⟨?_,?_⟩
   ·cases Dv (chainOf l (Mc l full)) full[i]with
    |false=>show r.length≤(Mc l full).length+(i+1);omega
    |true=>show(r++[full[i]]).length≤(Mc l full).length+(i+1);simp;omega
   unfold aBN aAR;rw[D5 h,adM _ _ AA];simp only[Aa];rw[ET Gz];cases Dv (chainOf l (Mc l full)) full[i]<;>rfl
  intro k r m;unfold aBN;rw[E8,Wi _ AA];rfl
 ·intro k r i h m;refine⟨?_,?_⟩
  ·cases WE l full[i]with
   |false=>show r.length≤i+1;omega
   |true=>show(r++[full[i]]).length≤i+1;simp;omega
  unfold aFq tJ;rw[D5 h,La l _ AA];simp only[Aa];rw[ET Gz];unfold WE dM ev;rw[ahB,Ux];cases(E9 l full[i]).isSome<;>cases zV (IB l full[i]).1<;>rfl
 intro k r _;unfold aFq;rw[E8]
def LM.as6 {l:List AO} {ids:List Int} {i x:Int} (hi:i∈ids) (h:LM l [i] x):LM l ids x:=by
 induction h with
 |one h f j=>rw[Gi.1 h]at f;exact .one hi f j
 |more h f j m=>exact .more m f j
def LM.split {l:List AO} {ids:List Int} {x:Int}:LM l ids x↔∃i∈ids,LM l [i] x:=by
 constructor
 ·intro h
  induction h with
  |one h f j=>exact⟨_,h,.one (Gi.2 rfl) f j⟩
  |more h f j q=>obtain⟨i,m,n⟩:=q;exact⟨i,m,.more n f j⟩
 rintro⟨i,m,n⟩;exact .as6 m n
def LM.dM {l:List AO} {ids:List Int} {x:Int} (h:LM l ids x):dM l x=true:=by cases h<;>assumption
def acY (l:List AO) (full:List Int):(aB l full).length≤l.length:=
 wW (agJ l full) fun x f=>by
  rcases(aai.1 f).2 with h|h
  ·unfold WE at h;rw[Bv]at h;exact h.1
  exact h.dM
def Ef (l:List AO) (id:Int):O4:=⟨id,acj l (ev l id),(ev l id).Time,chainOf l [id]⟩
def aGA (l:List AO) (left:List Int) (x:Int):Bool:= !left.any fun y=>Dv (chainOf l [x]) y
def ql (a b:O4):Bool:=bif a.Ej != b.Ej then decide (a.Ej>b.Ej)else decide (a.xG<b.xG)
def MO (l:List AO) (left:List Int) (b:Option Int) (x:Int):Option Int:=bif aGA l left x&&(match b with |none=>true|some y=>ql (Ef l x) (Ef l y))then some x else b
def Y8 (l:List AO) (left:List Int):Option Int:=left.foldl (MO l left) none
def PU (l:List AO):Nat→List Int→List Int
 |0,_=>[]
 |n+1,left=>match Y8 l left with
  |none=>[]
  |some b=>b::PU l n (left.filter (· != b))
def acs (l:List AO):∀ids:List Int,ids.flatMap (fun id=>bif dM l id then[Ef l id]else[])=(ids.filter (dM l)).map (Ef l)
 | []=>rfl
 |i::ids=>by
  rw[LV,acs l ids,VU];cases dM l i<;>simp
def aiD (l:List AO) (ids:List Int) (n:l.length≤1000) (j:EK l) (hi:ids.length≤100000):yB l ids=some ((Ky l ids).map (Ef l)):=by
 unfold yB;rw[Wi ids AA];simp only[Aa];have q:=Q9 ids;unfold aIv;rw[LP (a0:=[]) (El ids) AA (fun r id=>r++bif dM l id then[Ef l id]else[]) (fun i r=>r.length≤i) (fun r=>some r) (Dn _)]
 ·rw[foldl_append (fun id=>bif dM l id then[Ef l id]else[]),IC,acs];rfl
 ·intro k r i h u;refine⟨?_,?_⟩
  ·cases dM l (El ids)[i]<;>simp <;>omega
  unfold aFz xU;rw[D5 h,La l _ AA];simp only[Aa];unfold dM;cases f:E9 l (El ids)[i]with
  |none=>rw[Qi f];simp
  |some e=>
   have s:=j e (Ll f);have m:ev l (El ids)[i]=e:=by unfold ev;rw[NU f]
   rw[NU f];simp only[Ba,Option.isSome_some];rw[aq5 l e n j s.auth,aFS l _ n j.al9 BG];simp only[Aa];rw[ET Gz];unfold Ef;rw[m];rfl
 intro k r _;unfold aFz;rw[E8]
def aIa (l:List AO) (left:List Int):∀(c:List Int) (b:Option Int) {x:Int},c.foldl (MO l left) b=some x→b=some x∨x∈c
 | [],b,x,h=>.inl h
 |y::c,b,x,h=>by
  rw[GI]at h;rcases aIa l left c _ h with f|f
  ·have key:∀c:Bool,(bif c then some y else b)=some x→b=some x∨x=y:=fun c j=>by
    cases c with
    |true=>simp only[Ba,Io]at j;exact .inr j.symm
    |false=>exact .inl j
   rcases key _ f with m|m
   ·exact .inl m
   exact .inr (m▸Fa ..)
  exact .inr (Gq _ f)
def arH {l:List AO} {left:List Int} {x:Int} (h:Y8 l left=some x):x∈left:=by
 rcases aIa l left left none h with h|h
 ·cases h
 exact h
def aH5 {left:List Int} (n:left.Nodup) {j:Nat} (q:j<left.length):left.take j++left.drop (j+1)=left.filter (· != left[j]):=by
 have e:left=left.take j++left[j]::left.drop (j+1):=by rw[←NC q,iT]
 have f:(left.take j++left[j]::left.drop (j+1)).Nodup:=by rw[←e];exact n
 have m:=zX.1 f;have s:=KD.1 m.2.1
 have u:(left.take j).filter (· != left[j])=left.take j:=lY.2 fun x h=>by
  have :=m.2.2 x h left[j] (Fa ..);simpa using this
 have z:(left.drop (j+1)).filter (· != left[j])=left.drop (j+1):=lY.2 fun x h=>by
  have :x≠left[j]:=fun e=>s.1 (e▸h);simpa using this
 have :(left.take j++left[j]::left.drop (j+1)).filter (· != left[j])=left.take j++left.drop (j+1):=by
  rw[Sr,VU,u,z];simp
 rw[←e]at this;exact this.symm
def ai5 {left:List Int} (f:left.Nodup) {b:Int} (h:b∈left):(left.filter (· != b)).length+1=left.length:=by
 obtain⟨j,m,rfl⟩:=Gv h;rw[←aH5 f m,Dk,G5,J3];omega
def alI (l:List AO) (hl:l.length≤1000):∀(m:Nat) (left f:List Int) (N:Nat),left.length=m→Inc left→(∀x∈left,dM l x=true)→f.length+left.length≤1000000→m<N→aX Ub N (left.map (Ef l)) f=some (f++PU l m left):=by
 intro m
 induction m with
 |zero=>
  intro left f N hm hi hk hacc hN;obtain⟨N,rfl⟩:∃N',N=N'+1:=⟨N-1,AA⟩
  have :left=[]:=Fj hm;subst this;show Ub _ _ _=_;unfold Ub PU;simp
 |succ m ih=>
  intro left f N hm hi hk hacc hN;obtain⟨N,rfl⟩:∃N',N=N'+1:=⟨N-1,AA⟩
  have hll:=wW hi hk;refine gW.eq ?_;show gW (Ub (aX Ub N) _ _) _;have ih':=fun S acc' h1 h2 h3 h4=>ih S acc' N h1 h2 h3 h4 AA;generalize aX Ub N=K at ih';unfold Ub;rw[show decide (((left.map (Ef l)).length:Int)>0)=true by rw[CB];simp;omega];simp only[Ba];unfold abS;refine bT (body:=aBP (left.map (Ef l)) K) (fun Z a b c=>∃i:Nat,b=i∧i+Z=left.length∧c=f∧((a= -1∧(left.take i).foldl (MO l left) none=none)∨∃(j:Nat) (s:j<left.length),a=(j:Int)∧(left.take i).foldl (MO l left) none=some left[j])) ?_ Ar left.length (-1) 0 f (fuel_lt AA) ⟨0,rfl,AA,rfl,.inl ⟨rfl,rfl⟩⟩;rintro Z a b c k ⟨i,rfl,hm2,rfl,hI⟩ u;unfold aBP;by_cases z:i<left.length
  ·have J:i<(left.map (Ef l)).length:=by rw[CB];exact z
   rw[dec_lt J,D9 J,S9];simp only[Ba,Aa]
   have hst:(left.take (i+1)).foldl (MO l left) none=MO l left ((left.take i).foldl (MO l left) none) left[i]:=by
    rw[Xl z,cZ];rfl
   unfold ad2;have hc:=yP l [left[i]]
   have hin:∀(k2:Int→Int→List Int→Option (List Int)),aX (Uf (left.map (Ef l)) (Ef l left[i]) k2 (i:Int) a) Ar 0 c=bif aGA l left left[i]then(bif decide (a<0)then Vo k2 (i:Int) a true c else(BF (left.map (Ef l)) a).bind fun U=>(WH (Ef l left[i]) U).bind fun Y=>Vo k2 (i:Int) a Y c)else WG k2 (i:Int) a c:=by
    intro k2
    have key:∀n (j:Nat),j+n=left.length→∀m,n<m→aX (Uf (left.map (Ef l)) (Ef l left[i]) k2 (i:Int) a) m (j:Int) c=bif !(left.drop j).any (fun y=>Dv (chainOf l [left[i]]) y)then(bif decide (a<0)then Vo k2 (i:Int) a true c else(BF (left.map (Ef l)) a).bind fun U=>(WH (Ef l left[i]) U).bind fun Y=>Vo k2 (i:Int) a Y c)else WG k2 (i:Int) a c:=by
     intro n
     induction n with
     |zero=>
      intro j s m hm;obtain⟨m,rfl⟩:∃m',m=m'+1:=⟨m-1,AA⟩
      have :j=left.length:=AA
      subst this;show Uf _ _ _ _ _ _ _ _=_;unfold Uf;rw[show decide ((left.length:Int)<((left.map (Ef l)).length:Int))=false by rw[CB];exact EG _,Oa];rfl
     |succ n ihn=>
      intro j s m hm;obtain⟨m,rfl⟩:∃m',m=m'+1:=⟨m-1,AA⟩
      have hjl:j<left.length:=AA
      have avi:j<(left.map (Ef l)).length:=by rw[CB];exact hjl
      have M:=ihn (j+1) AA m AA;show Uf _ _ _ _ _ (aX _ m) _ _=_;generalize aX (Uf (left.map (Ef l)) (Ef l left[i]) k2 (i:Int) a) m=L at M;unfold Uf;rw[D5 avi,S9];show((Yp (chainOf l [left[i]]) left[j]).bind _)=_;rw[adM _ _ AA,wrap_succ j AA,NC hjl,ni];simp only[Aa];cases Dv (chainOf l [left[i]]) left[j]with
      |true=>rfl
      |false=>
       simp only[BK,JF];exact M
    exact key left.length 0 AA Ar (fuel_lt AA)
   rw[hin];have hw:=wrap_succ i AA;unfold Vo WG;rw[hw];cases I:aGA l left left[i]with
   |false=>
    simp only[BK];refine u (Z-1) _ _ _ AA ⟨i+1,rfl,AA,rfl,?_⟩;have e:MO l left ((left.take i).foldl (MO l left) none) left[i]=(left.take i).foldl (MO l left) none:=by unfold MO;rw[I];rfl
    rw[hst,e];exact hI
   |true=>
    simp only[Ba];rcases hI with⟨rfl,O⟩|⟨j,s,rfl,O⟩
    ·rw[show decide ((-1:Int)<0)=true by decide];simp only[Ba];refine u (Z-1) _ _ _ AA ⟨i+1,rfl,AA,rfl,.inr ⟨i,z,rfl,?_⟩⟩;rw[hst,O];unfold MO;rw[I];rfl
    have h:j<(left.map (Ef l)).length:=by rw[CB];exact s
    rw[show decide ((j:Int)<0)=false by simp,D9 h,S9];simp only[BK,Aa]
    have e1:WH (Ef l left[i]) (Ef l left[j])=some (ql (Ef l left[i]) (Ef l left[j])):=by
     unfold WH ql;cases(Ef l left[i]).Ej != (Ef l left[j]).Ej<;>rfl
    rw[e1];simp only[Aa];cases ha:ql (Ef l left[i]) (Ef l left[j])with
    |true=>
     simp only[Ba];refine u (Z-1) _ _ _ AA ⟨i+1,rfl,AA,rfl,.inr ⟨i,z,rfl,?_⟩⟩;rw[hst,O];unfold MO;rw[I];simp only[ha];rfl
    |false=>
     simp only[BK];refine u (Z-1) _ _ _ AA ⟨i+1,rfl,AA,rfl,.inr ⟨j,s,rfl,?_⟩⟩;rw[hst,O];unfold MO;rw[I];simp only[ha];rfl
  have hie:i=left.length:=AA
  subst hie;rw[show decide ((left.length:Int)<((left.map (Ef l)).length:Int))=false by rw[CB];exact EG _];simp only[BK];rw[Hy]at hI;have q:PU l (m+1) left=match Y8 l left with |none=>[]|some b=>b::PU l m (left.filter (· != b)):=rfl
  rcases hI with⟨rfl,O⟩|⟨j,s,rfl,O⟩
  ·rw[show decide ((-1:Int)<0)=true by decide];refine .ret ?_;have h1:Y8 l left=none:=O;rw[q,h1];simp
  have h:j<(left.map (Ef l)).length:=by rw[CB];exact s
  rw[show decide ((j:Int)<0)=false by simp,D9 h,S9];simp only[BK,Aa];have h1:Y8 l left=some left[j]:=O;rw[ET Gz];simp only[Aa];rw[aI4 (Nat.le_of_lt h),wrap_succ j AA,aDo h];simp only[Aa];rw[ET (by rw[G5,J3,CB];omega)];simp only[Aa]
  have e2:(left.map (Ef l)).take j++(left.map (Ef l)).drop (j+1)=(left.filter (· != left[j])).map (Ef l):=by
   rw[←aH5 (YO hi) s,JW,V3,WJ]
  rw[e2];have hwl:=ai5 (YO hi) (EU s);rw[ih' (left.filter (· != left[j])) (c++[(Ef l left[j]).kD]) AA (hi.sublist Qy) (fun x hx=>hk x ((Fl.1 hx).1)) YA];refine .ret ?_;rw[q,h1,G6];rfl
def ajJ (l:List AO) (ids:List Int) (h:l.length≤1000) (j:EK l) (hi:ids.length≤100000):wo l ids=some (PU l (Ky l ids).length (Ky l ids)):=by
 have m:(Ky l ids).length≤l.length:=wW (aDn l ids) fun x f=>(ZF.1 f).2;unfold wo;rw[aiD l ids h j hi];simp only[Aa];unfold adY;rw[alI l h _ (Ky l ids) [] Ar rfl (aDn l ids) (fun x f=>(ZF.1 f).2) XQ (fuel_lt AA)];rfl
def aek {R A B C D:Type} {Q:R→Prop} {body:(A→B→C→D→Option R)→A→B→C→D→Option R} (I:Nat→A→B→C→D→Prop) (z:∀m a b c d k,I m a b c d→(∀f a' j q s,f<m→I f a' j q s→gW (k a' j q s) Q)→gW (body k a b c d) Q):
 ∀n m a b c d,m<n→I m a b c d→gW (UN body n a b c d) Q
 |0,m,_,_,_,_,h,_=>AA
 |n+1,m,a,b,c,d,h,hi=>z m a b c d _ hi fun f a' j q s h' u=>aek I z n f a' j q s AA u
def N8 {l:List AO} {x:Int} (h:dM l x=true):E9 l x=some (ev l x)∧(ev l x).Id=x:=by
 unfold dM at h;obtain⟨e,f⟩:=Rq.1 h;have :ev l x=e:=by unfold ev;rw[NU f]
 rw[this];exact⟨f,afW f⟩
def abr (l:List AO):∀(n:Nat) (left:List Int) {x:Int},x∈PU l n left→x∈left
 |0,_,_,h=>absurd h FH
 |n+1,left,x,h=>by
  unfold PU at h;cases f:Y8 l left with
  |none=>rw[f]at h;exact absurd h FH
  |some b=>
   rw[f]at h;rcases Em.1 h with rfl|h
   ·exact arH f
   exact(Fl.1 (abr l n _ h)).1
def aIm (l:List AO):∀(n:Nat) (left:List Int),(PU l n left).length≤n
 |0,_=>Dn _
 |n+1,left=>by
  unfold PU;cases Y8 l left with
  |none=>exact Dx _
  |some b=>have :=aIm l n (left.filter (· != b));simp only[FQ];omega
def QY (l:List AO) (e:AO):Option Int:=e.dh.find? fun id=>dM l id&&(ev l id).Kind==3
def uM (l:List AO) (e:AO):Int×Bool:=match QY l e with |some x=>(x,true)|none=>(0,false)
def acu (l:List AO) (e:AO) (f:l.length≤1000) (j:e.dh.length≤40):jJ l e=some (uM l e):=by
 unfold jJ aeW;rw[PL e.dh (fuel_lt AA) (fun id=>dM l id&&(ev l id).Kind==3) (fun i=>some (match e.dh[i]? with |some x=>(x,true)|none=>(0,false))) (some (0,false))]
 ·unfold uM QY;rw[Ob];by_cases h:e.dh.findIdx (fun id=>dM l id&&(ev l id).Kind==3)<e.dh.length
  ·rw[CG h]
  rw[CV h,Jm AA]
 ·intro k i h;unfold aBF;rw[D5 h,La l _ AA,DX h];simp only[Aa];unfold dM ev;rw[Ux];cases(E9 l e.dh[i]).isSome<;>rfl
 intro k;unfold aBF;rw[E8]
def MH (l:List AO):Nat→List Int→Int→List Int
 |0,seen,_=>seen
 |n+1,seen,id=>bif Dv seen id|| !dM l id then seen else match QY l (ev l id)with
  |none=>seen++[id]
  |some x=>MH l n (seen++[id]) x
def uU (l:List AO) (id:Int):List Int:=MH l l.length [] id
structure Ro (l:List AO) (seen:List Int):Prop where
 nodup:seen.Nodup
 known:∀x∈seen,dM l x=true
def Ro.length {l:List AO} {seen:List Int} (h:Ro l seen):seen.length≤l.length:=by
 rw[←(Sv seen).length_eq,aHg h.nodup];exact wW (LH _) fun x f=>h.known x (KN.1 f)
def Ro.snoc {l:List AO} {seen:List Int} (h:Ro l seen) {id:Int} (j:id∉seen) (m:dM l id=true):Ro l (seen++[id]):=by
 refine⟨zX.2 ⟨h.nodup,BG,fun a ha b n=>?_⟩,fun x f=>?_⟩
 ·rw[Gi.1 n];exact fun e=>j (e▸ha)
 rcases Fe.1 f with f|f
 ·exact h.known x f
 rw[Gi.1 f];exact m
def abl (l:List AO):∀(n:Nat) (seen:List Int) (id:Int),Ro l seen→Ro l (MH l n seen id)
 |0,_,_,h=>h
 |n+1,seen,id,h=>by
  unfold MH;cases f:Dv seen id|| !dM l id with
  |true=>exact h
  |false=>
   rw[iw,Pq]at f;have j:=h.snoc f.1 (by simpa using f.2);simp only[BK];cases QY l (ev l id)with
   |none=>exact j
   |some x=>exact abl l n _ x j
def abn (l:List AO):∀(n:Nat) (seen:List Int) (id:Int),∃t,MH l n seen id=seen++t
 |0,seen,_=>⟨[],by simp[MH]⟩
 |n+1,seen,id=>by
  unfold MH;cases Dv seen id|| !dM l id with
  |true=>exact⟨[],BG⟩
  |false=>
   simp only[BK];cases QY l (ev l id)with
   |none=>exact⟨[id],rfl⟩
   |some x=>
    obtain⟨t,f⟩:=abn l n (seen++[id]) x;exact⟨id::t,by simp only[f,G6];rfl⟩
def ah0 (l:List AO) (id:Int):(uU l id).length≤l.length:=(abl l _ [] id ⟨Wh,fun x f=>absurd f FH⟩).length
def aql (l:List AO) (M:l.length≤1000) (O:EK l) (S U:List Int):∀(m:Nat) (seen:List Int) (id:Int) (N:Nat),seen.length+m=l.length→Ro l seen→m<N→AU Ua N seen seen S U id l=some (MH l m seen id):=by
 intro m
 induction m with
 |zero=>
  intro seen id N Y j Z;obtain⟨N,rfl⟩:∃N',N=N'+1:=⟨N-1,AA⟩
  have q:=j.length;show Ua _ _ _ _ _ _ _=_;unfold Ua;rw[jI _ _ AA,La l _ AA];simp only[Aa];rw[Ux];cases s:Dv seen id with
  |true=>rfl
  |false=>
   cases h:(E9 l id).isSome with
   |false=>rfl
   |true=>
    have u:=(j.snoc (Pq.1 s) h).length;simp only[Dk,Qd]at u;omega
 |succ m ih=>
  intro seen id N Y j Z;obtain⟨N,rfl⟩:∃N',N=N'+1:=⟨N-1,AA⟩
  have q:=j.length;show Ua (AU Ua N) _ _ _ _ _ _=_;have n:=fun f z h1 u=>ih f z N h1 u AA;generalize AU Ua N=K at n;unfold Ua MH;rw[jI _ _ AA,La l _ AA];simp only[Aa];rw[Ux];cases s:Dv seen id with
  |true=>rfl
  |false=>
   cases h:(E9 l id).isSome with
   |false=>rw[show dM l id=false from h];rfl
   |true=>
    obtain⟨e,L⟩:=Rq.1 h;rw[show dM l id=true from h];simp only[Jg,EF,Ir,Ba,BK];rw[ET Gz];simp only[Aa];unfold vW;simp only[BK];rw[ET Gz];simp only[Aa];have I:(IB l id).1=ev l id:=rfl
    have J:(ev l id).dh.length≤40:=by
     have :ev l id=e:=by unfold ev;rw[NU L]
     rw[this];exact(O e (Ll L)).auth
    rw[I,acu l _ M J];simp only[Aa];unfold uM;cases QY l (ev l id)with
    |none=>rfl
    |some x=>exact n (seen++[id]) x YA (j.snoc (Pq.1 s) h)
def anz (l:List AO) (id:Int) (f:l.length≤1000) (h:EK l):qR l id=some (uU l id):=by
 unfold qR gB adN;exact aql l f h [] [] l.length [] id Ar BG ⟨Wh,fun x j=>absurd j FH⟩ (fuel_lt AA)
def Zp (f h:List Int):Int:=match h.find? (Dv f)with |some x=>((f.findIdx (· ==x):Nat):Int)|none=>(f.length:Int)
def aIs (l:List AO) (f:List Int) (id:Int):Int:=Zp f (uU l id)
def aiq (l:List AO) (f:List Int) (hl:l.length≤1000) (hs:EK l) (hm:f.length≤100000):∀(m:Nat) (seen:List Int) (z id:Int) (N:Nat),seen.length+m=l.length→Ro l seen→seen.find? (Dv f)=none→m<N→yx V6 N seen f z id l=some (Zp f (MH l m seen id)):=by
 have j:∀seen:List Int,seen.find? (Dv f)=none→Zp f seen=(f.length:Int):=fun seen h=>by unfold Zp;rw[h]
 intro m
 induction m with
 |zero=>
  intro seen z id N hm M I hN;obtain⟨N,rfl⟩:∃N',N=N'+1:=⟨N-1,AA⟩
  have Y:=M.length;show V6 _ _ _ _ _ _=_;unfold V6;rw[jI _ _ AA,La l _ AA];simp only[Aa];rw[Ux];have U:Zp f (MH l 0 seen id)=(f.length:Int):=j seen I;rw[U];cases J:Dv seen id with
  |true=>rfl
  |false=>
   cases L:(E9 l id).isSome with
   |false=>rfl
   |true=>
    have Z:=(M.snoc (Pq.1 J) L).length;simp only[Dk,Qd]at Z;omega
 |succ m ih=>
  intro seen z id N hm M I hN;obtain⟨N,rfl⟩:∃N',N=N'+1:=⟨N-1,AA⟩
  have Y:=M.length;show V6 (yx V6 N) _ _ _ _ _=_;have O:=fun s z' id' h1 Z h3=>ih s z' id' N h1 Z h3 AA;generalize yx V6 N=K at O;unfold V6 mM;rw[jI _ _ AA,La l _ AA,aeA _ _ AA];simp only[Aa];rw[Ux];have u:MH l (m+1) seen id=bif Dv seen id|| !dM l id then seen else match QY l (ev l id)with |none=>seen++[id]|some x=>MH l m (seen++[id]) x:=rfl
  cases J:Dv seen id with
  |true=>rw[u,J];simp only[Bool.true_or,Ba,EF,BK];rw[j seen I]
  |false=>
   cases L:(E9 l id).isSome with
   |false=>rw[u,J,show dM l id=false from L];simp only[JF,Jg,Ba];rw[j seen I]
   |true=>
    obtain⟨e,U⟩:=Rq.1 L;rw[u,J,show dM l id=true from L];simp only[Jg,EF,Ir,Ba,BK];have n:=ab5 f id;by_cases q:f.findIdx (· ==id)<f.length
    ·rw[CG q,show decide (((f.findIdx (· ==id):Nat):Int)≥0)=true by simp];simp only[Ba];rw[I4 q]at n
     have hex:∃t,(match QY l (ev l id)with |none=>seen++[id]|some x=>MH l m (seen++[id]) x)=seen++[id]++t:=by
      cases QY l (ev l id)with
      |none=>exact⟨[],BG⟩
      |some x=>exact abn l m (seen++[id]) x
     obtain⟨t,ht⟩:=hex;rw[ht];unfold Zp;rw[kW,kW,I];simp[←n]
    rw[CV q,show decide ((-1:Int)≥0)=false by decide];simp only[BK];rw[HY q]at n;rw[ET Gz];simp only[Aa];have hev:(IB l id).1=ev l id:=rfl
    have hea:(ev l id).dh.length≤40:=by
     have :ev l id=e:=by unfold ev;rw[NU U]
     rw[this];exact(hs e (Ll U)).auth
    have S:(seen++[id]).find? (Dv f)=none:=by rw[kW,I];simp[←n]
    rw[hev,acu l _ hl hea];simp only[Aa];unfold uM;cases QY l (ev l id)with
    |none=>simp only[Jg,Ba];rw[j _ S]
    |some x=>exact O (seen++[id]) z x YA (M.snoc (Pq.1 J) L) S
def agl (l:List AO) (f:List Int) (id:Int) (h:l.length≤1000) (j:EK l) (m:f.length≤100000):zU l f id=some (aIs l f id):=by
 unfold zU gB aI7;exact aiq l f h j m l.length [] 0 id Ar BG ⟨Wh,fun x n=>absurd n FH⟩ rfl (fuel_lt AA)
def N9 (l:List AO) (f:List Int) (id:Int):JO:=⟨id,aIs l f id,(ev l id).Time⟩
def aei (x:JO):Int×Int×Int:=(x.kD,x.vC,x.xG)
def WT (x y:JO):Bool:=IQ (aei x) (aei y)
def XT (l:List AO) (f ids:List Int):List Int:=(OY WT ((ids.filter (dM l)).map (N9 l f))).map (·.kD)
def abx (l:List AO) (f:List Int):∀ids:List Int,ids.flatMap (fun id=>bif dM l id then[N9 l f id]else[])=(ids.filter (dM l)).map (N9 l f)
 | []=>rfl
 |i::ids=>by
  rw[LV,abx l f ids,VU];cases dM l i<;>simp
def ank (s:List JO) (z:s.length≤1000000) (n:(s.map (·.kD)).Nodup):aZ s=some s:=by
 unfold aZ;by_cases I:s.length<2
 ·rw[show decide ((s.length:Int)<2)=true by simp;omega];rfl
 rw[show decide ((s.length:Int)<2)=false by simp;omega];simp only[BK];unfold aay;refine gW.eq ?_;refine Xf (body:=wZ) (fun m a b=>∃i:Nat,a=i∧i+m=s.length∧0<i∧b=s) ?_ Ar (s.length-1) 1 s (fuel_lt AA) ⟨1,rfl,AA,AA,rfl⟩;rintro m a b k ⟨i,rfl,J,hi,rfl⟩ q;unfold wZ;by_cases f:i<b.length
 ·rw[dec_lt f,D9 f];simp only[Ba,Aa];have w:BD ((i:Int)-1)=((i-1:Nat):Int):=PN
  have h:i-1<b.length:=AA
  rw[w,D9 h];simp only[Aa]
  have j:b[i].kD≠b[i-1].kD:=by
   have :=Jt.1 n (i-1) i wP wP AA;simp only[S9]at this;exact fun e=>this e.symm
  have u:cD b[i] b[i-1]=false:=by
   unfold cD;rw[show(b[i].kD==b[i-1].kD)=false by simpa using j];rfl
  rw[u,wrap_succ i AA];exact q (m-1) _ _ AA ⟨i+1,rfl,AA,AA,rfl⟩
 have :i=b.length:=AA
 subst this;rw[EG];exact .ret rfl
def aad (l:List AO) (f:List Int) (ids:List Int):(ids.map (N9 l f)).map (·.kD)=ids:=by
 rw[lu];exact List.map_id' ids
def aiy (l:List AO) (f ids:List Int) (z:l.length≤1000) (I:EK l) (J:f.length≤100000) (hi:ids.length≤100000) (L:ids.Nodup):aAC l f ids=some (XT l f ids):=by
 unfold aAC aHH;rw[LP (a0:=[]) ids AA (fun r id=>r++bif dM l id then[N9 l f id]else[]) (fun i r=>r.length≤i) (fun M=>(uI M).bind fun n=>(aZ n).bind fun q=>aDi q [] 0) (Dn _)]
 ·rw[foldl_append (fun id=>bif dM l id then[N9 l f id]else[]),IC,abx];have O:=Jk (dM l) ids;have s:((ids.filter (dM l)).map (N9 l f)).length≤100000:=wP
  unfold uI zI;rw[CG AA];simp only[Aa];have e:(OY (fun x y:JO=>IQ (x.kD,x.vC,x.xG) (y.kD,y.vC,y.xG)) ((ids.filter (dM l)).map (N9 l f)))=OY WT ((ids.filter (dM l)).map (N9 l f)):=rfl;rw[e];unfold XT;have u:=Z7 WT ((ids.filter (dM l)).map (N9 l f))
  have j:((OY WT ((ids.filter (dM l)).map (N9 l f))).map (·.kD)).Nodup:=by
   rw[(u.map (·.kD)).nodup_iff,aad];exact L.sublist Qy
  have m:(OY WT ((ids.filter (dM l)).map (N9 l f))).length≤100000:=by rw[u.length_eq];exact s
  generalize OY WT ((ids.filter (dM l)).map (N9 l f))=S at j m;rw[ank S AA j];simp only[Aa];unfold aDi;rw[LP (a0:=[]) S AA (fun r x=>r++[x.kD]) (fun i r=>r.length≤i) (fun r=>some r) (Dn _)]
  ·rw[foldl_append (fun x:JO=>[x.kD]),IC];congr 1;clear j m
   induction S with
   |nil=>rfl
   |cons x S U=>rw[LV,U];rfl
  ·intro k r i h Y;refine⟨aG9,?_⟩;unfold aAw;rw[D5 h,ET Gz];rfl
  intro k r _;unfold aAw;rw[E8]
 ·intro k r i h Y;refine⟨?_,?_⟩
  ·cases dM l ids[i]<;>simp <;>omega
  unfold aDU xW;rw[D5 h,La l _ AA];simp only[Aa];rw[Ux,agl l f _ z I J];simp only[Aa];rw[ET Gz];unfold dM;cases(E9 l ids[i]).isSome with
  |true=>rfl
  |false=>simp
 intro k r _;unfold aDU;rw[E8]
def ajo {l:List AO} {f ids:List Int} {x:Int}:x∈XT l f ids↔x∈ids∧dM l x=true:=by
 unfold XT;rw[((Z7 WT ((ids.filter (dM l)).map (N9 l f))).map (·.kD)).mem_iff,aad,Fl]
def agF (l:List AO) (f ids:List Int):(XT l f ids).length≤ids.length:=by
 unfold XT;rw[CB,(Z7 _ _).length_eq,CB];exact Jk _ _
def I8 (c:Int):Bool:=(decide (c≥97)&&decide (c≤122))||(decide (c≥48)&&decide (c≤57))
def aah (c:Int):Yq c=some (I8 c):=by
 unfold Yq I8;cases decide (c≥97)<;>cases decide (c≤122)<;>cases decide (c≥48)<;>cases decide (c≤57)<;>rfl
def aFO (c:Int):Zm c=some (I8 c):=by
 unfold Zm I8;cases decide (c≥97)<;>cases decide (c≤122)<;>cases decide (c≥48)<;>cases decide (c≤57)<;>rfl
def NY (l:List Int) (p:Int→Bool):Bool:=decide ((l.length:Int)≥1)&&decide ((l.length:Int)≤32)&&l.all fun c=>I8 c||p c
def isLocal (c:Int):Bool:=c==95||c==46||c==45||c==61
def Qh (c:Int):Bool:=c==46||c==45
def UJ (l:List Int):Bool:=NY l isLocal
def Un (l:List Int):Bool:=NY l Qh&&I8 (l.getD 0 0)&&I8 (l.getD (l.length-1) 0)
def nO {n:Nat} (h:n≤9223372036854775807):n<Ar:=aAE
def aH4 {s:ByteArray} (j:s.size≤9223372036854775807) (f:Int→Option Bool) (p:Int→Bool) (m:∀c,f c=some (p c)):Wy s f=some (NY (BR s) p):=by
 have n:aCH s f 0=some ((BR s).all fun c=>I8 c||p c):=by
  unfold aCH;rw[I5 (BR s) (by rw[Fh];exact nO j) (fun c=> !(I8 c||p c)) false (some true) ?_ ?_,J6,uQ]
  ·intro k i h;have h':i<s.size:=UE
   simp only[aDZ,dec_lt h',Ba,RH h,aah,m,Aa];cases I8 (BR s)[i]<;>cases p (BR s)[i]<;>rfl
  intro k;simp only[aDZ,Fh,EG,BK]
 unfold Wy NY;rw[n,Fh];have q:decide ((s.size:Int)≥1)= !decide ((s.size:Int)<1):=aGk
 have u:decide ((s.size:Int)≤32)= !decide ((s.size:Int)>32):=aG3
 rw[q,u];cases decide ((s.size:Int)<1)<;>cases decide ((s.size:Int)>32)<;>rfl
def ah6 {s:ByteArray} (f:s.size≤9223372036854775807):Wy s (fun a0=>jm a0)=some (NY (BR s) isLocal):=aH4 f _ isLocal (fun c=>by unfold jm isLocal;cases c==95<;>cases c==46<;>cases c==45<;>cases c==61<;>rfl)
def asu {s:ByteArray} (f:s.size≤9223372036854775807):Wy s (fun a0=>mW a0)=some (NY (BR s) Qh):=aH4 f _ Qh (fun c=>by unfold mW Qh;cases c==46<;>cases c==45<;>rfl)
def agm {s:ByteArray} (f:s.size≤9223372036854775807):uG s=some (UJ (BR s)):=by
 unfold uG UJ;rw[ah6 f];rfl
def yD {s:ByteArray} (h:0<s.size):FT s 0=some ((BR s).getD 0 0):=by
 have h':0<(BR s).length:=aAl
 rw[akc h'];simp[List.getD,h']
def aa2 {s:ByteArray} (h:0<s.size) (j:s.size≤9223372036854775807):FT s (BD ((s.size:Int)-1))=some ((BR s).getD ((BR s).length-1) 0):=by
 have h':s.size-1<(BR s).length:=by rw[Fh];omega
 rw[Nl AA AA,show(s.size:Int)-1=((s.size-1:Nat):Int) by omega,RH h'];have f:(BR s).length-1=s.size-1:=by rw[Fh]
 rw[f];simp[List.getD,h']
def aeX {l:List Int} {p:Int→Bool} (h:NY l p=true):0<l.length∧l.length≤32:=by
 unfold NY at h;simp only[Bv,FI]at h;omega
def ahA {s:ByteArray} (f:s.size≤9223372036854775807):rU s=some (Un (BR s)):=by
 unfold rU Un;rw[asu f];simp only[Aa];cases j:NY (BR s) Qh with
 |false=>rfl
 |true=>
  have h:0<s.size:=by have :=(aeX j).1;rwa [Fh]at this
  simp only[Ba,yD h,aa2 h f,aah,Aa];cases I8 ((BR s).getD 0 0)<;>simp
def alm {s:ByteArray} (f:s.size≤9223372036854775807):aG8 s=some (bif Un (BR s)then 0 else 3):=by
 have m:aFu s 0=some (bif (BR s).all fun c=>I8 c||Qh c then 0 else 3):=by
  unfold aFu;rw[I5 (BR s) aQ (fun c=> !(I8 c||Qh c)) 3 (some 0) ?_ ?_,J6,←uQ]
  ·cases((BR s).any fun c=> !(I8 c||Qh c))<;>rfl
  ·intro k i h;have h':i<s.size:=UE
   simp only[aFg,dec_lt h',Ba,RH h,aFO,Aa,Qh,bne];cases I8 (BR s)[i]<;>cases(BR s)[i]==46<;>cases(BR s)[i]==45<;>rfl
  intro k;simp only[aFg,Fh,EG,BK]
 have n:decide ((s.size:Int)≥1)= !decide ((s.size:Int)<1):=aGk
 have q:decide ((s.size:Int)≤32)= !decide ((s.size:Int)>32):=aG3
 unfold aG8 Un NY;rw[m];rw[show((BR s).length:Int)=(s.size:Int) by rw[Fh],n,q];by_cases u:(s.size:Int)<1
 ·simp[u]
 have j:0<s.size:=AA
 simp only[yD j,aa2 j f,aFO,Aa];cases decide ((s.size:Int)<1)<;>cases decide ((s.size:Int)>32)<;>cases I8 ((BR s).getD 0 0)<;>cases I8 ((BR s).getD ((BR s).length-1) 0)<;>cases((BR s).all fun c=>I8 c||Qh c)<;>rfl
def ahK {s:ByteArray} (f:s.size≤9223372036854775807):aDv s=some (UJ (BR s)):=by
 unfold aDv adg;rw[I5 (BR s) aQ (fun c=> !(I8 c||isLocal c)) false (some (decide ((s.size:Int)≥1)&&decide ((s.size:Int)≤32))) ?_ ?_]
 ·unfold UJ NY;rw[←uQ,Fh];cases((BR s).any fun c=> !(I8 c||isLocal c))<;>cases decide ((s.size:Int)≥1)<;>cases decide ((s.size:Int)≤32)<;>rfl
 ·intro k i h;have h':i<s.size:=UE
  simp only[aC1,dec_lt h',Ba,RH h,aFO,Aa,isLocal,bne];cases I8 (BR s)[i]<;>cases(BR s)[i]==95<;>cases(BR s)[i]==46<;>cases(BR s)[i]==45<;>cases(BR s)[i]==61<;>rfl
 intro k;simp only[aC1,Fh,EG,BK];cases decide ((s.size:Int)≥1)<;>cases decide ((s.size:Int)≤32)<;>rfl
def adJ (s:ByteArray):(BR s).length=s.data.toList.length:=by simp[BR]
def EY (s:ByteArray):Nat:=(BR s).findIdx (· ==58)
def aDd (s:ByteArray):EY s≤s.size:=by unfold EY;rw[←Fh];exact List.findIdx_le_length
def ado {s:ByteArray} (f:s.size≤9223372036854775807):oq s=some (EY s:Int):=by
 unfold oq aeu;rw[PL (BR s) aQ (· ==58) (fun i=>some (i:Int)) (some (s.size:Int)) ?_ ?_]
 ·have :=aDd s;by_cases h:(BR s).findIdx (· ==58)<(BR s).length
  ·rw[CG h];rfl
  rw[CV h];congr 2;unfold EY at this ⊢;rw[Fh]at h;omega
 ·intro k i h;have h':i<s.size:=UE
  simp only[aD2,dec_lt h',Ba,RH h,Aa,bne];cases(BR s)[i]==58<;>rfl
 intro k;simp only[aD2,Fh,EG,BK,Aa]
def Qe (s:ByteArray):ByteArray:=s.extract 1 (EY s)
def Oo (s:ByteArray):ByteArray:=s.extract (EY s+1) s.size
def PZ (s:ByteArray):Bool:=decide (EY s<s.size)&&UJ (BR (Qe s))&&Un (BR (Oo s))
def F7 (s:ByteArray) (m:Int):Bool:=decide (0<s.size)&&(BR s).getD 0 0==m&&PZ s
def extract_size (s:ByteArray) (a b:Nat):(s.extract a b).size≤s.size:=by rw[aCV];omega
def ad1 {s:ByteArray} (h:0<s.size) (f:(BR s).getD 0 0≠58):1≤EY s:=by
 unfold EY;have j:0<(BR s).length:=aAl
 match m:BR s with
 | []=>rw[m]at j;simp at j
 |c::l=>
  rw[m]at f;simp only[List.getD_cons_zero]at f;rw[Rt,show(c==58)=false from by simpa using f];simp
def zW {s:ByteArray} (j:s.size≤9223372036854775807) {m:Int} (q:m≠58):ZR s m=some (F7 s m):=by
 unfold ZR F7;by_cases f:0<s.size
 ·rw[show decide ((s.size:Int)<1)=false from by simp;omega,show decide (0<s.size)=true by simpa using f];simp only[BK,yD f,Aa,bne];cases u:(BR s).getD 0 0==m with
  |false=>rfl
  |true=>
   have n:(BR s).getD 0 0=m:=Oe
   have z:=ad1 f (by rw[n];exact q);have I:=aDd s;simp only[EF,BK,ado j,Aa,FC];unfold PZ;by_cases h:EY s<s.size
   ·have J:Jr s 1 (EY s:Int)=some (Qe s):=bH (lo:=1) z I
    have L:Jr s (BD ((EY s:Int)+1)) (s.size:Int)=some (Oo s):=by
     rw[Nl AA AA,show(EY s:Int)+1=((EY s+1:Nat):Int) by omega];exact bH AA (Dn _)
    rw[show decide ((EY s:Int)<(s.size:Int))=true from by simpa using h,show decide (EY s<s.size)=true by simpa using h];have M:(Qe s).size≤9223372036854775807:=E5 (extract_size _ _ _) j;have O:(Oo s).size≤9223372036854775807:=E5 (extract_size _ _ _) j;simp only[Ba,J,L,ahK M,alm O,Aa];cases UJ (BR (Qe s))<;>cases Un (BR (Oo s))<;>rfl
   rw[show decide ((EY s:Int)<(s.size:Int))=false from by simpa using h,show decide (EY s<s.size)=false by simpa using h];rfl
 rw[show decide ((s.size:Int)<1)=true from by simp;omega,show decide (0<s.size)=false by simpa using f];rfl
def splitB (s:ByteArray) (b:Bool):ByteArray×ByteArray×Bool:=bif b then(Qe s,Oo s,true)else(BL,BL,false)
def aiG (b c:UInt8):(b==c)=(((b.toNat:Nat):Int)==((c.toNat:Nat):Int)):=by
 by_cases h:b=c
 ·subst h;simp
 have :¬b.toNat=c.toNat:=fun e=>h (UInt8.toNat_inj.1 e);have f:(b==c)=false:=Hf
 rw[f];symm;simp;omega
def afm (s:ByteArray) (c:UInt8):s.data.toList.findIdx (· ==c)=(BR s).findIdx (· ==((c.toNat:Nat):Int)):=by
 unfold BR;rw[List.findIdx_map];congr 1;funext b;exact aiG b c
def aoX (s:ByteArray):∀x∈BR s,0≤x∧x<256:=by
 intro x f;unfold BR at f;rw[FM]at f;obtain⟨c,_,rfl⟩:=f;have :=c.toNat_lt;omega
def getD_mem {s:ByteArray} (h:0<s.size):(BR s).getD 0 0∈BR s:=by
 have f:0<(BR s).length:=aAl
 have e:(BR s).getD 0 0=(BR s)[0]:=by simp[List.getD,f]
 rw[e];exact EU f
def aqt (marks:ByteArray) {c:Int} (n:0≤c) (q:c<256):decide (Lib.indexByte marks.data.toList c.toNat.toUInt8<0)= !(BR marks).contains c:=by
 have e:(((c.toNat.toUInt8).toNat:Nat):Int)=c:=by
  rw[Nat.toUInt8,UInt8.toNat_ofNat'];omega
 rw[aBo,afm,e,←adJ marks];by_cases f:c∈BR marks
 ·have j:(BR marks).findIdx (· ==c)<(BR marks).length:=List.findIdx_lt_length_of_exists ⟨c,f,BG⟩;rw[CG j,show(BR marks).contains c=true by simpa using f];simp
 have m:¬(BR marks).findIdx (· ==c)<(BR marks).length:=fun h=>by
  have :=List.findIdx_getElem (w:=h);simp only[QS]at this;exact f (this▸EU h)
 rw[CV m,show(BR marks).contains c=false by simpa using f];rfl
def aey (s:ByteArray) (a b:Nat):(s.extract 1 s.size).extract a b=s.extract (1+a) (min (1+b) s.size):=by
 refine bytes_inj ?_;simp only[aed];have :(BR s).take s.size=BR s:=P6 (by rw[Fh];omega);rw[this,List.take_drop,aEm];congr 1;have :min (1+b) s.size=min (1+b) (BR s).length:=by rw[Fh]
 rw[this,List.take_eq_take_min]
def ajK {s:ByteArray} (h:0<s.size) (f:(BR s).getD 0 0≠58):(BR (s.extract 1 s.size)).findIdx (· ==58)+1=EY s:=by
 unfold EY;rw[aed];have :(BR s).take s.size=BR s:=P6 (by rw[Fh];omega);rw[this];have j:0<(BR s).length:=aAl
 match m:BR s with
 | []=>rw[m]at j;simp at j
 |c::l=>
  rw[m]at f;simp only[List.getD_cons_zero]at f;rw[Rt,show(c==58)=false from by simpa using f];rfl
def amD {s:ByteArray} (z:s.size≤9223372036854775807) (h:0<s.size) (m:(BR s).getD 0 0≠58):∃a b,strings_Cut (s.extract 1 s.size) Z8=some (a,b,decide (EY s<s.size))∧(EY s<s.size→a=Qe s∧b=Oo s):=by
 have I:=ad1 h m;have J:=aDd s;have L:=ajK h m;have j:(s.extract 1 s.size).size=s.size-1:=by rw[aCV];omega
 have n:aAj (s.extract 1 s.size) Z8=some (if EY s<s.size then((EY s-1:Nat):Int)else -1):=by
  show some (Lib.indexByte (s.extract 1 s.size).data.toList 58)=_;rw[aBo,afm,←adJ (s.extract 1 s.size)];show some (if(BR (s.extract 1 s.size)).findIdx (· ==58)<_ then(((BR (s.extract 1 s.size)).findIdx (· ==58):Nat):Int)else -1)=_;rw[Fh,j];have e:(BR (s.extract 1 s.size)).findIdx (· ==58)=EY s-1:=AA
  rw[e];congr 1;by_cases f:EY s<s.size
  ·rw[CG f,CG AA]
  rw[CV f,CV AA]
 unfold strings_Cut aF8;rw[n,Aa];by_cases f:EY s<s.size
 ·rw[CG f,show decide (((EY s-1:Nat):Int)≥0)=true from by simp,show decide (EY s<s.size)=true by simpa using f];have q:Jr (s.extract 1 s.size) 0 ((EY s-1:Nat):Int)=some ((s.extract 1 s.size).extract 0 (EY s-1)):=bH (lo:=0) AA AA
  have u:Jr (s.extract 1 s.size) (BD (((EY s-1:Nat):Int)+(Z8.size:Int))) ((s.extract 1 s.size).size:Int)=some ((s.extract 1 s.size).extract (EY s) (s.size-1)):=by
   rw[show(Z8.size:Int)=1 from rfl,Nl AA AA,show((EY s-1:Nat):Int)+1=((EY s:Nat):Int) by omega,j];exact bH AA AA
  simp only[Ba,q,u,Aa];refine⟨_,_,rfl,fun _=>⟨?_,?_⟩⟩
  ·rw[aey];unfold Qe;congr 1;omega
  rw[aey];unfold Oo;rw[Nh 1 (EY s)];congr 1;omega
 rw[CV f,show decide ((-1:Int)≥0)=false from rfl,show decide (EY s<s.size)=false by simpa using f];exact⟨_,_,rfl,fun h=>absurd h f⟩
def aF5 {s:ByteArray} (j:s.size≤9223372036854775807) {marks:ByteArray} (n:∀m∈BR marks,m≠58):ZO s marks=some (splitB s ((BR marks).any fun m=>F7 s m)):=by
 unfold ZO;by_cases h:0<s.size
 ·have q:(s.toList==BL.toList)=false:=by
   rw[Np];simp only[VG];intro e;rw[e]at h;exact absurd h BP
  have u:=aoX s _ (getD_mem h)
  have f:((BR marks).any fun m=>F7 s m)=((BR marks).contains ((BR s).getD 0 0)&&PZ s):=by
   unfold F7;rw[show decide (0<s.size)=true by simpa using h]
   induction BR marks with
   |nil=>rfl
   |cons m l z=>rw[ni,z,List.contains_cons];cases(BR s).getD 0 0==m<;>cases PZ s<;>simp
  rw[q,f];simp only[BK,yD h,Aa,strings_IndexByte,aqt marks u.1 u.2];cases I:(BR marks).contains ((BR s).getD 0 0)with
  |false=>rfl
  |true=>
   have J:(BR s).getD 0 0≠58:=n _ oW;obtain⟨a,b,L,M⟩:=amD j h J;have O:Jr s 1 (s.size:Int)=some (s.extract 1 s.size):=bH (lo:=1) AA (Dn _);simp only[EF,BK,O,L,Aa,FC];unfold PZ;cases S:decide (EY s<s.size)with
   |false=>rfl
   |true=>
    obtain⟨rfl,rfl⟩:=M (VP S);have U:(Qe s).size≤9223372036854775807:=E5 (extract_size _ _ _) j;have Y:(Oo s).size≤9223372036854775807:=E5 (extract_size _ _ _) j;simp only[EF,BK,agm U,ahA Y,Aa];cases UJ (BR (Qe s))<;>cases Un (BR (Oo s))<;>rfl
 have Z:s.size=0:=AA
 have he:s=BL:=bytes_inj (by
  have h1:BR s=[]:=Fj (by rw[Fh];exact Z)
  rw[h1];rfl)
 have f:((BR marks).any fun m=>F7 s m)=false:=by
  rw[List.any_eq_false];intro m _;unfold F7;rw[show decide (0<s.size)=false by simpa using h];simp
 rw[f,he,show(BL.toList==BL.toList)=true from by simp];rfl
def J7 (s:ByteArray):Bool:=F7 s 64||(F7 s 33||false)
def atF {s:ByteArray} (f:s.size≤9223372036854775807):ZO s jB=some (splitB s (J7 s)):=
 aF5 f (marks:=jB) (by rw[show BR jB=[64,33]from rfl];intro m h;simp only[Em,FH,ZW]at h;omega)
def aJu {s:ByteArray} (h:PZ s=true):EY s<s.size:=by unfold PZ at h;simp only[Bv,FI]at h;exact h.1.1
def Rch {s:ByteArray} (j:s.size≤9223372036854775807):Ym s=some (splitB s (J7 s)).2.1∧aEr s=some (splitB s (J7 s)).2.1:=by
 have n:EY s<s.size→Jr s (BD ((EY s:Int)+1)) (s.size:Int)=some (Oo s):=fun q=>by
  rw[Nl AA AA,show(EY s:Int)+1=((EY s+1:Nat):Int) by omega];exact bH AA (Dn _)
 unfold Ym aEr;rw[atF j,zW j BP,zW j BP,ado j];refine⟨rfl,?_⟩;unfold J7;cases f:F7 s 64 with
 |true=>
  have m:=aJu (s:=s) (by unfold F7 at f;simp only[Bv]at f;exact f.2);simp only[Aa,EF,BK,n m,Bool.true_or];rfl
 |false=>
  cases h:F7 s 33 with
  |true=>
   have m:=aJu (s:=s) (by unfold F7 at h;simp only[Bv]at h;exact h.2);simp only[Aa,EF,Jg,BK,Ba,n m,JF,Bool.true_or];rfl
  |false=>rfl
def aiu {R A α:Type} {body:(Int→A→Option R)→Int→A→Option R} (l:List α) (q:l.length<Ar) (p:α→Bool) (g:Nat→Option R) (rest:Option R) (a0:A)
 (s:∀k (i:Nat) (h:i<l.length),body k (i:Int) a0=bif p l[i]then g i else k (BD ((i:Int)+1)) a0) (u:∀k,body k (l.length:Int) a0=rest):
 aX body Ar 0 a0=if l.findIdx p<l.length then g (l.findIdx p)else rest:=by
 have J:Ar=9223372036854775808:=rfl
 have key:∀n (i:Nat),i+n=l.length→∀m,n<m→aX body m (i:Int) a0=if(l.drop i).findIdx p+i<l.length then g ((l.drop i).findIdx p+i)else rest:=by
  intro n
  induction n with
  |zero=>
   intro i hi m z;obtain⟨m,rfl⟩:∃j,m=j+1:=⟨m-1,AA⟩
   have :i=l.length:=AA
   subst this;show body (aX body m) _ _=_;rw[u,Oa,CV BG]
  |succ n I=>
   intro i hi m z;obtain⟨m,rfl⟩:∃j,m=j+1:=⟨m-1,AA⟩
   have f:i<l.length:=AA
   show body (aX body m) _ _=_;rw[s _ i f,wrap_succ i AA,I (i+1) AA m AA,NC f,Rt];cases p l[i]with
   |true=>simp only[Ba,Hz];rw[CG f]
   |false=>
    simp only[BK];rw[show(l.drop (i+1)).findIdx p+(i+1)=(l.drop (i+1)).findIdx p+1+i by omega]
 have :=key l.length 0 AA Ar q;simpa using this
def MJ (l:List AO):AO×Bool:=match l.find? fun x=>x.Kind==1 with |some x=>(x,true)|none=>(FK,false)
def akd (l:List AO) (p:AO→Bool):(if l.findIdx p<l.length then(some (match l[l.findIdx p]? with |some x=>(x,true)|none=>(FK,false)))else some (FK,false))=some (match l.find? p with |some x=>(x,true)|none=>(FK,false)):=by
 rw[Ob];by_cases h:l.findIdx p<l.length
 ·rw[CG h]
 rw[CV h,Jm AA]
def aec (l:List AO) (f:l.length≤1000):jr l=some (MJ l):=by
 unfold jr adp;rw[aiu l (fuel_lt AA) (fun x=>x.Kind==1) (fun i=>some (match l[i]? with |some x=>(x,true)|none=>(FK,false))) (some (FK,false))]
 ·exact akd l _
 ·intro k i h;unfold aFR;rw[D5 h,DX h]
 intro k;unfold aFR;rw[E8]
def SP (u:ByteArray) (x:AO):Bool:=x.Kind==2&&decide (x.Key=u)
def KC (l:List AO) (u:ByteArray):Int:=match l.find? (SP u)with |some x=>x.Content.N|none=>0
def abg (u:ByteArray) (x:AO):(bif (x.Kind==2)then some (x.Key.toList==u.toList)else some false)=some (SP u x):=by
 unfold SP;rw[Np];cases x.Kind==2<;>rfl
def aGY (l:List AO) (u:ByteArray) (f:l.length≤1000):Z5 l u=some (KC l u):=by
 unfold Z5 afI KC;rw[PL l (fuel_lt AA) (SP u) (fun i=>some (match l[i]? with |some x=>x.Content.N|none=>0)) (some 0)]
 ·rw[Ob];by_cases h:l.findIdx (SP u)<l.length
  ·rw[CG h]
  rw[CV h,Jm AA]
 ·intro k i h;unfold aD9;rw[D5 h,D9 h,DX h];simp only[Aa];rw[abg];rfl
 intro k;unfold aD9;rw[E8]
def og (e:AO) (l:List AO):Bool:=
 (MJ l).2&&(e.bY.length==1&&(e.bY.getD 0 0==(MJ l).1.Id&&(decide (e.bg=(MJ l).1.bg)&&(decide (e.Key=(MJ l).1.bg)&&(e.Content.N==3&& !l.any (SP e.Key))))))
def apJ (e:AO) (l:List AO) (q:l.length≤1000):xq e l=some (og e l):=by
 have s:aCd l e 0=some (!l.any (SP e.Key)):=by
  unfold aCd;rw[I5 l (fuel_lt AA) (SP e.Key) false (some true)]
  ·cases l.any (SP e.Key)<;>rfl
  ·intro k i h;unfold aEA;rw[D5 h,abg];rfl
  intro k;unfold aEA;rw[E8]
 unfold xq og Uj;rw[aec l q];simp only[Aa];rw[s,Np,Np];cases(MJ l).2 with
 |false=>rfl
 |true=>
  by_cases f:e.bY.length=1
  ·have n:0<e.bY.length:=AA
   have j:((e.bY.length:Int) != 1)=false:=Tf
   have m:(e.bY.length==1)=true:=L9
   have u:BF e.bY 0=some (e.bY.getD 0 0):=by
    have :BF e.bY ((0:Nat):Int)=some e.bY[0]:=D9 n;rw[show((0:Nat):Int)=0 from rfl]at this;rw[this];simp[List.getD,n]
   rw[j,m,u];simp only[Aa,bne];cases e.bY.getD 0 0==(MJ l).1.Id<;>cases decide (e.bg=(MJ l).1.bg)<;>cases decide (e.Key=(MJ l).1.bg)<;>cases e.Content.N==3<;>rfl
  have j:((e.bY.length:Int) != 1)=true:=Dp
  have m:(e.bY.length==1)=false:=L9
  rw[j,m];rfl
def moveB (f t:Int) (s:Bool):Bool:=
 bif decide (f<0)||decide (f>4)then false else bif t==3 then s&&f != 4 else bif t==0 then f==1||f==2||f==3||(f==4&& !s)else bif t==2 then s&&(f==0||f==2)else bif t==1 then !s&&(f==0||f==2||f==1)else bif t==4 then !s else false
def anv (f t:Int) (s:Bool):Yo f t s=some (moveB f t s):=by
 unfold Yo moveB;simp only[J6,Aa,dV,Ur]
def arh (f t:Int) (s:Bool):X8 f t s=some (moveB f t s):=by
 rw[←anv];by_cases h:f<0
 ·unfold X8 Yo;rw[I4 h];rfl
 by_cases j:f>4
 ·unfold X8 Yo;rw[I4 j];cases decide (f<0)<;>rfl
 by_cases m:t<0
 ·unfold X8 Yo;rw[I4 m,HY h,HY j,show(t==3)=false by simp;omega,show(t==0)=false by simp;omega,show(t==2)=false by simp;omega,show(t==1)=false by simp;omega,show(t==4)=false by simp;omega];rfl
 by_cases n:t>4
 ·unfold X8 Yo;rw[I4 n,HY m,HY h,HY j,show(t==3)=false by simp;omega,show(t==0)=false by simp;omega,show(t==2)=false by simp;omega,show(t==1)=false by simp;omega,show(t==4)=false by simp;omega];rfl
 have q:f=0∨f=1∨f=2∨f=3∨f=4:=AA
 have u:t=0∨t=1∨t=2∨t=3∨t=4:=AA
 rcases q with rfl|rfl|rfl|rfl|rfl<;>rcases u with rfl|rfl|rfl|rfl|rfl<;>cases s<;>decide
def qK (l:List AO):Int×List ByteArray:=match l.find? fun x=>x.Kind==4 with |some x=>(x.Content.N,x.Content.Allow)|none=>(0,[])
def ahW (l:List AO) (j:l.length≤1000) (f:EK l):xB l=some (qK l):=by
 unfold xB aHL qK;rw[PL l (fuel_lt AA) (fun x=>x.Kind==4) (fun i=>some (match l[i]? with |some x=>(x.Content.N,x.Content.Allow)|none=>(0,[]))) (some (0,[]))]
 ·rw[Ob];by_cases h:l.findIdx (fun x=>x.Kind==4)<l.length
  ·rw[CG h]
  rw[CV h,Jm AA]
 ·intro k i h;have ha:=(f _ (EU h)).allow;unfold aFW;rw[D5 h,DX h,ET XQ];rfl
 intro k;unfold aFW;rw[E8]
def aFd (f now:Int):Int:=bif now==3||f==1 then 0 else bif now==1&&(f==0||f==2||f==3)then 0 else 21
def aEK (f now:Int):Int:=bif f==2&&(now==0||now==2)then 0 else 21
def aiw (r n:Int):qL r n=some (aFd r n):=by
 unfold qL oC uX aFd;cases n==3<;>cases r==1<;>cases r==2<;>cases r==3<;>cases r==0<;>cases n==1<;>rfl
def amB (r n:Int):qX r n=some (aEK r n):=by
 unfold qX wS aEK bne;cases r==2<;>cases n==0<;>cases n==2<;>rfl
def aD3 (m now:Int) (l:List AO):Int:=bif m==3 then aFd (qK l).1 now else bif m==2 then aEK (qK l).1 now else 0
def amP (m now:Int) (l:List AO) (f:l.length≤1000) (h:EK l):zM m now l=some (aD3 m now l):=by
 unfold zM aD3;rw[ahW l f h];simp only[Aa];rw[aiw,amB];cases m==3<;>cases m==2<;>rfl
def Gn (k:Int):Bool:=decide (k≥1)&&decide (k≤10)
def acL (k:Int):YB k=some (Gn k):=by
 unfold YB Gn;cases decide (k≥1)<;>rfl
def agU (k:Int):Z9 k=some (Gn k):=by
 unfold Z9 Gn;cases decide (k≥1)<;>rfl
def bP (v:CP) (k:Int):Int:=match v.Kinds.find? fun x=>x.Kind==k with |some x=>x.N|none=>bif Gn k then v.State else v.Message
def aDc (v:CP) (k:Int) (h:v.Kinds.length≤1000):ZE v k=some (bP v k):=by
 unfold ZE aes bP;rw[PL v.Kinds (fuel_lt AA) (fun x=>x.Kind==k) (fun i=>some (match v.Kinds[i]? with |some x=>x.N|none=>0)) (some (bif Gn k then v.State else v.Message))]
 ·rw[Ob];by_cases h:v.Kinds.findIdx (fun x=>x.Kind==k)<v.Kinds.length
  ·rw[CG h,DX h]
  rw[CV h,Jm AA]
 ·intro k2 i h;unfold aFr;rw[D5 h,DX h]
 intro k2;unfold aFr;rw[E8,acL];cases Gn k<;>rfl
def Ze (f h j:Int):Bool:=h==j||(decide (h≤f)&&decide (j≤f))
def numsOf (v:CP):List Int:=[v.User,v.Message,v.State,v.fP,v.jU,v.nH,v.gZ]
def aEd (f:Int) (p:Int×Int):Bool:= !Ze f p.1 p.2
def XC (f:Int) (h j:CP) (x:Gm):Bool:= !Ze f (bP h x.Kind) (bP j x.Kind)
def KR (h:Int) (f j:CP) (m:ByteArray) (x:G7):Bool:= !(Ze h (ES f x.User) (ES j x.User)&&(ES f x.User==ES j x.User||decide (x.User=m)||decide (ES f x.User<h)))
def aCE (f j:CP) (h:ByteArray):Int:=
 bif ((numsOf f).zip (numsOf j)).any (aEd (ES f h))then 20 else bif (f.Kinds++j.Kinds).any (XC (ES f h) f j)then 20 else bif (f.Users++j.Users).any (KR (ES f h) f j h)then 20 else 0
def aDk (f j m:Int):TA j m f=some (!Ze f j m):=by
 unfold TA Ze;have n:(j != m)= !(j==m):=rfl;have q:decide (j>f)= !decide (j≤f):=by by_cases h:j≤f<;>simp[h]<;>omega
 have s:decide (m>f)= !decide (m≤f):=by by_cases h:m≤f<;>simp[h]<;>omega
 rw[n,q,s];cases j==m<;>cases decide (j≤f)<;>cases decide (m≤f)<;>rfl
structure aAT (v:CP):Prop where
 users:v.Users.length≤100
 kinds:v.Kinds.length≤100
def aFw (a b:CP):((numsOf a).zip (numsOf b)).length=7:=rfl
def amb (f m:CP) (n:ByteArray) (O:aAT f) (S:aAT m):nG f m n=some (aCE f m n):=by
 have o1:=O.users;have o2:=O.kinds;have n1:=S.users;have n2:=S.kinds;unfold nG;rw[Xc f n AA];unfold sJ;simp only[Aa];unfold aCE;generalize U:ES f n=q
 have Y:pY f m q n false 0=some (bif (f.Users++m.Users).any (KR q f m n)then 20 else 0):=by
  unfold pY;rw[aBt ([f.Users,m.Users]:List (List G7)) (fuel_lt BG) (fun us=>us.any (KR q f m n)) (fun _=>some 20) (some 0) false]
  ·have e:(f.Users++m.Users).any (KR q f m n)=([f.Users,m.Users]:List (List G7)).any (fun us=>us.any (KR q f m n)):=BG
   rw[e]
   have Z:∀L:List (List G7),(if L.findIdx (fun us=>us.any (KR q f m n))<L.length then some (20:Int)else some 0)=some (bif L.any (fun us=>us.any (KR q f m n))then 20 else 0):=fun L=>by
    by_cases h:L.findIdx (fun us=>us.any (KR q f m n))<L.length
    ·rw[CG h];have :L.any (fun us=>us.any (KR q f m n))=true:=GV.2 ((bn).1 h);rw[this];rfl
    rw[CV h]
    have :L.any (fun us=>us.any (KR q f m n))=false:=by
     rw[Bool.eq_false_iff];exact fun k=>h (bn.2 (GV.1 k))
    rw[this];rfl
   exact Z _
  ·intro k i h
   have I:([f.Users,m.Users]:List (List G7))[i].length≤100:=by
    have :([f.Users,m.Users]:List (List G7))[i]∈[f.Users,m.Users]:=EU h;simp only[Em,FH,ZW]at this;rcases this with e|e<;>rw[e]<;>assumption
   unfold xk;rw[show decide ((i:Int)<2)=true by simp only[FQ,Nu]at h;simp;omega,D9 h];simp only[Ba,Aa];generalize([f.Users,m.Users]:List (List G7))[i]=us at I;unfold aGx;rw[aBt us (fuel_lt AA) (KR q f m n) (fun _=>some 20) (k false (BD ((i:Int)+1))) false]
   ·by_cases u:us.findIdx (KR q f m n)<us.length
    ·rw[CG u];have :us.any (KR q f m n)=true:=GV.2 ((bn).1 u);rw[this];rfl
    rw[CV u]
    have :us.any (KR q f m n)=false:=by
     rw[Bool.eq_false_iff];exact fun k=>u (bn.2 (GV.1 k))
    rw[this];rfl
   ·intro k2 j J;unfold wG bV;rw[D5 J,Xc f _ AA,Xc m _ AA];simp only[Aa];rw[aDk,Np];unfold KR;have u:decide (ES f us[j].User≥q)= !decide (ES f us[j].User<q):=by by_cases h:ES f us[j].User<q<;>simp[h]<;>omega
    have h3:(ES f us[j].User != ES m us[j].User)= !(ES f us[j].User==ES m us[j].User):=rfl;simp only[Aa];rw[u,h3];cases Ze q (ES f us[j].User) (ES m us[j].User)<;>cases ES f us[j].User==ES m us[j].User<;>cases decide (us[j].User=n)<;>cases decide (ES f us[j].User<q)<;>rfl
   intro k2;unfold wG;rw[E8]
  intro k;unfold xk bV;rw[show decide (((([f.Users,m.Users]:List (List G7)).length:Nat):Int)<2)=false from rfl];rfl
 have hK:qY f m q n 0=some (bif (f.Kinds++m.Kinds).any (XC q f m)then 20 else bif (f.Users++m.Users).any (KR q f m n)then 20 else 0):=by
  unfold qY;rw[I5 ([f.Kinds,m.Kinds]:List (List Gm)) (fuel_lt BG) (fun s=>s.any (XC q f m)) 20 (pY f m q n false 0)]
  ·rw[Y];have e:(f.Kinds++m.Kinds).any (XC q f m)=([f.Kinds,m.Kinds]:List (List Gm)).any (fun s=>s.any (XC q f m)):=BG
   rw[e];cases([f.Kinds,m.Kinds]:List (List Gm)).any (fun s=>s.any (XC q f m))<;>rfl
  ·intro k i h
   have M:([f.Kinds,m.Kinds]:List (List Gm))[i].length≤100:=by
    have :([f.Kinds,m.Kinds]:List (List Gm))[i]∈[f.Kinds,m.Kinds]:=EU h;simp only[Em,FH,ZW]at this;rcases this with e|e<;>rw[e]<;>assumption
   unfold xP;rw[show decide ((i:Int)<2)=true by simp only[FQ,Nu]at h;simp;omega,D9 h];simp only[Ba,Aa];generalize([f.Kinds,m.Kinds]:List (List Gm))[i]=s at M;unfold aae;rw[I5 s (fuel_lt AA) (XC q f m) 20 (k (BD ((i:Int)+1)))]
   ·intro k2 j J;unfold uH;rw[D5 J,aDc f _ AA,aDc m _ AA];simp only[Aa];rw[aDk];rfl
   intro k2;unfold uH;rw[E8]
  intro k;unfold xP;rw[show decide (((([f.Kinds,m.Kinds]:List (List Gm)).length:Nat):Int)<2)=false from rfl];rfl
 unfold ada;rw[I5 ((numsOf f).zip (numsOf m)) (by rw[aFw];exact fuel_lt BP) (aEd q) 20 (qY f m q n 0)]
 ·rw[hK];cases((numsOf f).zip (numsOf m)).any (aEd q)<;>rfl
 ·intro k i h;have z:i<7:=by rw[aFw]at h;exact h
  have e1:BF [f.User,f.Message,f.State,f.fP,f.jU,f.nH,f.gZ] (i:Int)=some ((numsOf f)[i]'(z)):=D9 (l:=numsOf f) z;have e2:BF [m.User,m.Message,m.State,m.fP,m.jU,m.nH,m.gZ] (i:Int)=some ((numsOf m)[i]'(z)):=D9 (l:=numsOf m) z;unfold s0;rw[show decide ((i:Int)<7)=true by simp;omega,e1,e2];simp only[Ba,Aa];rw[aDk,List.getElem_zip];rfl
 intro k;unfold s0;rw[aFw,show decide (((7:Nat):Int)<7)=false from rfl];rfl
def aF3 (e:AO) (l:List AO) (now:Int):Int:=
 bif !(KC l e.bg==3)then 18 else
 bif e.Content.N==1&&decide (ES (Ew l) e.bg<(Ew l).fP)then 20 else
 bif e.Content.N==0&&((now==4&&decide (ES (Ew l) e.bg<(Ew l).nH))||decide (ES (Ew l) e.bg<(Ew l).jU)||decide (ES (Ew l) e.Key≥ES (Ew l) e.bg))then 20 else
 bif e.Content.N==4&&(decide (ES (Ew l) e.bg<(Ew l).nH)||decide (ES (Ew l) e.Key≥ES (Ew l) e.bg))then 20 else 0
def aBa (e:AO) (l:List AO):Int:=
 bif og e l then 0 else
 bif decide (e.Key=e.bg)&&KC l e.Key==4 then 19 else
 bif !moveB (KC l e.Key) e.Content.N (decide (e.Key=e.bg))then 18 else
 bif decide (e.Key=e.bg)then aD3 e.Content.N (KC l e.Key) l else aF3 e l (KC l e.Key)
def aCI (e:AO) (l:List AO):Int:=
 bif decide (ES (Ew l) e.bg<bP (Ew l) e.Kind)then 20 else bif e.Kind==3 then aCE (Ew l) e.Content.Levels e.bg else 0
def afc (s:ByteArray):ByteArray:=(splitB s (J7 s)).2.1
def OV (e:AO) (l:List AO):Int:=
 bif e.Kind==1 then(bif !(MJ l).2&&(afc e.bg).toList==(afc e.Room).toList then 0 else 17)else
 bif !(MJ l).2 then 17 else bif e.Kind==2 then aBa e l else bif !(KC l e.bg==3)then 18 else aCI e l
def ap0 {l:List AO} (h:EK l):aAT (Ew l):=⟨(xH h).1,(xH h).2⟩
def H8.levels {e:AO} (h:H8 e):aAT e.Content.Levels:=⟨h.users,h.kinds⟩
def ahG (e:AO) (l:List AO) (j:l.length≤1000) (h:EK l) (m:H8 e):zL e l=some (aCI e l):=by
 have f:=ap0 h;have n:=f.users;have q:=f.kinds;unfold zL aCI;rw[aBH l j h];simp only[Aa];rw[Xc _ _ AA,aDc _ _ AA];simp only[Aa];rw[amb _ _ _ f m.levels];cases decide (ES (Ew l) e.bg<bP (Ew l) e.Kind)<;>cases e.Kind==3<;>rfl
def Yj (x:Int):Except Value Unit:=.error (.iface 150 (.agg #[.int .i64 x]))
def aIl (x:Int):Xk x=some (Yj x):=rfl
def aAz (b:Bool) (x:Int):Nb b x=some (bif b then .ok ()else Yj x):=by cases b<;>rfl
def aCT (b:Bool) (x:Int) (f:Unit→Option (Except Value Unit)):Ia (bif b then .ok ()else Yj x) f=bif b then f ()else some (Yj x):=by cases b<;>rfl
def aIj (x:Int) (f:Unit→Option (Except Value Unit)):Ia (Yj x) f=some (Yj x):=rfl
def ap1 (a b:Int):decide (a≥b)= !decide (a<b):=by by_cases h:a<b<;>simp[h]<;>omega
def afs (e:AO) (l:List AO) (now:Int) (f:l.length≤1000) (j:EK l):(YX l e now).bind Q8=some (aF3 e l now):=by
 have u:=(xH j).1;unfold YX aF3;rw[aGY l _ f,aBH l f j];simp only[Aa];rw[Xc _ _ AA,Xc _ _ AA];simp only[aAz,Aa,aCT,ap1]
 have z:decide (ES (Ew l) e.Key<ES (Ew l) e.bg)= !decide (ES (Ew l) e.bg≤ES (Ew l) e.Key):=by
  by_cases h:ES (Ew l) e.Key<ES (Ew l) e.bg<;>simp[h]<;>omega
 have s:(now != 4)= !(now==4):=rfl;rw[s];generalize decide (ES (Ew l) e.Key<ES (Ew l) e.bg)=t;generalize decide (ES (Ew l) e.bg<(Ew l).fP)=i;generalize decide (ES (Ew l) e.bg<(Ew l).nH)=b;generalize decide (ES (Ew l) e.bg<(Ew l).jU)=k;generalize(now==4)=n;cases KC l e.bg==3 with
 |false=>rfl
 |true=>
  by_cases m:e.Content.N=1
  ·rw[m];cases i<;>rfl
  rw[show(e.Content.N==1)=false by simpa using m];by_cases q:e.Content.N=0
  ·rw[q];cases n<;>cases b<;>cases k<;>cases t<;>rfl
  rw[show(e.Content.N==0)=false by simpa using q];cases e.Content.N==4<;>cases b<;>cases t<;>rfl
def asA (e:AO) (l:List AO) (f:l.length≤1000) (j:EK l):aAM e l=some (aBa e l):=by
 unfold aAM aBa;rw[apJ e l f];simp only[Aa];cases og e l with
 |true=>rfl
 |false=>
  simp only[BK]
  have n:∀o:Option (Except Value Unit),(o.bind fun q=>(Q8 q).bind fun u=>some u)=o.bind Q8:=fun o=>by
   cases o with
   |none=>rfl
   |some x=>cases h:Q8 x<;>simp[h]
  rw[n];have m:=afs e l (KC l e.Key) f j;unfold aEb;rw[aGY l _ f,Np];simp only[Aa];rw[arh,amP _ _ _ f j];simp only[Aa,aAz,aIl,aCT,aIj,J6];have z:(KC l e.Key != 4)= !(KC l e.Key==4):=rfl;rw[z];generalize YX l e (KC l e.Key)=J at m;generalize decide (e.Key=e.bg)=s;cases s with
  |true=>
   cases KC l e.Key==4 with
   |true=>rfl
   |false=>cases moveB (KC l e.Key) e.Content.N true<;>rfl
  |false=>
   cases moveB (KC l e.Key) e.Content.N false with
   |false=>rfl
   |true=>exact m
def wI (e:AO) (l:List AO) (f:l.length≤1000) (m:EK l) (j:H8 e):VO e l=some (OV e l):=by
 have z:=j.sender;have I:=j.room;unfold VO OV
 have n:∀o:Option (Except Value Unit),(o.bind fun q=>(Q8 q).bind fun u=>some u)=o.bind Q8:=fun o=>by
  cases o with
  |none=>rfl
  |some x=>cases h:Q8 x<;>simp[h]
 rw[n];unfold aB1 aAV sQ pW;rw[aec l f,(Rch (s:=e.bg) AA).1,(Rch (s:=e.Room) AA).1,aGY l _ f,ahG e l f m j,asA e l f m];simp only[Aa,aAz,aIl,aCT,aIj];show _=some (bif e.Kind==1 then(bif !(MJ l).2&&(splitB e.bg (J7 e.bg)).2.1.toList==(splitB e.Room (J7 e.Room)).2.1.toList then 0 else 17)else _);cases e.Kind==1 with
 |true=>
  cases(MJ l).2 with
  |true=>rfl
  |false=>cases(splitB e.bg (J7 e.bg)).2.1.toList==(splitB e.Room (J7 e.Room)).2.1.toList<;>rfl
 |false=>
  cases(MJ l).2 with
  |false=>rfl
  |true=>
   cases e.Kind==2 with
   |true=>rfl
   |false=>cases KC l e.bg==3<;>rfl
def rD (named:List AO) (k:Ak):AO×Bool:=match named.find? (Ec k)with |some x=>(x,true)|none=>(FK,false)
def fM (l:List AO) (s:List Ak) (e:AO) (k:Ak):AO×Bool:=bif (H7 s k.Kind k.Key).2 then IB l (H7 s k.Kind k.Key).1 else rD (ofIds l e.dh) k
def VR (l:List AO) (s:List Ak) (e:AO) (k:Ak):List AO:=bif (fM l s e k).2 then[(fM l s e k).1]else[]
def Vw (l:List AO) (s:List Ak) (e:AO):List AO:=(keysOf e).flatMap (VR l s e)
def adf (l:List AO) (s:List Ak) (e:AO) (k:Ak):(VR l s e k).length≤1:=by
 unfold VR;cases(fM l s e k).2<;>simp
def aok (l:List AO) (s:List Ak) (e:AO):(Vw l s e).length≤5:=by
 have h:=flat_length (f:=VR l s e) (n:=1) (adf l s e) (keysOf e);have j:=Zu e;unfold Vw;omega
def akv {l:List AO} {s:List Ak} {e x:AO} (h:x∈Vw l s e):x∈l:=by
 obtain⟨k,_,h⟩:=Qn.1 h;unfold VR fM rD at h;cases m:(H7 s k.Kind k.Key).2 with
 |true=>
  rw[m]at h;simp only[Ba]at h;cases f:E9 l (H7 s k.Kind k.Key).1 with
  |none=>rw[Qi f]at h;exact absurd h FH
  |some y=>rw[NU f]at h;rw[Gi.1 h];exact Ll f
 |false=>
  rw[m]at h;simp only[BK]at h;cases j:(ofIds l e.dh).find? (Ec k)with
  |none=>rw[j]at h;exact absurd h FH
  |some y=>rw[j]at h;rw[Gi.1 h];exact aD6 (PO j)
def EK.base {l:List AO} (h:EK l) (s:List Ak) (e:AO):EK (Vw l s e):=fun x f=>h x (akv f)
def arD (named:List AO) (k:Ak) (f:named.length≤1000):qp named k=some (rD named k):=by
 unfold qp;rw[aDw named AA (fun a0=>fO a0 k) (Ec k) fun e=>by unfold fO Ec;rw[Np];cases e.Kind==k.Kind<;>rfl];exact found_eq named (Ec k) rfl
def ahP (l:List AO) (s:List Ak) (e:AO) (j:l.length≤1000) (q:e.dh.length≤40) (m:Gl s) (f:s.length≤1000000):tX l s e=some (Vw l s e):=by
 unfold tX;have u:=aAY l e.dh;have z:=Zu e;have n:Gy 376 FK 0 5=some []:=by unfold Gy;rw[CG vO];rfl
 rw[alM l _ j AA,n,ad6];simp only[Aa];unfold acA;rw[LP (keysOf e) AA (fun r k=>r++VR l s e k) (fun i r=>r.length≤i) (fun r=>some r) (Dn _)]
 ·rw[foldl_append (VR l s e),IC];rfl
 ·intro k r i h I;have J:=adf l s e (keysOf e)[i];refine⟨Jq,?_⟩;unfold aEl sG wB;rw[D5 h,arD _ _ AA,aF7 s _ _ f m];simp only[Aa];rw[La l _ AA,ET Gz];simp only[Aa];rw[ET Gz];unfold VR fM;cases(H7 s (keysOf e)[i].Kind (keysOf e)[i].Key).2 with
  |true=>
   simp only[Ba];cases(IB l (H7 s (keysOf e)[i].Kind (keysOf e)[i].Key).1).2 with
   |true=>rfl
   |false=>simp
  |false=>
   simp only[BK];cases(rD (ofIds l e.dh) (keysOf e)[i]).2 with
   |true=>rfl
   |false=>simp
 intro k r _;unfold aEl;rw[E8]
def Wn (l:List AO) (s:List Ak) (id:Int):Bool:=dM l id&&(Gn (ev l id).Kind&&OV (ev l id) (Vw l s (ev l id))==0)
def Qm (l:List AO) (s:List Ak) (id:Int):List Ak:=bif Wn l s id then Fr s (ev l id).Kind (ev l id).Key (ev l id).Id else s
def TP (l:List AO) (s:List Ak) (ids:List Int):List Ak:=ids.foldl (Qm l) s
def aJE {l:List AO} {s:List Ak} (h:Gl s) (id:Int):Gl (Qm l s id):=by
 unfold Qm;cases Wn l s id with
 |true=>exact U6 h _ _ _
 |false=>exact h
def aB3 {l:List AO}:∀{ids:List Int} {s:List Ak},Gl s→Gl (TP l s ids)
 | [],_,h=>h
 |id::ids,s,h=>aB3 (ids:=ids) (aJE h id)
def aHs (l:List AO) (s:List Ak) (id:Int):(Qm l s id).length≤s.length+1:=by
 unfold Qm;cases Wn l s id with
 |true=>exact Rz _ _ _ _
 |false=>exact Nat.le_succ _
def aEG (l:List AO):∀(ids:List Int) (s:List Ak),(TP l s ids).length≤s.length+ids.length
 | [],s=>Dn _
 |id::ids,s=>by
  have f:=aEG l ids (Qm l s id);have h:=aHs l s id;show(TP l (Qm l s id) ids).length≤_;rw[FQ];omega
def aqY {l:List AO} (f:EK l) {id:Int} (h:dM l id=true):H8 (ev l id):=f _ (Ll (N8 h).1)
def alL (l:List AO) (s:List Ak) (id:Int) (I:l.length≤1000) (q:EK l) (m:Gl s) (h:s.length≤1000000):sZ l s id=some (Qm l s id):=by
 unfold sZ aDe jV Qm Wn;have f:yA s (.error (.iface 317 (.agg #[])):Except Value (List Ak))=some s:=rfl;rw[La l _ AA];simp only[Aa];rw[Ux];cases u:(E9 l id).isSome with
 |false=>rw[show dM l id=false from u];exact f
 |true=>
  have j:dM l id=true:=u;have z:=aqY q j;have n:(IB l id).1=ev l id:=rfl;rw[j,n,acL];simp only[Aa,EF,BK,FC];cases Gn (ev l id).Kind with
  |false=>exact f
  |true=>
   have J:=aok l s (ev l id);rw[ahP l s _ I z.auth m h];simp only[Aa,EF,BK,FC];rw[wI _ _ AA (q.base s _) z];simp only[Aa];rw[Vf s _ _ _ h];unfold bne;cases OV (ev l id) (Vw l s (ev l id))==0 with
   |true=>rfl
   |false=>exact f
def aIg (l:List AO) (s:List Ak) (ids:List Int) (m:l.length≤1000) (n:EK l) (f:Gl s) (q:s.length+ids.length≤1000000):W9 l s ids=some (TP l s ids):=by
 unfold W9 aAS;rw[ET XQ];simp only[Aa,IC];unfold aIu;rw[LP ids AA (Qm l) (fun i r=>Gl r∧r.length≤s.length+i) (fun r=>some r) ⟨f,Dn _⟩]
 ·rfl
 ·intro k r i h j;have u:=aHs l r ids[i];refine⟨⟨aJE j.1 _,AA⟩,?_⟩;unfold aCF;rw[D5 h,alL l r _ m n j.1 AA];rfl
 intro k r _;unfold aCF;rw[E8]
def Nq (l:List AO) (f:List (List Ak)):List Int:=aB l (Jy l f)
def Qp (l:List AO) (f:List (List Ak)):List Int:=PU l (Ky l (Nq l f)).length (Ky l (Nq l f))
def Kq (l:List AO) (f:List (List Ak)):List Ak:=TP l (J4 f) (Qp l f)
def ZI (l:List AO) (f:List (List Ak)):List Int:=bif (H7 (Kq l f) 3 BL).2 then uU l (H7 (Kq l f) 3 BL).1 else[]
def QX (l:List AO) (f:List (List Ak)):List Int:=XT l (ZI l f) (Ql (Jy l f) (Nq l f))
def aAF (s a:List Ak):List Ak:=a.foldl (fun s x=>Fr s x.Kind x.Key x.Id) s
def lastOf (l:List AO) (f:List (List Ak)):List Ak:=aAF (TP l (Kq l f) (QX l f)) (J4 f)
structure KH (l:List AO) (sts:List (List Ak)):Prop where
 len:l.length≤100
 small:EK l
 states:OH sts
def ru {l:List AO} {f:List (List Ak)} (h:KH l f):(Jy l f).length≤40000:=by
 have u:=h.len;have z:=aDM h.states;have I:=Q9 (SB f);have j:=aFT l f [] fun s m=>(h.states.2 s m).1;have n:=h.states.1;have q:=Jk (fun x=>decide (KZ l f x<f.length)) (allOf l f);have J:f.length*(100+l.length)≤100*200:=aGa n AA;have L:=aB5 (El (SB f)) (QM l f)
 have M:(QM l f).length≤20000:=by
  unfold QM;unfold allOf at q ⊢;simp only[Nu]at j;omega
 unfold Jy;omega
def ap4 {l:List AO} {f:List (List Ak)} (h:KH l f):(Mc l (Jy l f)).length≤40000:=E5 (Jk _ _) (ru h)
def aa6 {l:List AO} {f:List (List Ak)} (h:KH l f):(Qp l f).length≤100:=by
 have m:=aIm l (Ky l (Nq l f)).length (Ky l (Nq l f));have n:(Ky l (Nq l f)).length≤l.length:=wW (aDn _ _) fun x j=>(ZF.1 j).2;have q:=h.len;unfold Qp;omega
def adv {l:List AO} {f:List (List Ak)} (h:KH l f):(Kq l f).length≤200:=by
 have j:=aEG l (Qp l f) (J4 f);have m:=aa6 h;have n:=su h.states;unfold Kq;omega
def aGl {l:List AO} {f:List (List Ak)} (h:KH l f):Gl (Kq l f):=aB3 (aHP h.states)
def apY {l:List AO} {f:List (List Ak)} (h:KH l f):(ZI l f).length≤100:=by
 have j:=ah0 l (H7 (Kq l f) 3 BL).1;have m:=h.len;unfold ZI;cases(H7 (Kq l f) 3 BL).2 with
 |true=>simp only[Ba];omega
 |false=>exact Dx _
def ano {l:List AO} {f:List (List Ak)} (h:KH l f):(QX l f).length≤40000:=by
 have j:=agF l (ZI l f) (Ql (Jy l f) (Nq l f));have m:=aev (Jy l f) (Nq l f);have n:=ru h;unfold QX;omega
def ag2 {l:List AO} {f:List (List Ak)} (h:KH l f):mF (Jy l f) (Nq l f) l (Kq l f,Qp l f) (J4 f,El (SB f)) (ZI l f)=some ⟨lastOf l f,Qp l f,QX l f⟩:=by
 have n:=h.len;have q:=ru h;have u:=acY l (Jy l f);have z:=apY h;have I:=aev (Jy l f) (Nq l f);have J:=adv h;have L:=ano h;have M:=su h.states;unfold mF aFL aET;rw[afv _ _ AA (by unfold Nq;omega)];simp only[Aa];rw[aiy l _ _ AA h.small AA AA (YO (at6 _ _))];simp only[Aa];show((W9 l (Kq l f) (QX l f)).bind _).bind _=_;rw[aIg l _ _ AA h.small (aGl h) AA];simp only[Aa];unfold aaR;have O:=aEG l (QX l f) (Kq l f);show aX _ Ar 0 (⟨TP l (Kq l f) (QX l f),Qp l f,QX l f⟩:LG)=_;rw[aCJ (J4 f) AA (fun v x=>({ v with zS:=Fr v.zS x.Kind x.Key x.Id }:LG)) (fun i v=>v.zS.length≤(TP l (Kq l f) (QX l f)).length+i) (fun v=>some v) (Dn _)]
 ·congr 1;unfold lastOf aAF
  have key:∀(a:List Ak) (v:LG),a.foldl (fun v x=>({ v with zS:=Fr v.zS x.Kind x.Key x.Id }:LG)) v=⟨a.foldl (fun s x=>Fr s x.Kind x.Key x.Id) v.zS,v.Xj,v.ail⟩:=by
   intro a
   induction a with
   |nil=>intro v;rfl
   |cons x a j=>intro v;rw[GI,j];rfl
  rw[key]
 ·intro k v i hi S;have m:=Rz v.zS (J4 f)[i].Kind (J4 f)[i].Key (J4 f)[i].Id;refine⟨by show(Fr _ _ _ _).length≤_;omega,?_⟩;unfold aBj;rw[D5 hi,Vf _ _ _ _ AA];rfl
 intro k v _;unfold aBj;rw[E8]
def am8 {l:List AO} {f:List (List Ak)} (h:KH l f):vk l f=some ⟨lastOf l f,Qp l f,QX l f⟩:=by
 have n:=h.len;have q:=ru h;have s:=acY l (Jy l f);have u:=ap4 h;have z:=adv h;have I:=aa6 h;have J:=su h.states;have j:=ag2 h;unfold vk;rw[aaA f h.states,asz l f AA h.small.al9 h.states];simp only[Aa];rw[aix l _ AA h.small AA AA];simp only[Aa];unfold aCM aGX;rw[ajJ l _ AA h.small AA];simp only[Aa];have ha:W9 l (J4 f) (Qp l f)=some (Kq l f):=aIg l _ _ AA h.small (aHP h.states) AA;unfold Qp Nq at ha;rw[ha];simp only[Aa];rw[aF7 _ _ _ AA (aGl h)];simp only[Aa];rw[anz l _ AA h.small];unfold ZI at j;cases m:(H7 (Kq l f) 3 BL).2 with
 |true=>rw[m]at j;exact j
 |false=>rw[m]at j;exact j
def nV (l:List AO) (f:List (List Ak)):List Ak:=match f with
 | []=>[]
 | [s]=>s
 |_=>lastOf l f
def aeQ {l:List AO} {f:List (List Ak)} (h:KH l f):bU l f=some (nV l f):=by
 match f,h with
 | [],_=>rfl
 | [s],h=>
   have u:=(h.states.2 s (Fa ..)).1;have j:BF [s] 0=some s:=rfl;show((BF [s] 0).bind fun m=>(Ci 32 [] m).bind fun n=>some n)=some s;rw[j];simp only[Aa];rw[ET XQ];rfl
 |s::t::f,h=>
  unfold bU;have j:(((s::t::f).length:Int)==0)=false:=by simp only[FQ];simp;omega
  have q:(((s::t::f).length:Int)==1)=false:=by simp only[FQ];simp;omega
  rw[j,q,am8 h];rfl
def KH.of {l:List AO} {f:List (List Ak)} (j:l.length≤14∧EK l) (h:f.length≤100∧∀s∈f,s.length≤20∧Gl s):KH l f:=
 ⟨by have :=j.1;omega,j.2,⟨h.1,fun s m=>⟨by have :=(h.2 s m).1;omega,(h.2 s m).2⟩⟩⟩
def abp {x:Ak}:∀(a s:List Ak),x∈aAF s a→x∈a∨x∈s
 | [],_,h=>.inr h
 |y::a,s,h=>by
  rcases abp a _ h with h|h
  ·exact .inl (Gq _ h)
  rcases QU h with h|h
  ·left;rw[h];cases y;exact Fa ..
  exact .inr h
def abU (l:List AO) (ids:List Int) (x:Ak):Prop:=∃id∈ids,dM l id=true∧Gn (ev l id).Kind=true∧x=⟨(ev l id).Kind,(ev l id).Key,(ev l id).Id⟩
def aFK {l:List AO} {x:Ak}:∀(ids:List Int) (s:List Ak),x∈TP l s ids→x∈s∨abU l ids x
 | [],_,h=>.inl h
 |id::ids,s,h=>by
  rcases aFK ids _ h with h|⟨j,n,h⟩
  ·have f:x∈bif Wn l s id then Fr s (ev l id).Kind (ev l id).Key (ev l id).Id else s:=h
   cases m:Wn l s id with
   |false=>rw[m]at f;exact .inl f
   |true=>
    rw[m]at f;rcases QU f with f|f
    ·unfold Wn at m;simp only[Bv]at m;exact .inr ⟨id,Fa ..,m.1,m.2.1,f⟩
    exact .inl f
  exact .inr ⟨j,Gq _ n,h⟩
def ajl {l:List AO} {f:List (List Ak)} {x:Int} (h:x∈Nq l f):x∈Jy l f:=(aai.1 h).1
def aJt {l:List AO} {f:List (List Ak)} {x:Ak} (h:x∈lastOf l f):x∈J4 f∨abU l (Jy l f) x:=by
 unfold lastOf at h;rcases abp _ _ h with h|h
 ·exact .inl h
 rcases aFK _ _ h with h|⟨j,m,h⟩
 ·unfold Kq at h;rcases aFK _ _ h with h|⟨j,m,h⟩
  ·exact .inl h
  exact .inr ⟨j,ajl (ZF.1 (abr _ _ _ m)).1,h⟩
 exact .inr ⟨j,(aie.1 (ajo.1 m).1).1,h⟩
def aaP :∀(a s:List Ak),Gl s→Gl (aAF s a)
 | [],_,h=>h
 |x::a,s,h=>aaP a _ (U6 h x.Kind x.Key x.Id)
def akk {l:List AO} {f:List (List Ak)} (h:KH l f):Gl (lastOf l f):=aaP _ _ (aB3 (aGl h))
structure G8 (l:List AO) (s:List Ak):Prop where
 sorted:Gl s
 named:∀x∈s,dM l x.Id=true∧Gn x.Kind=true∧(ev l x.Id).Kind=x.Kind∧(ev l x.Id).Key=x.Key
def G8.nil (l:List AO):G8 l []:=⟨List.Pairwise.nil,fun _ h=>absurd h FH⟩
def G8.nodup {l:List AO} {s:List Ak} (h:G8 l s):(s.map (·.Id)).Nodup:=by
 rw[uJ,List.pairwise_map];refine List.Pairwise.imp_of_mem ?_ h.sorted;intro a b ha j f e;obtain⟨_,_,m,k2⟩:=h.named a ha;obtain⟨_,_,n,q⟩:=h.named b j;have u:a.Kind=b.Kind:=by rw[←m,←n,e]
 have z:a.Key=b.Key:=by rw[←k2,←q,e]
 rw[mV (TV.2 ⟨u,z⟩)]at f;cases f
def G8.length {l:List AO} {s:List Ak} (h:G8 l s):s.length≤l.length:=by
 have :Ro l (s.map (·.Id)):=⟨h.nodup,fun x f=>by
  obtain⟨y,j,rfl⟩:=FM.1 f
  exact(h.named y j).1⟩
 have :=this.length
 rwa [CB]at this
def G8.okay {l:List AO} {f:List (List Ak)} (j:l.length≤100) (n:EK l) (q:f.length≤100) (h:∀s∈f,G8 l s):KH l f:=
 ⟨j,n,q,fun s m=>⟨E5 (h s m).length j,(h s m).sorted⟩⟩
def G8.resolve {l:List AO} {f:List (List Ak)} (j:KH l f) (h:∀s∈f,G8 l s):G8 l (nV l f):=by
 match f,j,h with
 | [],_,_=>exact .nil l
 | [s],_,h=>exact h s (Fa ..)
 |s::t::f,j,h=>
  refine⟨akk j,fun x u=>?_⟩;rcases aJt u with z|⟨id,_,q,hst,m⟩
  ·exact(h s (Fa ..)).named x ((aaq j.states (List.cons_ne_nil _ _)).1 z s (Fa ..))
  have n:=N8 q;have I:x.Id=id:=by rw[m];exact n.2
  rw[I];exact⟨q,by rw[m];exact hst,by rw[m],by rw[m]⟩
def G8.set {l:List AO} {s:List Ak} (h:G8 l s) {e:AO} (m:dM l e.Id=true) (j:ev l e.Id=e) (hst:Gn e.Kind=true):G8 l (Fr s e.Kind e.Key e.Id):=
 ⟨U6 h.sorted _ _ _,fun x f=>by
  rcases QU f with rfl|f
  ·exact⟨m,hst,by rw[j],by rw[j]⟩
  exact h.named x f⟩
def Tq (l:List AO) (e:AO):Bool:=e.bY.all (dM l)&&e.dh.all (dM l)
def eS (l:List AO):Bool:=l.all (Tq l)
def kH {α:Type} {l:List α} {p:α→Bool} {x:α} (h:x∈l) (f:p x=false):l.all p=false:=by
 rw[←IX,DV];exact fun j=>by rw[j x h]at f;cases f
def all_good {α:Type} {l:List α} {p:α→Bool} (h:∀j,(hj:j<l.length)→p l[j]=true):l.all p=true:=DV.2 (as2 h)
def aI5 (f:List Int) (l:List AO) (m:List (Int×Int)) (h:Vm l m) (j:f.length≤1000):kM f m=some (f.all (dM l)):=by
 unfold kM ad5;rw[I5 f (fuel_lt AA) (fun x=> !dM l x) false (some true)]
 ·rw[List.all_eq_not_any_not];cases(f.any fun x=> !dM l x)<;>rfl
 ·intro k i hi;unfold aCZ;rw[D5 hi,h.isSome]
 intro k;unfold aCZ;rw[E8]
def ahL (l:List AO) (I:l.length≤100) (J:EK l):qB l=some (eS l):=by
 refine gW.eq ?_;unfold qB;refine(gq l AA).bind fun m s=>?_;unfold abz;refine Xf (body:=aF4 l) (Q:=fun b=>b=eS l) (fun n a b=>∃i:Nat,a=i∧i+n=l.length∧b=m∧∀j,(f:j<i)→(I:j<l.length)→Tq l l[j]=true) ?_ Ar l.length 0 m (fuel_lt AA) ⟨0,rfl,AA,rfl,fun j f=>AA⟩;rintro n a b k ⟨i,rfl,M,rfl,u⟩ L;unfold aF4;by_cases hi:i<l.length
 ·have z:=J l[i] (EU hi);have O:=z.prev;have S:=z.auth;rw[D5 hi,aI5 _ l b s AA,Aa,D9 hi,Aa,aI5 _ l b s AA];cases h:l[i].bY.all (dM l)with
  |false=>exact .ret (kH (EU hi) (by unfold Tq;rw[h];rfl)).symm
  |true=>
   cases ha:l[i].dh.all (dM l)with
   |false=>exact .ret (kH (EU hi) (by unfold Tq;rw[h,ha];rfl)).symm
   |true=>
    refine L (n-1) _ _ AA ⟨i+1,wrap_succ i AA,AA,rfl,fun j f q=>?_⟩;by_cases e:j=i
    ·subst e;unfold Tq;rw[h,ha];rfl
    exact u j AA q
 have :i=l.length:=AA
 subst this;rw[E8];exact .ret (all_good fun j f=>u j f f).symm
def wU (l:List AO):Prop:=∀e∈l,1≤e.Depth∧e.Depth≤100000
def Ie (l:List AO) (x:Int):Int:=(IB l x).1.Depth
def V4 (l:List AO) (e:AO):Bool:=e.dh.all (fun x=>decide (Ie l x<e.Depth))&&bif (e.bY.length:Int)==0 then e.Depth==1 else e.bY.all (fun x=>decide (Ie l x<e.Depth))&&e.bY.any fun x=>Ie l x==e.Depth-1
def MK (l:List AO):Int:=bif eS l then bif l.all (V4 l)then 0 else 15 else 14
def aal {l:List AO} (h:wU l) (x:Int):0≤Ie l x∧Ie l x≤100000:=by
 unfold Ie IB;cases f:E9 l x with
 |none=>exact⟨Int.le_refl 0,BP⟩
 |some e=>have :=h e (Ll f);exact⟨by show 0≤e.Depth;omega,this.2⟩
def aga (a b:Int):decide (a≥b)= !decide (a<b):=by by_cases h:a<b<;>simp[h];omega
def aJp {α:Type} (l:List α) (p:α→Bool):l.any (fun x=> !p x)= !l.all p:=by rw[List.all_eq_not_any_not,Bool.not_not]
def aEg {l:List AO} {m:List (Int×Int)} (h:Vm l m) {x:Int} (f:dM l x=true):∃e,BF l ((Bg m x).getD 0)=some e∧e.Depth=Ie l x:=⟨_,h.get (N8 f).1,rfl⟩
def akV (p:List Int) (f:Int→Int) (d a:Int) (j:∃y∈p,f y=a) (ha:∀y∈p,f y≤a):(p.all (fun x=>decide (f x<d))&&p.any fun x=>f x==d-1)=bif decide (d>a)then d-a==1 else false:=by
 obtain⟨y,j,e⟩:=j;by_cases h:d>a
 ·have q:p.all (fun x=>decide (f x<d))=true:=DV.2 fun x m=>by have :=ha x m;simp;omega
  rw[q,FC,I4 h,Ba,Y0,GV];constructor
  ·rintro⟨x,m,n⟩;have :=ha x m;have :=eq_of_beq n;simp;omega
  intro n;have :=eq_of_beq n;exact⟨y,j,Dp⟩
 rw[HY h,BK,kH j Dp];rfl
def ajj (l:List AO) (m:List (Int×Int)) (e:AO) (J:Vm l m) (O:H8 e) (s:Tq l e=true) (hd:wU l) (S:1≤e.Depth∧e.Depth≤100000):pq l m e=some (V4 l e,m):=by
 have h1:=O.prev;have h2:=O.auth;unfold Tq at s;simp only[Bv,DV]at s;unfold pq aIX;rw[I5 e.dh (fuel_lt AA) (fun x=> !decide (Ie l x<e.Depth)) (false,m) (some ((bif (e.bY.length:Int)==0 then e.Depth==1 else e.bY.all (fun x=>decide (Ie l x<e.Depth))&&e.bY.any fun x=>Ie l x==e.Depth-1),m))]
 ·rw[aJp];unfold V4;cases e.dh.all (fun x=>decide (Ie l x<e.Depth))<;>rfl
 ·intro k i hi;unfold aDW;obtain⟨x,L,j⟩:=aEg J (s.2 _ (EU hi));rw[D5 hi,L,Aa,aga,j]
 intro k;unfold aDW;rw[E8];cases n:((e.bY.length:Int)==0)with
 |true=>rfl
 |false=>
  have M:0<e.bY.length:=by
   rcases Xr e.bY.length with h|h
   ·rw[h]at n;cases n
   exact h
  obtain⟨x,L,j⟩:=aEg J (s.1 _ (EU M));have U:BF e.bY 0=some e.bY[0]:=D9 (i:=0) M;rw[BK,BK,U,Aa,L,Aa,j];unfold acE;refine gW.eq (Vr e.bY.length (fuel_lt AA) (fun i a=>(0≤a∧a≤100000)∧(∃y∈e.bY,Ie l y=a)∧∀y∈e.bY.take i,Ie l y≤a) ⟨aal hd _,⟨_,EU M,rfl⟩,fun y u=>by simp at u⟩ (fun i a k2 hi ha Y=>?_) fun a k2 ha=>?_)
  ·unfold aFp;obtain⟨y,u,q⟩:=aEg J (s.1 _ (EU hi));have Z:=aal hd e.bY[i];rw[D5 hi,u,Aa,wrap_succ i AA,q]
   have I:TM a (Ie l e.bY[i])=a∧Ie l e.bY[i]≤a∨TM a (Ie l e.bY[i])=Ie l e.bY[i]∧a≤Ie l e.bY[i]:=by
    unfold TM;by_cases h:Ie l e.bY[i]>a
    ·rw[I4 h];exact .inr ⟨rfl,AA⟩
    rw[HY h];exact .inl ⟨rfl,AA⟩
   refine Y _ ⟨AA,?_,fun z n=>?_⟩
   ·rcases I with h|h
    ·rw[h.1];exact ha.2.1
    rw[h.1];exact⟨_,EU hi,rfl⟩
   rw[Tt,DX hi,Rj,Fe,Gi]at n;rcases n with n|rfl
   ·have :=ha.2.2 z n;omega
   omega
  obtain⟨Z,⟨y,u,q⟩,f⟩:=ha;rw[Hy]at f;unfold aFp;rw[E8,Nl AA AA,akV e.bY (Ie l) e.Depth a ⟨y,u,q⟩ f];cases decide (e.Depth>a)<;>exact .ret rfl
def aqg (l:List AO) (s:l.length≤100) (u:EK l) (hd:wU l):Fn2 l=some (MK l):=by
 unfold Fn2 MK;rw[ahL l s u,Aa];cases J:eS l with
 |false=>rfl
 |true=>
  have L:∀e∈l,Tq l e=true:=DV.1 J;refine gW.eq ((gq l AA).bind fun m M=>?_);unfold aIx;refine Xf (body:=aCx l) (Q:=fun b=>b=bif l.all (V4 l)then 0 else 15) (fun n a b=>∃i:Nat,a=i∧i+n=l.length∧b=m∧∀j,(h:j<i)→(s:j<l.length)→V4 l l[j]=true) ?_ Ar l.length 0 m (fuel_lt AA) ⟨0,rfl,AA,rfl,fun j h=>AA⟩;rintro n a b k ⟨i,rfl,S,rfl,z⟩ O;unfold aCx;by_cases hi:i<l.length
  ·have f:=EU hi;rw[D5 hi,ajj l b l[i] M (u _ f) (L _ f) hd (hd _ f),Aa];cases I:V4 l l[i]with
   |false=>exact .ret (by rw[kH f I];rfl)
   |true=>
    refine O (n-1) _ _ AA ⟨i+1,wrap_succ i AA,AA,rfl,fun j h q=>?_⟩;by_cases e:j=i
    ·subst e;exact I
    exact z j AA q
  have :i=l.length:=AA
  subst this;rw[E8];exact .ret (by rw[all_good fun j h=>z j h h];rfl)
section
variable {α β R : Type} {lt : α → α → Bool}
def Hr (lt:α→α→Bool) (A:List α) (x:α):List α:=(A.reverse.dropWhile (lt x)).reverse++x::(A.reverse.takeWhile (lt x)).reverse
def aIp {A:List α} {a x:α} (h:lt x a=true):Hr lt (A++[a]) x=Hr lt A x++[a]:=by
 unfold Hr;rw[aBs,List.reverse_singleton,List.singleton_append,aIz h,List.takeWhile_cons_of_pos h,List.reverse_cons,G6];rfl
def abJ {A:List α} {a x:α} (h:lt x a=false):Hr lt (A++[a]) x=A++a::[x]:=by
 have h':¬lt x a=true:=by rw[h];simp
 unfold Hr;rw[aBs,List.reverse_singleton,List.singleton_append,aIK h',List.takeWhile_cons_of_neg h'];simp
def apo (A:List α) (x:α):(Hr lt A x).length=A.length+1:=by
 unfold Hr;have :=BX List.length (je (p:=lt x) (l:=A.reverse));simp only[Dk,List.length_reverse,FQ]at this ⊢;omega
def aHv (A:List α) (x:α):(Hr lt A x).Perm (x::A):=by
 unfold Hr;refine List.perm_middle.trans (List.Perm.cons x ?_);rw[←aBs,je,List.reverse_reverse]
def an5 {lt':β→β→Bool} {f:α→β} (h:∀x a,lt x a=lt' (f x) (f a)) (A:List α) (x:α):(Hr lt A x).map f=Hr lt' (A.map f) (f x):=by
 have e:lt x=lt' (f x)∘f:=funext fun a=>h x a;unfold Hr;have j:(A.map f).reverse=A.reverse.map f:=aEe.symm;rw[j,List.dropWhile_map,List.takeWhile_map,JW,J5,aEe,aEe,e]
def aer {lt':β→β→Bool} {f:α→β} (h:∀x a,lt x a=lt' (f x) (f a)):∀(l A:List α),(l.foldl (Hr lt) A).map f=(l.map f).foldl (Hr lt') (A.map f)
 | [],A=>rfl
 |x::l,A=>by rw[GI,aer h l,J5,GI,an5 h]
def aFe :∀(l A:List α),(l.foldl (Hr lt) A).length=A.length+l.length
 | [],A=>rfl
 |x::l,A=>by rw[GI,aFe l,apo,FQ];omega
def aGq :∀(l A:List α),(l.foldl (Hr lt) A).Perm (A++l)
 | [],A=>by rw[QW];exact .refl _
 |x::l,A=>by
  rw[GI];exact(aGq l (Hr lt A x)).trans (((aHv A x).append_right l).trans (List.perm_middle (l₁:=A) (l₂:=l) (a:=x)).symm)
def adO (A:List α) (x:α) (B:List α):BF (A++x::B) (A.length:Int)=some x:=by rw[rX];simp
def ad3 (A:List α) (a x:α) (B:List α):BF (A++a::x::B) ((A.length+1:Nat):Int)=some x:=by rw[rX];simp
def set_mid (A:List α) (x y:α) (B:List α):(A++x::B).set A.length y=A++y::B:=BG
def ahH (A:List α) (a x y:α) (B:List α):(A++a::x::B).set (A.length+1) y=A++a::y::B:=by
 have :=set_mid (A++[a]) x y B;simpa using this
def bubble {body:(Int→List α→Option R)→Int→List α→Option R} (f:List α→Option R) (N:Nat) (L:∀k x B,(x::B).length=N→body k 0 (x::B)=f (x::B))
 (M:∀k A a x B,(A++a::x::B).length=N→body k ((A.length+1:Nat):Int) (A++a::x::B)=bif lt x a then k (A.length:Int) (A++x::a::B)else f (A++a::x::B)):
 ∀n (A:List α) (x:α) (B:List α),A.length=n→(A++x::B).length=N→∀m,n<m→aX body m (A.length:Int) (A++x::B)=f (Hr lt A x++B):=by
 intro n
 induction n with
 |zero=>
  intro A x B s u m O;obtain⟨m,rfl⟩:∃z,m=z+1:=⟨m-1,AA⟩
  obtain rfl:=Fj s;exact L _ x B u
 |succ n S=>
  intro A x B s u m O;obtain⟨m,rfl⟩:∃z,m=z+1:=⟨m-1,AA⟩
  have h:A≠[]:=fun e=>by subst e;cases s
  obtain⟨A',a,rfl⟩:∃A' a,A=A'++[a]:=⟨A.dropLast,A.getLast h,(List.dropLast_concat_getLast h).symm⟩
  have I:A'.length=n:=MS
  have J:A'++[a]++x::B=A'++a::x::B:=BG
  have j:(A'++a::x::B).length=N:=by rw[←J];exact u
  have U:(A'++[a]).length=A'.length+1:=BG
  rw[J,U];show body (aX body m) _ _=_;rw[M _ A' a x B j];cases q:lt x a with
  |true=>
   rw[Ba,S A' x (a::B) I (by simp at j ⊢;omega) m AA,aIp q];simp
  |false=>rw[BK,abJ q];simp
end
def RD (a b:AO):Bool:=decide (a.Depth<b.Depth)||((a.Depth==b.Depth)&&decide (a.Id<b.Id))
def Rw (l:List AO):List AO:=l.foldl (Hr RD) []
def GH (l:List AO):List Int:=(Rw l).map (·.Id)
def af6 (l:List AO):(Rw l).length=l.length:=by unfold Rw;rw[aFe];simp
def aFj (l:List AO):(Rw l).Perm l:=by have :=aGq (lt:=RD) l [];rwa [IC]at this
def ao7 {α β:Type} {f:β→α→β} {b:β} {l:List α} {i:Nat} (h:i<l.length):(l.take (i+1)).foldl f b=f ((l.take i).foldl f b) l[i]:=by
 rw[Tt,DX h,Rj,cZ];rfl
def map_take {α β:Type} {f:α→β} {l:List α} {i:Nat} (h:i<l.length):(l.take (i+1)).map f=(l.take i).map f++[f l[i]]:=by
 rw[Tt,DX h,Rj,JW];rfl
def bZ (e:AO):Oi:=⟨e.Depth,e.Id⟩
def bI (a b:Oi):Bool:=decide (a.lN<b.lN)||((a.lN==b.lN)&&decide (a.kD<b.kD))
def ana (a x:Oi):(bif decide (a.lN<x.lN)then some true else(bif (a.lN==x.lN)then some (decide (a.kD≤x.kD))else some false).bind fun f=>some f)=some (!bI x a):=by
 unfold bI;by_cases h:a.lN<x.lN
 ·rw[I4 h,Ba,HY AA,show(x.lN==a.lN)=false by simp;omega];rfl
 rw[HY h,BK];by_cases j:a.lN=x.lN
 ·rw[j,HY (show ¬x.lN<x.lN by omega)];simp only[Ws,Ba,Aa,JF,FC];by_cases m:a.kD≤x.kD
  ·rw[I4 m,HY AA];rfl
  rw[HY m,I4 AA];rfl
 rw[show(a.lN==x.lN)=false by simpa using j,I4 (show x.lN<a.lN by omega)];rfl
def apL (l:List AO) (hl:l.length≤1000):aAc l=some (GH l):=by
 have u:Gy 16 aAg 0 (l.length:Int)=some []:=by unfold Gy;rw[CG ⟨Int.le_refl _,AA,AA⟩];rfl
 unfold aAc;rw[u,Aa];unfold acS;refine gW.eq (Vr l.length (fuel_lt AA) (fun i a=>a=((l.take i).map bZ).foldl (Hr bI) []) rfl (fun i a k hi ha I=>?_) fun a k ha=>?_)
 ·have hlen:a.length=i:=by rw[ha,aFe,CB,G5];simp;omega
  unfold aCQ;rw[D5 hi,D9 hi,Aa,ET Gz,Aa];unfold aHA;have J:BD (((a++[(⟨l[i].Depth,l[i].Id⟩:Oi)]).length:Int)-1)=(a.length:Int):=by rw[bf];simp;omega
  rw[J];have L:=bubble (lt:=bI) (body:=cG k (i:Int)) (fun v=>k v ((i+1:Nat):Int)) (i+1) (fun k2 x B m=>?_) (fun k2 A b x B m=>?_) i a (bZ l[i]) [] hlen Dp Ar (fuel_lt AA)
  ·show gW (aX (cG k (i:Int)) Ar (a.length:Int) (a++[bZ l[i]])) _;rw[L,QW];exact I _ (by rw[map_take hi,cZ,ha];rfl)
  ·unfold cG eB;rw[wrap_succ i AA];rfl
  have hA:A.length+2≤i+1:=by rw[←m];simp
  have M:BD (((A.length+1:Nat):Int)-1)=(A.length:Int):=PN
  unfold cG eB;rw[I4 (show((A.length+1:Nat):Int)>0 by omega),Ba,M,adO,Aa,ad3,Aa,ana,Aa,wrap_succ i AA];cases bI x b with
  |false=>rfl
  |true=>
   simp only[EF,BK,Ba,Aa,ug];rw[set_mid,ad3,Aa,ahH]
 unfold aCQ;rw[E8];have e:a=(Rw l).map bZ:=by rw[ha,Hy];exact(aer (lt:=RD) (lt':=bI) (f:=bZ) (fun _ _=>rfl) l []).symm
 have O:a.length=l.length:=by rw[e,CB,af6]
 have S:Gy 8 0 (a.length:Int) (a.length:Int)=some (List.replicate a.length (0:Int)):=by unfold Gy;rw[CG ⟨AA,Int.le_refl _,AA⟩];simp
 have U:GH l=a.map (·.kD):=by rw[e,lu];rfl
 rw[S,Aa,U];unfold aIL;refine bT (body:=aBG a) (Q:=fun r=>r=a.map (·.kD)) (fun n (x:Int) (o:List Int) (p:List Oi)=>∃i:Nat,x=i∧i+n=a.length∧o=(a.take i).map (·.kD)++List.replicate (a.length-i) 0∧p=a) ?_ Ar a.length 0 (List.replicate a.length 0) a (fuel_lt AA) ⟨0,rfl,AA,BG,rfl⟩;rintro n x o p k2 ⟨i,rfl,hn,q,rfl⟩ j;unfold aBG;by_cases hi:i<p.length
 ·have s:((p.take i).map (·.kD)).length=i:=by rw[CB,G5];omega
  obtain⟨z,Y⟩:∃z,p.length-i=z+1:=⟨p.length-i-1,AA⟩
  have h:o=(p.take i).map (·.kD)++0::List.replicate z 0:=by rw[q,Y,List.replicate_succ]
  have Z:BF o (i:Int)=some 0:=by have :=adO ((p.take i).map (·.kD)) 0 (List.replicate z 0);rw[s]at this;rw[h];exact this
  have s2:o.set i p[i].kD=(p.take i).map (·.kD)++p[i].kD::List.replicate z 0:=by have :=set_mid ((p.take i).map (·.kD)) 0 p[i].kD (List.replicate z 0);rw[s]at this;rw[h];exact this
  rw[D5 hi,Z,Aa];refine j (n-1) _ _ _ AA ⟨i+1,wrap_succ i AA,AA,?_,rfl⟩;rw[ug,s2,map_take hi,show p.length-(i+1)=z by omega];simp
 have :i=p.length:=AA
 subst this;rw[E8];exact .ret (by rw[q];simp)
def RI (l:List AO) (x y:Int):Bool:=dM l y&&(y != x&&Dv (ev l y).bY x)
def WM (l:List AO) (ids:List Int):List Int:=(El ids).filter fun x=> !ids.any (RI l x)
def ai0 (ids:List Int) (p:Int→Bool):El (ids.filter p)=(El ids).filter p:=
 ML (LH _) ((LH ids).sublist Qy) fun x=>by rw[KN,Fl,Fl,KN]
def aEI (l:List AO) (ids:List Int):(WM l ids).length≤ids.length:=E5 (Jk _ _) (Q9 ids)
def abm {α:Type} {p:α→Bool} {l:List α} {i:Nat} (h:i<l.length):(l.take (i+1)).filter p=(l.take i).filter p++bif p l[i]then[l[i]]else[]:=by
 rw[Tt,DX h,Rj,Sr];cases f:p l[i]<;>simp[f]
def aCv {α:Type} {p:α→Bool} {l:List α} {i:Nat} (h:i<l.length):(l.take (i+1)).any p=((l.take i).any p||p l[i]):=by
 rw[Tt,DX h,Rj,List.any_append];simp
def agE (l:List AO) (ids:List Int) (hl:l.length≤100) (hs:EK l) (hi0:ids.length≤1000):uj l ids=some (WM l ids):=by
 unfold uj;refine gW.eq ((gq l AA).bind fun m U=>?_);unfold adE;refine bT (body:=aFl ids l) (Q:=fun r=>r=WM l ids) (fun n a b c=>∃i:Nat,a=i∧i+n=ids.length∧b=m∧∀x,(Bg c x).getD false=(ids.take i).any (RI l x)) ?_ Ar ids.length 0 m [] (fuel_lt AA) ⟨0,rfl,AA,rfl,fun x=>rfl⟩;rintro n a b c k ⟨i,rfl,hn,rfl,I⟩ J;unfold aFl;by_cases hi:i<ids.length
 ·have Y:∀M,(∀x,(Bg M x).getD false=((ids.take i).any (RI l x)||RI l x ids[i]))→gW (vH k (i:Int) b M) (fun r=>r=WM l ids):=fun M h8=>J (n-1) _ _ _ AA ⟨i+1,wrap_succ i AA,AA,rfl,fun x=>by rw[h8,aCv hi]⟩;rw[D5 hi,U.isSome];cases f:dM l ids[i]with
  |false=>exact Y c fun x=>by rw[I];unfold RI;rw[f];simp
  |true=>
   obtain⟨Z,_⟩:=N8 f;rw[U.get Z,Aa];have hp:=(hs _ (Ll Z)).prev;simp only[EF,BK];unfold adk;refine bT (body:=aCB (ev l ids[i]) ids[i] k (i:Int)) (Q:=fun r=>r=WM l ids) (fun L a2 b2 c2=>∃j:Nat,a2=j∧j+L=(ev l ids[i]).bY.length∧b2=b∧∀x,(Bg c2 x).getD false=((ids.take i).any (RI l x)||(ids[i] != x&&Dv ((ev l ids[i]).bY.take j) x))) ?_ Ar (ev l ids[i]).bY.length 0 b c (fuel_lt AA) ⟨0,rfl,AA,rfl,fun x=>by rw[I,xM];unfold Dv;simp⟩;rintro L a2 b2 c2 k2 ⟨j,rfl,hn2,rfl,h⟩ q;unfold aCB;by_cases s:j<(ev l ids[i]).bY.length
   ·have u:∀x,Dv ((ev l ids[i]).bY.take (j+1)) x=(Dv ((ev l ids[i]).bY.take j) x||(x==(ev l ids[i]).bY[j])):=fun x=>by
     rw[Y0,XJ,KA,KA,Tt,DX s,Rj,Fe,Gi,QS]
    rw[D5 s];cases z:(ev l ids[i]).bY[j] != ids[i]with
    |true=>
     refine q (L-1) _ _ _ AA ⟨j+1,wrap_succ j AA,AA,rfl,fun x=>?_⟩;rw[O9,u];cases O:x==(ev l ids[i]).bY[j]with
     |true=>
      have e:=eq_of_beq O;subst e;rw[show(ids[i] != (ev l ids[i]).bY[j])=true by rw[bne_comm];exact z];simp
     |false=>rw[BK,h,Ir]
    |false=>
     refine q (L-1) _ _ _ AA ⟨j+1,wrap_succ j AA,AA,rfl,fun x=>?_⟩;rw[u,h];have e:(ev l ids[i]).bY[j]=ids[i]:=XW
     rw[e];cases O:x==ids[i]with
     |false=>simp
     |true=>have e2:=eq_of_beq O;subst e2;simp
   have :j=(ev l ids[i]).bY.length:=AA
   subst this;rw[E8];exact Y _ fun x=>by rw[h,Hy];unfold RI;rw[f];rfl
 have :i=ids.length:=AA
 subst this;rw[E8];unfold aa1;rw[Hy]at I;refine Vr ids.length (fuel_lt AA) (fun i a=>a=(ids.take i).filter fun x=> !ids.any (RI l x)) rfl (fun i a k2 hi ha J=>?_) fun a k2 ha=>?_
 ·have S:a.length≤i:=ab9
  unfold aGN yu;rw[D5 hi,wrap_succ i AA,I];have hf:=abm (p:=fun x=> !ids.any (RI l x)) hi;cases hb:ids.any (RI l ids[i])with
  |true=>exact J _ (by rw[hf,ha,hb];simp)
  |false=>
   simp only[Jg,Ba];rw[ET Gz,Aa];exact J _ (by rw[hf,ha,hb];rfl)
 have S:a.length≤ids.length:=ab9
 unfold aGN;rw[E8,Wi _ AA];exact .ret (by rw[ha,Hy,ai0];rfl)
def fF (x y:AO):Bool:=y.Kind==x.Kind&&decide (y.Key=x.Key)
def Pj (h:List Ak):List AO→List AO→Bool
 |_,[]=>true
 |f,x::xs=>(h.any fun k=>Ec k x)&& !f.any (fF x)&&Pj h (f++[x]) xs
def Yh (x:AO):Bool:=x.Kind==1&&decide (x.Key=BL)
def bJ (l:List AO) (e:AO):Int:=
 bif !e.dh.all (dM l)then 14 else bif !(ofIds l e.dh).all (fun x=>decide (x.Room=e.Room))then 13
 else bif Pj (keysOf e) [] (ofIds l e.dh)&&(e.Kind==1||(ofIds l e.dh).any Yh)then 0 else 16
def Xm {k:Ak} {x:AO}:Ec k x=true↔x.Kind=k.Kind∧x.Key=k.Key:=by unfold Ec;simp
def acw {x y:AO}:fF x y=true↔y.Kind=x.Kind∧y.Key=x.Key:=by unfold fF;simp
def alG {f:List Ak} {X:List AO} {i:Nat} (h:i<X.length):Pj f (X.take i) (X.drop i)=((f.any fun k=>Ec k X[i])&& !(X.take i).any (fF X[i])&&Pj f (X.take (i+1)) (X.drop (i+1))):=by
 rw[NC h,Tt,DX h];rfl
def amX {f:List Ak} (X:List AO):Pj f (X.take X.length) (X.drop X.length)=true:=by rw[Oa];rfl
def aqQ (k:Ak) (e:AO):UH (Gj k) e=some (Ec k e):=by
 unfold UH Ec Gj;cases h:(e.Kind==k.Kind)with
 |false=>rfl
 |true=>show some (e.Key.toList==k.Key.toList)=_;rw[Np,FC]
def afx (f:List Ak) (x:AO) (h:f.length≤100):qU (f.map Gj) x=some (if f.findIdx (fun k=>Ec k x)<f.length then((f.findIdx (fun k=>Ec k x):Nat):Int)else -1):=by
 unfold qU abt
 have m:∀k (i:Nat),i<f.length→aAU (f.map Gj) x k (i:Int)=bif Ec (f.getD i ⟨0,BL,0⟩) x then some (i:Int)else k (BD ((i:Int)+1)):=fun k i hi=>by
  unfold aAU;have j:i<(f.map Gj).length:=aCR
  rw[D5 j,S9];show((UH (Gj f[i]) x).bind _)=_;rw[aqQ,Aa];simp[List.getD,hi]
 rw[PL f (fuel_lt AA) (fun k=>Ec k x) (fun i=>some (i:Int)) (some (-1))]
 ·split<;>rfl
 ·intro k i hi;rw[m k i hi];simp[List.getD,hi]
 intro k;unfold aAU;rw[show((f.map Gj).length:Int)=(f.length:Int) by rw[CB],EG];rfl
def aJe {α:Type} {p:α→Bool}:∀l:List α,l.Pairwise (fun a b=>¬(p a=true∧p b=true))→l.findIdx p<l.length→l.filter (fun x=> !p x)=l.take (l.findIdx p)++l.drop (l.findIdx p+1)
 | [],_,h=>absurd h (Nat.not_lt_zero _)
 |a::l,f,h=>by
  obtain⟨j,m⟩:=Ns.1 f;rw[Rt]at h ⊢;cases ha:p a with
  |true=>
   rw[List.filter_cons_of_neg (by simp[ha]),lY.2 fun b n=>by
    cases q:p b with
    |false=>rfl
    |true=>exact absurd ⟨ha,q⟩ (j b n)]
   rfl
  |false=>
   rw[ha]at h;rw[List.filter_cons_of_pos (by simp[ha]),aJe l m Hf];rfl
def aJC {α:Type} {p:α→Bool}:∀l:List α,decide (l.findIdx p<l.length)=l.any p
 | []=>rfl
 |a::l=>by
  have f:=aJC (p:=p) l;rw[Rt,ni,←f];cases p a<;>simp
def an0 (e:AO):Gl (keysOf e):=by
 have z:Gl (Md e):=U6 (U6 (U6 List.Pairwise.nil _ _ _) _ _ _) _ _ _;unfold keysOf;cases e.Kind==1<;>cases e.Kind==2<;>cases(e.Content.N==3||e.Content.N==1||e.Content.N==2)<;>simp only[Ba,BK]
 ·exact z
 ·exact z
 ·exact U6 z _ _ _
 ·exact U6 (U6 z _ _ _) _ _ _
 all_goals exact List.Pairwise.nil
def ahy {e:AO} {k:Ak} (h:k∈keysOf e) (j:k.Kind=1):k.Key=BL:=by
 have z:∀x∈Md e,x.Kind=1→x.Key=BL:=fun x f n=>by
  unfold Md at f;rcases QU f with rfl|f
  ·cases n
  rcases QU f with rfl|f
  ·cases n
  rcases QU f with rfl|f
  ·rfl
  cases f
 unfold keysOf at h;cases m:e.Kind==1 with
 |true=>rw[m]at h;cases h
 |false=>
  cases q:e.Kind==2 with
  |false=>rw[m,q]at h;exact z k h j
  |true=>
   rw[m,q]at h;cases s:(e.Content.N==3||e.Content.N==1||e.Content.N==2)with
   |true=>
    rw[s]at h;rcases QU h with rfl|h
    ·cases j
    rcases QU h with rfl|h
    ·cases j
    exact z k h j
   |false=>
    rw[s]at h;rcases QU h with rfl|h
    ·cases j
    exact z k h j
def aJy {m:List Ak}:∀(X f:List AO),Pj m f X=true→∀x∈X,∃k∈m,Ec k x=true
 | [],_,_,_,h=>absurd h FH
 |y::X,f,h,x,j=>by
  unfold Pj at h;simp only[Bv]at h;rcases Em.1 j with rfl|j
  ·obtain⟨k,n,q⟩:=GV.1 h.1.1;exact⟨k,n,q⟩
  exact aJy X _ h.2 x j
def any_congr {α:Type} {l:List α} {p q:α→Bool} (h:∀x∈l,p x=q x):l.any p=l.any q:=by
 rw[Y0,GV,GV];exact⟨fun⟨x,f,k⟩=>⟨x,f,by rw[←h x f];exact k⟩,fun⟨x,f,k⟩=>⟨x,f,by rw[h x f];exact k⟩⟩
def ah4 (l:List AO) (e:AO) (hl:l.length≤100) (he:H8 e):nT l e=some (bJ l e):=by
 have h1:=he.auth;have hk5:=Zu e;have hsk:=an0 e;unfold nT aI1;refine gW.eq (Vr e.dh.length (fuel_lt AA) (fun i a=>a=ofIds l (e.dh.take i)∧∀x∈e.dh.take i,dM l x=true) ⟨rfl,fun x M=>by simp at M⟩ (fun i a k hi ha u=>?_) fun a k ha=>?_)
 ·obtain⟨rfl,m⟩:=ha;have hal:=aAY l (e.dh.take i);rw[G5]at hal;unfold Opn;rw[D5 hi,La l _ AA,Aa,wrap_succ i AA];cases O:E9 l e.dh[i]with
  |none=>
   rw[Qi O];refine .ret ?_;unfold bJ;rw[kH (EU hi) (show dM l e.dh[i]=false by unfold dM;rw[O];rfl)];rfl
  |some x=>
   rw[NU O];simp only[EF,BK];rw[ET Gz,Aa];refine u _ ⟨?_,fun y s=>?_⟩
   ·unfold ofIds;rw[Tt,DX hi,Rj,YR,P5,O];rfl
   rw[Tt,DX hi,Rj,Fe,Gi]at s;rcases s with s|rfl
   ·exact m y s
   unfold dM;rw[O];rfl
 obtain⟨rfl,m⟩:=ha;rw[Hy]at m ⊢;have M:=aAY l e.dh;have S:e.dh.all (dM l)=true:=DV.2 m;unfold Opn;rw[E8];unfold bJ;rw[S];simp only[EF,BK];generalize ofIds l e.dh=X at M;unfold abG;rw[I5 X (fuel_lt AA) (fun x=> !decide (x.Room=e.Room)) 13 (some (bif Pj (keysOf e) [] X&&(e.Kind==1||X.any Yh)then 0 else 16))]
 ·rw[aJp];cases X.all (fun x=>decide (x.Room=e.Room))<;>exact .ret rfl
 ·intro k2 i hi;unfold oO;rw[D5 hi,Np]
 intro k2;unfold oO;rw[E8,aaw,Aa];unfold afF;refine gW.eq (bT (body:=yj X) (Q:=(· =bif Pj (keysOf e) [] X&&(e.Kind==1||X.any Yh)then 0 else 16)) (fun n b ks x=>∃i:Nat,x=i∧i+n=X.length∧ks=((keysOf e).filter fun k=> !(X.take i).any (Ec k)).map Gj∧b=(e.Kind==1||(X.take i).any fun x=>x.Kind==1)∧Pj (keysOf e) [] X=Pj (keysOf e) (X.take i) (X.drop i)) ?_ Ar X.length (e.Kind==1) ((keysOf e).map Gj) 0 (fuel_lt AA) ⟨0,rfl,AA,by rw[xM];exact BX (List.map Gj) (lY.2 fun _ _=>rfl).symm,BG,rfl⟩);rintro n b ks x k3 ⟨i,rfl,hn,hks,hb,q⟩ hk3;unfold yj;by_cases hi:i<X.length
 ·rw[alG hi]at q;have hlk:((keysOf e).filter fun k=> !(X.take i).any (Ec k)).length≤5:=E5 (Jk _ _) hk5;rw[D5 hi,hks,afx _ _ AA,Aa];have z:=aJC (p:=fun k=>Ec k X[i]) ((keysOf e).filter fun k=> !(X.take i).any (Ec k))
  have I:(((keysOf e).filter fun k=> !(X.take i).any (Ec k)).any fun k=>Ec k X[i])=((keysOf e).any (fun k=>Ec k X[i])&& !(X.take i).any (fF X[i])):=by
   rw[Y0,GV,Bv,GV,QD,←IX,GV];constructor
   ·rintro⟨k,u,J⟩;obtain⟨hk1,U⟩:=Fl.1 u;refine⟨⟨k,hk1,J⟩,?_⟩;rintro⟨y,s,hs⟩;obtain⟨Y,Z⟩:=Xm.1 J;obtain⟨s1,s2⟩:=acw.1 hs;rw[GV.2 ⟨y,s,Xm.2 ⟨s1.trans Y,s2.trans Z⟩⟩]at U;cases U
   rintro⟨⟨k,u,J⟩,hno⟩;refine⟨k,Fl.2 ⟨u,?_⟩,J⟩;rw[QD,←IX,GV];rintro⟨y,s,hs⟩;obtain⟨Y,Z⟩:=Xm.1 J;obtain⟨s1,s2⟩:=Xm.1 hs;exact hno ⟨y,s,acw.2 ⟨s1.trans Y.symm,s2.trans Z.symm⟩⟩
  rw[←I,←z]at q;by_cases f:((keysOf e).filter fun k=> !(X.take i).any (Ec k)).findIdx (fun k=>Ec k X[i])<((keysOf e).filter fun k=> !(X.take i).any (Ec k)).length
  ·rw[CG f,HY AA,BK];rw[I4 f,FC]at q;have hlm:(((keysOf e).filter fun k=> !(X.take i).any (Ec k)).map Gj).length=((keysOf e).filter fun k=> !(X.take i).any (Ec k)).length:=CB ..
   have hpw:((keysOf e).filter fun k=> !(X.take i).any (Ec k)).Pairwise (fun a b=>¬(Ec a X[i]=true∧Ec b X[i]=true)):=by
    refine(List.Pairwise.sublist Qy hsk).imp fun{a b} hab h=>?_;obtain⟨a1,a2⟩:=Xm.1 h.1;obtain⟨b1,b2⟩:=Xm.1 h.2;rw[mV (TV.2 ⟨a1.symm.trans b1,a2.symm.trans b2⟩)]at hab;cases hab
   have hd:=aJe _ hpw f
   have L:((keysOf e).filter fun k=> !(X.take i).any (Ec k)).filter (fun k=> !Ec k X[i])=(keysOf e).filter fun k=> !(X.take (i+1)).any (Ec k):=by
    rw[List.filter_filter];refine List.filter_congr fun k _=>?_;rw[aCv hi];cases(X.take i).any (Ec k)<;>cases Ec k X[i]<;>rfl
   rw[L]at hd;generalize((keysOf e).filter fun k=> !(X.take i).any (Ec k))=K at f hd hlm hlk;generalize K.findIdx (fun k=>Ec k X[i])=j at f hd;have s1:KY (K.map Gj) 0 (j:Int)=some (((K.map Gj).drop 0).take (j-0)):=yc (lo:=0) (Dx _) AA;have s2:KY (K.map Gj) (BD ((j:Int)+1)) ((K.map Gj).length:Int)=some (((K.map Gj).drop (j+1)).take ((K.map Gj).length-(j+1))):=by rw[wrap_succ j AA];exact yc AA (Dn _)
   rw[s1,Aa,s2,Aa,ET (by simp only[G5,J3];omega),Aa];have hb3:(bif b then some true else(BF X (i:Int)).bind fun x28=>some (x28.Kind==1))=some (b||X[i].Kind==1):=by rw[D9 hi];cases b<;>rfl
   rw[hb3,Aa];refine hk3 (n-1) _ _ _ AA ⟨i+1,wrap_succ i AA,AA,?_,?_,q⟩
   ·rw[hd,JW,V3,WJ,Nat.sub_zero,eH,P6 (l:=(K.map Gj).drop (j+1)) (by rw[J3];omega)]
   rw[aCv hi,hb,Bool.or_assoc]
  rw[CV f];rw[HY f,Bool.false_and]at q;exact .ret (by rw[q];rfl)
 have :i=X.length:=AA
 subst this;rw[amX]at q;rw[E8,q,hb,Hy,FC]
 have hc:(X.any fun x=>x.Kind==1)=X.any Yh:=any_congr fun x M=>by
  obtain⟨k,u,J⟩:=aJy X [] q x M;obtain⟨Y,Z⟩:=Xm.1 J;unfold Yh;cases hq:x.Kind==1 with
  |false=>rfl
  |true=>rw[Z,ahy u (by rw[←Y];exact eq_of_beq hq)];simp
 rw[hc];cases(e.Kind==1||X.any Yh)<;>exact .ret rfl
def Lc (l:List AO) (s:List Ak):List AO:=ofIds l (s.map (·.Id))
def aCt (l:List AO) (s:List Ak):(Lc l s).length≤s.length:=by have :=aAY l (s.map (·.Id));rwa [CB]at this
def aef {l:List AO} (f:EK l) (ids:List Int):EK (ofIds l ids):=fun x h=>f x (aD6 h)
def abQ {l:List AO} {s:List Ak} {i:Nat} (h:i<s.length):Lc l (s.take (i+1))=Lc l (s.take i)++(E9 l s[i].Id).toList:=by
 unfold Lc ofIds;rw[map_take h,YR,P5,List.filterMap_nil];cases E9 l s[i].Id<;>rfl
def aJq (l:List AO) (s:List Ak) (u:l.length≤100) (h:s.length≤1000):ak l s=some (Lc l s):=by
 unfold ak lT;rw[Aa];unfold abB;refine gW.eq (aCq (body:=aEj s) (Q:=(· =Lc l s)) (fun n a b c _ _=>∃i:Nat,b=i∧i+n=s.length∧c=l∧a=Lc l (s.take i)) ?_ Ar s.length [] 0 l [] [] (fuel_lt AA) ⟨0,rfl,AA,rfl,rfl⟩);rintro n a b c d f k ⟨i,rfl,z,rfl,ha⟩ q;unfold aEj;by_cases hi:i<s.length
 ·have m:=aCt c (s.take i);rw[G5]at m;rw[D5 hi,La c _ AA,Aa,wrap_succ i AA];cases j:E9 c s[i].Id with
  |none=>rw[Qi j];exact q (n-1) _ _ _ _ _ AA ⟨i+1,rfl,AA,rfl,by rw[abQ hi,j,ha];simp⟩
  |some x=>
   rw[NU j];simp only[Ba];rw[ET (by rw[ha];simp only[Qd];omega),Aa];exact q (n-1) _ _ _ _ _ AA ⟨i+1,rfl,AA,rfl,by rw[abQ hi,j,ha];rfl⟩
 have :i=s.length:=AA
 subst this;rw[E8];exact .ret (by rw[ha,Hy])
structure Di where
 id:Int
 before:List Ak
 after:List Ak
 err:Int
def Eo (t:List Di) (x:Int):Option Di:=t.find? fun y=>y.id==x
def KO (t:List Di) (x:Int):List Ak:=((Eo t x).map (·.after)).getD []
def errOf (t:List Di) (x:Int):Int:=((Eo t x).map (·.err)).getD 0
def iy (l:List AO) (e:AO):Int:=bif bJ l e != 0 then bJ l e else OV e (Uc l e)
def Nk (l:List AO) (t:List Di) (e:AO) (s:List Ak):Int:=
 bif iy l e != 0 then iy l e else bif e.dh.any (fun x=>errOf t x != 0)then 16 else OV e (Lc l s)
def stB (l:List AO) (t:List Di) (e:AO):List Ak:=nV l (e.bY.map (KO t))
def aCp (e:AO) (s:List Ak) (r:Int):Di:=⟨e.Id,s,bif r==0&&Gn e.Kind then Fr s e.Kind e.Key e.Id else s,r⟩
def LU (l:List AO) (t:List Di) (e:AO):Di:=aCp e (stB l t e) (Nk l t e (stB l t e))
def MN (l:List AO) (ids:List Int):List Di:=ids.foldl (fun t id=>t++[LU l t (ev l id)]) []
def FP (l:List AO):List Di:=MN l (GH l)
def ae9 (l:List AO) {ids:List Int} {i:Nat} (h:i<ids.length):MN l (ids.take (i+1))=MN l (ids.take i)++[LU l (MN l (ids.take i)) (ev l ids[i])]:=ao7 h
def yt {t:List Di} {x:Int}:Eo t x=none↔x∉t.map (·.id):=by
 unfold Eo;rw[aGE,FM];exact⟨fun h ⟨y,f,e⟩=>h y f SY,fun h y f e=>h ⟨y,f,SY⟩⟩
def sU {t:List Di} {y:Di} (h:Eo t y.id=none) (x:Int):Eo (t++[y]) x=bif x==y.id then some y else Eo t x:=by
 unfold Eo at h ⊢;rw[kW];cases f:x==y.id with
 |true=>
  have e:=eq_of_beq f;subst e;rw[h];simp
 |false=>
  have :(y.id==x)=false:=by rw[←f,Y0,QS,QS];exact eq_comm
  simp[this]
def aHw {t:List Di} {x:Int} {y:Di} (h:Eo t x=some y):y.id=x:=by have :=yR h;simpa using this
def pF (l:List AO):∀(ids:List Int) (t:List Di),(∀x∈ids,dM l x=true)→(ids.foldl (fun t id=>t++[LU l t (ev l id)]) t).map (·.id)=t.map (·.id)++ids
 | [],t,_=>BG
 |x::ids,t,h=>by
  have f:(LU l t (ev l x)).id=x:=(N8 (h x (Fa ..))).2;rw[GI,pF l ids _ fun y j=>h y (Gq _ j),JW,J5,List.map_nil,f,G6];rfl
def Jj (l:List AO) (t:List Di):Prop:=∀y∈t,G8 l y.before∧G8 l y.after
def Jj.after {l:List AO} {t:List Di} (h:Jj l t) (x:Int):G8 l (KO t x):=by
 unfold KO;cases f:Eo t x with
 |none=>exact .nil l
 |some y=>exact(h y (PO f)).2
def Jj.states {l:List AO} {t:List Di} (h:Jj l t) (ids:List Int):∀s∈ids.map (KO t),G8 l s:=fun s f=>by
 obtain⟨x,_,rfl⟩:=FM.1 f;exact h.after x
def Jj.okay {l:List AO} {t:List Di} (h:Jj l t) (f:l.length≤100) (j:EK l) (ids:List Int) (hi:ids.length≤100):KH l (ids.map (KO t)):=G8.okay f j aCR (h.states ids)
def Jj.stB {l:List AO} {t:List Di} (h:Jj l t) (f:l.length≤100) (j:EK l) {e:AO} (m:e.bY.length≤40):G8 l (stB l t e):=G8.resolve (h.okay f j _ AA) (h.states _)
def Jj.line {l:List AO} {t:List Di} (h:Jj l t) (n:l.length≤100) (q:EK l) {e:AO} (s:e.bY.length≤40) (u:Gn e.Kind=true→dM l e.Id=true∧ev l e.Id=e):Jj l (t++[LU l t e]):=fun y f=>by
 rcases Fe.1 f with f|f
 ·exact h y f
 rw[Gi.1 f];have j:=h.stB n q s;refine⟨j,?_⟩;show G8 l (bif Nk l t e (Go.Proofs.YtolgdkhlelfpoaaGreat.stB l t e)==0&&Gn e.Kind then Fr _ e.Kind e.Key e.Id else _);cases m:(Nk l t e (Go.Proofs.YtolgdkhlelfpoaaGreat.stB l t e)==0&&Gn e.Kind)with
 |false=>exact j
 |true=>
  have hst:Gn e.Kind=true:=by rw[Bv]at m;exact m.2
  obtain⟨z,k2⟩:=u hst;exact j.set z k2 hst
def aqN {l:List AO} {id:Int} (h:Gn (ev l id).Kind=true):dM l (ev l id).Id=true∧ev l (ev l id).Id=ev l id:=by
 cases f:E9 l id with
 |none=>unfold ev at h;rw[Qi f]at h;exact absurd h BP
 |some e=>
  have j:dM l id=true:=by unfold dM;rw[f];rfl
  have :=(N8 j).2;rw[this];exact⟨j,rfl⟩
def anK :H8 FK:=⟨Dx _,Dx _,Dx _,Dx _,Dx _,Dx _,Dx _,Dx _,Dx _,Dx _,Dx _,Dx _,fun _ h=>absurd h FH,fun _ h=>absurd h FH,fun _ h=>absurd h FH⟩
def aBD {l:List AO} (f:EK l) (id:Int):H8 (ev l id):=by
 unfold ev IB;cases h:E9 l id with
 |none=>exact anK
 |some e=>exact f e (Ll h)
def aA8 {l:List AO} (j:l.length≤100) (f:EK l):∀(ids:List Int) (t:List Di),Jj l t→Jj l (ids.foldl (fun t id=>t++[LU l t (ev l id)]) t)
 | [],t,h=>h
 |x::ids,t,h=>by rw[GI];exact aA8 j f ids _ (h.line j f (aBD f x).prev aqN)
structure Lj (t:List Di) (m1 m2:List (Int×List Ak)) (m3:List (Int×Int)):Prop where
 b:∀x,Bg m1 x=(Eo t x).map (·.before)
 a:∀x,Bg m2 x=(Eo t x).map (·.after)
 r:∀x,Bg m3 x=(Eo t x).map (·.err)
def Lj.after {t:List Di} {j f:List (Int×List Ak)} {m:List (Int×Int)} (h:Lj t j f m) (x:Int):(Bg f x).getD []=KO t x:=by rw[h.a];rfl
def Lj.err {t:List Di} {j m:List (Int×List Ak)} {f:List (Int×Int)} (h:Lj t j m f) (x:Int):(Bg f x).getD 0=errOf t x:=by rw[h.r];rfl
def ai7 {t:List Di} {j m:List (Int×List Ak)} {n:List (Int×Int)} (h:Lj t j m n) (l:List AO) (e:AO) (s:List Ak) (q:l.length≤100) (u:EK l) (f:H8 e) (z:s.length≤100):
 zO j m n l e s=some (Nk l t e s):=by
 have J:=f.auth;have L:=aCt l s;unfold zO Nk iy;rw[ah4 l e q f,Aa];cases I:bJ l e != 0 with
 |true=>simp only[Ba];rw[I];rfl
 |false=>
  simp only[BK];rw[afR l e AA AA,Aa,wI e _ (E5 (ae1 l e) AA) (u.from e) f,Aa];cases ha:OV e (Uc l e) != 0 with
  |true=>rfl
  |false=>
   simp only[BK];unfold adx;rw[I5 e.dh (fuel_lt AA) (fun x=>errOf t x != 0) 16 (some (OV e (Lc l s)))]
   ·cases e.dh.any (fun x=>errOf t x != 0)<;>rfl
   ·intro k i hi;unfold aEN;rw[D5 hi,h.err]
   intro k;unfold aEN;rw[E8,aJq l s q AA,Aa,wI e (Lc l s) AA (aef u _) f];rfl
def Lj.snoc {t:List Di} {q s f j:List (Int×List Ak)} {u m:List (Int×Int)} (h:Lj t q s u) {y:Di} (n:Eo t y.id=none)
 (z:∀x,Bg f x=bif x==y.id then some y.before else Bg q x) (I:∀x,Bg j x=bif x==y.id then some y.after else Bg s x) (J:∀x,Bg m x=bif x==y.id then some y.err else Bg u x):Lj (t++[y]) f j m:=by
 refine⟨fun x=>?_,fun x=>?_,fun x=>?_⟩
 ·rw[z,sU n,h.b];cases x==y.id<;>rfl
 ·rw[I,sU n,h.a];cases x==y.id<;>rfl
 rw[J,sU n,h.r];cases x==y.id<;>rfl
def add_eq {t:List Di} {u z:List (Int×List Ak)} {I:List (Int×Int)} (h:Lj t u z I) (l:List AO) (e:AO) (q:l.length≤100) (s:EK l) (J:H8 e) (L:Jj l t) (M:Eo t e.Id=none):
 gW (aAB u z I l e) (fun r=>Lj (t++[LU l t e]) r.1 r.2.1 r.2.2):=by
 have O:=J.prev;unfold aAB afZ;refine Vr e.bY.length (fuel_lt AA) (fun i a=>a=(e.bY.take i).map (KO t)) rfl (fun i a k hi ha S=>?_) fun a k ha=>?_
 ·have U:a.length≤i:=by rw[ha,CB,G5];omega
  unfold aCz;rw[D5 hi,ET Gz,Aa,wrap_succ i AA,h.after];exact S _ (by rw[map_take hi,ha])
 rw[Hy]at ha;subst ha;unfold aCz;have Y:G8 l (stB l t e):=L.stB q s O;have Z:=Y.length;have n:bU l (e.bY.map (KO t))=some (stB l t e):=aeQ (L.okay q s _ AA);rw[E8,n,Aa,ai7 h l e _ q s J AA,Aa];have j:LU l t e=aCp e (stB l t e) (Nk l t e (stB l t e)):=rfl;rw[j];generalize Nk l t e (stB l t e)=r;have m:∀(c d f:Bool) {R:Type} (g:Bool→Option R),((bif c then some d else some false).bind fun x9=>(bif x9 then some f else some false).bind g)=g (c&&(d&&f)):=fun c d f R g=>by cases c<;>cases d<;>rfl
 rw[m];show gW (bif (r==0&&Gn e.Kind)then _ else _) _;unfold aCp;cases hc:(r==0&&Gn e.Kind)with
 |true=>
  simp only[Ba];rw[Vf _ _ _ _ AA,Aa];refine .ret (h.snoc M (fun x=>O9 ..) (fun x=>?_) fun x=>O9 ..);rw[O9,O9];cases x==e.Id<;>rfl
 |false=>exact .ret (h.snoc M (fun x=>O9 ..) (fun x=>O9 ..) fun x=>O9 ..)
def run_go (l:List AO) (ids:List Int) (z:l.length≤100) (q:EK l) (h:∀x∈ids,dM l x=true) (s:ids.Nodup) (I:ids.length≤1000):gW (aDR ids l 0 [] [] []) (fun o=>∃T,o=some T∧Lj (MN l ids) T.1 T.2.1 T.2.2):=by
 unfold aDR;refine aek (body:=aCX ids l) (Q:=fun o=>∃T,o=some T∧Lj (MN l ids) T.1 T.2.1 T.2.2) (fun n a b c d=>∃i:Nat,a=i∧i+n=ids.length∧Lj (MN l (ids.take i)) b c d) ?_ Ar ids.length 0 [] [] [] (fuel_lt AA) ⟨0,rfl,AA,⟨fun x=>rfl,fun x=>rfl,fun x=>rfl⟩⟩;rintro n a b c d k ⟨i,rfl,U,m⟩ J;unfold aCX;by_cases hi:i<ids.length
 ·have u:=h _ (EU hi)
  have f:Eo (MN l (ids.take i)) (ev l ids[i]).Id=none:=by
   rw[yt,(N8 u).2];unfold MN;rw[pF l _ _ fun x L=>h x (aA2 L),List.map_nil,IC];intro m;obtain⟨j,M,e⟩:=Gv m;rw[G5]at M;rw[aAr]at e;have :=Jt.1 (uJ.1 s) j i AA hi AA;exact this e
  rw[D5 hi,La l _ AA,Aa];refine(add_eq m l _ z q (aBD q ids[i]) (aA8 z q _ _ fun y O=>absurd O FH) f).bind fun r S=>?_;exact J (n-1) _ _ _ _ AA ⟨i+1,wrap_succ i AA,AA,by rw[ae9 l hi];exact S⟩
 have :i=ids.length:=AA
 subst this;rw[E8];exact .ret ⟨_,rfl,by rw[Hy]at m;exact m⟩
structure MC (l:List AO):Prop where
 len:l.length≤100
 small:EK l
 nodup:(l.map (·.Id)).Nodup
 dep:wU l
def vU {l:List AO} {x:Int}:dM l x=true↔x∈l.map (·.Id):=by
 unfold dM E9;rw[List.find?_isSome,FM];exact⟨fun⟨e,f,h⟩=>⟨e,f,Hf⟩,fun⟨e,f,h⟩=>⟨e,f,Hf⟩⟩
def aHt (l:List AO):(GH l).Perm (l.map (·.Id)):=(aFj l).map _
def ZA {l:List AO} {x:Int}:x∈GH l↔dM l x=true:=by rw[(aHt l).mem_iff,vU]
def ao8 (l:List AO):(GH l).length=l.length:=by unfold GH;rw[CB,af6]
def MC.order {l:List AO} (h:MC l):(GH l).Nodup:=(aHt l).nodup_iff.2 h.nodup
def L6 (l:List AO) (c:Int):List Di:=bif c==0&&MK l==0 then FP l else[]
def run_eq (l:List AO) {c:Int} (n:Om l=some c) (h:c=0→MC l):
 gW (TG l) (fun o=>(L6 l c=[]∧o=none)∨(L6 l c=FP l∧MC l∧∃T,o=some T∧Lj (FP l) T.1 T.2.1 T.2.2)):=by
 unfold TG L6;rw[n,Aa];by_cases m:c=0
 ·subst m;have f:=h rfl;rw[aqg l f.len f.small f.dep];cases hd:MK l==0 with
  |false=>
   have j:(MK l != 0)=true:=by unfold bne;rw[hd];rfl
   simp only[lU,BK,Aa,j,Ba];exact .ret (.inl ⟨rfl,rfl⟩)
  |true=>
   have j:(MK l != 0)=false:=by unfold bne;rw[hd];rfl
   simp only[lU,BK,Aa,j];rw[apL l (by have :=f.len;omega),Aa];exact(run_go l (GH l) f.len f.small (fun x q=>ZA.1 q) f.order (by rw[ao8];have :=f.len;omega)).mono fun o s=>.inr ⟨rfl,f,s⟩
 have u:(c != 0)=true:=Zt
 have z:(c==0)=false:=Zt
 rw[u,z];exact .ret (.inl ⟨rfl,rfl⟩)
def tY {l:List AO} (h:MC l):Jj l (FP l):=aA8 h.len h.small _ _ fun y f=>absurd f FH
def apZ (l:List AO):(FP l).map (·.id)=GH l:=by
 have :=pF l (GH l) [] fun x f=>ZA.1 f;simpa[FP,MN]using this
def acW {l:List AO} {x:Int} (h:dM l x=true):∃y,Eo (FP l) x=some y:=by
 cases f:Eo (FP l) x with
 |some y=>exact⟨y,rfl⟩
 |none=>rw[yt,apZ]at f;exact absurd (ZA.2 h) f
def Iz (t:List Di) (x:Int):Bool:=match Eo t x with
 |some y=>y.err==0
 |none=>false
def MB (l:List AO) (t:List Di):List Int:=(l.filter fun e=>Iz t e.Id).map (·.Id)
def Xd (l:List AO) (t:List Di):List Ak:=nV l ((WM l (MB l t)).map (KO t))
def aAQ (l:List AO) (t:List Di):(MB l t).length≤l.length:=by unfold MB;rw[CB];exact Jk _ _
def agd (l:List AO):MB l []=[]:=by
 unfold MB;rw[aA0.2 fun e _=>by unfold Iz Eo;simp];rfl
def aF1 (l:List AO):Xd l []=[]:=by unfold Xd;rw[agd];rfl
def acN {l:List AO} {t:List Di} {i:Nat} (h:i<l.length):MB (l.take (i+1)) t=MB (l.take i) t++bif Iz t l[i].Id then[l[i].Id]else[]:=by
 unfold MB;rw[abm h,JW];cases Iz t l[i].Id<;>rfl
def asV {l:List AO} {x:Int} (h:dM l x=true):Iz (FP l) x=(errOf (FP l) x==0):=by
 obtain⟨y,f⟩:=acW h;unfold Iz errOf;rw[f];rfl
def ap8 {l:List AO} {f j:List (Int×List Ak)} {m:List (Int×Int)} (h:Lj (FP l) f j m) (z:l.length≤100):aK f j m l=some (MB l (FP l)):=by
 unfold aK
 have s:rC l f j m=some (MB l (FP l)):=by
  unfold rC aHI;refine gW.eq (Vr l.length (fuel_lt AA) (fun i a=>a=MB (l.take i) (FP l)) rfl (fun i a k hi ha n=>?_) fun a k ha=>?_)
  ·have u:a.length≤i:=by rw[ha];exact E5 (aAQ _ _) afO
   unfold aGh aCl aAZ;rw[D5 hi,Aa,h.err,←asV (vU.2 (FM.2 ⟨_,EU hi,rfl⟩)),wrap_succ i AA];cases q:Iz (FP l) l[i].Id with
   |true=>
    rw[Ba,D9 hi,Aa,ET Gz,Aa];exact n _ (by rw[acN hi,q,ha];rfl)
   |false=>exact n _ (by rw[acN hi,q,ha];simp)
  unfold aGh;rw[E8];exact .ret (by rw[ha,Hy])
 rw[s];rfl
def alv {l:List AO} {c:Int} (q:Om l=some c) (h:c=0→MC l):dG l=some (Xd l (L6 l c)):=by
 unfold dG;refine gW.eq ((run_eq l q h).bind fun o f=>?_);rcases f with⟨j,rfl⟩|⟨j,f,T,rfl,n⟩
 ·rw[j,aF1];exact .ret rfl
 rw[j];have m:=f.len;have ha:=aAQ l (FP l);have s:=aEI l (MB l (FP l));show gW ((aK T.1 T.2.1 T.2.2 l).bind _) _;rw[ap8 n m,Aa,agE l _ m f.small AA,Aa];unfold Xd;generalize WM l (MB l (FP l))=H at s;unfold acr;refine Vr H.length (fuel_lt AA) (fun i a=>a=(H.take i).map (KO (FP l))) rfl (fun i a k hi ha u=>?_) fun a k ha=>?_
 ·have z:a.length≤i:=by rw[ha,CB,G5];omega
  unfold aFJ;rw[D5 hi,ET Gz,Aa,n.after,wrap_succ i AA];exact u _ (by rw[map_take hi,ha])
 rw[Hy]at ha;unfold aFJ;rw[E8,ha,aeQ ((tY f).okay m f.small _ AA),Aa];exact .ret rfl
def ama {l:List AO} {c:Int} (h:c=0→MC l):G8 l (Xd l (L6 l c)):=by
 unfold L6;cases j:(c==0&&MK l==0)with
 |false=>rw[BK,aF1];exact .nil l
 |true=>
  rw[Bv]at j;have f:=h (eq_of_beq j.1);have m:=tY f;have ha:=aAQ l (FP l);have q:=aEI l (MB l (FP l));have n:=f.len;rw[Ba];exact G8.resolve (m.okay n f.small _ AA) (m.states _)
def anf {α:Type} {lt:α→α→Bool} (u:∀a b c,lt b a=false→lt c b=false→lt c a=false) (ha:∀a b,lt a b=true→lt b a=false) (x:α):
 ∀n (A:List α),A.length=n→A.Pairwise (fun a b=>lt b a=false)→(Hr lt A x).Pairwise fun a b=>lt b a=false:=by
 intro n
 induction n with
 |zero=>
  intro A h _;obtain rfl:=Fj h;exact aE0 ..
 |succ n I=>
  intro A h m;rcases List.eq_nil_or_concat A with rfl|⟨B,a,rfl⟩
  ·cases h
  rw[List.concat_eq_append]at h m ⊢;have h:B.length=n:=Hf
  obtain⟨J,_,s⟩:=aJ.1 m;cases j:lt x a with
  |true=>
   rw[aIp j];refine aJ.2 ⟨I B h J,aE0 ..,fun y f z q=>?_⟩;rw[Gi.1 q];rcases Em.1 ((aHv B x).mem_iff.1 f)with rfl|f
   ·exact ha _ _ j
   exact s y f a (Gi.2 rfl)
  |false=>
   rw[abJ j,show B++a::[x]=(B++[a])++[x] by simp];refine aJ.2 ⟨m,aE0 ..,fun y f z q=>?_⟩;rw[Gi.1 q];rcases Fe.1 f with f|f
   ·exact u y a x (s y f a (Gi.2 rfl)) j
   rw[Gi.1 f];exact j
def aB6 {a b:AO}:RD b a=false↔a.Depth<b.Depth∨(a.Depth=b.Depth∧a.Id≤b.Id):=by
 unfold RD;rw[iw,aAs,VG,VG,Wx];omega
def ape (l:List AO):(Rw l).Pairwise fun a b=>RD b a=false:=by
 have key:∀(l A:List AO),A.Pairwise (fun a b=>RD b a=false)→(l.foldl (Hr RD) A).Pairwise fun a b=>RD b a=false:=by
  intro l
  induction l with
  |nil=>exact fun A h=>h
  |cons x l f=>
   intro A h;rw[GI];refine f _ (anf (fun a b c j m=>?_) (fun a b h=>?_) x _ A rfl h)
   ·rw[aB6]at *;omega
   rw[aB6];unfold RD at h;rw[XJ,Bv,FI,FI,QS]at h;omega
 exact key l [] .nil
def aan {l:List AO} (I:(l.map (·.Id)).Nodup) {e:AO} (h:e∈l):ev l e.Id=e:=by
 have J:dM l e.Id=true:=vU.2 (FM.2 ⟨e,h,rfl⟩);obtain⟨L,q⟩:=N8 J;have M:=Ll L;obtain⟨i,hi,f⟩:=Gv M;obtain⟨j,s,m⟩:=Gv h;have O:=Jt.1 (uJ.1 I)
 have u:∀a b (ha:a<l.length) (z:b<l.length),a<b→l[a].Id≠l[b].Id:=fun a b ha z n=>by
  have :=O a b (by simpa using ha) XW n;simpa using this
 rcases jR i j with h|h|h
 ·exact absurd (by rw[f,m,q]) (u i j hi s h)
 ·subst h;rw[←f,m]
 exact absurd (by rw[f,m,q]) (u j i s hi h)
def aoj {l:List AO} (q:(l.map (·.Id)).Nodup) {i:Nat} (hi:i<(GH l).length) {a:Int} (s:dM l a=true) (hd:(ev l a).Depth<(ev l (GH l)[i]).Depth):a∈(GH l).take i:=by
 obtain⟨u,z⟩:=N8 s;have I:ev l a∈Rw l:=(aFj l).mem_iff.2 (Ll u);obtain⟨j,J,m⟩:=Gv I;have f:i<(Rw l).length:=by simpa[GH]using hi
 have L:(GH l)[i]=(Rw l)[i].Id:=S9 (fun x:AO=>x.Id);have n:ev l (GH l)[i]=(Rw l)[i]:=by rw[L];exact aan q ((aFj l).mem_iff.1 (EU f))
 have M:j<i:=by
  rcases jR j i with h|h|h
  ·exact h
  ·subst h;rw[n,←m]at hd;omega
  have :=Jt.1 (ape l) i j f J h;rw[aB6]at this;rw[n,←m]at hd;omega
 refine aaG.2 ⟨j,AA,?_⟩;unfold GH;rw[S9,m,z]
def MZ (t:List Di) (s:List Ak):Prop:=∀x∈s,Iz t x.Id=true
structure KL (l:List AO) (t:List Di):Prop where
 st:∀y∈t,MZ t y.before∧MZ t y.after
 au:∀y∈t,y.err=0→∀a∈Fp l y.id,Iz t a=true
def YJ {t:List Di} {x:Int}:Iz t x=true↔∃y,Eo t x=some y∧y.err=0:=by
 unfold Iz;cases Eo t x with
 |none=>simp
 |some y=>simp
def ao2 {t:List Di} {x:Int} {y:Di} (h:Eo t x=some y) (z:Di):Eo (t++[z]) x=some y:=by
 unfold Eo at *;rw[kW,h];rfl
def qN {t:List Di} {x:Int} (h:Iz t x=true) (z:Di):Iz (t++[z]) x=true:=by
 obtain⟨y,f,j⟩:=YJ.1 h;exact YJ.2 ⟨y,ao2 f z,j⟩
def MZ.nil (t:List Di):MZ t []:=fun _ h=>absurd h FH
def KL.after {l:List AO} {t:List Di} (h:KL l t) (x:Int):MZ t (KO t x):=by
 unfold KO;cases f:Eo t x with
 |none=>exact .nil t
 |some y=>exact(h.st y (PO f)).2
def KL.auth {l:List AO} {t:List Di} (h:KL l t) {x:Int} (j:Iz t x=true):∀a∈Fp l x,Iz t a=true:=by
 obtain⟨y,f,m⟩:=YJ.1 j;have :=h.au y (PO f) m
 rwa [aHw f]at this
def KL.chain {l:List AO} {t:List Di} (h:KL l t) {ids:List Int} (hi:∀x∈ids,Iz t x=true) {x:Int} (j:LM l ids x):Iz t x=true:=by
 induction j with
 |one m f _=>exact h.auth (hi _ m) _ f
 |more _ f _ n=>exact h.auth n _ f
def KL.full {l:List AO} {t:List Di} (h:KL l t) {j:List (List Ak)} (u:∀s∈j,MZ t s) {x:Int} (f:x∈Jy l j):Iz t x=true:=by
 have n:∀s∈j,∀y∈RF s,Iz t y=true:=fun s m y I=>by
  obtain⟨z,q,rfl⟩:=FM.1 I;exact u s m z q
 unfold Jy at f;rcases VB.1 f with f|f
 ·rw[KN]at f;unfold SB at f;obtain⟨z,q,rfl⟩:=FM.1 f;obtain⟨s,m,q⟩:=Qn.1 q;exact u s m z (Fl.1 q).1
 obtain⟨⟨s,m,f⟩,_⟩:=aq9.1 f;unfold Eu at f;rcases VB.1 f with f|f
 ·exact n s m x f
 exact h.chain (n s m) (aEB.1 f)
def KL.resolve {l:List AO} {t:List Di} (h:KL l t) {f:List (List Ak)} (m:KH l f) (j:∀s∈f,MZ t s):MZ t (nV l f):=by
 match f,m,j with
 | [],_,_=>exact .nil t
 | [s],_,j=>exact j s (Fa ..)
 |s::r::f,m,j=>
  intro x q;rcases aJt q with u|⟨id,n,z,_,I⟩
  ·exact j s (Fa ..) x ((aaq m.states (List.cons_ne_nil _ _)).1 u s (Fa ..))
  have J:x.Id=id:=by rw[I];exact(N8 z).2
  rw[J];exact h.full j n
def KL.line {l:List AO} {t:List Di} (h:KL l t) (S:Jj l t) (U:l.length≤100) (z:EK l) {id:Int} (Y:dM l id=true) (Z:Eo t id=none) (ha:∀a∈Fp l id,∃y,Eo t a=some y):KL l (t++[LU l t (ev l id)]):=by
 have q:(ev l id).Id=id:=(N8 Y).2
 have J:MZ t (stB l t (ev l id)):=h.resolve (S.okay U z _ (by have :=(aBD z id).prev;omega)) fun s n=>by
  obtain⟨x,_,rfl⟩:=FM.1 n;exact h.after x
 have f:∀{s:List Ak},MZ t s→MZ (t++[LU l t (ev l id)]) s:=fun z x u=>qN (z x u) _;refine⟨fun y j=>?_,fun y j m a n=>?_⟩
 ·rcases Fe.1 j with j|j
  ·exact⟨f (h.st y j).1,f (h.st y j).2⟩
  rw[Gi.1 j];refine⟨f J,?_⟩;show MZ _ (bif Nk l t (ev l id) (stB l t (ev l id))==0&&Gn (ev l id).Kind then Fr _ (ev l id).Kind (ev l id).Key (ev l id).Id else _);cases M:(Nk l t (ev l id) (stB l t (ev l id))==0&&Gn (ev l id).Kind)with
  |false=>exact f J
  |true=>
   rw[Bv]at M;intro x u;rcases QU u with rfl|u
   ·refine YJ.2 ⟨LU l t (ev l id),?_,eq_of_beq M.1⟩;show Eo _ (ev l id).Id=_;have L:Eo t (LU l t (ev l id)).id=none:=by show Eo t (ev l id).Id=none;rw[q];exact Z
    rw[sU L,show((ev l id).Id==(LU l t (ev l id)).id)=true from Ws _];rfl
   exact qN (J x u) _
 rcases Fe.1 j with j|j
 ·exact qN (h.au y j m a n) _
 rw[Gi.1 j]at m n;have n:a∈Fp l id:=by rw[←q];exact n
 have m:Nk l t (ev l id) (stB l t (ev l id))=0:=m;obtain⟨y,j⟩:=ha a n;refine qN (YJ.2 ⟨y,j,?_⟩) _;unfold Nk at m;cases I:iy l (ev l id) != 0 with
 |true=>rw[I,Ba]at m;rw[m]at I;cases I
 |false=>
  rw[I,BK]at m;cases O:(ev l id).dh.any (fun x=>errOf t x != 0)with
  |true=>rw[O,Ba]at m;cases m
  |false=>
   have h3:=List.any_eq_false.1 O a n;have :errOf t a=0:=by simpa using h3
   unfold errOf at this;rw[j]at this;exact this
def atE {l:List AO} (hd:MK l=0) {e:AO} (m:e∈l):(∀a∈e.dh,dM l a=true∧(ev l a).Depth<e.Depth)∧∀a∈e.bY,dM l a=true∧(ev l a).Depth<e.Depth:=by
 unfold MK at hd;cases j:eS l with
 |false=>rw[j]at hd;cases hd
 |true=>
  rw[j,Ba]at hd;cases n:l.all (V4 l)with
  |false=>rw[n]at hd;cases hd
  |true=>
   have f:=DV.1 j e m;have h:=DV.1 n e m;unfold Tq at f;unfold V4 at h;rw[Bv,DV,DV]at f;rw[Bv,DV]at h;refine⟨fun a ha=>⟨f.2 a ha,VP (h.1 a ha)⟩,fun a ha=>⟨f.1 a ha,?_⟩⟩
   have s:((e.bY.length:Int)==0)=false:=by
    have :0<e.bY.length:=List.length_pos_of_mem ha;rw[Wx];omega
   have q:=h.2;rw[s,BK,Bv,DV]at q;exact VP (q.1 a ha)
def aaS {l:List AO} (h:MC l) (hd:MK l=0):∀i,i≤(GH l).length→KL l (MN l ((GH l).take i))
 |0,_=>⟨fun y m=>absurd m FH,fun y m=>absurd m FH⟩
 |i+1,hi=>by
  have hi:i<(GH l).length:=hi;have q:dM l (GH l)[i]=true:=ZA.1 (EU hi)
  have f:∀j,(MN l ((GH l).take j)).map (·.id)=(GH l).take j:=fun j=>by
   unfold MN;rw[pF l _ _ fun x u=>ZA.1 (aA2 u)];rfl
  rw[ae9 l hi];refine(aaS h hd i AA).line (aA8 h.len h.small _ _ fun y m=>absurd m FH) h.len h.small q ?_ fun a ha=>?_
  ·rw[yt,f];intro n;obtain⟨j,z,e⟩:=Gv n;rw[G5]at z;rw[aAr]at e;exact Jt.1 (uJ.1 h.order) j i AA hi AA e
  have n:ev l (GH l)[i]∈l:=Ll (N8 q).1;obtain⟨I,k2⟩:=(atE hd n).1 a ha;have :=aoj h.nodup hi I k2;cases s:Eo (MN l ((GH l).take i)) a with
  |some y=>exact⟨y,rfl⟩
  |none=>rw[yt,f]at s;exact absurd this s
def aeI {l:List AO} (f:MC l) (hd:MK l=0):KL l (FP l):=by
 have :=aaS f hd _ (Dn _)
 rwa [Hy]at this
def KL.current {l:List AO} (f:MC l) (hd:MK l=0):MZ (FP l) (Xd l (FP l)):=by
 have h:=aeI f hd;have j:=tY f;have ha:=aAQ l (FP l);have q:=aEI l (MB l (FP l));have m:=f.len
 exact h.resolve (j.okay m f.small _ AA) fun s n=>by
  obtain⟨x,_,rfl⟩:=FM.1 n;exact h.after x
def ajc {l:List AO} (ids:List Int) (t:List Di) (h:∀y∈t,y.err=0→OV (ev l y.id) (Lc l y.before)=0) (q:∀x∈ids,dM l x=true):∀y∈ids.foldl (fun t id=>t++[LU l t (ev l id)]) t,y.err=0→OV (ev l y.id) (Lc l y.before)=0:=by
 induction ids generalizing t with
 |nil=>exact h
 |cons x ids u=>
  rw[GI];refine u _ (fun y j f=>?_) fun z I=>q z (Gq _ I);rcases Fe.1 j with j|j
  ·exact h y j f
  rw[Gi.1 j]at f ⊢;have n:(LU l t (ev l x)).id=x:=(N8 (q x (Fa ..))).2;rw[n];have f:Nk l t (ev l x) (stB l t (ev l x))=0:=f;show OV (ev l x) (Lc l (stB l t (ev l x)))=0;unfold Nk at f;cases m:iy l (ev l x) != 0 with
  |true=>rw[m,Ba]at f;rw[f]at m;cases m
  |false=>
   rw[m,BK]at f;cases s:(ev l x).dh.any (fun x=>errOf t x != 0)with
   |true=>rw[s,Ba]at f;cases f
   |false=>rwa [s,BK]at f
def asC {l:List AO}:∀y∈FP l,y.err=0→OV (ev l y.id) (Lc l y.before)=0:=
 ajc (GH l) [] (fun y f=>absurd f FH) fun x h=>ZA.1 h
end Go.Proofs.YtolgdkhlelfpoaaGreat
end
section
namespace Go.Proofs.YtolgdkhlelfpoaaGreat
def QK (n:Int):Int:=if n<0 then bits .xor .u64 IntKind.u64.max (IntKind.u64.wrap (IntKind.u64.wrap n*2))else IntKind.u64.wrap (IntKind.u64.wrap n*2)
def dX (n:Int):0≤QK n∧QK n<18446744073709551616:=by
 unfold QK;have f:∀x:Int,0≤IntKind.u64.wrap x∧IntKind.u64.wrap x<18446744073709551616:=fun x=>by rw[Yw];omega
 split
 ·obtain⟨h,m⟩:=f (IntKind.u64.wrap n*2);generalize IntKind.u64.wrap (IntKind.u64.wrap n*2)=y at *;obtain⟨k,rfl⟩:=Int.eq_ofNat_of_zero_le h;have :(IntKind.u64.max:Int)=((18446744073709551615:Nat):Int):=BP
  rw[this,bits_xor_u64_nat _ _ AA AA];have :18446744073709551615^^^k<2^64:=Nat.xor_lt_two_pow AA AA;constructor
  ·exact aDz _
  have j:(2:Nat)^64=18446744073709551616:=BP
  omega
 exact f _
def Ku (u:Nat):List Int:=if u<128 then[(u:Int)]else((u % 128+128:Nat):Int)::Ku (u/128)
termination_by u
decreasing_by omega
def Zg {u:Nat} (h:u<128):Ku u=[(u:Int)]:=by rw[Ku,CG h]
def aDf {u:Nat} (h:¬u<128):Ku u=((u % 128+128:Nat):Int)::Ku (u/128):=by rw[Ku,CV h]
def aIr :∀(j u:Nat),u<128^(j+1)→(Ku u).length≤j+1
 |0,u,h=>by rw[Zg Hf];simp
 |j+1,u,h=>by
  by_cases f:u<128
  ·rw[Zg f];simp
  rw[aDf f]
  have :u/128<128^(j+1):=by
   rw[Nat.div_lt_iff_lt_mul AA];rw[Nat.pow_succ]at h;exact h
  have :=aIr j (u/128) this;simp;omega
def enc (n:Int):List Int:=Ku (QK n).toNat
def LZ (n:Int):(enc n).length≤10:=by
 have h:=(dX n).2;refine aIr 9 _ ?_;have :(128:Nat)^10=1180591620717411303424:=BP
 rw[this];have :=(dX n).1;omega
def agC (k:Nat):bits .or .u8 ((k:Int) % 256) 128=((k % 128+128:Nat):Int):=by
 have h:=u8_or_nat (k % 256) 128 AA AA;rw[show((k:Int) % 256)=((k % 256:Nat):Int)from by omega];have f:(128:Int)=((128:Nat):Int):=rfl;rw[f,h];congr 1;have key:∀x,x<256→x|||128=x % 128+128:=JV
 rw[key _ AA];omega
def nY (u c:Int):Int:=(IntKind.u64.wrap (bits .xor .u64 u (IntKind.u64.wrap c)*1099511628211)).tmod 4611686018427387904
def ab3 (x:Int):bits .and .u64 (IntKind.u64.wrap x) 4611686018427387903=(IntKind.u64.wrap x).tmod 4611686018427387904:=by
 rw[Yw];have h:=bits_mask .u64 64 BP (fun n j m=>by rw[Yw];omega) 62 BP (x % 18446744073709551616) AA AA;have e:((2:Int)^62-1)=4611686018427387903:=BP
 have f:((2:Int)^62)=4611686018427387904:=BP
 rw[adX AA];simpa[e,f]using h
def asO (u c:Int):bits .and .u64 (IntKind.u64.wrap (bits .xor .u64 u (IntKind.u64.wrap c)*1099511628211)) 4611686018427387903=nY u c:=ab3 _
def vJ (op:BinOp) (k:IntKind) (x y:Int) (h:op=.and∨op=.or∨op=.xor):Dc op k x y=bits op k x y:=by
 rcases h with rfl|rfl|rfl<;>rfl
def KE {α:Type} {b:Nat} {l m:List α} (f:b≤100) (h:(l++m).length≤1099511627776):Ci b l m=some (l++m):=by
 refine ET ?_;rw[Dk]at h;have :(l.length+m.length)*b≤1099511627776*100:=aGa h f;omega
def ahI (u:Nat):Dc .or .u8 (IntKind.u8.wrap (u:Int)) 128=((u % 128+128:Nat):Int):=by
 rw[vJ _ _ _ _ (.inr (.inl rfl)),show IntKind.u8.wrap (u:Int)=(u:Int) % 256 from by rw[Zc],agC]
def akl (u:Nat):LY .shr .u64 (u:Int) 7=some ((u/128:Nat):Int):=by
 unfold LY;rw[CV AA];show some ((u:Int).fdiv (2^7))=_;rw[acM _ BP];congr 1
def aez {u n:Nat} (h:u<128^(n+1+1)):u/128<128^(n+1):=by
 rw[Nat.div_lt_iff_lt_mul AA];rw[Nat.pow_succ]at h;exact h
def anm :∀(n u:Nat),u<128^(n+1)→∀m b,n<m→(b++Ku u).length≤1099511627776→aX Tv m b (u:Int)=some (b++Ku u):=by
 intro n
 induction n with
 |zero=>
  intro u j m b z f;obtain⟨m,rfl⟩:∃q,m=q+1:=⟨m-1,AA⟩
  have h:u<128:=NI
  rw[Zg h]at f ⊢;show Tv (aX Tv m) b (u:Int)=_;simp only[Tv,show decide ((u:Int)≥128)=false from by simp;omega,BK];rw[show IntKind.u8.wrap (u:Int)=(u:Int)from by rw[Zc];omega,KE AA f];rfl
 |succ n I=>
  intro u j m b z f;obtain⟨m,rfl⟩:∃q,m=q+1:=⟨m-1,AA⟩
  show Tv (aX Tv m) b (u:Int)=_;by_cases h:u<128
  ·rw[Zg h]at f ⊢;simp only[Tv,show decide ((u:Int)≥128)=false from by simp;omega,BK];rw[show IntKind.u8.wrap (u:Int)=(u:Int)from by rw[Zc];omega,KE AA f];rfl
  rw[aDf h]at f ⊢;have e:(b++((u % 128+128:Nat):Int)::Ku (u/128))=(b++[((u % 128+128:Nat):Int)])++Ku (u/128):=BG
  have s:(b++[((u % 128+128:Nat):Int)]).length≤1099511627776:=by simp only[Dk,FQ,Nu]at f ⊢;omega
  simp only[Tv,show decide ((u:Int)≥128)=true from by simp;omega,Ba,ahI,KE (show 1≤100 by omega) s,akl,Aa];rw[e];exact I (u/128) (aez j) m _ AA (by rw[←e];exact f)
def aph :∀(n u:Nat),u<128^(n+1)→u<18446744073709551616→∀m b,n<m→(b++Ku u).length≤1099511627776→aX SV m (u:Int) b=some (b++Ku u):=by
 intro n
 induction n with
 |zero=>
  intro u j _ m b z f;obtain⟨m,rfl⟩:∃q,m=q+1:=⟨m-1,AA⟩
  have h:u<128:=NI
  rw[Zg h]at f ⊢;show SV (aX SV m) (u:Int) b=_;simp only[SV,show decide ((u:Int)≥128)=false from by simp;omega,BK];rw[show IntKind.u8.wrap (u:Int)=(u:Int)from by rw[Zc];omega,KE AA f];rfl
 |succ n I=>
  intro u j J m b z f;obtain⟨m,rfl⟩:∃q,m=q+1:=⟨m-1,AA⟩
  show SV (aX SV m) (u:Int) b=_;by_cases h:u<128
  ·rw[Zg h]at f ⊢;simp only[SV,show decide ((u:Int)≥128)=false from by simp;omega,BK];rw[show IntKind.u8.wrap (u:Int)=(u:Int)from by rw[Zc];omega,KE AA f];rfl
  rw[aDf h]at f ⊢;have e:(b++((u % 128+128:Nat):Int)::Ku (u/128))=(b++[((u % 128+128:Nat):Int)])++Ku (u/128):=BG
  have s:(b++[((u % 128+128:Nat):Int)]).length≤1099511627776:=by simp only[Dk,FQ,Nu]at f ⊢;omega
  have L:X0 (u:Int) 128=some ((u % 128:Nat):Int):=by unfold X0;rw[CV AA,adX AA];congr 1
  have M:aEh .u64 (u:Int) 128=some ((u/128:Nat):Int):=by
   unfold aEh;rw[CV AA,Int.tdiv_eq_ediv_of_nonneg AA];congr 1;rw[Yw];omega
  have O:IntKind.u8.wrap (IntKind.u64.wrap (((u % 128:Nat):Int)+128))=((u % 128+128:Nat):Int):=by rw[Yw,Zc];omega
  simp only[SV,show decide ((u:Int)≥128)=true from by simp;omega,Ba,L,O,M,KE (show 1≤100 by omega) s,Aa];rw[e];exact I (u/128) (aez j) AA m _ AA (by rw[←e];exact f)
def aHy (x:Int):LY .shl .u64 x 1=some (IntKind.u64.wrap (x*2)):=rfl
def abu (x:Int):Yn .u64 x=bits .xor .u64 IntKind.u64.max x:=rfl
def af4 (n:Int):(QK n).toNat<128^(9+1):=by
 have f:=dX n;have :(128:Nat)^(9+1)=1180591620717411303424:=BP
 rw[this];omega
def ach :9<Ar:=aAE
def number_eq {b:List Int} {n:Int} (h:(b++enc n).length≤1099511627776):VA b n=some (b++enc n):=by
 have m:=dX n
 have f:aJn b (QK n)=some (b++enc n):=by
  have :=anm 9 (QK n).toNat (af4 n) Ar b ach h
  rwa [Int.toNat_of_nonneg m.1]at this
 unfold VA;rw[aHy,Aa];unfold qV;unfold QK at f;by_cases j:n<0
 ·rw[CG j]at f;rw[show decide (n<0)=true by simpa using j,Ba,abu];exact f
 rw[CV j]at f;rw[show decide (n<0)=false by simpa using j,BK];exact f
def asK (n:Int):([]++enc n).length≤1099511627776:=by have :=LZ n;simp only[IC];omega
def aIF (n:Int):oh n=some (enc n):=by
 have j:=dX n
 have f:abb (QK n) []=some (enc n):=by
  have :=aph 9 (QK n).toNat (af4 n) AA Ar [] ach (asK n)
  rwa [Int.toNat_of_nonneg j.1]at this
 unfold oh;rw[aHy,Aa];unfold aES;unfold QK at f;by_cases h:n<0
 ·rw[CG h]at f;rw[show decide (n<0)=true by simpa using h,Ba,abu];exact f
 rw[CV h]at f;rw[show decide (n<0)=false by simpa using h,BK];exact f
def kT {b:List Int} {m:Nat} (h:b.length+m≤1099511627776):Ut b (m:Int)=some b:=by
 unfold Ut;rw[Nl AA AA];unfold Gy;rw[CG ⟨AA,AA,AA⟩];simp[gCopy]
def xI {a b:List Int} (h:(a++b).length≤1099511627776):a.length≤1099511627776:=by rw[Dk]at h;omega
def H6 (s:ByteArray):List Int:=enc s.size++BR s
def text_eq {b:List Int} {s:ByteArray} (h:(b++H6 s).length≤1099511627776):o9 b s=some (b++H6 s):=by
 unfold H6 at h ⊢;rw[←G6]at h ⊢;unfold o9;rw[number_eq (xI h),Aa,KE AA h];rfl
def kN {b:List Int} {n:Int} (h:b.length+10≤1099511627776):KG b n=some (b++enc n):=by
 have :=LZ n;unfold KG;rw[show(10:Int)=((10:Nat):Int)from rfl,kT AA,Aa,number_eq Jq];rfl
def VT {b:List Int} {n:Int} (h:b.length+10≤1099511627776):Il b n=some (b++enc n):=by
 have :=LZ n;unfold Il;rw[KE AA rJ,Aa,aIF,Aa,IC,KE AA Jq];rfl
def aY (s:ByteArray):(H6 s).length≤s.size+10:=by
 have :=LZ s.size;unfold H6;rw[Dk,Fh];omega
def ajg {b:List Int} {s:ByteArray} (h:b.length+s.size+10≤1099511627776):Oq b s=some (b++H6 s):=by
 have :=aY s;unfold Oq;rw[Nl AA AA,show(s.size:Int)+10=((s.size+10:Nat):Int) by omega,kT AA,Aa,text_eq Jq];rfl
def aaF {b:List Int} {s:ByteArray} (h:b.length+s.size+10≤1099511627776):Oc b s=some (b++H6 s):=by
 have :=aY s;unfold Oc;rw[VT AA,Aa,KE AA (by unfold H6 at this;rw[Dk]at this;rw[Dk,Dk];omega)];simp[H6]
def aqC {b:List Int} {f:Bool} (h:b.length+10≤1099511627776):Ud b f=some (b++[bif f then 1 else 0]):=by
 unfold Ud;rw[show(1:Int)=((1:Nat):Int)from rfl,kT AA,Aa];cases f<;>simp only[Ba,BK]<;>rw[KE AA aFH]<;>rfl
def arf {b:List Int} {f:Bool} (h:b.length+10≤1099511627776):iZ b f=some (b++[bif f then 1 else 0]):=by
 unfold iZ;rw[KE AA rJ,Aa,IC];cases f<;>simp only[Ba,BK]<;>rw[KE AA aFH]<;>rfl
def aDS {α:Type} {body:(List Int→Int→Option (List Int))→List Int→Int→Option (List Int)} (l:List α) (s:l.length<Ar) (g:α→List Int)
 (u:∀k b (i:Nat) (h:i<l.length),(b++g l[i]).length≤1099511627776→body k b (i:Int)=k (b++g l[i]) (BD ((i:Int)+1))) (z:∀k b,body k b (l.length:Int)=some b) (b:List Int) (f:(b++l.flatMap g).length≤1099511627776):
 aX body Ar b 0=some (b++l.flatMap g):=by
 have L:Ar=9223372036854775808:=rfl
 have key:∀n (i:Nat) b,i+n=l.length→(b++(l.drop i).flatMap g).length≤1099511627776→∀m,n<m→aX body m b (i:Int)=some (b++(l.drop i).flatMap g):=by
  intro n
  induction n with
  |zero=>
   intro i b hi f m I;obtain⟨m,rfl⟩:∃q,m=q+1:=⟨m-1,AA⟩
   have :i=l.length:=AA
   subst this;show body (aX body m) _ _=_;rw[z,Oa];simp
  |succ n J=>
   intro i b hi f m I;obtain⟨m,rfl⟩:∃q,m=q+1:=⟨m-1,AA⟩
   have j:i<l.length:=AA
   rw[NC j,LV,←G6]at f ⊢;show body (aX body m) _ _=_;rw[u _ _ i j (xI f),wrap_succ i AA];exact J (i+1) _ AA f m AA
 exact key l.length 0 b AA f Ar s
def NK (l:List Int):List Int:=enc l.length++l.flatMap enc
def MW (l:List ByteArray):List Int:=enc l.length++l.flatMap H6
def aiS {b:List Int} {l:List Int} (h:(b++NK l).length≤1099511627776) (j:l.length≤1000):aAD b l=some (b++NK l):=by
 have m:Ar=9223372036854775808:=rfl;unfold NK at h ⊢;rw[←G6]at h ⊢;unfold aAD;rw[number_eq (xI h),Aa];unfold adb;refine aDS l AA enc (fun k b i hi f=>?_) (fun k b=>?_) _ h
 ·simp only[aC5,dec_lt hi,Ba,D9 hi,number_eq f,Aa]
 simp only[aC5,EG,BK]
def ajC {b:List Int} {l:List ByteArray} (h:(b++MW l).length≤1099511627776) (j:l.length≤1000):pJ b l=some (b++MW l):=by
 have m:Ar=9223372036854775808:=rfl;unfold MW at h ⊢;rw[←G6]at h ⊢;unfold pJ;rw[number_eq (xI h),Aa];unfold aJg;refine aDS l AA H6 (fun k b i hi f=>?_) (fun k b=>?_) _ h
 ·simp only[aBw,dec_lt hi,Ba,D9 hi,text_eq f,Aa]
 simp only[aBw,EG,BK]
def yS {α:Type} {g:α→List Int} {m:Nat}:∀{l:List α},(∀x∈l,(g x).length≤m)→(l.flatMap g).length≤l.length*m
 | [],_=>BG
 |x::l,h=>by
  rw[LV,Dk,FQ,Ry];have :=h x Fa;have :=yS (l:=l) (fun y f=>h y (Gq _ f));omega
def aEO (l:List Int):(NK l).length≤l.length*10+10:=by
 have f:=LZ l.length;have h:=yS (g:=enc) (m:=10) (l:=l) (fun x _=>LZ x);unfold NK;rw[Dk];omega
def aD0 {l:List ByteArray} {m:Nat} (h:∀s∈l,s.size≤m):(MW l).length≤l.length*(m+10)+10:=by
 have j:=LZ l.length;have n:=yS (g:=H6) (m:=m+10) (l:=l) (fun s f=>by have :=aY s;have :=h s f;omega);unfold MW;rw[Dk];omega
def asI {b:List Int} {l:List Int} (h:b.length+20000≤1099511627776) (f:l.length≤1000):Ug b l=some (b++NK l):=by
 have j:=aEO l;unfold Ug;rw[Nl (x:=2*(l.length:Int)) AA AA,Nl AA AA,show 2*(l.length:Int)+10=((2*l.length+10:Nat):Int) by omega,kT AA,Aa,aiS Jq f];rfl
def anY {b:List Int} {l:List Int} (j:b.length+20000≤1099511627776) (m:l.length≤1000):bW b l=some (b++NK l):=by
 have n:Ar=9223372036854775808:=rfl;have q:=aEO l;have h:(b++NK l).length≤1099511627776:=Jq
 unfold NK at h ⊢;rw[←G6]at h ⊢;unfold bW;rw[VT AA,Aa];unfold ady;refine aDS l AA enc (fun k b i hi f=>?_) (fun k b=>?_) _ h
 ·simp only[aEc,dec_lt hi,Ba,D9 hi,aIF,KE (show 1≤100 by omega) f,Aa]
 simp only[aEc,EG,BK]
def ahr {b:List Int} {l:List ByteArray} (j:b.length+3000000≤1099511627776) (f:l.length≤1000) (h:∀s∈l,s.size≤2000):Zn b l=some (b++MW l):=by
 have m:=aD0 h;unfold Zn;rw[Nl (x:=8*(l.length:Int)) AA AA,Nl AA AA,show 8*(l.length:Int)+10=((8*l.length+10:Nat):Int) by omega,kT AA,Aa,ajC Jq f];rfl
def asD {b:List Int} {l:List ByteArray} (J:b.length+3000000≤1099511627776) (L:l.length≤1000) (q:∀s∈l,s.size≤2000):dn b l=some (b++MW l):=by
 have M:Ar=9223372036854775808:=rfl;have O:=aD0 q;have h:(b++MW l).length≤1099511627776:=Jq
 have key:∀n (i:Nat) b,i+n=l.length→b.length+(n*2020)≤1099511620000→∀m,n<m→aX (UU l) m b (i:Int)=some (b++(l.drop i).flatMap H6):=by
  intro n
  induction n with
  |zero=>
   intro i b hi u m z;obtain⟨m,rfl⟩:∃j,m=j+1:=⟨m-1,AA⟩
   have :i=l.length:=AA
   subst this;show UU l (aX (UU l) m) _ _=_;simp only[UU,EG,BK,Oa];simp
  |succ n I=>
   intro i b hi u m z;obtain⟨m,rfl⟩:∃j,m=j+1:=⟨m-1,AA⟩
   have f:i<l.length:=AA
   have S:=q l[i] (EU f);have U:=aY l[i];rw[NC f,LV,←G6];show UU l (aX (UU l) m) _ _=_;simp only[UU,dec_lt f,Ba,D9 f,Aa];rw[aaF AA,Aa,wrap_succ i AA];exact I (i+1) _ AA Jq m AA
 unfold MW;rw[←G6];unfold dn;rw[VT AA,Aa];unfold adG;have :=key l.length 0 (b++enc l.length) AA (by have :=LZ l.length;rw[Dk];omega) Ar AA;exact this
structure PD (c:Bf):Prop where
 allow:c.Allow.length≤100
 deny:c.iq.length≤100
 users:c.Levels.Users.length≤100
 kinds:c.Levels.Kinds.length≤100
 text:c.Text.size≤2000
 via:c.Via.size≤2000
 allows:∀x∈c.Allow,x.size≤2000
 denies:∀x∈c.iq,x.size≤2000
 names:∀x∈c.Levels.Users,x.User.size≤2000
def H8.content {e:AO} (h:H8 e):PD e.Content:=⟨h.allow,h.deny,h.users,h.kinds,h.text,h.via,h.allows,h.denies,h.names⟩
section
variable {b : List Int} {k : Nat}
def QE (h:b.length≤k) (f:k≤1000000000) (n:Int):KG b n=some (b++enc n)∧Il b n=some (b++enc n)∧(b++enc n).length≤k+10:=by
 have :=LZ n;exact⟨kN AA,VT AA,Jq⟩
def aeM (h:b.length≤k) (j:k≤1000000000) (f:Bool):Ud b f=some (b++[bif f then 1 else 0])∧iZ b f=some (b++[bif f then 1 else 0])∧(b++[bif f then(1:Int)else 0]).length≤k+10:=
 ⟨aqC AA,arf AA,aFH⟩
def TU (h:b.length≤k) (f:k≤1000000000) {s:ByteArray} (m:Nat) (j:s.size≤m) (n:m≤1000000000):Oq b s=some (b++H6 s)∧Oc b s=some (b++H6 s)∧(b++H6 s).length≤k+m+10:=by
 have :=aY s;exact⟨ajg AA,aaF AA,Jq⟩
def afL (h:b.length≤k) (f:k≤1000000000) {l:List Int} (j:l.length≤100):Ug b l=some (b++NK l)∧bW b l=some (b++NK l)∧(b++NK l).length≤k+1010:=by
 have :=aEO l;exact⟨asI AA AA,anY AA AA,Jq⟩
def ae3 (h:b.length≤k) (j:k≤1000000000) {l:List ByteArray} (m:l.length≤100) (f:∀s∈l,s.size≤2000):Zn b l=some (b++MW l)∧dn b l=some (b++MW l)∧(b++MW l).length≤k+201010:=by
 have :=aD0 f;exact⟨ahr AA AA f,asD AA AA f,Jq⟩
end
def Ou (u:G7):List Int:=H6 u.User++enc u.N
def OL (u:Gm):List Int:=enc u.Kind++enc u.N
def Gx (l:CP):List Int:=[l.User,l.Message,l.State,l.fP,l.jU,l.nH,l.gZ]
def aja (b:List Int) (l:CP):List Int:=b++enc l.Users.length++l.Users.flatMap Ou++enc l.Kinds.length++l.Kinds.flatMap OL++(Gx l).flatMap enc
def ZL (c:Bf):List Int:=aja ([]++H6 c.Text++enc c.N++enc c.Target++[bif c.Thread then 1 else 0]++H6 c.Via++MW c.Allow++MW c.iq) c.Levels
def ake {u:G7} (h:u.User.size≤2000):(Ou u).length≤2020:=by
 have :=aY u.User;have :=LZ u.N;unfold Ou;rw[Dk];omega
def ac5 (u:Gm):(OL u).length≤20:=by
 have :=LZ u.Kind;have :=LZ u.N;unfold OL;rw[Dk];omega
def ZG {R α:Type} {body:(List Int→Int→Option R)→List Int→Int→Option R} (l:List α) (u:l.length≤1000) (g:α→List Int) (m:Nat) (j:∀x∈l,(g x).length≤m) (f:List Int→Option R) (b:List Int)
 (n:∀k a (i:Nat) (h:i<l.length),a.length≤b.length+i*m→body k a (i:Int)=k (a++g l[i]) (BD ((i:Int)+1)))
 (q:∀k a,a.length≤b.length+l.length*m→body k a (l.length:Int)=f a):aX body Ar b 0=f (b++l.flatMap g)∧(b++l.flatMap g).length≤b.length+l.length*m:=by
 constructor
 ·rw[LP l AA (fun a x=>a++g x) (fun i a=>a.length≤b.length+i*m) f AA (fun k a i h s=>⟨?_,n k a i h s⟩) q,foldl_append g];have :=j l[i] (EU h);rw[Dk,Ry];omega
 have :=yS j;rw[Dk];omega
def aoW (c:Bf) (b:List Int) (s:b.length≤900000):(aDE c b 0=some (b++(Gx c.Levels).flatMap enc)∧aDY (Gx c.Levels) b 0=some (b++(Gx c.Levels).flatMap enc))∧(b++(Gx c.Levels).flatMap enc).length≤b.length+70:=by
 have m:∀i:Nat,(h:i<(Gx c.Levels).length)→BF ([c.Levels.User,c.Levels.Message,c.Levels.State,c.Levels.fP,c.Levels.jU,c.Levels.nH,c.Levels.gZ]:List Int) (i:Int)=some (Gx c.Levels)[i]:=fun i h=>D9 h
 have j:=ZG (body:=aDP c) (Gx c.Levels) (by simp[Gx]) enc 10 (fun x _=>LZ x) some b (fun k a i h f=>by
  have n:i<7:=h;unfold aDP
  rw[I4 (show(i:Int)<7 by omega),Ba,m i h,Aa,kN AA,Aa]) fun k a f=>rfl
 have q:=ZG (body:=sK (Gx c.Levels)) (Gx c.Levels) (by simp[Gx]) enc 10 (fun x _=>LZ x) some b (fun k a i h f=>by
  have n:i<7:=h;unfold sK
  rw[D5 h,VT AA,Aa]) fun k a f=>by unfold sK;rw[EG];rfl
 exact⟨⟨j.1,q.1⟩,j.2⟩
def aoz (c:Bf) (b:List Int) (u:b.length≤800000) (z:c.Levels.Kinds.length≤100):(aCa c b 0=some (b++c.Levels.Kinds.flatMap OL++(Gx c.Levels).flatMap enc)∧aCu c b 0=some (b++c.Levels.Kinds.flatMap OL++(Gx c.Levels).flatMap enc))∧(b++c.Levels.Kinds.flatMap OL++(Gx c.Levels).flatMap enc).length≤b.length+2070:=by
 have m:=ZG (body:=sV c) c.Levels.Kinds AA OL 20 (fun x _=>ac5 x) (fun a=>aDE c a 0) b (fun k a i h f=>by
  obtain⟨j,_,q⟩:=QE (b:=a) (k:=900000) AA AA c.Levels.Kinds[i].Kind;unfold sV
  rw[D5 h,j,Aa,kN AA,Aa,G6];rfl) fun k a f=>by unfold sV;rw[EG];rfl
 have s:=ZG (body:=aAH c) c.Levels.Kinds AA OL 20 (fun x _=>ac5 x) (fun a=>aDY (Gx c.Levels) a 0) b (fun k a i h f=>by
  obtain⟨_,j,q⟩:=QE (b:=a) (k:=900000) AA AA c.Levels.Kinds[i].Kind;unfold aAH
  rw[D5 h,j,Aa,D9 h,Aa,VT AA,Aa,G6];rfl) fun k a f=>by unfold aAH afG;rw[EG,BK,Aa];rfl
 have I:=m.2;have n:=aoW c (b++c.Levels.Kinds.flatMap OL) AA;exact⟨⟨m.1.trans n.1.1,s.1.trans n.1.2⟩,AA⟩
def aqj (c:Bf) (b:List Int) (S:b.length≤500000) (f:PD c):(aaK c b 0=some (b++c.Levels.Users.flatMap Ou++enc c.Levels.Kinds.length++c.Levels.Kinds.flatMap OL++(Gx c.Levels).flatMap enc)∧acp c b 0=some (b++c.Levels.Users.flatMap Ou++enc c.Levels.Kinds.length++c.Levels.Kinds.flatMap OL++(Gx c.Levels).flatMap enc))∧(b++c.Levels.Users.flatMap Ou++enc c.Levels.Kinds.length++c.Levels.Kinds.flatMap OL++(Gx c.Levels).flatMap enc).length≤b.length+204080:=by
 have U:=f.users;have u:∀x∈c.Levels.Users,(Ou x).length≤2020:=fun x I=>ake (f.names x I)
 have z:=ZG (body:=yh c) c.Levels.Users AA Ou 2020 u (fun a=>aCa c (a++enc c.Levels.Kinds.length) 0) b (fun k a i h j=>by
  have m:=f.names _ (EU h);obtain⟨n,_,J⟩:=TU (b:=a) (k:=900000) AA AA (s:=c.Levels.Users[i].User) 2000 m AA;unfold yh
  rw[D5 h,n,Aa,kN AA,Aa,G6];rfl) fun k a j=>by unfold yh;rw[EG,BK,kN AA,Aa]
 have L:=ZG (body:=xX c) c.Levels.Users AA Ou 2020 u (fun a=>aCu c (a++enc c.Levels.Kinds.length) 0) b (fun k a i h j=>by
  have m:=f.names _ (EU h);obtain⟨_,n,J⟩:=TU (b:=a) (k:=900000) AA AA (s:=c.Levels.Users[i].User) 2000 m AA;unfold xX
  rw[D5 h,n,Aa,D9 h,Aa,VT AA,Aa,G6];rfl) fun k a j=>by unfold xX;rw[EG,BK,VT AA,Aa]
 have Y:=z.2;have Z:=LZ (c.Levels.Kinds.length:Int);have M:(b++c.Levels.Users.flatMap Ou++enc c.Levels.Kinds.length).length=(b++c.Levels.Users.flatMap Ou).length+(enc c.Levels.Kinds.length).length:=Dk ..;have q:=aoz c (b++c.Levels.Users.flatMap Ou++enc c.Levels.Kinds.length) AA f.kinds;have O:=q.2;rw[M]at O;exact⟨⟨z.1.trans q.1.1,L.1.trans q.1.2⟩,AA⟩
def abC {c:Bf} (f:PD c):l9 c=some (ZL c)∧qA c=some (ZL c)∧(ZL c).length≤700000:=by
 obtain⟨h,j,m⟩:=TU (b:=[]) (k:=0) (Dn _) AA 2000 f.text AA;obtain⟨n,q,s⟩:=QE m AA c.N;obtain⟨u,z,I⟩:=QE s AA c.Target;obtain⟨J,L,M⟩:=aeM I AA c.Thread;obtain⟨O,S,U⟩:=TU M AA 2000 f.via AA;obtain⟨Y,Z,h6⟩:=ae3 U AA f.allow f.allows;obtain⟨a7,b7,h7⟩:=ae3 h6 AA f.deny f.denies;obtain⟨a8,b8,h8⟩:=QE h7 AA (c.Levels.Users.length:Int);obtain⟨⟨a9,b9⟩,h9⟩:=aqj c _ (E5 h8 AA) f;refine⟨?_,?_,E5 h9 AA⟩
 ·unfold l9;rw[h,Aa,n,Aa,u,Aa,J,Aa,O,Aa,Y,Aa,a7,Aa,a8,Aa];exact a9
 unfold qA;rw[j,Aa,q,Aa,z,Aa,L,Aa,S,Aa,Z,Aa,b7,Aa,b8,Aa];exact b9
def oz (e:AO):List Int:=
 []++enc e.Id++H6 e.Room++H6 e.bg++enc e.Kind++[bif e.State then 1 else 0]++H6 e.Key++enc e.Time++enc e.Depth++NK e.bY++NK e.dh++H6 (O1 (ZL e.Content))++enc e.Hash++H6 e.pX.Server++enc e.pX.Sum
def ajU (l:List Int):(O1 l).size=l.length:=by
 have key:∀(l:List Int) (r:ByteArray),(l.foldl (fun r n=>r.push (UInt8.ofNat n.toNat)) r).size=r.size+l.length:=by
  intro l
  induction l with
  |nil=>intro r;rfl
  |cons x l f=>intro r;rw[GI,f,ByteArray.size_push,FQ];omega
 unfold O1;rw[key];simp
def rH {S α:Type} {body:(Int→S→Option S)→Int→S→Option S} (l:List α) (L:l.length<1000) (f:S→α→Option S)
 (u:∀k (i:Nat) (h:i<l.length) s,body k (i:Int) s=(f s l[i]).bind fun x=>k (BD ((i:Int)+1)) x) (z:∀k s,body k (l.length:Int) s=some s) (s:S):aX body Ar 0 s=l.foldlM f s:=by
 have M:Ar=9223372036854775808:=rfl
 have key:∀n (i:Nat) s,i+n=l.length→∀m,n<m→aX body m (i:Int) s=(l.drop i).foldlM f s:=by
  intro n
  induction n with
  |zero=>
   intro i s hi m I;obtain⟨m,rfl⟩:∃q,m=q+1:=⟨m-1,AA⟩
   have :i=l.length:=AA
   subst this;rw[Oa];exact z _ _
  |succ n J=>
   intro i s hi m I;obtain⟨m,rfl⟩:∃q,m=q+1:=⟨m-1,AA⟩
   have j:i<l.length:=AA
   rw[NC j,RU];show body (aX body m) _ _=(f s l[i]).bind _;rw[u _ i j,wrap_succ i AA];congr 1;funext x;exact J (i+1) x AA m AA
 exact key l.length 0 s AA Ar AA
def adl (w:EL) (l:List Int) (f:l.length<1000):Px w l=l.foldlM Yk w:=by
 unfold Px aHo;exact rH l f _ (fun k i h s=>by simp only[aFt,dec_lt h,Ba,D9 h,Aa]) (fun k s=>by simp only[aFt,EG,BK]) w
def adD (w:EL) (l:List ByteArray) (f:l.length<1000):Sl w l=l.foldlM Zl w:=by
 unfold Sl afH;exact rH l f _ (fun k i h s=>by simp only[aBl,dec_lt h,Ba,D9 h,Aa]) (fun k s=>by simp only[aBl,EG,BK]) w
def al6 (w:EL) (l:List Bool) (f:l.length<1000):jH w l=l.foldlM dY w:=by
 unfold jH aIY;exact rH l f _ (fun k i h s=>by simp only[aFE,dec_lt h,Ba,D9 h,Aa]) (fun k s=>by simp only[aFE,EG,BK]) w
def alU (w:EL) (l:List (List Int)) (f:l.length<1000):er w l=l.foldlM Zw w:=by
 unfold er aI8;exact rH l f _ (fun k i h s=>by simp only[aE8,dec_lt h,Ba,D9 h,Aa]) (fun k s=>by simp only[aE8,EG,BK]) w
def aGp {b c:List Int} {n:Int} (h:KG b n=some c):Yk ⟨b⟩ n=some ⟨c⟩:=by unfold Yk;rw[h];rfl
def aGo {b c:List Int} {n:ByteArray} (h:Oq b n=some c):Zl ⟨b⟩ n=some ⟨c⟩:=by unfold Zl;rw[h];rfl
def amG {b c:List Int} {n:Bool} (h:Ud b n=some c):dY ⟨b⟩ n=some ⟨c⟩:=by unfold dY;rw[h];rfl
def aH6 {b c:List Int} {n:List Int} (h:Ug b n=some c):Zw ⟨b⟩ n=some ⟨c⟩:=by unfold Zw;rw[h];rfl
def zB {b c:List Int} {n:Int} (h:KG b n=some c):Px ⟨b⟩ [n]=some ⟨c⟩:=by
 rw[adl _ _ BG,RU,aGp h];rfl
def amq {b c d:List Int} {n m:Int} (h:KG b n=some c) (k:KG c m=some d):Px ⟨b⟩ [n,m]=some ⟨d⟩:=by
 rw[adl _ _ BG,RU,aGp h];show(Yk ⟨c⟩ m).bind _=_;rw[aGp k];rfl
def aBK {b c:List Int} {n:ByteArray} (h:Oq b n=some c):Sl ⟨b⟩ [n]=some ⟨c⟩:=by
 rw[adD _ _ BG,RU,aGo h];rfl
def aoa {b c d:List Int} {n m:ByteArray} (h:Oq b n=some c) (k:Oq c m=some d):Sl ⟨b⟩ [n,m]=some ⟨d⟩:=by
 rw[adD _ _ BG,RU,aGo h];show(Zl ⟨c⟩ m).bind _=_;rw[aGo k];rfl
def asT {b c:List Int} {n:Bool} (h:Ud b n=some c):jH ⟨b⟩ [n]=some ⟨c⟩:=by
 rw[al6 _ _ BG,RU,amG h];rfl
def alO {b c d:List Int} {n m:List Int} (h:Ug b n=some c) (k:Ug c m=some d):er ⟨b⟩ [n,m]=some ⟨d⟩:=by
 rw[alU _ _ BG,RU,aH6 h];show(Zw ⟨c⟩ m).bind _=_;rw[aH6 k];rfl
def amL {e:AO} (f:H8 e):lK e=some (oz e)∧wC e=some (oz e)∧(oz e).length≤1000000:=by
 obtain⟨Z,bc,hc⟩:=abC f.content;obtain⟨a1,b1,h1⟩:=QE (b:=[]) (k:=0) (Dn _) AA e.Id;obtain⟨a2,b2,h2⟩:=TU h1 AA 2000 f.room AA;obtain⟨a3,b3,h3⟩:=TU h2 AA 2000 f.sender AA;obtain⟨a4,b4,h4⟩:=QE h3 AA e.Kind;obtain⟨a5,b5,h5⟩:=aeM h4 AA e.State;obtain⟨a6,b6,h6⟩:=TU h5 AA 2000 f.key AA;obtain⟨a7,b7,h7⟩:=QE h6 AA e.Time;obtain⟨a8,b8,h8⟩:=QE h7 AA e.Depth;obtain⟨a9,b9,h9⟩:=afL h8 AA (E5 f.prev AA);obtain⟨h,j,m⟩:=afL h9 AA (E5 f.auth AA);obtain⟨n,q,u⟩:=TU m AA (s:=O1 (ZL e.Content)) 700000 (by rw[ajU];exact hc) AA;obtain⟨z,I,J⟩:=QE u AA e.Hash;obtain⟨L,M,O⟩:=TU J AA 2000 f.server AA;obtain⟨S,U,Y⟩:=QE O AA e.pX.Sum;refine⟨?_,?_,E5 Y AA⟩
 ·unfold lK
  rw[show Px aAA [e.Id]=_ from zB a1,Aa,aoa a2 a3,Aa,zB a4,Aa,asT a5,Aa,aBK a6,Aa,amq a7 a8,Aa,alO a9 h,Aa,
   Z,Aa,aBK n,Aa,zB z,Aa,aBK L,Aa,zB S,Aa]
  rfl
 unfold wC;rw[b1,Aa,b2,Aa,b3,Aa,b4,Aa,b5,Aa,b6,Aa,b7,Aa,b8,Aa,b9,Aa,j,Aa,bc,Aa,q,Aa,I,Aa,M,Aa,U,Aa];rfl
def qZ (l:List Int):Int:=BD (l.foldl nY ((IntKind.u64.wrap 860922984064492325).tmod 4611686018427387904))
def aI9 {l:List Int} (f:l.length≤1000000):lW l=some (qZ l):=by
 unfold lW aFA;rw[Aa];unfold aCC aGr
 rw[vJ _ _ _ _ (.inl rfl),ab3,LP l AA nY (fun _ _=>True) (fun s=>some (BD s)) trivial (fun k s i h _=>⟨trivial,by
  simp only[aDg,dec_lt h,Ba,D9 h,Aa,vJ _ _ _ _ (.inl rfl),vJ _ _ _ _ (.inr (.inr rfl)),asO]⟩) fun k s _=>by
  simp only[aDg,EG,BK]]
 rfl
def aeb {l:List Int} (f:l.length≤1000000):xY l=some (qZ l):=by
 unfold xY;rw[show afP=some 860922984064492325 from rfl,Aa];unfold abZ aHz
 rw[show X0 (IntKind.u64.wrap 860922984064492325) 4611686018427387904=some ((IntKind.u64.wrap 860922984064492325).tmod 4611686018427387904)from rfl,Aa,LP l AA nY (fun _ _=>True) (fun s=>some (BD s)) trivial (fun k s i h _=>⟨trivial,by
  have e:X0 (IntKind.u64.wrap ((Dc .xor .u64 s (IntKind.u64.wrap l[i]))*1099511628211)) 4611686018427387904=some (nY s l[i]):=rfl
  simp only[aCL,dec_lt h,Ba,D9 h,Aa,e]⟩) fun k s _=>by
  simp only[aCL,EG,BK]]
 rfl
def Vk (k:Int) (c:Bf):Bf:=
 if k=1 then c else if k=2 then{ EH with N:=c.N,Via:=c.Via }else if k=3 then{ EH with Levels:=c.Levels }else if k=4 then{ EH with N:=c.N,Allow:=c.Allow }else
 if k=5 then{ EH with N:=c.N }else if k=6 then{ EH with Allow:=c.Allow,iq:=c.iq }else if k=14 then{ EH with Target:=c.Target }else EH
def aHa {R:Type} (a b:Int) (x y:R):(bif a==b then x else y)=if a=b then x else y:=by
 by_cases h:a=b
 ·subst h;simp
 have :(a==b)=false:=Hf
 rw[this,CV h];rfl
def aIt {R:Type} (p:Prop) [Decidable p] (x y:R):(if p then some x else some y)=some (if p then x else y):=by split<;>rfl
def aHh (k:Int) (c:Bf):aAe k c=some (Vk k c):=by
 unfold aAe Vk;simp only[aHa,aIt]
def texts_eq {l:List ByteArray} (h:l.length≤100):OG l=some l:=by
 unfold OG;rw[KE AA rJ];rfl
def aav {l:CP} (h:l.Users.length≤100) (f:l.Kinds.length≤100):X6 l=some l:=by
 unfold X6;rw[KE AA rJ,Aa,KE AA (by rw[IC];exact E5 f AA)];rfl
def zh (k:Int):Int:=if k=2 then 18 else if k=3 then 128 else if k=4 then 34 else if k=5 then 2 else if k=6 then 96 else if k=14 then 4 else 0
def am7 (k:Int):bG k=some (zh k):=by
 by_cases h:k=2
 ·subst h;rfl
 by_cases j:k=3
 ·subst j;rfl
 by_cases m:k=4
 ·subst m;rfl
 by_cases n:k=5
 ·subst n;rfl
 by_cases f:k=6
 ·subst f;rfl
 unfold bG Za zh;simp only[aHa,h,j,m,n,f,Ic,show(k==6)=false from by simpa using f,BK,aIt]
def acI (k:Int) {c:Bf} (f:PD c):nR k c=some (Vk k c):=by
 by_cases j:k=1
 ·subst j;show(OG c.Allow).bind (fun z=>(OG c.iq).bind fun I=>(X6 c.Levels).bind fun J=>some ({ { { c with Allow:=z }with iq:=I }with Levels:=J }))=_;rw[texts_eq f.allow,Aa,texts_eq f.deny,Aa,aav f.users f.kinds];rfl
 unfold nR;rw[show(k==1)=false from by simpa using j,BK,am7,Aa];by_cases m:k=2
 ·subst m;rfl
 by_cases n:k=3
 ·subst n;show(X6 c.Levels).bind (fun x=>some { EH with Levels:=x })=_;rw[aav f.users f.kinds];rfl
 by_cases q:k=4
 ·subst q;show(OG c.Allow).bind (fun x=>some { EH with N:=c.N,Allow:=x })=_;rw[texts_eq f.allow];rfl
 by_cases s:k=5
 ·subst s;rfl
 by_cases u:k=6
 ·subst u;show(OG c.Allow).bind (fun x=>(OG c.iq).bind fun y=>some { EH with Allow:=x,iq:=y })=_;rw[texts_eq f.allow,Aa,texts_eq f.deny];rfl
 by_cases h:k=14
 ·subst h;rfl
 have L:zh k=0:=by unfold zh;simp only[m,n,q,s,u,h,Ic]
 have M:Vk k c=EH:=by unfold Vk;simp only[j,m,n,q,s,u,h,Ic]
 rw[L,M];rfl
def PD.strip {c:Bf} (h:PD c) (k:Int):PD (Vk k c):=by
 have f:(0:Nat)≤2000:=AA
 unfold Vk
 repeat' split
 all_goals first|exact h|exact⟨by simp[EH,Jv,h.allow],by simp[EH,Jv,h.deny],by simp[EH,Jv,h.users],by simp[EH,Jv,h.kinds],by first|exact h.text|exact f,by first|exact h.via|exact f,by first|exact h.allows|simp[EH],by first|exact h.denies|simp[EH],by first|exact h.names|simp[EH,Jv]⟩
def aG0 (e:AO):AO:={ e with Content:=Vk e.Kind e.Content }
def PW (e:AO):Prop:=H8 { e with pX:=Wp }
def PW.content {e:AO} (h:PW e):PD e.Content:=H8.content (e:={ e with pX:=Wp }) h
def H8.x {e:AO} (h:H8 e):PW e:=⟨h.prev,h.auth,h.allow,h.deny,h.users,h.kinds,h.room,h.sender,h.key,h.text,h.via,Dx _,h.allows,h.denies,h.names⟩
def amV {e:AO} (f:PW e):Mem e=some (aG0 e)∧aEY e=some (aG0 e):=by
 unfold Mem aEY;rw[acI _ f.content,aHh];exact⟨rfl,rfl⟩
def iM (e:AO):Int:=qZ (ZL e.Content)
def xQ (e:AO):AO:={ { aG0 e with Id:=0 }with pX:=Wp }
def aIh (e:AO):Int:=qZ (oz (xQ e))
def PW.bare {e:AO} (h:PW e):H8 (xQ e):=by
 have f:=h.content.strip e.Kind;exact⟨h.prev,h.auth,f.allow,f.deny,f.users,f.kinds,h.room,h.sender,h.key,f.text,f.via,by show(0:Nat)≤2000;omega,f.allows,f.denies,f.names⟩
def aaJ {e:AO} (f:PW e):mY e=some (iM e)∧aD1 e=some (iM e):=by
 obtain⟨a,b,h⟩:=abC f.content;unfold mY aD1;rw[a,b,Aa,Aa,aI9 AA,aeb AA];exact⟨rfl,rfl⟩
def aeG {e:AO} (f:PW e):nE e=some (aIh e)∧aGU e=some (aIh e):=by
 obtain⟨a,b⟩:=amV f;obtain⟨c,d,h⟩:=amL f.bare;unfold nE aGU;rw[a,b,Aa,Aa];show(lK (xQ e)).bind _=_∧(wC (xQ e)).bind _=_;rw[c,d,Aa,Aa,aI9 AA,aeb AA];exact⟨rfl,rfl⟩
def Nw (s:ByteArray):Int:=bif F7 s 64 then 0 else 3
def SC (s:ByteArray):Int:=bif F7 s 33 then 0 else 3
def Ve {s:ByteArray} (f:s.size≤9223372036854775807):Vz s=some (Nw s)∧Xw s=some (Nw s):=by
 unfold Vz eP Xw Nw;rw[aF5 f (marks:=gu) (by rw[show BR gu=[64]from rfl];intro m h;simp only[Em,FH,ZW]at h;omega),zW f BP,show((BR gu).any fun m=>F7 s m)=(F7 s 64||false)from rfl];cases F7 s 64<;>exact⟨rfl,rfl⟩
def nX {s:ByteArray} (f:s.size≤9223372036854775807):fJ s=some (SC s)∧iF s=some (SC s):=by
 unfold fJ eP iF SC;rw[aF5 f (marks:=kQ) (by rw[show BR kQ=[33]from rfl];intro m h;simp only[Em,FH,ZW]at h;omega),zW f BP,show((BR kQ).any fun m=>F7 s m)=(F7 s 33||false)from rfl];cases F7 s 33<;>exact⟨rfl,rfl⟩
def aoP {l:List Int} (h:UJ l=true):(58:Int)∉l:=by
 intro f;unfold UJ NY at h;simp only[Bv,DV]at h;have :=h.2 58 f;exact absurd this BP
def ao9 (s:ByteArray) (j:s.size≤2000):(splitB s (J7 s)).1.size≤2000∧(58:Int)∉BR (splitB s (J7 s)).1∧(splitB s (J7 s)).2.1.size≤2000:=by
 have m:BL.size≤2000:=BP
 cases h:J7 s with
 |false=>exact⟨m,by show(58:Int)∉BR BL;decide,m⟩
 |true=>
  have f:PZ s=true:=by
   unfold J7 F7 at h;cases f:PZ s with
   |true=>rfl
   |false=>rw[f]at h;simp at h
  refine⟨E5 (extract_size _ _ _) j,aoP ?_,E5 (extract_size _ _ _) j⟩;unfold PZ at f;simp only[Bv]at f;exact f.1.2
def any_false {α:Type} (l:List α):(l.any fun _=>false)=false:=BG
def aBO {α:Type} {body:(Int→Option Bool)→Int→Option Bool} (l:List α) (m:l.length≤1000) (rest:Option Bool) (f:∀k (i:Nat) (h:i<l.length),body k (i:Int)=k (BD ((i:Int)+1))) (j:∀k,body k (l.length:Int)=rest):bF body Ar 0=rest:=by
 rw[I5 l (nO AA) (fun _=>false) false rest (fun k i h=>by rw[f k i h];rfl) j,any_false];rfl
def ah8 {l:List ByteArray} (h:l.length≤1000):Uu l l=some true:=by
 unfold Uu aB0;rw[show((l.length:Int) != (l.length:Int))=false from by simp,BK];exact aBO l h _ (fun k i h=>by simp only[dL,dec_lt h,Ba,D9 h,Aa,Ws,EF,BK]) (fun k=>by simp only[dL,EG,BK])
structure IJ (c:Bf):Prop where
 allow:c.Allow.length≤9223372036854775807
 deny:c.iq.length≤9223372036854775807
 users:c.Levels.Users.length≤9223372036854775807
 kinds:c.Levels.Kinds.length≤9223372036854775807
 text:c.Text.size≤9223372036854775807
 via:c.Via.size≤9223372036854775807
 allows:∀x∈c.Allow,x.size≤9223372036854775807
 denies:∀x∈c.iq,x.size≤9223372036854775807
 names:∀x∈c.Levels.Users,x.User.size≤9223372036854775807
structure QF (e:AO):Prop where
 prev:e.bY.length≤9223372036854775807
 auth:e.dh.length≤9223372036854775807
 room:e.Room.size≤9223372036854775807
 sender:e.bg.size≤9223372036854775807
 key:e.Key.size≤9223372036854775807
 server:e.pX.Server.size≤9223372036854775807
 content:IJ e.Content
def xR (k:Int):nD k=some (decide (k≥1)&&decide (k≤14))∧fA k=some (decide (k≥1)&&decide (k≤14)):=by
 unfold nD fA;cases decide (k≥1)<;>cases decide (k≤14)<;>exact⟨rfl,rfl⟩
def OW (n:Int):Bool:=decide (n< -1000)||decide (n>1000)
def uZ (n:Int):aI n=some (OW n)∧PE n=some (OW n):=by
 unfold aI PE OW;cases decide (n< -1000)<;>cases decide (n>1000)<;>exact⟨rfl,rfl⟩
def Lu (c:Int):Bool:=decide (c<33)||decide (c>126)
def vV (s:ByteArray):(s.toList==BL.toList)=((s.size:Int)==0):=by
 rw[Np];by_cases h:s=BL
 ·subst h;rfl
 have :¬s.size=0:=fun f=>h (bytes_inj (by
  have j:BR s=[]:=Fj (by rw[Fh];exact f)
  rw[j];rfl))
 rw[HY h];symm;rw[Wx];omega
def sI (s:ByteArray):Int:=if s.size=0 then 9 else if s.size>64 then 7 else bif (BR s).any Lu then 3 else 0
def aDx {s:ByteArray} (f:s.size≤9223372036854775807):jT s=some (sI s)∧lS s=some (sI s):=by
 have n:aCj s 0=some (bif (BR s).any Lu then 3 else 0):=by
  unfold aCj;rw[I5 (BR s) aQ Lu 3 (some 0) (fun k i h=>?_) (fun k=>?_),J6]
  ·have h':i<s.size:=UE
   simp only[aDJ,dec_lt h',Ba,RH h,Aa,Lu];cases decide ((BR s)[i]<33)<;>cases decide ((BR s)[i]>126)<;>rfl
  simp only[aDJ,Fh,EG,BK]
 have q:aDa s 0=some (bif (BR s).any Lu then 3 else 0):=by
  unfold aDa;rw[I5 (BR s) aQ Lu 3 (some 0) (fun k i h=>?_) (fun k=>?_),J6]
  ·have h':i<s.size:=UE
   simp only[aEw,dec_lt h',Ba,RH h,Aa,Lu];cases decide ((BR s)[i]<33)<;>cases decide ((BR s)[i]>126)<;>rfl
  simp only[aEw,Fh,EG,BK]
 unfold jT lS sI;rw[vV,n,q];by_cases j:s.size=0
 ·simp[j]
 have :((s.size:Int)==0)=false:=by rw[Wx];omega
 rw[this,CV j];by_cases m:s.size>64
 ·have :decide ((s.size:Int)>64)=true:=Dp
  rw[this,CG m];exact⟨rfl,rfl⟩
 have :decide ((s.size:Int)>64)=false:=Dp
 rw[this,CV m];exact⟨rfl,rfl⟩
def eA (s:ByteArray):Bool:=decide ((s.size:Int)≥1)&&decide ((s.size:Int)≤32)&& !(BR s).any Lu
def ak4 {s:ByteArray} (f:s.size≤9223372036854775807):sB s=some (eA s):=by
 unfold sB aHU;rw[I5 (BR s) aQ Lu false (some (decide ((s.size:Int)≥1)&&decide ((s.size:Int)≤32))) (fun k i h=>?_) (fun k=>?_)]
 ·unfold eA;cases(BR s).any Lu<;>cases decide ((s.size:Int)≥1)<;>cases decide ((s.size:Int)≤32)<;>rfl
 ·have h':i<s.size:=UE
  simp only[aGm,dec_lt h',Ba,RH h,Aa,Lu];cases decide ((BR s)[i]<33)<;>cases decide ((BR s)[i]>126)<;>rfl
 simp only[aGm,Fh,EG,BK];cases decide ((s.size:Int)≥1)<;>cases decide ((s.size:Int)≤32)<;>rfl
def SI (k:Int) (s:ByteArray):Bool:=if k=2 then Nw s==0 else if k=9 then eA s else true
def aIc {k:Int} {s:ByteArray} (m:s.size≤9223372036854775807):aB7 k s=some (SI k s):=by
 have n:aGT s 0=some (bif (BR s).any Lu then false else true):=by
  unfold aGT;rw[I5 (BR s) (by rw[Fh];exact nO m) Lu false (some true) (fun k i h=>?_) (fun k=>?_),J6]
  ·have h':i<s.size:=UE
   simp only[aB9,dec_lt h',Ba,RH h,Aa,Lu];cases decide ((BR s)[i]<33)<;>cases decide ((BR s)[i]>126)<;>rfl
  simp only[aB9,Fh,EG,BK]
 unfold aB7 SI;rw[(Ve m).2,n];by_cases f:k=2
 ·subst f;rfl
 rw[show(k==2)=false from by simpa using f,CV f,BK];by_cases j:k=9
 ·subst j;unfold eA;have q:decide ((s.size:Int)≥1)= !decide ((s.size:Int)<1):=aGk
  have u:decide ((s.size:Int)≤32)= !decide ((s.size:Int)>32):=aG3
  rw[q,u];cases decide ((s.size:Int)<1)<;>cases decide ((s.size:Int)>32)<;>cases(BR s).any Lu<;>rfl
 rw[show(k != 9)=true from by simpa using j,CV j];rfl
def arF {e:AO} (f:QF e):pV e=some (SC e.Room==0&&Nw e.bg==0&&SI e.Kind e.Key):=by
 have j:=f.room;have m:=f.sender;have n:=f.key;unfold pV SI;rw[(nX AA).1,(Ve (s:=e.bg) AA).1,(Ve (s:=e.Key) AA).1,ak4 AA];simp only[Aa,bne];cases SC e.Room==0 with
 |false=>rfl
 |true=>
  cases Nw e.bg==0 with
  |false=>rfl
  |true=>
   by_cases k2:e.Kind=2
   ·rw[k2];rfl
   by_cases h:e.Kind=9
   ·rw[h];rfl
   rw[show(e.Kind==2)=false from by simpa using k2,show(e.Kind==9)=false from by simpa using h,CV k2,CV h];rfl
def Bh {R:Type} (x y:Option R):Prop:=∃r,x=some r∧y=some r
section
variable {A R : Type}
def Bh.ret (r:R):Bh (some r) (some r):=⟨r,rfl,rfl⟩
def Bh.bind {a b:Option A} {f g:A→Option R} (h:Bh a b) (k:∀x,Bh (f x) (g x)):Bh (a.bind f) (b.bind g):=by
 obtain⟨x,rfl,rfl⟩:=h;exact k x
def Bh.bif {c:Bool} {x y f h:Option R} (j:c=true→Bh x f) (m:c=false→Bh y h):Bh (bif c then x else y) (bif c then f else h):=by
 cases c with
 |true=>exact j rfl
 |false=>exact m rfl
def Bh.of {x y:Option R} {r:R} (f:x=some r) (h:y=some r):Bh x y:=⟨r,f,h⟩
def Bh.loop {f g:(Int→Option R)→Int→Option R} (n:Nat) (s:n≤9223372036854775807) (h:∀k k' (i:Nat),i<n→Bh (k ((i+1:Nat):Int)) (k' ((i+1:Nat):Int))→Bh (f k (i:Int)) (g k' (i:Int))) (j:∀k k',Bh (f k (n:Int)) (g k' (n:Int))):Bh (bF f Ar 0) (bF g Ar 0):=by
 have u:Ar=9223372036854775808:=rfl
 have key:∀m (i:Nat),i+m=n→∀a,m<a→Bh (bF f a (i:Int)) (bF g a (i:Int)):=by
  intro m
  induction m with
  |zero=>
   intro i hi a ha;obtain⟨a,rfl⟩:∃a',a=a'+1:=⟨a-1,AA⟩
   have :i=n:=AA
   subst this;exact j _ _
  |succ m q=>
   intro i hi a ha;obtain⟨a,rfl⟩:∃a',a=a'+1:=⟨a-1,AA⟩
   exact h _ _ i AA (q (i+1) AA a AA)
 exact key n 0 AA Ar AA
end
def kK {i:Nat} (h:i≤9223372036854775806):BD ((i:Int)+1)=((i+1:Nat):Int):=wrap_succ i AA
def kX {α:Type} {l:List α} {i:Nat} (h:i<l.length) (j:l.length≤9223372036854775807) (f:decide ((i:Int)>0)=true):BF l (BD ((i:Int)-1))=some (l[i-1]' AA):=by
 have f:0<i:=L9
 rw[Nl AA AA,show(i:Int)-1=((i-1:Nat):Int) by omega];exact D9 AA
def aaX {l:List Int} (f:l.length≤9223372036854775807):Bh (lV l) (ay l):=by
 unfold lV aId ay aCD;refine Bh.loop l.length f (fun k k' i h j=>?_) (fun k k'=>?_)
 ·simp only[aFU,zT,ah,dec_lt h,Ba,D9 h,Aa,kK (show i≤9223372036854775806 by omega)];cases decide (l[i]<0)with
  |true=>exact .ret _
  |false=>
   simp only[BK];cases m:decide ((i:Int)>0)with
   |true=>
    simp only[Ba,kX h f m,Aa,ge_iff_le];cases decide (l[i]≤l[i-1])with
    |true=>exact .ret _
    |false=>exact j
   |false=>exact j
 simp only[aFU,zT,EG,BK];exact .ret _
def afe {l:List ByteArray} (f:l.length≤9223372036854775807) (j:∀s∈l,s.size≤9223372036854775807):Bh (TB l) (Pv l):=by
 unfold TB Pv;refine Bh.bif (fun _=>.ret _) fun _=>?_;unfold abh aDu;refine Bh.loop l.length f (fun k k' i h m=>?_) (fun k k'=>?_)
 ·obtain⟨n,q⟩:=aDx (s:=l[i]) (by have :=j _ (EU h);omega);simp only[aEF,kZ,dec_lt h,Ba,D9 h,Aa,n,q,kK (show i≤9223372036854775806 by omega)];exact Bh.bif (fun _=>.ret _) fun _=>m
 simp only[aEF,kZ,EG,BK];exact .ret _
def asE {c:Bf} (f:IJ c):Bh (U9 4 c) (YZ c):=by
 have u:=f.allow;unfold U9 YZ;rw[show((4:Int)==6)=false from rfl,BK];refine Bh.bind (Bh.bif (fun _=>.ret _) fun _=>.ret _) fun x=>Bh.bif (fun _=>.ret _) fun _=>Bh.bif (fun _=>.ret _) fun _=>?_;unfold aeE afD;refine Bh.loop c.Allow.length AA (fun k k' i h j=>?_) (fun k k'=>?_)
 ·obtain⟨m,n⟩:=nX (s:=c.Allow[i]) (by have :=f.allows _ (EU h);omega);simp only[aGL,qI,oL,dec_lt h,Ba,D9 h,Aa,m,n,kK (show i≤9223372036854775806 by omega)];refine Bh.bif (fun _=>.ret _) fun _=>?_;cases q:decide ((i:Int)>0)with
  |true=>
   simp only[Ba,kX h (show c.Allow.length≤9223372036854775807 by omega) q,Aa];exact Bh.bif (fun _=>.ret _) fun _=>j
  |false=>exact j
 simp only[aGL,qI,EG,BK];exact .ret _
def am9 {l:List G7} (f:l.length≤9223372036854775807) (m:∀u∈l,u.User.size≤9223372036854775807):Bh (oP l) (XA l):=by
 unfold oP XA;refine Bh.bif (fun _=>.ret _) fun _=>?_;unfold aa3 aDb;refine Bh.loop l.length f (fun k k' i h j=>?_) (fun k k'=>?_)
 ·obtain⟨n,q⟩:=Ve (s:=l[i].User) (by have :=m _ (EU h);omega);obtain⟨z,I⟩:=uZ l[i].N;simp only[aEp,jS,sH,mQ,dec_lt h,Ba,D9 h,Aa,n,q,z,I,kK (show i≤9223372036854775806 by omega)];refine Bh.bif (fun _=>.ret _) fun _=>?_;cases J:decide ((i:Int)>0)with
  |true=>
   simp only[Ba,kX h f J,Aa];exact Bh.bif (fun _=>.ret _) fun _=>Bh.bif (fun _=>.ret _) fun _=>j
  |false=>
   simp only[BK];exact Bh.bif (fun _=>.ret _) fun _=>j
 simp only[aEp,jS,EG,BK];exact .ret _
def aqz {l:List Gm} (f:l.length≤9223372036854775807):Bh (xC l) (Xi l):=by
 unfold xC Xi;refine Bh.bif (fun _=>.ret _) fun _=>?_;unfold aGy aGI;refine Bh.loop l.length f (fun k k' i h j=>?_) (fun k k'=>?_)
 ·obtain⟨m,n⟩:=xR l[i].Kind;obtain⟨q,s⟩:=uZ l[i].N;simp only[aGF,aAN,Sub,aBJ,dec_lt h,Ba,D9 h,Aa,m,n,q,s,kK (show i≤9223372036854775806 by omega)];refine Bh.bif (fun _=>.ret _) fun _=>?_;cases u:decide ((i:Int)>0)with
  |true=>
   simp only[Ba,kX h f u,Aa];exact Bh.bif (fun _=>.ret _) fun _=>Bh.bif (fun _=>.ret _) fun _=>j
  |false=>
   simp only[BK];exact Bh.bif (fun _=>.ret _) fun _=>j
 simp only[aGF,aAN,EG,BK];exact .ret _
def aic {l:CP} (n:l.Users.length≤9223372036854775807) (q:l.Kinds.length≤9223372036854775807) (f:∀u∈l.Users,u.User.size≤9223372036854775807):Bh (Xo l) (Wv l):=by
 have j:aGd l 0=some (bif (Gx l).any OW then 2 else 0):=by
  unfold aGd;rw[I5 (Gx l) (by have :Ar=9223372036854775808:=rfl;simp[Gx,this]) OW 2 (some 0) (fun k i h=>?_) (fun k=>rfl),J6];have s:i<7:=h;have m:BF ([l.User,l.Message,l.State,l.fP,l.jU,l.nH,l.gZ]:List Int) (i:Int)=some ((Gx l)[i]'(h)):=D9 h;simp only[abE,show decide ((i:Int)<7)=true from by simp;omega,Ba,m,Aa,(uZ _).1]
 unfold Xo Wv;refine Bh.bind (am9 AA f) fun x=>Bh.bif (fun _=>.ret _) fun _=>Bh.bind (aqz AA) fun y=>Bh.bif (fun _=>.ret _) fun _=>?_;rw[j];simp only[(uZ _).2,Aa,Gx,ni,List.any_nil];cases OW l.User<;>cases OW l.Message<;>cases OW l.State<;>cases OW l.fP<;>cases OW l.jU<;>cases OW l.nH<;>cases OW l.gZ<;>exact .ret _
end Go.Proofs.YtolgdkhlelfpoaaGreat
end
