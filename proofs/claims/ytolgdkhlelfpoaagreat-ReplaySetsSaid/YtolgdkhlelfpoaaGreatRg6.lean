/- Part 6 of what the laws' proofs lean on: states of the walk, typed functions of the program and their laws (short forms written by wip/shrink.py; no condition). -/
import Derived.Test.YtolgdkhlelfpoaaGreatRg5
set_option linter.defProp false
set_option linter.unnecessarySimpa false
set_option linter.unusedVariables false
set_option linter.unusedSimpArgs false
section
namespace Go.Proofs.YtolgdkhlelfpoaaGreat
open Go.RowKit
def fuel_lt {n:Nat} (h:n≤1099511627776):n<Az:=jG
def dec_lt {i n:Nat} (h:i<n):decide ((i:Int)<(n:Int))=true:=JB
def DW (n:Nat):decide ((n:Int)<(n:Int))=false:=BU
def Gw {R A α:Type} {body:(A→Int→Option R)→A→Int→Option R} (l:List α) (s:l.length≤1099511627776) (step:A→α→A) (I:Nat→A→Prop) (f:A→Option R) {a0:A} (u:I 0 a0)
 (z:∀k a (i:Nat) (h:i<l.length),I i a→I (i+1) (step a l[i])∧body k a (i:Int)=k (step a l[i]) (BA ((i:Int)+1)))
 (J:∀k a,I l.length a→body k a (l.length:Int)=f a):aV body Az a0 0=f (l.foldl step a0):=by
 have key:∀n (i:Nat) (a:A),i+n=l.length→I i a→∀m,n<m→aV body m a (i:Int)=f ((l.drop i).foldl step a):=by
  intro n
  induction n with
  |zero=>
   intro i a hi ha m L;obtain⟨m,rfl⟩:∃q,m=q+1:=⟨m-1,AA⟩
   have :i=l.length:=AA
   subst this;show body (aV body m) _ _=_;rw[J _ _ ha,OV];rfl
  |succ n M=>
   intro i a hi ha m L;obtain⟨m,rfl⟩:∃q,m=q+1:=⟨m-1,AA⟩
   have j:i<l.length:=AA
   obtain⟨O,S⟩:=z (aV body m) a i j ha;show body (aV body m) _ _=_;rw[S,wrap_succ i AA,M (i+1) _ AA O m AA,LV j,G6]
 have :=key l.length 0 a0 AA u Az (fuel_lt s);simpa using this
def zy {R A α:Type} {body:(Int→A→Option R)→Int→A→Option R} (l:List α) (s:l.length≤1099511627776) (step:A→α→A) (I:Nat→A→Prop) (f:A→Option R) {a0:A} (u:I 0 a0)
 (z:∀k a (i:Nat) (h:i<l.length),I i a→I (i+1) (step a l[i])∧body k (i:Int) a=k (BA ((i:Int)+1)) (step a l[i]))
 (J:∀k a,I l.length a→body k (l.length:Int) a=f a):aV body Az 0 a0=f (l.foldl step a0):=by
 have key:∀n (i:Nat) (a:A),i+n=l.length→I i a→∀m,n<m→aV body m (i:Int) a=f ((l.drop i).foldl step a):=by
  intro n
  induction n with
  |zero=>
   intro i a hi ha m L;obtain⟨m,rfl⟩:∃q,m=q+1:=⟨m-1,AA⟩
   have :i=l.length:=AA
   subst this;show body (aV body m) _ _=_;rw[J _ _ ha,OV];rfl
  |succ n M=>
   intro i a hi ha m L;obtain⟨m,rfl⟩:∃q,m=q+1:=⟨m-1,AA⟩
   have j:i<l.length:=AA
   obtain⟨O,S⟩:=z (aV body m) a i j ha;show body (aV body m) _ _=_;rw[S,wrap_succ i AA,M (i+1) _ AA O m AA,LV j,G6]
 have :=key l.length 0 a0 AA u Az (fuel_lt s);simpa using this
def KF {α:Type} (p:α→Bool):∀l:List α,l.find? p=l[l.findIdx p]?
 | []=>rfl
 |x::l=>by
  rw[Yk,TF];cases h:p x with
  |true=>rfl
  |false=>simp[KF p l]
def EM (l:List AY) (id:Int):Option AY:=l.find? fun e=>e.Id==id
def I5 (l:List AY) (id:Int):AY×Bool:=match EM l id with
 |some e=>(e,true)
 |none=>(Et,false)
def aa2 {l:List AY} {id:Int} {e:AY} (h:EM l id=some e):e.Id=id:=by
 have :=aAs h;simpa using this
def OY {l:List AY} {id:Int} {e:AY} (h:EM l id=some e):e∈l:=U9 h
def OO (l:List AY) (id:Int):(I5 l id).2=(EM l id).isSome:=by
 unfold I5;cases EM l id<;>rfl
def aNo (l:List AY) (j:l.length≤1099511627776) (f:AY→Option Bool) (p:AY→Bool) (m:∀e,f e=some (p e)):
 iq l f=some (if l.findIdx p<l.length then((l.findIdx p:Nat):Int)else -1):=by
 unfold iq acr;rw[Je l (fuel_lt j) p (fun i=>some (i:Int)) (some (-1))]
 ·split<;>rfl
 ·intro k i h;unfold aKU;rw[Ce h,m];rfl
 intro k;unfold aKU;rw[Dk]
def found_eq (l:List AY) (p:AY→Bool) {n:Int} (f:n=if l.findIdx p<l.length then((l.findIdx p:Nat):Int)else -1):
 (bif decide (n<0)then some (Et,false)else(Aq l n).bind fun j=>some (j,true))=some (match l.find? p with |some e=>(e,true)|none=>(Et,false)):=by
 subst f;rw[KF];by_cases h:l.findIdx p<l.length
 ·rw[D7 h,Dn h,show decide (((l.findIdx p:Nat):Int)<0)=false by simp,CQ h];rfl
 rw[DF h,II AA];rfl
def OG (l:List AY) (id:Int) (f:l.length≤1099511627776):NM l id=some (I5 l id):=by
 unfold NM aC0 aDl;rw[aNo l f _ (fun e=>e.Id==id) fun _=>rfl];exact found_eq l _ rfl
def aTY (l:List AY) (id:Int) (f:l.length≤1099511627776):uG l id=some (if l.findIdx (fun e=>e.Id==id)<l.length then((l.findIdx (fun e=>e.Id==id):Nat):Int)else -1):=by
 unfold uG aPn;rw[Je l (fuel_lt f) (fun e=>e.Id==id) (fun i=>some (i:Int)) (some (-1))]
 ·split<;>rfl
 ·intro k i h;unfold aGu;rw[Ce h]
 intro k;unfold aGu;rw[Dk]
def Lp (l:List AY) (id:Int) (f:l.length≤1099511627776):KN l id=some (I5 l id):=by
 unfold KN;rw[aTY l id f];exact found_eq l _ rfl
def ofIds (l:List AY) (ids:List Int):List AY:=ids.filterMap (EM l)
def foldl_append {α β:Type} (f:α→List β):∀(l:List α) (a:List β),l.foldl (fun r x=>r++f x) a=a++l.flatMap f
 | [],a=>BU
 |x::l,a=>by rw[G6,foldl_append f l,Nw,H7]
def aUe (l:List AY):∀ids,ofIds l ids=ids.flatMap fun id=>(EM l id).toList
 | []=>rfl
 |id::ids=>by
  unfold ofIds;rw[RN,Nw,←aUe l ids];cases EM l id<;>rfl
def toList_le {α:Type} (o:Option α):o.toList.length≤1:=by cases o<;>simp
def N7 {l:List AY} {id:Int} {e:AY} (h:EM l id=some e):I5 l id=(e,true):=by unfold I5;rw[h]
def Qm {l:List AY} {id:Int} (h:EM l id=none):I5 l id=(Et,false):=by unfold I5;rw[h]
def Zh (l:List AY) (ids:List Int):(ofIds l ids).length≤ids.length:=List.length_filterMap_le ..
def aRY (l:List AY) (ids:List Int):ids.foldl (fun r id=>r++(EM l id).toList) []=ofIds l ids:=by
 rw[foldl_append (fun id=>(EM l id).toList),aUe];rfl
def ap1 (l:List AY) (ids:List Int) (n:l.length≤1000) (hi:ids.length≤1000000):aBw l ids=some (ofIds l ids):=by
 unfold aBw
 have j:JM 376 Et 0 (ids.length:Int)=some []:=by
  unfold JM;rw[D7 aAK];rfl
 rw[j];simp only[Ac];unfold aQ5;rw[Gw ids AA (fun r id=>r++(EM l id).toList) (fun i r=>r.length≤i) (fun r=>some r) BU]
 ·rw[aRY]
 ·intro k a i h m;have q:=toList_le (EM l ids[i]);refine⟨KC,?_⟩;unfold aHp aAx;rw[Ce h,OG l _ AA];cases f:EM l ids[i]with
  |none=>simp[Qm f]
  |some e=>
   rw[N7 f];simp only[Ac,Bg,Pj];rw[DZ FU];rfl
 intro k a m;unfold aHp;rw[Dk]
def aIr (l:List AY) (ids:List Int) (m:l.length≤1000) (hi:ids.length≤1000000):dG l ids=some (ofIds l ids):=by
 unfold dG ab8;rw[Gw ids AA (fun r id=>r++(EM l id).toList) (fun i r=>r.length≤i) (fun r=>some r) BU]
 ·rw[aRY]
 ·intro k a i h j;have n:=toList_le (EM l ids[i]);refine⟨KC,?_⟩;unfold aJv aBK;rw[Ce h,Lp l _ AA];cases f:EM l ids[i]with
  |none=>simp[Qm f]
  |some e=>
   rw[N7 f];simp only[Ac,Bg,Pj];rw[DZ FU];rfl
 intro k a j;unfold aJv;rw[Dk]
def ae5 {α:Type} (l:List α) (i:Nat) (x:α) (h:i<l.length):l.set i x=l.take i++x::l.drop (i+1):=aLb▸by simp[h]
def aRW {α:Type} (A:List α) (g:α) (D:List α) {n:Nat} (h:A.length=n):(A++g::D).take n=A∧(A++g::D).drop (n+1)=D:=by
 subst h;simp
def aHB (l:List Int) (x:Int) (hi:Inc l) (J:l.length≤1000000):jS l x=some (put l x):=by
 refine fK.eq ?_;unfold jS aRE
 have z:∀i,i≤l.length→(∀j,(O:j<i)→(J:j<l.length)→l[j]<x)→(∀h:i<l.length,x<l[i])→put l x=l.take i++x::l.drop i:=by
  intro i Z U L;obtain⟨e1,M⟩:=aJ4 (decide<| · <x) l i Z (fun j O J=>by simpa using U j O J) (fun J=>by have :=L J;simp;omega)
  have hno:Di l x=false:=O7.2 fun hm=>by
   obtain⟨q,hq,e4⟩:=Ii hm;rcases Za q i with h5|h5
   ·have :=U q h5 hq;omega
   have h6:=L AA;rcases Za i q with h7|h7
   ·have :=KY.1 hi i q AA hq h7;omega
   have :q=i:=AA
   subst this;omega
  unfold put;rw[hno,e1,M];rfl
 have n:∀i,i≤l.length→∀d,d≤l.length-i→∀m,d<m→fK (aV (Ud (i:Int) x) m ((i+d:Nat):Int) (l.take (i+d)++(l++[x]).getD (i+d) 0::l.drop (i+d))) (· =l.take i++x::l.drop i):=by
  intro i s d
  induction d with
  |zero=>
   intro _ m hm;obtain⟨m,rfl⟩:∃m',m=m'+1:=⟨m-1,AA⟩
   show fK (Ud (i:Int) x (aV (Ud (i:Int) x) m) _ _) _;generalize aV (Ud (i:Int) x) m=k;unfold Ud;rw[show decide (((i+0:Nat):Int)>(i:Int))=false by simp];simp only[BZ,OE];have hlen:i<(l.take i++(l++[x]).getD i 0::l.drop i).length:=Dy
   rw[CQ hlen];refine .ret ?_;rw[Zo,ae5 _ _ _ hlen];simp[aKR,List.drop_append,wL s]
  |succ d ih=>
   intro hd m hm;obtain⟨m,rfl⟩:∃m',m=m'+1:=⟨m-1,AA⟩
   have S:=ih AA m AA;show fK (Ud (i:Int) x (aV (Ud (i:Int) x) m) _ _) _;generalize aV (Ud (i:Int) x) m=k at S ⊢;unfold Ud;rw[show decide (((i+(d+1):Nat):Int)>(i:Int))=true by simp;omega];simp only[Bg];have w:BA (((i+(d+1):Nat):Int)-1)=((i+d:Nat):Int):=QC
   have u:i+d<l.length:=AA
   have hL:(l.take (i+(d+1))++(l++[x]).getD (i+(d+1)) 0::l.drop (i+(d+1))).length=l.length+1:=Dy
   have U:i+d<(l.take (i+(d+1))++(l++[x]).getD (i+(d+1)) 0::l.drop (i+(d+1))).length:=AA
   have L:i+(d+1)<(l.take (i+(d+1))++(l++[x]).getD (i+(d+1)) 0::l.drop (i+(d+1))).length:=AA
   rw[w,CQ U];simp only[Ac];rw[CQ L];simp only[Ac]
   have hg:(l.take (i+(d+1))++(l++[x]).getD (i+(d+1)) 0::l.drop (i+(d+1)))[i+d]=l[i+d]:=by
    rw[aJk Dy];simp
   rw[hg,Zo,ae5 _ _ _ L]
   have e:(l.take (i+(d+1))++(l++[x]).getD (i+(d+1)) 0::l.drop (i+(d+1))).take (i+(d+1))++l[i+d]::(l.take (i+(d+1))++(l++[x]).getD (i+(d+1)) 0::l.drop (i+(d+1))).drop (i+(d+1)+1)=l.take (i+d)++(l++[x]).getD (i+d) 0::l.drop (i+d):=by
    have ht:(l.take (i+(d+1))).length=i+(d+1):=Dy
    rw[(aRW _ _ _ ht).1,(aRW _ _ _ ht).2];have h3:(l++[x]).getD (i+d) 0=l[i+d]:=by simp[List.getD,GH u,u]
    rw[h3,show i+(d+1)=i+d+1 by omega,Oe u,LV u,H7];rfl
   rw[e];exact S
 have f:l++[x]=l.take l.length++(l++[x]).getD l.length 0::l.drop l.length:=BU
 refine Res l.length (fuel_lt AA) (fun i=>∀j,(O:j<i)→(J:j<l.length)→l[j]<x) (fun j O=>AA) ?_ ?_
 ·intro i k s Y hk;unfold aNK;rw[show decide ((i:Int)<(l.length:Int))=true by simpa using s,CQ s];simp only[Bg,Ac];refine fK.bif (fun e=>?_) fun e=>?_
  ·rw[wrap_succ i AA];refine hk fun j O hl'=>?_;by_cases ej:j=i
   ·subst ej;simpa using e
   exact Y j AA hl'
  have hge:¬l[i]<x:=Qs
  refine fK.bif (fun M=>?_) fun M=>?_
  ·have hx:l[i]=x:=by simpa using M
   refine .ret ?_;unfold put;rw[JW.2 (hx▸ET s)];rfl
  have hx:l[i]≠x:=by simpa using M
  rw[DZ FU];simp only[Ac];rw[z i AA Y (fun _=>AA)];have w:BA (((l++[x]).length:Int)-1)=((i+(l.length-i):Nat):Int):=aH5
  rw[w];have I:=n i AA (l.length-i) (E9 _) Az (fuel_lt AA);rw[show i+(l.length-i)=l.length by omega]at I ⊢;rw[←f]at I;exact I
 intro k Y;unfold aNK;rw[show decide ((l.length:Int)<(l.length:Int))=false by simp];simp only[BZ,Ac];rw[DZ FU];simp only[Ac];rw[z l.length (E9 _) Y (fun h=>AA)];have w:BA (((l++[x]).length:Int)-1)=((l.length+0:Nat):Int):=aH5
 rw[w];have I:=n l.length (E9 _) 0 AA Az (fuel_lt AA);rw[OE]at I ⊢;rw[←f]at I;exact I
def dS (l:List AY) (id:Int):Bool:=(EM l id).isSome
def Xk (l:List AY) (ids:List Int):List Int:=ids.foldl (fun r id=>bif dS l id then r else put r id) []
def F9 (l:List AY) (ids:List Int):List Int:=(EX ids).filter (dS l)
def MV {l:List AY} {ids:List Int} {x:Int}:x∈F9 l ids↔x∈ids∧dS l x=true:=by unfold F9;rw[Gn,LZ]
def Ya (l:List AY) (ids:List Int):Inc (F9 l ids):=(LY ids).sublist TT
def ajT (l:List AY) (ids:List Int):(F9 l ids).length≤ids.length:=Ej (Kt _ _) (MK ids)
def aOD (l:List AY):∀(ids r:List Int),Inc r→Inc (ids.foldl (fun r id=>bif dS l id then r else put r id) r)∧∀x,x∈ids.foldl (fun r id=>bif dS l id then r else put r id) r↔x∈r∨x∈ids∧dS l x=false
 | [],r,h=>⟨h,fun x=>BU⟩
 |id::ids,r,h=>by
  rw[G6];cases n:dS l id with
  |true=>
   obtain⟨j,m⟩:=aOD l ids r h;refine⟨j,fun x=>(m x).trans ⟨fun h=>?_,fun h=>?_⟩⟩
   ·rcases h with h|h
    ·exact .inl h
    exact .inr ⟨Hr _ h.1,h.2⟩
   rcases h with h|⟨h,f⟩
   ·exact .inl h
   rcases F6.1 h with rfl|h
   ·rw[n]at f;cases f
   exact .inr ⟨h,f⟩
  |false=>
   obtain⟨j,m⟩:=aOD l ids (put r id) (Rn h);refine⟨j,fun x=>(m x).trans ?_⟩;rw[WO,F6];constructor
   ·rintro((h|rfl)|h)
    ·exact .inl h
    ·exact .inr ⟨.inl rfl,n⟩
    exact .inr ⟨.inr h.1,h.2⟩
   rintro(h|⟨rfl|h,f⟩)
   ·exact .inl (.inl h)
   ·exact .inl (.inr rfl)
   exact .inr ⟨h,f⟩
def aN2 {l:List AY} {ids:List Int} {x:Int}:x∈Xk l ids↔x∈ids∧dS l x=false:=by
 unfold Xk;rw[(aOD l ids [] .nil).2 x];simp
def aQ3 (l:List AY) (ids:List Int):(Xk l ids).length≤ids.length:=by
 have key:∀(ids r:List Int),(ids.foldl (fun r id=>bif dS l id then r else put r id) r).length≤r.length+ids.length:=by
  intro ids
  induction ids with
  |nil=>intro r;simp
  |cons id ids f=>
   intro r;rw[G6];have h:=f (bif dS l id then r else put r id)
   have j:(bif dS l id then r else put r id).length≤r.length+1:=by
    cases dS l id with
    |true=>exact Nat.le_succ _
    |false=>exact fC r id
   simp only[Fp];omega
 have :=key ids [];simpa[Xk]using this
def aGr (l:List AY) (ids:List Int) (q:l.length≤1000) (hi:ids.length≤100000):jT l ids=some (Xk l ids):=by
 unfold jT aSc;rw[Gw ids AA (fun r id=>bif dS l id then r else put r id) (fun i r=>Inc r∧r.length≤i) (fun r=>some r) ⟨.nil,E9 _⟩]
 ·rfl
 ·intro k a i h f;have n:=aTY l ids[i] AA
  have m:dS l ids[i]=decide (l.findIdx (fun e=>e.Id==ids[i])<l.length):=by
   unfold dS EM;rw[KF];by_cases h:l.findIdx (fun e=>e.Id==ids[i])<l.length
   ·rw[Dn h,Ib h];rfl
   rw[II AA,Ir h];rfl
  refine⟨?_,?_⟩
  ·cases dS l ids[i]with
   |true=>exact⟨f.1,by have :=f.2;show a.length≤i+1;omega⟩
   |false=>exact⟨Rn f.1,by have :=fC a ids[i];have :=f.2;show(put a ids[i]).length≤i+1;omega⟩
  unfold aOB yM;rw[Ce h,n];simp only[Ac];by_cases j:l.findIdx (fun e=>e.Id==ids[i])<l.length
  ·rw[D7 j,m,Ib j,show decide (((l.findIdx (fun e=>e.Id==ids[i]):Nat):Int)<0)=false by simp];rfl
  rw[DF j,m,Ir j,CQ h];simp only[show decide ((-1:Int)<0)=true by decide,Bg,BZ,Ac];rw[aHB a _ f.1 (by have :=f.2;omega)];rfl
 intro k a f;unfold aOB;rw[Dk]
def yX (a b:List Int) (h:a.length≤274877906944) (n:b.length≤274877906944):Yy a b=some (OJ a b):=by
 unfold Yy;rw[aKz a h];simp only[Ac];have ha:=MK a;unfold aRc;rw[Gw (EX a) AA (fun r x=>bif Di b x then r else r++[x]) (fun i r=>r.length≤i) (fun r=>some r) (E9 _)]
 ·congr 1;unfold OJ;generalize EX a=S
  have key:∀(S r:List Int),S.foldl (fun r x=>bif Di b x then r else r++[x]) r=r++S.filter (fun x=> !Di b x):=by
   intro S
   induction S with
   |nil=>intro r;simp
   |cons x S f=>
    intro r;rw[G6,f,RJ];cases Di b x<;>simp
  simpa using key S []
 ·intro k r i h j;have m:=Vq b (EX a)[i] AA;refine⟨?_,?_⟩
  ·cases Di b (EX a)[i]with
   |true=>show r.length≤i+1;omega
   |false=>show(r++[(EX a)[i]]).length≤i+1;simp;omega
  unfold aOE aDX;rw[Ce h,m];simp only[Ac];cases Di b (EX a)[i]with
  |true=>rfl
  |false=>
   simp only[IX,Bg,BZ];rw[CQ h];simp only[Ac];rw[DZ FU];rfl
 intro k r j;unfold aOE;rw[Dk]
def aUc (l:List AY) (ids:List Int):OJ ids (Xk l ids)=F9 l ids:=
 GI (aLS _ _) (Ya _ _) fun x=>by
  rw[aPL,aN2,MV];cases dS l x<;>simp
def at6 (l:List AY) (ids:List Int) (f:l.length≤1000) (hi:ids.length≤100000):aEd l ids=some (F9 l ids):=by
 unfold aEd;rw[aGr l ids f hi];simp only[Ac];have :=aQ3 l ids;rw[yX _ _ AA AA,aUc];rfl
def abB (l:List AY) (ids:List Int) (f:l.length≤1000) (hi:ids.length≤100000):nV l ids=some (F9 l ids):=by
 unfold nV;rw[aGr l ids f hi];simp only[Ac];have :=aQ3 l ids;rw[yX _ _ AA AA,aUc];rfl
def G5 (l:List AY) (id:Int):List Int:=(I5 l id).1.bM
def Sr (l:List AY) (r:List Int) (x:Int):List Int:=bif dS l x then put r x else r
def JD (l:List AY) (ids:List Int):List Int:=ids.foldl (fun r id=>(G5 l id).foldl (Sr l) r) []
def aBx (l:List AY):∀(xs r:List Int),Inc r→Inc (xs.foldl (Sr l) r)∧(∀x,x∈xs.foldl (Sr l) r↔x∈r∨x∈xs∧dS l x=true)∧(xs.foldl (Sr l) r).length≤r.length+xs.length
 | [],r,h=>⟨h,fun x=>BU,BU⟩
 |y::xs,r,h=>by
  rw[G6];unfold Sr;cases q:dS l y with
  |true=>
   obtain⟨m,n,f⟩:=aBx l xs (put r y) (Rn h);refine⟨m,fun x=>(n x).trans ?_,?_⟩
   ·rw[WO,F6];constructor
    ·rintro((h|rfl)|h)
     ·exact .inl h
     ·exact .inr ⟨.inl rfl,q⟩
     exact .inr ⟨.inr h.1,h.2⟩
    rintro(h|⟨rfl|h,j⟩)
    ·exact .inl (.inl h)
    ·exact .inl (.inr rfl)
    exact .inr ⟨h,j⟩
   have :=fC r y;simp only[Fp,Bg]at f ⊢;exact Ej f AA
  |false=>
   obtain⟨m,n,f⟩:=aBx l xs r h;refine⟨m,fun x=>(n x).trans ⟨fun h=>?_,fun h=>?_⟩,?_⟩
   ·rcases h with h|h
    ·exact .inl h
    exact .inr ⟨Hr _ h.1,h.2⟩
   ·rcases h with h|⟨h,j⟩
    ·exact .inl h
    rcases F6.1 h with rfl|h
    ·rw[q]at j;cases j
    exact .inr ⟨h,j⟩
   simp only[Fp,BZ]at f ⊢;exact Ej f AA
def aNL (l:List AY):∀(ids r:List Int),Inc r→Inc (ids.foldl (fun r id=>(G5 l id).foldl (Sr l) r) r)∧∀x,x∈ids.foldl (fun r id=>(G5 l id).foldl (Sr l) r) r↔x∈r∨dS l x=true∧∃id∈ids,x∈G5 l id
 | [],r,h=>⟨h,fun x=>BU⟩
 |id::ids,r,h=>by
  rw[G6];obtain⟨j,m,_⟩:=aBx l (G5 l id) r h;obtain⟨n,q⟩:=aNL l ids _ j;refine⟨n,fun x=>(q x).trans ?_⟩;rw[m x];constructor
  ·rintro((h|h)|⟨h3,i,f,h5⟩)
   ·exact .inl h
   ·exact .inr ⟨h.2,id,GR ..,h.1⟩
   exact .inr ⟨h3,i,Hr _ f,h5⟩
  rintro(h|⟨h3,i,f,h5⟩)
  ·exact .inl (.inl h)
  rcases F6.1 f with rfl|f
  ·exact .inl (.inr ⟨h5,h3⟩)
  exact .inr ⟨h3,i,f,h5⟩
def uj (l:List AY) (ids:List Int):Inc (JD l ids):=(aNL l ids [] .nil).1
def RU {l:List AY} {ids:List Int} {x:Int}:x∈JD l ids↔dS l x=true∧∃id∈ids,x∈G5 l id:=by
 unfold JD;rw[(aNL l ids [] .nil).2 x];simp
def chainOf (l:List AY) (ids:List Int):List Int:=l.foldl (fun s _=>Hf s (JD l s)) (JD l (F9 l ids))
inductive MI (l:List AY) (ids:List Int):Int→Prop
 |one {i x:Int} (h:i∈ids) (hx:x∈G5 l i) (hk:dS l x=true):MI l ids x
 |more {y x:Int} (h:MI l ids y) (hx:x∈G5 l y) (hk:dS l x=true):MI l ids x
def aqZ {l:List AY} {i x:Int} (h:x∈G5 l i):dS l i=true:=by
 unfold G5 at h;unfold dS;cases f:EM l i with
 |none=>rw[Qm f]at h;cases h
 |some e=>rfl
def wW {s t:List Int} (j:Inc s) (m:Inc t) (h:∀x∈s,x∈t):s.length≤t.length∧(t.length≤s.length→s=t):=by
 have e:s=t.filter (fun x=>Di s x):=GI j (m.sublist TT) fun x=>by
  rw[Gn,JW];exact⟨fun f=>⟨h x f,f⟩,fun f=>f.2⟩
 have n:=Kt (fun x=>Di s x) t;refine⟨by rw[e];exact n,fun q=>?_⟩;have u:(t.filter (fun x=>Di s x)).length=t.length:=by have :=BX List.length e;omega
 rw[e];exact wE.2 (List.length_filter_eq_length_iff.1 u)
def Qu (l:List AY):List Int:=EX (l.map (·.Id))
def uX {l:List AY} {x:Int} (h:dS l x=true):x∈Qu l:=by
 unfold dS at h;obtain⟨e,f⟩:=Qy.1 h;exact LZ.2 (Fh.2 ⟨e,OY f,aa2 f⟩)
def aAl (l:List AY):∀(j:List AY) (s:List Int),Inc s→(∀x∈s,dS l x=true)→
 Inc (j.foldl (fun s _=>Hf s (JD l s)) s)∧(∀x∈j.foldl (fun s _=>Hf s (JD l s)) s,dS l x=true)∧(∀x∈s,x∈j.foldl (fun s _=>Hf s (JD l s)) s)∧
 ((Qu l).length≤s.length+j.length→∀x∈JD l (j.foldl (fun s _=>Hf s (JD l s)) s),x∈j.foldl (fun s _=>Hf s (JD l s)) s)
 | [],s,u,z=>⟨u,z,fun _ h=>h,fun hlen x m=>by
     have I:=(wW u (LY _) (fun x m=>uX (z x m))).2 (by show(Qu l).length≤s.length;simpa using hlen);have n:=uX (RU.1 m).1;unfold Qu at n
     rw[←I]at n;exact n⟩
 |e::j,s,u,z=>by
  rw[G6]
  have J:∀x∈Hf s (JD l s),dS l x=true:=fun x m=>by
   rcases VG.1 m with h|h
   ·exact z x h
   exact(RU.1 h).1
  obtain⟨I,n,L,M⟩:=aAl l j (Hf s (JD l s)) (vZ _ _) J;refine⟨I,n,fun x m=>L x (VG.2 (.inl m)),fun hlen=>?_⟩;have q:=wW u (vZ s (JD l s)) fun x m=>VG.2 (.inl m);by_cases f:s=Hf s (JD l s)
  ·
   have hst:∀(j:List AY),j.foldl (fun s _=>Hf s (JD l s)) s=s:=by
    intro j
    induction j with
    |nil=>rfl
    |cons e j O=>rw[G6,←f,O]
   rw[←f,hst];intro x m;rw[f];exact VG.2 (.inr m)
  ·refine M ?_
   have :s.length<(Hf s (JD l s)).length:=by
    rcases Za s.length (Hf s (JD l s)).length with h|h
    ·exact h
    exact absurd (q.2 h) f
   simp only[Fp]at hlen;omega
def abS (l:List AY) (ids:List Int):Inc (chainOf l ids):=(aAl l l _ (uj _ _) fun _ f=>(RU.1 f).1).1
def aiK {l:List AY} {ids:List Int} {x:Int} (h:x∈chainOf l ids):dS l x=true:=(aAl l l _ (uj _ _) fun _ f=>(RU.1 f).1).2.1 x h
def ae8 (l:List AY) (ids:List Int):∀(j:List AY) (s:List Int),(∀x∈s,MI l ids x)→∀x∈j.foldl (fun s _=>Hf s (JD l s)) s,MI l ids x
 | [],s,h=>h
 |e::j,s,h=>by
  rw[G6];refine ae8 l ids j _ fun x f=>?_;rcases VG.1 f with f|f
  ·exact h x f
  obtain⟨m,y,n,q⟩:=RU.1 f;exact .more (h y n) q m
def aEq {l:List AY} {ids:List Int} {x:Int}:x∈chainOf l ids↔MI l ids x:=by
 constructor
 ·refine ae8 l ids l _ (fun x f=>?_) x;obtain⟨n,y,q,j⟩:=RU.1 f;exact .one (MV.1 q).1 j n
 obtain⟨n,q,j,s⟩:=aAl l l _ (uj l (F9 l ids)) fun _ f=>(RU.1 f).1
 have hlen:(Qu l).length≤(JD l (F9 l ids)).length+l.length:=by
  have :=MK (l.map (·.Id));unfold Qu;simp only[D6]at this;omega
 have u:=s hlen;intro h
 induction h with
 |one h f m=>exact j _ (RU.2 ⟨m,_,MV.2 ⟨h,aqZ f⟩,f⟩)
 |more h f m z=>exact u _ (RU.2 ⟨m,_,z,f⟩)
def Zv (l:List AY) (ids:List Int):(chainOf l ids).length≤l.length:=by
 have f:=(wW (t:=Qu l) (abS l ids) (LY _) fun x h=>uX (aiK h)).1;have j:=MK (l.map fun e:AY=>e.Id);unfold Qu at f;simp only[D6]at j;omega
def Pn (l:List AY):Prop:=∀e∈l,e.bM.length≤40
def aF5 {l:List AY} (h:Pn l) (id:Int):(G5 l id).length≤40:=by
 unfold G5;cases f:EM l id with
 |none=>rw[Qm f];exact EY _
 |some e=>rw[N7 f];exact h e (OY f)
def ag7 (l:List AY) (ids:List Int):(JD l ids).length≤l.length:=by
 have f:=(wW (t:=Qu l) (uj l ids) (LY _) fun x h=>uX (RU.1 h).1).1;have j:=MK (l.map fun e:AY=>e.Id);unfold Qu at f;simp only[D6]at j;omega
def kW {l:List AY} {r:List Int} (hi:Inc r) (h:∀x∈r,dS l x=true):r.length≤l.length:=by
 have f:=(wW (t:=Qu l) hi (LY _) fun x j=>uX (h x j)).1;have m:=MK (l.map fun e:AY=>e.Id);unfold Qu at f;simp only[D6]at m;omega
def acY (l:List AY) (ids:List Int) (L:l.length≤1000) (ha:Pn l) (hi:ids.length≤100000):rC l ids true=some (JD l ids):=by
 unfold rC aRI;rw[Gw ids AA (fun r id=>(G5 l id).foldl (Sr l) r) (fun i r=>Inc r∧∀x∈r,dS l x=true) (fun r=>some r) ⟨.nil,fun x m=>by cases m⟩]
 ·rfl
 ·intro k r i h n;obtain⟨u,z,_⟩:=aBx l (G5 l ids[i]) r n.1;refine⟨⟨u,fun x m=>?_⟩,?_⟩
  ·rcases(z x).1 m with h|h
   ·exact n.2 x h
   exact h.2
  unfold aIQ aCT;rw[Ce h,Lp l _ AA];simp only[Ac,Bg];show aM3 (G5 l ids[i]) l k (i:Int) r 0=_;have I:=aF5 ha ids[i];unfold aM3;rw[Gw (G5 l ids[i]) AA (Sr l) (fun _ r=>Inc r∧∀x∈r,dS l x=true) (fun r=>k r (BA ((i:Int)+1))) n]
  ·intro k2 J j q f;refine⟨?_,?_⟩
   ·unfold Sr;cases s:dS l (G5 l ids[i])[j]with
    |true=>exact⟨Rn f.1,fun x m=>(WO.1 m).elim (f.2 x) fun e=>e▸s⟩
    |false=>exact f
   unfold aKw aF8;rw[Ce q,Lp l _ AA];simp only[Ac,OO];show(bif dS l (G5 l ids[i])[j]then _ else _)=_;unfold Sr;cases s:dS l (G5 l ids[i])[j]with
   |true=>
    simp only[Bg];rw[CQ q];simp only[Ac];have :=kW f.1 f.2;rw[dY _ _ AA];rfl
   |false=>rfl
  intro k2 J _;unfold aKw;rw[Dk]
 intro k r n;unfold aIQ;rw[Dk]
def al3 (l:List AY) (ids:List Int) (j:l.length≤1000) (ha:Pn l) (m:Inc ids) (n:∀x∈ids,dS l x=true):aBW l ids true=some (l.foldl (fun s _=>Hf s (JD l s)) ids):=by
 unfold aBW aP4;rw[Gw l AA (fun s _=>Hf s (JD l s)) (fun _ r=>Inc r∧∀x∈r,dS l x=true) (fun r=>some r) ⟨m,n⟩]
 ·intro k r i h f;refine⟨⟨vZ _ _,fun x q=>(VG.1 q).elim (f.2 x) fun h=>(RU.1 h).1⟩,?_⟩;have u:=kW f.1 f.2;have z:=ag7 l r;unfold aMr;rw[dec_lt h];simp only[Bg];rw[acY l r j ha AA];simp only[Ac];rw[aF9 _ _ AA AA];rfl
 intro k r f;unfold aMr;rw[DW];rfl
def aKA (l:List AY) (ids:List Int) (f:l.length≤1000) (ha:Pn l) (hi:ids.length≤100000):YM l ids=some (chainOf l ids):=by
 unfold YM;have j:=ajT l ids;rw[at6 l ids f hi];simp only[Ac];rw[acY l _ f ha AA];simp only[Ac];rw[al3 l _ f ha (uj _ _) fun x h=>(RU.1 h).1];rfl
section
variable {R A B C D E F G : Type} {Q : R → Prop}
def SP {body:(A→B→C→Option R)→A→B→C→Option R} (I:Nat→A→B→C→Prop) (u:∀m a b c k,I m a b c→(∀f a' j q,f<m→I f a' j q→fK (k a' j q) Q)→fK (body k a b c) Q):
 ∀n m a b c,m<n→I m a b c→fK (jw body n a b c) Q
 |0,m,_,_,_,h,_=>AA
 |n+1,m,a,b,c,h,hi=>u m a b c _ hi fun f a' j q h' s=>SP I u n f a' j q AA s
def Fin {body:(A→B→C→D→E→Option R)→A→B→C→D→E→Option R} (I:Nat→A→B→C→D→E→Prop) (z:∀m a b c d e k,I m a b c d e→(∀f a' j q s e',f<m→I f a' j q s e'→fK (k a' j q s e') Q)→fK (body k a b c d e) Q):
 ∀n m a b c d e,m<n→I m a b c d e→fK (BG body n a b c d e) Q
 |0,m,_,_,_,_,_,h,_=>AA
 |n+1,m,a,b,c,d,e,h,hi=>z m a b c d e _ hi fun f a' j q s e' h' u=>Fin I z n f a' j q s e' AA u
def aM7 {body:(A→B→C→D→E→F→Option R)→A→B→C→D→E→F→Option R} (I:Nat→A→B→C→D→E→F→Prop) (L:∀m a b c d e f k,I m a b c d e f→(∀j a' q s u e' z,j<m→I j a' q s u e' z→fK (k a' q s u e' z) Q)→fK (body k a b c d e f) Q):
 ∀n m a b c d e f,m<n→I m a b c d e f→fK (EZ body n a b c d e f) Q
 |0,m,_,_,_,_,_,_,h,_=>AA
 |n+1,m,a,b,c,d,e,f,h,hi=>L m a b c d e f _ hi fun j a' q s u e' z h' J=>aM7 I L n j a' q s u e' z AA J
def aRg {body:(A→B→C→D→E→F→G→Option R)→A→B→C→D→E→F→G→Option R} (I:Nat→A→B→C→D→E→F→G→Prop) (M:∀m a b c d e f g k,I m a b c d e f g→(∀j a' q s u e' z J,j<m→I j a' q s u e' z J→fK (k a' q s u e' z J) Q)→fK (body k a b c d e f g) Q):
 ∀n m a b c d e f g,m<n→I m a b c d e f g→fK (aaX body n a b c d e f g) Q
 |0,m,_,_,_,_,_,_,_,h,_=>AA
 |n+1,m,a,b,c,d,e,f,g,h,hi=>M m a b c d e f g _ hi fun j a' q s u e' z J h' L=>aRg I M n j a' q s u e' z J AA L
end
def Q5 {V:Type}:∀(m:List (Int×V)) (k k':Int) (v:V),CX (Dl m k v) k'=bif k'==k then some v else CX m k'
 | [],k,k',v=>by
   unfold Dl CX;rfl
 |p::m,k,k',v=>by
  unfold Dl;cases h:k==p.1 with
  |true=>
   have f:k=p.1:=JB
   subst f;simp only[Bg,CX];cases k'==p.1<;>rfl
  |false=>
   have f:k≠p.1:=JB
   simp only[BZ,CX,Q5 m k k' v];cases j:k'==p.1 with
   |true=>
    have n:k'=p.1:=Ny
    subst n;have :(p.1==k)=false:=by simpa using fun e:p.1=k=>f e.symm
    rw[this];rfl
   |false=>rfl
def WV (l:List AY) (m:List (Int×Int)):Prop:=∀id,(CX m id=none∧EM l id=none)∨∃(n:Nat) (e:AY),CX m id=some (n:Int)∧EM l id=some e∧l[n]? =some e
def WV.isSome {l:List AY} {m:List (Int×Int)} (h:WV l m) (id:Int):(CX m id).isSome=dS l id:=by
 unfold dS;rcases h id with⟨f,j⟩|⟨n,e,f,j,_⟩<;>rw[f,j]<;>rfl
def WV.get {l:List AY} {m:List (Int×Int)} (h:WV l m) {id:Int} {e:AY} (j:EM l id=some e):Aq l ((CX m id).getD 0)=some e:=by
 rcases h id with⟨_,f⟩|⟨n,e',q,f,s⟩
 ·rw[j]at f;cases f
 rw[j]at f;cases f;rw[q];show Aq l (n:Int)=_;rw[aAq,s]
def lq (l:List AY) (I:l.length≤1000):fK (XL l) (WV l):=by
 unfold XL abM
 refine Xv (fun m a b=>∃i:Nat,a=(i:Int)-1∧m=i∧i≤l.length∧∀id,(CX b id=none∧(l.drop i).find? (fun e=>e.Id==id)=none)∨∃(n:Nat) (e:AY),CX b id=some (n:Int)∧(l.drop i).find? (fun e=>e.Id==id)=some e∧l[n]? =some e) ?_ Az l.length _ _ (fuel_lt AA)
  ⟨l.length,QC,rfl,E9 _,fun id=>.inl ⟨rfl,BU⟩⟩
 rintro m a b k ⟨i,rfl,J,hi,h⟩ s;unfold ac1;refine fK.bif (fun e=>?_) fun e=>?_
 ·have q:0<i:=by have :=VZ e;omega
  have f:i-1<l.length:=AA
  have u:(i:Int)-1=((i-1:Nat):Int):=AA
  rw[u,CQ f];simp only[Ac];refine s (i-1) _ _ AA ⟨i-1,QC,rfl,AA,fun id=>?_⟩;rw[Q5,LV f,show i-1+1=i by omega,Yk];cases j:l[i-1].Id==id with
  |true=>
   have :(id==l[i-1].Id)=true:=by have :l[i-1].Id=id:=Ny
                                  simp[this]
   rw[this];exact .inr ⟨i-1,l[i-1],rfl,rfl,Vk⟩
  |false=>
   have :(id==l[i-1].Id)=false:=by have :l[i-1].Id≠id:=Ny
                                   simpa using fun e:id=l[i-1].Id=>this e.symm
   rw[this];exact h id
 have z:i=0:=by have :=KG e;omega
 subst z;refine .ret fun id=>?_;have :=h id;rw[pF]at this;exact this
inductive U6 (l:List AY) (from_:List Int):Int→Prop
 |one {x:Int} (h:x∈from_) (hk:dS l x=true):U6 l from_ x
 |more {y x:Int} (h:U6 l from_ y) (hx:x∈G5 l y) (hk:dS l x=true):U6 l from_ x
def U6.dS {l:List AY} {f:List Int} {x:Int} (h:U6 l f x):dS l x=true:=by cases h<;>assumption
def aqR {r:List Int} {x:Int} (h:x∉r):(put r x).length=r.length+1:=by
 unfold put;rw[DF (by rw[JW];exact h),EL,Fp];have :=BX List.length (uI (p:=(decide<| · <x)) (l:=r));rw[EL]at this;omega
def aSo (r:List Int) (x:Int):EX (r++[x])=put (EX r) x:=by unfold EX;rw[Vy];rfl
structure afn (l:List AY) (from_ next awP:List Int) (i:Nat) (out later:List Int) (found level:List (Int×Bool)):Prop where
 found:∀x,(CX found x).getD false=true↔x∈out
 level:∀x,(CX level x).getD false=true→x∈out
 nodup:(EX out).length=out.length
 rch:∀x∈out,U6 l from_ x
 seen:∀x∈next.take i,dS l x=true→x∈out
 sub:∀x∈awP,x∈out
 ref:∀y∈out,y∈awP∨∀x∈G5 l y,x∈later
 back:∀x∈later,∃y∈out,x∈G5 l y
 size:later.length+40*awP.length≤40*out.length
 same:out.length=awP.length→later=[]
def aNw {l:List AY} {f:List Int} (h:(EX f).length=f.length) (j:∀x∈f,dS l x=true):f.length≤l.length:=by
 rw[←h];exact kW (LY f) fun x m=>j x (LZ.1 m)
def agw (l:List AY) {x:Int} {e:AY} (h:EM l x=some e):Ws e=some (G5 l x):=by
 unfold Ws G5;rw[N7 h]
def akS (l:List AY) (j:List Int) (hl:l.length≤1000) (ha:Pn l) (hf:j.length≤10000000):
 fK (tY l j fun a0=>Ws a0) (fun r=>Inc r∧∀x,x∈r↔U6 l j x):=by
 unfold tY;refine(lq l hl).bind fun at_ O=>?_;unfold aeS
 refine Fin (fun m q next at' found level=>at'=at_∧m=2*(l.length-q.length)+(if next=[]then 0 else 1)∧next.length≤10000000∧(∀x,(CX found x).getD false=true↔x∈q)∧(EX q).length=q.length∧
  (∀x∈q,U6 l j x)∧(∀x∈next,dS l x=true→U6 l j x)∧(∀x∈j,dS l x=true→x∈q∨x∈next)∧(∀y∈q,∀x∈G5 l y,dS l x=true→x∈q∨x∈next)) ?_ Az (2*(l.length-([]:List Int).length)+(if j=[]then 0 else 1)) _ _ _ _ _ ?_ ?_
 ·rintro m q next at2 found level k ⟨S,rfl,hn,h1,h2,h3,h4,h5,h6⟩ I;subst S;unfold aT2;have hol:=aNw h2 fun x f=>(h3 x f).dS;refine fK.bif (fun e=>?_) fun e=>?_
  ·have hne:next≠[]:=by
    rintro rfl;simp at e
   unfold aTU;refine aM7 (body:=aGs next l (fun a0=>Ws a0) k) (fun(m:Nat) (o la:List Int) (c:Int) (d:List (Int×Int)) (fo le:List (Int×Bool))=>∃i:Nat,c=i∧i+m=next.length∧d=at2∧afn l j next q i o la fo le) ?_ Az next.length _ _ _ _ _ _ jG ?_
   ·rintro m o la c d fo le k2 ⟨i,rfl,hm,rfl,n⟩ L;unfold aGs;refine fK.bif (fun e=>?_) fun e=>?_
    ·have hi:i<next.length:=Qs
     have w:=wrap_succ i AA;have U:=aNw n.nodup fun x f=>(n.rch x f).dS;rw[CQ hi];simp only[Ac];rw[O.isSome];unfold aDB;have u:next.take (i+1)=next.take i++[next[i]]:=by rw[Oe hi]
     cases M:dS l next[i]with
     |false=>
      simp only[IX,Bg,Ac,w];refine L (m-1) _ _ _ _ _ _ AA ⟨i+1,rfl,AA,rfl,{ n with seen:=fun x f I=>?_ }⟩;rw[u,I8]at f;rcases f with f|f
      ·exact n.seen x f I
      rw[KQ.1 f,M]at I;cases I
     |true=>
      simp only[EW,BZ,Ac];by_cases J:next[i]∈o
      ·rw[(n.found next[i]).2 J];simp only[Bg,Ac,w];refine L (m-1) _ _ _ _ _ _ AA ⟨i+1,rfl,AA,rfl,{ n with seen:=fun x f I=>?_ }⟩;rw[u,I8]at f;rcases f with f|f
       ·exact n.seen x f I
       rw[KQ.1 f];exact J
      have f1:(CX fo next[i]).getD false=false:=by
       cases h:(CX fo next[i]).getD false with
       |false=>rfl
       |true=>exact absurd ((n.found _).1 h) J
      have f2:(CX le next[i]).getD false=false:=by
       cases h:(CX le next[i]).getD false with
       |false=>rfl
       |true=>exact absurd (n.level _ h) J
      rw[f1,f2];simp only[BZ,Ac];obtain⟨ev,Y⟩:=Qy.1 (show(EM l next[i]).isSome=true from M);rw[DZ FU];simp only[Ac];rw[O.get Y];simp only[Ac];rw[agw l Y];simp only[Ac];have hau:=aF5 ha next[i];have hsz:=n.size;rw[DZ AA];simp only[Ac,w];refine L (m-1) _ _ _ _ _ _ AA ⟨i+1,rfl,AA,rfl,?_⟩;have hnx:U6 l j next[i]:=h4 _ (ET hi) M;refine⟨fun x=>?_,fun x f=>?_,?_,fun x f=>?_,fun x f I=>?_,fun x f=>eS _ (n.sub x f),fun y z=>?_,fun x f=>?_,?_,fun h=>?_⟩
      ·rw[Q5,I8,KQ];cases f:x==next[i]with
       |true=>simp only[Bg,MC,true_iff];exact .inr KZ
       |false=>simp only[BZ];rw[n.found x];exact⟨.inl,fun h=>h.elim id fun h=>by simp[h]at f⟩
      ·rw[Q5]at f;rw[I8,KQ];cases Z:x==next[i]with
       |true=>exact .inr kG
       |false=>rw[Z]at f;exact .inl (n.level x f)
      ·rw[aSo,aqR (fun h=>J (LZ.1 h)),n.nodup];simp
      ·rcases I8.1 f with f|f
       ·exact n.rch x f
       rw[KQ.1 f];exact hnx
      ·rw[u,I8]at f;rcases f with f|f
       ·exact eS _ (n.seen x f I)
       exact aBZ _ f
      ·rcases I8.1 z with z|z
       ·exact(n.ref y z).imp id fun h x f=>eS _ (h x f)
       rw[KQ.1 z];exact .inr fun x f=>aBZ _ f
      ·rcases I8.1 f with f|f
       ·obtain⟨y,z,h⟩:=n.back x f;exact⟨y,eS _ z,h⟩
       exact⟨next[i],aBZ _ (KQ.2 rfl),f⟩
      ·simp only[EL,Om];omega
      have :=n.size;simp only[EL,Om]at h;omega
    have hi:i=next.length:=by have :¬i<next.length:=Qs
                              omega
    subst hi;have U:=aNw n.nodup fun x f=>(n.rch x f).dS;have hsz:=n.size;refine I (2*(l.length-o.length)+(if la=[]then 0 else 1)) _ _ _ _ _ ?_ ⟨rfl,rfl,AA,n.found,n.nodup,n.rch,fun x f s=>?_,fun x f s=>?_,fun y z x f s=>?_⟩
    ·rw[DF hne];have hle:q.length≤o.length:=AA
     rcases Za q.length o.length with h|h
     ·split<;>omega
     have :=n.same AA;rw[D7 this];omega
    ·obtain⟨y,z,h⟩:=n.back x f;exact .more (n.rch y z) h s
    ·rcases h5 x f s with h|h
     ·exact .inl (n.sub x h)
     exact .inl (n.seen x (by rw[GY];exact h) s)
    rcases n.ref y z with h|h
    ·rcases h6 y h x f s with h|h
     ·exact .inl (n.sub x h)
     exact .inl (n.seen x (by rw[GY];exact h) s)
    exact .inr (h x f)
   exact⟨0,rfl,AA,rfl,⟨h1,fun x f=>by simp[CX]at f,h2,h3,fun x f=>UF,fun _ h=>h,fun y z=>.inl z,fun x f=>(Fv f).elim,BU,fun _=>rfl⟩⟩
  have hz:next=[]:=by
   cases next with
   |nil=>rfl
   |cons a b=>simp at e
  subst hz;rw[Zj q AA];refine .ret ⟨LY _,fun x=>?_⟩;rw[LZ];refine⟨h3 x,fun h=>?_⟩
  induction h with
  |one h s=>exact(h5 _ h s).elim id fun h=>(Fv h).elim
  |more h f s ih=>exact(h6 _ ih _ f s).elim id fun h=>(Fv h).elim
 ·have :Az=9223372036854775808:=rfl;split<;>(simp only[Lm];omega)
 exact⟨rfl,rfl,hf,fun x=>by simp[CX],rfl,fun x f=>(Fv f).elim,fun x f I=>.one f I,fun x f _=>.inr f,fun y z=>(Fv z).elim⟩
def aO4 (l:List AY) (ids:List Int) (u:l.length≤1000) (ha:Pn l) (hi:ids.length≤100000):Wv l ids=some (chainOf l ids):=by
 refine fK.eq ?_;unfold Wv;refine(lq l u).bind fun at_ j=>?_;unfold abC;rw[Gw ids AA (fun r id=>r++G5 l id) (fun i r=>r.length≤40*i) (fun r=>(tY l r fun a0=>Ws a0).bind fun s=>some s) BU]
 ·rw[foldl_append (G5 l),IE]
  have hlen:(ids.flatMap (G5 l)).length≤40*ids.length:=by
   have key:∀ids:List Int,(ids.flatMap (G5 l)).length≤40*ids.length:=by
    intro ids
    induction ids with
    |nil=>simp
    |cons x ids q=>have :=aF5 ha x;rw[Nw,EL,Fp];omega
   exact key ids
  refine(akS l _ u ha AA).bind fun r z=>.ret ?_;refine GI z.1 (abS l ids) fun x=>(z.2 x).trans (Iff.trans ?_ aEq.symm);constructor
  ·intro h
   induction h with
   |one h f=>
    obtain⟨i,hi,h⟩:=UG.1 h;exact .one hi h f
   |more h m f q=>exact .more q m f
  intro h
  induction h with
  |one h m f=>exact .one (UG.2 ⟨_,h,m⟩) f
  |more h m f q=>exact .more q m f
 ·intro k r i h J;have I:=aF5 ha ids[i];refine⟨by simp only[EL];omega,?_⟩;unfold aIR aBT;rw[Ce h,j.isSome];cases f:dS l ids[i]with
  |false=>
   have :G5 l ids[i]=[]:=by
    unfold G5;rw[Qm (by unfold dS at f;simpa using f)];rfl
   rw[this,Pm];rfl
  |true=>
   obtain⟨ev,n⟩:=Qy.1 (show(EM l ids[i]).isSome=true from f);simp only[Bg];rw[j.get n];simp only[Ac];have :G5 l ids[i]=ev.bM:=by unfold G5;rw[N7 n]
   rw[←this,DZ AA];rfl
 intro k r _;unfold aIR;rw[Dk]
def aOL :∀x:List UInt8,Op.bytesLess x x=false
 | []=>rfl
 |a::x=>by
  unfold Op.bytesLess;rw[aOL x];simp
def aT3 :∀{x y z:List UInt8},Op.bytesLess x y=true→Op.bytesLess y z=true→Op.bytesLess x z=true
 |_,_,[],_,h=>aFD
 | [],_,_::_,_,_=>rfl
 |_::_,[],_::_,h,_=>aFD
 |a::x,b::y,c::z,h,k=>by
  simp only[Op.bytesLess,bV,DJ,Gi,SN]at h k ⊢;rcases h with h|⟨rfl,h⟩<;>rcases k with k|⟨rfl,k⟩
  ·exact .inl (UInt8.lt_trans h k)
  ·exact .inl h
  ·exact .inl k
  exact .inr ⟨rfl,aT3 h k⟩
def aTP :∀{x y:List UInt8},Op.bytesLess x y=false→Op.bytesLess y x=false→x=y
 | [],[],_,_=>rfl
 | [],_::_,h,_=>aFD
 |_::_,[],_,h=>aFD
 |a::x,b::y,h,k=>by
  simp only[Op.bytesLess,yu,Bool.and_eq_false_iff,iG,lu]at h k;have e:a=b:=UInt8.le_antisymm (UInt8.not_lt.1 k.1) (UInt8.not_lt.1 h.1);subst e;have f:=h.2.resolve_left (fun h=>h rfl);have k2:=k.2.resolve_left (fun h=>h rfl);rw[aTP f k2]
def Eu (a b:BI):Bool:=decide (a.Kind<b.Kind)||(a.Kind==b.Kind&&Op.bytesLess a.Key.toList b.Key.toList)
def IY (a b:BI):Bool:=a.Kind==b.Kind&&decide (a.Key=b.Key)
def al4 (a:BI):Eu a a=false:=by unfold Eu;rw[aOL];simp
def aco {a b c:BI} (h:Eu a b=true) (k:Eu b c=true):Eu a c=true:=by
 unfold Eu at *;simp only[bV,DJ,Gi,SN]at *;rcases h with h|⟨j,f⟩<;>rcases k with k|⟨m,k2⟩
 ·exact .inl AA
 ·exact .inl AA
 ·exact .inl AA
 exact .inr ⟨AA,aT3 f k2⟩
def VX {a b:BI}:IY a b=true↔a.Kind=b.Kind∧a.Key=b.Key:=by unfold IY;simp
def aS6 {a b:BI} (h:Eu a b=false) (k:Eu b a=false):IY a b=true:=by
 unfold Eu at *;simp only[yu,Bool.and_eq_false_iff,iG,lu]at *;have e:a.Kind=b.Kind:=AA
 rw[VX];exact⟨e,toList_inj (aTP (h.2.resolve_left fun n=>n e) (k.2.resolve_left fun n=>n e.symm))⟩
def pz {a b:BI} (h:IY a b=true):Eu a b=false:=by
 obtain⟨f,j⟩:=VX.1 h;unfold Eu;rw[f,j,aOL];simp
def ni {a b c:BI} (h:IY a b=true):Eu a c=Eu b c∧Eu c a=Eu c b:=by
 obtain⟨f,j⟩:=VX.1 h;unfold Eu;rw[f,j];exact⟨rfl,rfl⟩
def afs (a b:BI):nZ a b=some (Eu a b):=by
 unfold nZ Eu;cases f:decide (a.Kind<b.Kind)<;>cases h:a.Kind==b.Kind<;>rfl
def aol (k:Int) (key:ByteArray) (m:Int) (o:ByteArray) (i j:Int):aC5 k key m o=some (Eu ⟨k,key,i⟩ ⟨m,o,j⟩):=by
 unfold aC5 Eu;cases f:decide (k<m)<;>cases h:k==m<;>simp_all
def El (s:List BI) (e:BI):Nat:=s.findIdx fun x=> !Eu x e
def Jk (s:List BI) (e:BI):Bool:=match s[El s e]? with
 |some x=>IY x e
 |none=>false
def cu (s:List BI) (e:BI):El s e≤s.length:=aBE
def aPJ {s:List BI} {e:BI} (h:El s e<s.length):Eu s[El s e] e=false:=by
 have :=aIA (w:=h);unfold El;simpa using this
def aTB (s:List BI) (k:Int) (key:ByteArray) (q:s.length≤1000000):oJ s k key=some (((El s ⟨k,key,0⟩:Nat):Int),Jk s ⟨k,key,0⟩):=by
 unfold oJ aL6 adi;generalize u:(⟨k,key,0⟩:BI)=e
 have j:bD (aC6 s (fun a0=>sI a0 e) (fun a0=>o9 a0 e)) Az 0=some (((El s e:Nat):Int),Jk s e):=by
  rw[Je s (fuel_lt AA) (fun x=> !Eu x e) (fun i=>some (((i:Nat):Int),match s[i]? with |some x=> !Eu e x|none=>false)) (some (((s.length:Nat):Int),false))]
  ·split
   ·rename_i h;congr 2;unfold Jk El;rw[Dn h];have m:Eu s[s.findIdx fun x=> !Eu x e] e=false:=aPJ h;show(!Eu e s[s.findIdx fun x=> !Eu x e])=IY s[s.findIdx fun x=> !Eu x e] e;cases f:Eu e s[s.findIdx fun x=> !Eu x e]with
    |false=>rw[aS6 m f];rfl
    |true=>
     cases n:IY s[s.findIdx fun x=> !Eu x e] e with
     |false=>rfl
     |true=>rw[(ni n).2,al4]at f;cases f
   rename_i h;have h':El s e=s.length:=by have :=cu s e;unfold El at *;omega
   have f:Jk s e=false:=by unfold Jk;rw[h',II (E9 _)]
   rw[h',f]
  ·intro k2 i h;unfold aC6;rw[Ce h,Ce h];simp only[sI,o9,afs,Ac];rw[Dn h];cases Eu s[i] e<;>rfl
  intro k2;unfold aC6;rw[Dk,Dk];rfl
 rw[j];rfl
def J5 (s:List BI):Prop:=s.Pairwise fun a b=>Eu a b=true
def Gs (s:List BI) (k:Int) (key:ByteArray):Int×Bool:=match s.find? fun x=>IY x ⟨k,key,0⟩with
 |some x=>(x.Id,true)
 |none=>(0,false)
def aLW (s:List BI) (k:Int) (key:ByteArray) (j:s.length≤1000000):iM s k key=some (Gs s k key):=by
 unfold iM aR3;rw[Je s (fuel_lt AA) (fun x=>IY x ⟨k,key,0⟩) (fun i=>(Aq s (i:Int)).bind fun f=>some (f.Id,true)) (some (0,false))]
 ·unfold Gs;rw[KF];split
  ·rename_i h;rw[CQ h,Dn h];rfl
  rename_i h;rw[II AA]
 ·intro k2 i h;unfold aKS;rw[Ce h,CQ h];simp only[Ac];unfold IY;rw[Ia];cases s[i].Kind==k<;>rfl
 intro k2;unfold aKS;rw[Dk]
def ap9 {s:List BI} (h:J5 s) (e:BI):s.find? (fun x=>IY x e)=match s[El s e]? with |some x=>if IY x e then some x else none|none=>none:=by
 induction s with
 |nil=>rfl
 |cons a s n=>
  have h':=Ol.1 h;unfold El;rw[Yk,TF];cases j:Eu a e with
  |true=>
   have f:IY a e=false:=by
    cases f:IY a e with
    |false=>rfl
    |true=>rw[pz f]at j;cases j
   rw[f];simp only[EW,BZ,aGZ];exact n h'.2
  |false=>
   simp only[IX,Bg,aMI];cases f:IY a e with
   |true=>rfl
   |false=>
    simp only[RG,Jg];refine aB4.2 fun x q u=>?_;have m:=h'.1 x q;rw[(ni u).2,j]at m;cases m
def aIM (s:List BI) (k:Int) (key:ByteArray) (j:s.length≤1000000) (h:J5 s):Zw s k key=some (Gs s k key):=by
 unfold Zw;rw[aTB s k key j];simp only[Ac];unfold Gs Jk;rw[ap9 h];by_cases f:El s ⟨k,key,0⟩<s.length
 ·rw[Dn f];simp only;cases m:IY s[El s ⟨k,key,0⟩] ⟨k,key,0⟩with
  |true=>simp only[Bg,JQ];rw[CQ f];rfl
  |false=>rfl
 rw[II AA];rfl
def FN (s:List BI) (k:Int) (key:ByteArray) (id:Int):List BI:=
 s.take (El s ⟨k,key,0⟩)++⟨k,key,id⟩::s.drop (El s ⟨k,key,0⟩+bif Jk s ⟨k,key,0⟩then 1 else 0)
def asB {s:List BI} {e:BI} (h:Jk s e=true):El s e<s.length:=by
 unfold Jk at h;by_cases f:El s e<s.length
 ·exact f
 rw[II AA]at h;cases h
def xU {α:Type} {l:List α} {i:Nat} (hi:i≤l.length):Gy l 0 (i:Int)=some (l.take i):=by
 have :=jD (l:=l) (lo:=0) (hi:=i) AA hi;simpa using this
def Vg {α:Type} {l:List α} {i:Nat} (hi:i≤l.length):Gy l (i:Int) (l.length:Int)=some (l.drop i):=by
 rw[jD (l:=l) (lo:=i) (hi:=l.length) hi AA];congr 1;exact PW BU
def XE (s:List BI) (k:Int) (key:ByteArray) (id:Int) (h:s.length≤1000000):RP s k key id=some (FN s k key id):=by
 unfold RP;rw[aTB s k key h];simp only[Ac];have f:=cu s ⟨k,key,0⟩;unfold yF FN;rw[xU f];simp only[Ac];rw[DZ Dy];simp only[Ac,IE];rw[DZ Dy];simp only[Ac];cases j:Jk s ⟨k,key,0⟩with
 |true=>
  have m:=asB j;simp only[Bg];rw[wrap_succ _ AA,Vg m];simp only[Ac];rw[DZ Dy];simp
 |false=>
  simp only[BZ];rw[Vg f];simp only[Ac];rw[DZ Dy];simp
def aKo (s:List BI) (k:Int) (key:ByteArray) (id:Int) (u:s.length≤1000000):Zq s k key id=some (FN s k key id):=by
 unfold Zq aRC
 have f:∀(k2:Int→Option (List BI)),Y8 k2 ((El s ⟨k,key,0⟩:Nat):Int) s k key id false=some (FN s k key id):=by
  intro k2;have n:=cu s ⟨k,key,0⟩;unfold Y8 aFZ FN;simp only[BZ];rw[xU n];simp only[Ac];rw[DZ Dy];simp only[Ac,IE];rw[DZ Dy];simp only[Ac];by_cases j:El s ⟨k,key,0⟩<s.length
  ·rw[dec_lt j,CQ j];simp only[Bg,Ac]
   have q:Jk s ⟨k,key,0⟩=(s[El s ⟨k,key,0⟩].Kind==k&&decide (s[El s ⟨k,key,0⟩].Key=key)):=by
    unfold Jk;rw[Dn j];rfl
   rw[q,Ia,←TI];cases z:s[El s ⟨k,key,0⟩].Kind==k with
   |false=>
    simp only[BZ,Ac];rw[Vg n];simp only[Ac];rw[DZ Dy];simp
   |true=>
    simp only[Bg,Ac];cases decide (s[El s ⟨k,key,0⟩].Key=key)with
    |true=>
     simp only[Bg];rw[wrap_succ _ AA,Vg j];simp only[Ac];rw[DZ Dy];simp
    |false=>
     simp only[BZ];rw[Vg n];simp only[Ac];rw[DZ Dy];simp
  have m:El s ⟨k,key,0⟩=s.length:=AA
  have q:Jk s ⟨k,key,0⟩=false:=by unfold Jk;rw[m,II (E9 _)]
  rw[q,m,DW];simp only[BZ,Ac];rw[Vg (E9 _)];simp only[Ac];rw[DZ Dy];simp
 rw[Je s (fuel_lt AA) (fun x=> !Eu x ⟨k,key,0⟩) (fun i=>Y8 (fun _=>none) (i:Int) s k key id false) (Y8 (fun _=>none) (s.length:Int) s k key id false)]
 ·split
  ·exact f _
  rename_i h;have m:El s ⟨k,key,0⟩=s.length:=aTC
  have :=f fun _=>none;rw[m]at this;exact this
 ·intro k2 i h;unfold aMf;rw[dec_lt h,CQ h];simp only[Bg,Ac];rw[aol _ _ _ _ s[i].Id 0];simp only[Ac];show Y8 k2 _ s k key id (Eu s[i] ⟨k,key,0⟩)=_;cases Eu s[i] ⟨k,key,0⟩<;>rfl
 intro k2;unfold aMf;rw[DW];rfl
def P7 (s:List BI) (k:Int) (key:ByteArray) (id:Int):(FN s k key id).length≤s.length+1:=by
 unfold FN;have :=cu s ⟨k,key,0⟩;simp only[EL,Fp,Fa,L6];omega
def as1 {s:List BI} {e x:BI} (h:x∈s.take (El s e)):Eu x e=true:=by
 obtain⟨i,hi,rfl⟩:=Ii h;have f:i<El s e:=by simp at hi;omega
 have :=List.not_of_lt_findIdx f;rw[aAz];simpa using this
def acf {s:List BI} (u:J5 s) {e x:BI} (h:x∈s.drop (El s e+bif Jk s e then 1 else 0)):Eu e x=true:=by
 generalize j:(El s e+bif Jk s e then 1 else 0)=n at h;obtain⟨i,hi,rfl⟩:=Ii h;rw[List.getElem_drop];rw[L6]at hi;by_cases m:El s e<s.length
 ·have J:=aPJ m;cases f:Jk s e with
  |true=>
   rw[f]at j;simp only[Bg]at j;have q:IY s[El s e] e=true:=aT5
   rw[←(ni q).1];exact KY.1 u _ _ m AA AA
  |false=>
   rw[f]at j;simp only[BZ,OE]at j;subst j;have q:IY s[El s e] e=false:=aT5
   have z:Eu e s[El s e]=true:=by
    cases h:Eu e s[El s e]with
    |true=>rfl
    |false=>rw[aS6 J h]at q;cases q
   rcases YD i with I|I
   ·subst I;simpa using z
   exact aco z (KY.1 u _ _ m AA AA)
 omega
def Vt {s:List BI} (h:J5 s) (k:Int) (key:ByteArray) (id:Int):J5 (FN s k key id):=by
 have m:IY ⟨k,key,id⟩ ⟨k,key,0⟩=true:=VX.2 ⟨rfl,rfl⟩;unfold FN J5;refine aFG.2 ⟨h.sublist (List.take_sublist ..),Ol.2 ⟨fun x f=>?_,h.sublist (List.drop_sublist ..)⟩,fun x f y j=>?_⟩
 ·rw[(ni m).1];exact acf h f
 have n:Eu x ⟨k,key,0⟩=true:=as1 f;rcases F6.1 j with rfl|j
 ·rw[(ni m).2];exact n
 exact aco n (acf h j)
structure NT (l:List (List BI)):Prop where
 len:l.length≤100
 each:∀s∈l,s.length≤100∧J5 s
def Ie (l:List (List BI)) (x:BI):Bool:=l.all fun s=>(Gs s x.Kind x.Key).2&&(Gs s x.Kind x.Key).1==x.Id
def aor (l:List (List BI)) (x:BI) (h:NT l):aDA l x=some (Ie l x):=by
 unfold aDA aOk;rw[GL l (fuel_lt (by have :=h.len;omega)) (fun s=> !((Gs s x.Kind x.Key).2&&(Gs s x.Kind x.Key).1==x.Id)) false (some true)]
 ·unfold Ie;rw[JZ,nH]
 ·intro k i hi;obtain⟨j,f⟩:=h.each l[i] (ET hi);unfold aKa;rw[Ce hi,aIM _ _ _ AA f];simp only[Ac];cases(Gs l[i] x.Kind x.Key).2<;>simp[bne]
 intro k;unfold aKa;rw[Dk]
def atg (l:List (List BI)) (x:BI) (h:NT l):zn l x=some (Ie l x):=by
 unfold zn aRs;rw[GL l (fuel_lt (by have :=h.len;omega)) (fun s=> !((Gs s x.Kind x.Key).2&&(Gs s x.Kind x.Key).1==x.Id)) false (some true)]
 ·unfold Ie;rw[JZ,nH]
 ·intro k i hi;obtain⟨f,j⟩:=h.each l[i] (ET hi);unfold aLd;rw[Ce hi,aLW _ _ _ AA];simp only[Ac];cases(Gs l[i] x.Kind x.Key).2<;>simp[bne]
 intro k;unfold aLd;rw[Dk]
def Hg (l:List (List BI)):List BI:=match l with
 | []=>[]
 |s::_=>s.filter (Ie l)
def Pq (l:List (List BI)):List Int:=(l.flatMap fun s=>s.filter fun x=> !Ie l x).map (·.Id)
def PX (l:List (List BI)) (i:Nat):List BI:=if i=0 then[]else Hg l
def ND (l:List (List BI)) (i:Nat):List Int:=((l.take i).flatMap fun s=>s.filter fun x=> !Ie l x).map (·.Id)
def acz {l:List (List BI)} {i:Nat} (h:i<l.length):PX l (i+1)=PX l i++(if i=0 then l[i].filter (Ie l)else[]):=by
 unfold PX Hg;cases l with
 |nil=>simp at h
 |cons s l=>cases i<;>simp
def aMk {l:List (List BI)} {i:Nat} (h:i<l.length):ND l (i+1)=ND l i++(l[i].filter fun x=> !Ie l x).map (·.Id):=by
 unfold ND;rw[Oe h,List.flatMap_append,Jo];simp
def aLo (l:List (List BI)):ND l l.length=Pq l:=by unfold ND Pq;rw[GY]
def acH (l:List (List BI)):PX l l.length=Hg l:=by
 unfold PX;cases l with
 |nil=>rfl
 |cons s l=>simp
def aHh {l:List (List BI)} (h:NT l) (i:Nat):(ND l i).length≤100*i:=by
 induction i with
 |zero=>simp[ND]
 |succ i f=>
  by_cases hi:i<l.length
  ·rw[aMk hi,EL,D6];have :=(h.each _ (ET hi)).1;have :=Kt (fun x=> !Ie l x) l[i];omega
  have :ND l (i+1)=ND l i:=by unfold ND;rw[PW AA,PW AA]
  rw[this];omega
def aFH {l:List (List BI)} (h:NT l):(Pq l).length≤10000:=by
 have :=aHh h l.length;rw[aLo]at this;have :=h.len;omega
def YR {l:List (List BI)} (h:NT l):(Hg l).length≤100:=by
 unfold Hg;cases l with
 |nil=>exact EY _
 |cons s l=>exact Ej (Kt _ _) (h.each s (GR ..)).1
def aQF {l:List (List BI)} (h:NT l):J5 (Hg l):=by
 unfold Hg;cases l with
 |nil=>exact .nil
 |cons s l=>exact(h.each s (GR ..)).2.sublist TT
def abv (l:List (List BI)) (h:NT l):vI l=some (Hg l,EX (Pq l)):=by
 have hlen:=h.len;refine fK.eq ?_;unfold vI aa3;refine aM7 (body:=aKK l) (fun(m:Nat) (a:List BI) (b:List Int) (c:Int) (d:List (List BI)) (_:List BI) (_:List Int)=>∃i:Nat,c=i∧i+m=l.length∧d=l∧a=PX l i∧b=ND l i) ?_ Az l.length [] [] 0 l [] [] (fuel_lt AA) ⟨0,rfl,AA,rfl,rfl,by simp[ND]⟩;rintro m a b c d e f k ⟨i,rfl,U,rfl,rfl,rfl⟩ M;unfold aKK;refine fK.bif (fun hi=>?_) fun hi=>?_
 ·have hi:i<d.length:=Fj
  have Y:=(h.each d[i] (ET hi)).1;have O:=aHh h i;rw[CQ hi];simp only[Ac,wY];unfold aQL
  refine aRg (body:=aKe d[i] k (i:Int)) (fun(z:Nat) (a:List BI) (b:List Int) (c:Int) (q:List (List BI)) (_:List BI) (_:List Int) (g:Int)=>
   ∃j:Nat,c=j∧j+z=d[i].length∧q=d∧g=i∧a=PX d i++(if i=0 then(d[i].take j).filter (Ie d)else[])∧b=ND d i++((d[i].take j).filter fun x=> !Ie d x).map (·.Id)) ?_ Az d[i].length _ _ _ _ _ _ _ (fuel_lt AA) ⟨0,rfl,AA,rfl,rfl,BU,BU⟩
  rintro z a b c q Z f2 g k2 ⟨j,rfl,S,rfl,rfl,rfl,rfl⟩ u;unfold aKe;refine fK.bif (fun s=>?_) fun s=>?_
  ·have s:j<q[i].length:=P6
   have n:q[i].take (j+1)=q[i].take j++[q[i][j]]:=by rw[Oe s]
   rw[CQ s];simp only[Ac];rw[aor q _ h];simp only[Ac];have w:=wrap_succ j AA;have I:=Kt (fun x=> !Ie q x) (q[i].take j);have J:=Kt (Ie q) (q[i].take j)
   have hst:(PX q i).length≤100:=by unfold PX;split; ·exact EY _
                                    ·exact YR h
   rw[Fa]at I J;cases ha:Ie q q[i][j]with
   |false=>
    simp only[IX,Bg];rw[DZ (by simp only[EL,D6,Om];omega)];simp only[Ac,w];refine u (z-1) _ _ _ _ _ _ _ AA ⟨j+1,rfl,AA,rfl,rfl,?_,?_⟩
    ·rw[n,PS];simp[ha]
    rw[n,PS];simp[ha]
   |true=>
    simp only[EW,BZ];by_cases L:i=0
    ·subst L;simp only[show(((0:Nat):Int)==0)=true from rfl,Bg,JQ];rw[DZ Uj];simp only[Ac,w];refine u (z-1) _ _ _ _ _ _ _ AA ⟨j+1,rfl,AA,rfl,rfl,?_,?_⟩
     ·rw[n,PS];simp[ha]
     rw[n,PS];simp[ha]
    have :((i:Int)==0)=false:=aGb
    rw[this];simp only[BZ,w];refine u (z-1) _ _ _ _ _ _ _ AA ⟨j+1,rfl,AA,rfl,rfl,?_,?_⟩
    ·simp[L]
    rw[n,PS];simp[ha]
  have s:j=q[i].length:=by have :¬j<q[i].length:=P6
                           omega
  subst s;rw[wrap_succ i AA,GY];exact M (m-1) _ _ _ _ _ _ AA ⟨i+1,rfl,AA,rfl,(acz hi).symm,(aMk hi).symm⟩
 have hi:i=d.length:=by have :¬i<d.length:=Fj
                        omega
 subst hi;have :=aFH h;rw[aLo,acH,Zj _ AA];exact .ret rfl
def aQm (l:List (List BI)) (h:NT l):qh l=some (Hg l,EX (Pq l)):=by
 have hlen:=h.len;refine fK.eq ?_;unfold qh aap;refine SP (body:=aJI l) (fun(m:Nat) (a:List BI) (b:List Int) (c:Int)=>∃i:Nat,c=i∧i+m=l.length∧a=PX l i∧b=EX (ND l i)) ?_ Az l.length [] [] 0 (fuel_lt AA) ⟨0,rfl,AA,rfl,by simp[ND,EX]⟩;rintro m a b c k ⟨i,rfl,S,rfl,rfl⟩ L;unfold aJI;refine fK.bif (fun hi=>?_) fun hi=>?_
 ·have hi:i<l.length:=Fj
  have U:=(h.each l[i] (ET hi)).1;have M:=aHh h i;unfold aOm
  refine SP (body:=aL3 l (i:Int) k) (fun(s:Nat) (a:List BI) (b:List Int) (c:Int)=>
   ∃j:Nat,c=j∧j+s=l[i].length∧a=PX l i++(if i=0 then(l[i].take j).filter (Ie l)else[])∧b=EX (ND l i++((l[i].take j).filter fun x=> !Ie l x).map (·.Id))) ?_ Az l[i].length _ _ _ (fuel_lt AA) ⟨0,rfl,AA,BU,BU⟩
  rintro s a b c k2 ⟨j,rfl,O,rfl,rfl⟩ q;unfold aL3;rw[CQ hi];simp only[Ac];refine fK.bif (fun n=>?_) fun n=>?_
  ·have n:j<l[i].length:=Nj
   have f:l[i].take (j+1)=l[i].take j++[l[i][j]]:=by rw[Oe n]
   rw[CQ n];simp only[Ac];rw[atg l _ h];simp only[Ac];have w:=wrap_succ j AA;have u:=Kt (fun x=> !Ie l x) (l[i].take j);have z:=Kt (Ie l) (l[i].take j)
   have hst:(PX l i).length≤100:=by unfold PX;split; ·exact EY _
                                    ·exact YR h
   have I:=MK (ND l i++((l[i].take j).filter fun x=> !Ie l x).map fun e:BI=>e.Id);rw[EL,D6]at I;rw[Fa]at u z;cases ha:Ie l l[i][j]with
   |false=>
    simp only[IX,Bg];rw[dY _ _ AA];unfold eI;simp only[Ac,w];refine q (s-1) _ _ _ AA ⟨j+1,rfl,AA,?_,?_⟩
    ·rw[f,PS];simp[ha]
    rw[f,PS,Jo,←H7];simp only[ha,RJ,IX,JQ,List.filter_nil,Ko,List.map_nil];rw[aSo]
   |true=>
    simp only[EW,BZ];unfold eI;by_cases J:i=0
    ·subst J;simp only[show(((0:Nat):Int)==0)=true from rfl,Bg,JQ,Ac];rw[DZ Uj];simp only[Ac,w];refine q (s-1) _ _ _ AA ⟨j+1,rfl,AA,?_,?_⟩
     ·rw[f,PS];simp[ha]
     rw[f,PS];simp[ha]
    have :((i:Int)==0)=false:=by simpa using J
    rw[this];simp only[BZ,w];refine q (s-1) _ _ _ AA ⟨j+1,rfl,AA,?_,?_⟩
    ·simp[J]
    rw[f,PS];simp[ha]
  have n:j=l[i].length:=by have :¬j<l[i].length:=Nj
                           omega
  subst n;rw[wrap_succ i AA,GY];exact L (m-1) _ _ _ AA ⟨i+1,rfl,AA,(acz hi).symm,by rw[←aMk hi]⟩
 have hi:i=l.length:=by have :¬i<l.length:=Fj
                        omega
 subst hi;rw[aLo,acH];exact .ret rfl
def SC (s:List BI):List Int:=s.map (·.Id)
def Ez (l:List AY) (s:List BI):List Int:=Hf (SC s) (chainOf l (SC s))
def allOf (l:List AY) (f:List (List BI)):List Int:=f.foldl (fun a s=>Hf a (Ez l s)) []
def JH (l:List AY) (f:List (List BI)) (x:Int):Nat:=f.countP fun s=>Di (Ez l s) x
def QU (l:List AY) (f:List (List BI)):List Int:=(allOf l f).filter fun x=>decide (JH l f x<f.length)
def Jf (l:List AY) (f:List (List BI)):List Int:=Hf (EX (Pq f)) (QU l f)
def aax (l:List AY) (s:List BI):Inc (Ez l s):=vZ _ _
def aIE (s:List BI):(SC s).length=s.length:=D6 _
def pG (l:List AY) (s:List BI):(Ez l s).length≤s.length+l.length:=by
 have f:=aHQ (SC s) (chainOf l (SC s));have h:=Zv l (SC s);rw[aIE]at f;unfold Ez;omega
def aIW (l:List AY):∀(f:List (List BI)) (a:List Int),Inc a→Inc (f.foldl (fun a s=>Hf a (Ez l s)) a)∧∀x,x∈f.foldl (fun a s=>Hf a (Ez l s)) a↔x∈a∨∃s∈f,x∈Ez l s
 | [],a,h=>⟨h,fun x=>BU⟩
 |s::f,a,h=>by
  rw[G6];obtain⟨m,n⟩:=aIW l f (Hf a (Ez l s)) (vZ _ _);refine⟨m,fun x=>(n x).trans ?_⟩;rw[VG];constructor
  ·rintro((h|h)|⟨t,j,h4⟩)
   ·exact .inl h
   ·exact .inr ⟨s,GR ..,h⟩
   exact .inr ⟨t,Hr _ j,h4⟩
  rintro(h|⟨t,j,h4⟩)
  ·exact .inl (.inl h)
  rcases F6.1 j with rfl|j
  ·exact .inl (.inr h4)
  exact .inr ⟨t,j,h4⟩
def air (l:List AY) (f:List (List BI)):Inc (allOf l f):=(aIW l f [] .nil).1
def ab9 {l:List AY} {f:List (List BI)} {x:Int}:x∈allOf l f↔∃s∈f,x∈Ez l s:=by
 unfold allOf;rw[(aIW l f [] .nil).2 x];simp
def apy (l:List AY) (f:List (List BI)):Inc (QU l f):=(air l f).sublist TT
def cnt_lt {l:List AY} {f:List (List BI)} {x:Int}:JH l f x<f.length↔∃s∈f,x∉Ez l s:=by
 unfold JH;have h:=List.countP_le_length (p:=fun s=>Di (Ez l s) x) (l:=f);have q:=List.countP_eq_length (p:=fun s=>Di (Ez l s) x) (l:=f);constructor
 ·intro z;by_cases j:∀s∈f,Di (Ez l s) x=true
  ·have :=q.2 j;omega
  simp only[Classical.not_forall]at j;obtain⟨s,m,n⟩:=j;exact⟨s,m,fun I=>n (JW.2 I)⟩
 rintro⟨s,m,n⟩;rcases Za (f.countP fun s=>Di (Ez l s) x) f.length with u|u
 ·exact u
 exact absurd (JW.1 (q.1 AA s m)) n
def amX {l:List AY} {f:List (List BI)} {x:Int}:x∈QU l f↔(∃s∈f,x∈Ez l s)∧∃s∈f,x∉Ez l s:=by
 unfold QU;rw[Gn,ab9,Gi,cnt_lt]
def aOt {f:List (List BI)} {x:BI}:Ie f x=true↔∀s∈f,(Gs s x.Kind x.Key).2=true∧(Gs s x.Kind x.Key).1=x.Id:=by
 unfold Ie;rw[ER];simp
def aCM (l:List AY):∀(f:List (List BI)) (a:List Int),(∀s∈f,s.length≤100)→(f.foldl (fun a s=>Hf a (Ez l s)) a).length≤a.length+f.length*(100+l.length)
 | [],a,_=>BU
 |s::f,a,h=>by
  rw[G6];have m:=aCM l f (Hf a (Ez l s)) fun t j=>h t (Hr _ j);have n:=aHQ a (Ez l s);have q:=pG l s;have u:=h s (GR ..);rw[Fp,Ty];omega
def aPa {l:List AY} {f:List (List BI)} (j:NT f) (u:l.length≤1000):(QU l f).length≤110000:=by
 have m:=aCM l f [] fun s h=>(j.2 s h).1;have n:=j.1;have q:=Kt (fun x=>decide (JH l f x<f.length)) (allOf l f);have z:f.length*(100+l.length)≤100*1100:=aDe n AA;unfold QU;unfold allOf at q ⊢;simp only[Lm]at m;omega
def am3 {s:List BI} (h:J5 s) {x:BI} (q:x∈s):Gs s x.Kind x.Key=(x.Id,true):=by
 unfold Gs;cases n:s.find? (fun y=>IY y ⟨x.Kind,x.Key,0⟩)with
 |none=>
  have :=aB4.1 n x q;unfold IY at this;simp at this
 |some y=>
  have u:=aAs n;have J:=U9 n;have z:IY y x=true:=by unfold IY at u ⊢;exact u
  have :y=x:=by
   obtain⟨i,hi,rfl⟩:=Ii q;obtain⟨j,I,rfl⟩:=Ii J;rcases aAw i j with f|f|f
   ·have m:=KY.1 h i j hi I f;have L:IY s[i] s[j]=true:=by obtain⟨a,b⟩:=VX.1 z;exact VX.2 ⟨a.symm,b.symm⟩
    rw[pz L]at m;cases m
   ·subst f;rfl
   have m:=KY.1 h j i I hi f;rw[pz z]at m;cases m
  rw[this]
def aoC {s:List BI} {k:Int} {key:ByteArray} {n:Int} (h:Gs s k key=(n,true)):(⟨k,key,n⟩:BI)∈s:=by
 unfold Gs at h;cases f:s.find? (fun y=>IY y ⟨k,key,0⟩)with
 |none=>rw[f]at h;cases h
 |some y=>
  rw[f]at h;have m:IY y ⟨k,key,0⟩=true:=by have :=aAs f;exact this
  have j:=VX.1 m;have q:=U9 f;obtain⟨a,b,c⟩:=y;cases h;simp only at j;rw[←j.1,←j.2];exact q
def amc {f:List (List BI)} {x:BI} (h:Ie f x=true) {s:List BI} (j:s∈f):x∈s:=by
 obtain⟨m,q⟩:=aOt.1 h s j;exact aoC (s:=s) (k:=x.Kind) (key:=x.Key) (n:=x.Id) (by rw[←m,←q])
def ai6 {f:List (List BI)} (h:NT f) {x:BI} (m:∀s∈f,x∈s):Ie f x=true:=
 aOt.2 fun s j=>by rw[am3 (h.2 s j).2 (m s j)];exact⟨rfl,rfl⟩
def aQY {f:List (List BI)} (h:NT f) (m:f≠[]) {x:BI}:x∈Hg f↔∀s∈f,x∈s:=by
 cases f with
 |nil=>exact absurd rfl m
 |cons s f=>
  show x∈s.filter (Ie (s::f))↔_;rw[Gn];exact⟨fun j t n=>amc j.2 n,fun j=>⟨j s (GR ..),ai6 h j⟩⟩
def adr (l:List Int) (h:l.length≤1099511627776):((Oc l).bind fun x=>(VU x).bind fun y=>some y)=some (EX l):=by
 unfold Oc VU;have f:(Rk l).length≤1099511627776:=by rw[(WR l).length_eq];exact h
 simp[h,aMg,aIt]
def aTG (s:List BI):s.foldl (fun r x=>r++[x.Id]) []=SC s:=by
 rw[foldl_append (fun x:BI=>[x.Id])];unfold SC;rw[IE]
 induction s with
 |nil=>rfl
 |cons x s f=>rw[Nw,f];rfl
def agP (l:List AY) (s:List BI) (m:l.length≤1000) (ha:Pn l) (I:s.length≤100):aFo l s=some (Ez l s):=by
 unfold aFo
 have n:JM 8 (0:Int) 0 (s.length:Int)=some []:=by
  unfold JM;rw[D7 aAK];rfl
 rw[n];simp only[Ac];unfold aT0;rw[Gw s AA (fun r x=>r++[x.Id]) (fun i r=>r.length≤i) (fun r=>(Wv l r).bind fun q=>(CZ 8 r q).bind fun u=>(Oc u).bind fun f=>(VU f).bind fun j=>some j) BU]
 ·have J:=Zv l (SC s);have L:=aIE s;rw[aTG,aO4 l _ m ha AA];simp only[Ac];rw[DZ AA];simp only[Ac];rw[adr _ KC];unfold Ez;rw[rU]
 ·intro k a i h z;refine⟨aFP,?_⟩;unfold aOU;rw[Ce h,DZ FU];rfl
 intro k a z;unfold aOU;rw[Dk]
def alv (l:List AY) (s:List BI) (f:l.length≤1000) (ha:Pn l) (q:s.length≤100):aCj l s=some (Ez l s):=by
 unfold aCj aa7;rw[Gw s AA (fun r x=>r++[x.Id]) (fun i r=>r.length≤i) (fun r=>(YM l r).bind fun j=>(Wh r j).bind fun m=>some m) BU]
 ·have u:=Zv l (SC s);have z:=aIE s;rw[aTG,aKA l _ f ha AA];simp only[Ac];rw[aF9 _ _ AA AA];rfl
 ·intro k a i h n;refine⟨aFP,?_⟩;unfold aNO;rw[dec_lt h,CQ h];simp only[Bg,Ac];rw[DZ FU];rfl
 intro k a n;unfold aNO;rw[DW];rfl
def stepM (m:List (Int×Int)) (x:Int):List (Int×Int):=Dl m x (BA (((CX m x).getD 0)+1))
structure LX (m:List (Int×Int)) (f:Int→Nat):Prop where
 nodup:(m.map (·.1)).Nodup
 find:∀x,CX m x=if f x=0 then none else some (f x:Int)
def arj {m:List (Int×Int)} {k v y:Int}:y∈(Dl m k v).map (·.1)↔y=k∨y∈m.map (·.1):=by
 induction m with
 |nil=>simp[Dl]
 |cons p m f=>
  unfold Dl;cases h:k==p.1 with
  |true=>
   have j:k=p.1:=JB
   simp only[Bg,Ko,F6];rw[j];simp
  |false=>
   simp only[BZ,Ko,F6,f];exact⟨fun h=>h.elim (fun e=>.inr (.inl e)) fun h=>h.elim .inl fun h=>.inr (.inr h),fun h=>h.elim (fun e=>.inr (.inl e)) fun h=>h.elim .inl fun h=>.inr (.inr h)⟩
def aqw {m:List (Int×Int)} {k v:Int} (h:(m.map (·.1)).Nodup):((Dl m k v).map (·.1)).Nodup:=by
 induction m with
 |nil=>simp[Dl]
 |cons p m q=>
  have h':=NC.1 h;unfold Dl;cases n:k==p.1 with
  |true=>
   have f:k=p.1:=Nj
   simp only[Bg,Ko];rw[f];exact h
  |false=>
   have f:k≠p.1:=Nj
   simp only[BZ,Ko];refine NC.2 ⟨fun j=>?_,q h'.2⟩;rcases arj.1 j with e|j
   ·exact f e.symm
   exact h'.1 j
def aqj (m:List (Int×Int)) (k v:Int):(Dl m k v).length≤m.length+1:=by
 induction m with
 |nil=>simp[Dl]
 |cons p m f=>
  unfold Dl;cases k==p.1 with
  |true=>simp
  |false=>simp only[BZ,Fp];omega
def LX.step {m:List (Int×Int)} {f:Int→Nat} (h:LX m f) (x:Int) (q:f x≤1000000):LX (stepM m x) (fun y=>f y+if y=x then 1 else 0):=by
 refine⟨aqw h.nodup,fun y=>?_⟩;unfold stepM;rw[Q5,h.find x]
 have e:BA (((if f x=0 then none else some (f x:Int)).getD 0)+1)=((f x+1:Nat):Int):=by
  by_cases j:f x=0
  ·rw[D7 j,j];rfl
  rw[DF j];show BA ((f x:Int)+1)=_;exact wrap_succ _ AA
 by_cases n:y=x
 ·subst n;simp only[dz,Bg,JQ];rw[e,DF AA]
 have :(y==x)=false:=Nj
 rw[this];simp only[BZ,DF n,OE];exact h.find y
def LX.fold:∀(c:List Int) {m:List (Int×Int)} {f:Int→Nat},c.Nodup→LX m f→(∀x,f x≤1000)→LX (c.foldl stepM m) (fun y=>f y+if y∈c then 1 else 0)
 | [],m,f,_,h,_=>by
   refine⟨h.nodup,fun x=>?_⟩;simp only[List.foldl_nil,Fv,Jg,OE];exact h.find x
 |x::c,m,f,n,h,J=>by
  have j:=NC.1 n
  have key:∀(c:List Int) (m:List (Int×Int)) (g:Int→Nat),c.Nodup→LX m g→(∀x∈c,g x≤1000)→LX (c.foldl stepM m) (fun y=>g y+if y∈c then 1 else 0):=by
   intro c
   induction c with
   |nil=>intro m g _ h _;refine⟨h.nodup,fun x=>?_⟩;simp only[List.foldl_nil,Fv,Jg,OE];exact h.find x
   |cons z c L=>
    intro m g n h s;have j:=NC.1 n
    have u:=L (stepM m z) (fun y=>g y+if y=z then 1 else 0) j.2 (h.step z (by have :=s z (GR ..);omega)) fun y I=>by
     have q:y≠z:=fun e=>j.1 (e▸I);simp only[DF q,OE];exact s y (Hr _ I)
    refine⟨u.nodup,fun y=>?_⟩;rw[G6,u.find y]
    have :(g y+if y=z then 1 else 0)+(if y∈c then 1 else 0)=g y+if y∈z::c then 1 else 0:=by
     by_cases e:y=z
     ·subst e;simp[j.1]
     simp[e]
    simp only[this]
  exact key (x::c) m f n h fun y _=>J y
def aNC :∀(c:List Int) (m:List (Int×Int)),(c.foldl stepM m).length≤m.length+c.length
 | [],m=>BU
 |x::c,m=>by
  have f:=aNC c (stepM m x);have h:=aqj m x (BA (((CX m x).getD 0)+1));rw[G6,Fp];unfold stepM at f ⊢;omega
def Xd {l:List Int} (h:Inc l):l.Nodup:=h.imp fun h=>AA
def LX.mem {m:List (Int×Int)} {f:Int→Nat} (h:LX m f) {x n:Int}:(x,n)∈m↔f x≠0∧n=f x:=by
 have key:∀m:List (Int×Int),(m.map (·.1)).Nodup→((x,n)∈m↔CX m x=some n):=by
  intro m
  induction m with
  |nil=>intro _;simp[CX]
  |cons p m z=>
   intro I;have j:=NC.1 I;unfold CX;rw[F6];cases u:x==p.1 with
   |true=>
    have q:x=p.1:=Rh
    simp only[Bg,LJ];constructor
    ·rintro(e|hm)
     ·rw[←e]
     exact absurd (Fh.2 ⟨_,hm,q⟩) j.1
    intro e;left;rw[q,←e]
   |false=>
    have q:x≠p.1:=Rh
    simp only[BZ];rw[←z j.2];exact⟨fun h=>h.elim (fun e=>absurd (by rw[←e]) q) id,.inr⟩
 rw[key m h.nodup,h.find x];by_cases s:f x=0
 ·simp[s]
 rw[DF s];simp only[LJ,ne_eq,s,not_false_eq_true,true_and];exact eq_comm
def abg {l:List Int} (h:l.Nodup):Rk l=EX l:=by
 refine GI ?_ (LY l) fun x=>by rw[LZ];exact(WR l).mem_iff
 have f:=aGG l;have j:(Rk l).Nodup:=(WR l).nodup_iff.2 h;exact(f.and j).imp fun h=>AA
def aM4 (n:Int):∀(m:List (Int×Int)) (r:List Int) (f:List (List BI)),(f.length:Int)=n→r.length+m.length≤1000000→List.foldlM (VL f) r m=some (r++(m.filter fun p=>decide (p.2<n)).map (·.1))
 | [],r,f,_,_=>BU
 |p::m,r,f,h,q=>by
  simp only[Fp]at q;have e:VL f r p=(bif decide (p.2<n)then(CZ 8 r [p.1]).bind fun j=>some j else some r):=by unfold VL;rw[h]
  rw[TU,e];cases hd:decide (p.2<n)with
  |true=>
   simp only[Bg];rw[DZ FU];simp only[Ac];show List.foldlM (VL f) (r++[p.1]) m=_;rw[aM4 n m (r++[p.1]) f h Uj,RJ,D7 hd];simp
  |false=>
   simp only[BZ];show List.foldlM (VL f) r m=_;rw[aM4 n m r f h AA,RJ,DF (by simp[hd])]
def aSr (l:List AY) (f:List (List BI)) (x:Int):JH l f x≤f.length:=List.countP_le_length
def LX.of_eq {m:List (Int×Int)} {f g:Int→Nat} (h:LX m f) (e:∀x,f x=g x):LX m g:=⟨h.nodup,fun x=>by rw[h.find,e]⟩
def asC (l:List AY) (f:List (List BI)) (hl:l.length≤1000) (ha:Pn l) (J:NT f):nG l f=some (QU l f):=by
 unfold nG adO;have hsl:=J.len;rw[zy (a0:=[]) f AA (fun m s=>(Ez l s).foldl stepM m) (fun i m=>LX m (JH l (f.take i))∧m.length≤1100*i) (fun v2=>(JM 8 (0:Int) 0 (v2.length:Int)).bind fun M=>(List.foldlM (VL f) M v2).bind l7) ⟨⟨aY,fun x=>rfl⟩,EY _⟩]
 ·obtain⟨L,hlen⟩:LX (f.foldl (fun m s=>(Ez l s).foldl stepM m) []) (JH l f)∧(f.foldl (fun m s=>(Ez l s).foldl stepM m) []).length≤1100*f.length:=by
   have key:∀(b a:List (List BI)) (m:List (Int×Int)),(∀s∈b,s.length≤100)→a.length+b.length≤100→LX m (JH l a)→m.length≤1100*a.length→LX (b.foldl (fun m s=>(Ez l s).foldl stepM m) m) (JH l (a++b))∧(b.foldl (fun m s=>(Ez l s).foldl stepM m) m).length≤1100*(a.length+b.length):=by
    intro b
    induction b with
    |nil=>intro a m _ _ z I;simpa using⟨z,I⟩
    |cons s b ih=>
     intro a m hb O z I;rw[G6,List.append_cons];have hc:=pG l s;have q:=hb s (GR ..);have S:=aNC (Ez l s) m;simp only[Fp]at O ⊢;have :=ih (a++[s]) ((Ez l s).foldl stepM m) (fun t ht=>hb t (Hr _ ht)) Uj ?_ Uj
     ·simpa[NP,Ph 1]using this
     refine(LX.fold (Ez l s) (Xd (aax l s)) z fun x=>by have :=aSr l a x;omega).of_eq fun x=>?_;unfold JH;rw[List.countP_append,List.countP_singleton];by_cases u:x∈Ez l s
     ·rw[D7 u,D7 (JW.2 u)]
     rw[DF u,DF (by rw[O7.2 u];simp)]
   have :=key f [] [] (fun s h=>(J.each s h).1) (by simpa using J.len) ⟨aY,fun x=>rfl⟩ (EY _);simpa using this
  generalize f.foldl (fun m s=>(Ez l s).foldl stepM m) []=m at L hlen
  have hm:JM 8 (0:Int) 0 (m.length:Int)=some []:=by
   unfold JM;rw[D7 aAK];rfl
  rw[hm];simp only[Ac];rw[aM4 (f.length:Int) m [] f rfl Uf];simp only[Ac,IE];have U:((m.filter fun p=>decide (p.2<(f.length:Int))).map (·.1)).Nodup:=L.nodup.sublist (TT.map _);have hle:((m.filter fun p=>decide (p.2<(f.length:Int))).map (·.1)).length≤m.length:=by rw[D6];exact Kt _ _
  unfold l7 Oc;rw[D7 AA];simp only[Ac];congr 1;rw[abg U];refine GI (LY _) (apy _ _) fun x=>?_;rw[LZ,Fh];unfold QU;rw[Gn,ab9];constructor
  ·rintro⟨⟨y,n⟩,Y,rfl⟩;rw[Gn]at Y;obtain⟨z,I⟩:=L.mem.1 Y.1;have S:n<(f.length:Int):=by simpa using Y.2
   subst I;refine⟨?_,Dy⟩;have :0<JH l f y:=AA
   obtain⟨s,Z,hs2⟩:=List.countP_pos_iff.1 this;exact⟨s,Z,JW.1 hs2⟩
  rintro⟨⟨s,z,I⟩,S⟩;have h4:0<JH l f x:=List.countP_pos_iff.2 ⟨s,z,JW.2 I⟩;refine⟨(x,(JH l f x:Int)),Gn.2 ⟨L.mem.2 ⟨AA,rfl⟩,?_⟩,rfl⟩;have h5:JH l f x<f.length:=ZP
  simp;omega
 ·intro k m i h hI;have hc:=pG l f[i];have q:=(J.each f[i] (ET h)).1;refine⟨⟨?_,?_⟩,?_⟩
  ·refine(LX.fold (Ez l f[i]) (Xd (aax l f[i])) hI.1 fun x=>by have :=aSr l (f.take i) x;rw[Fa]at this;omega).of_eq fun x=>?_;rw[Oe h];unfold JH;rw[List.countP_append,List.countP_singleton];by_cases u:x∈Ez l f[i]
   ·rw[D7 u,D7 (JW.2 u)]
   rw[DF u,DF (by rw[O7.2 u];simp)]
  ·have :=aNC (Ez l f[i]) m;have :=hI.2;omega
  unfold yV;rw[Ce h,agP l _ hl ha q];simp only[Ac];unfold aPt;rw[zy (Ez l f[i]) AA stepM (fun _ _=>True) (fun v8=>k (BA ((i:Int)+1)) v8) trivial]
  ·intro k2 a j hj _;refine⟨trivial,?_⟩;unfold aEj;rw[Ce hj];rfl
  intro k2 a _;unfold aEj;rw[Dk]
 intro k m hI;unfold yV;rw[Dk]
def amd {R A B α:Type} {body:(A→B→Int→Option R)→A→B→Int→Option R} (l:List α) (q:l.length≤1099511627776) (f:A→B→α→A) (g:A→B→α→B) (I:Nat→A→B→Prop) (j:A→B→Option R) {Q:R→Prop} {a0:A} {n:B} (s:I 0 a0 n)
 (u:∀k a b (i:Nat) (h:i<l.length),I i a b→I (i+1) (f a b l[i]) (g a b l[i])∧body k a b (i:Int)=k (f a b l[i]) (g a b l[i]) (BA ((i:Int)+1)))
 (z:∀k a b,I l.length a b→body k a b (l.length:Int)=j a b) (J:∀a b,I l.length a b→fK (j a b) Q):fK (jw body Az a0 n 0) Q:=by
 refine SP (body:=body) (Q:=Q) (fun m a b c=>∃i:Nat,c=i∧i+m=l.length∧I i a b) ?_ Az l.length a0 n 0 (fuel_lt q) ⟨0,rfl,AA,s⟩;rintro m a b c k ⟨i,rfl,S,hi⟩ L;by_cases e:i<l.length
 ·obtain⟨M,O⟩:=u k a b i e hi;rw[O,wrap_succ i AA];exact L (m-1) _ _ _ AA ⟨i+1,rfl,AA,M⟩
 have :i=l.length:=AA
 subst this;rw[z _ _ _ hi];exact J a b hi
def aJQ (x:Int):∀(cs:List (List Int)) (n:Nat),n+cs.length≤1000000→cs.foldl (fun(n:Int) c=>bif Di c x then BA (n+1)else n) (n:Int)=((n+cs.countP (fun c=>Di c x):Nat):Int)
 | [],n,_=>BU
 |c::cs,n,h=>by
  rw[Fp]at h;rw[G6,List.countP_cons];cases f:Di c x with
  |true=>
   simp only[Bg,JQ];rw[wrap_succ n AA,aJQ x cs (n+1) AA];congr 1;omega
  |false=>
   simp only[BZ,RG,Jg,OE];exact aJQ x cs n AA
def anl (l:List AY) (f:List (List BI)) (M:l.length≤1000) (ha:Pn l) (I:NT f):aA1 l f=some (QU l f):=by
 refine fK.eq ?_;unfold aA1 acS;have O:=I.len
 have u:∀i,(allOf l (f.take i)).length≤1100*i:=by
  intro i;have U:=aCM l (f.take i) [] fun s h=>(I.each s (uO h)).1;rw[Fa,Lm]at U;have h2:min i f.length*(100+l.length)≤i*1100:=aDe (aLu _ _) AA;unfold allOf;omega
 refine amd f AA (fun a _ s=>a++[Ez l s]) (fun _ b s=>Hf b (Ez l s)) (fun i a b=>a=(f.take i).map (Ez l)∧b=allOf l (f.take i)) (fun a b=>aMY b a [] 0) ⟨rfl,rfl⟩ ?_ ?_ ?_
 ·rintro k a b i h ⟨rfl,rfl⟩;have Y:=pG l f[i];have m:=(I.each f[i] (ET h)).1;have q:f.take (i+1)=f.take i++[f[i]]:=Oe h;refine⟨⟨by rw[q,Jo];rfl,by rw[q];unfold allOf;rw[Vy];rfl⟩,?_⟩;unfold aID;rw[dec_lt h,CQ h];simp only[Bg,Ac];rw[alv l _ M ha m];simp only[Ac];rw[DZ (by simp only[D6,Fa,Om];omega)];simp only[Ac];have :=u i;rw[aF9 _ _ AA AA];rfl
 ·rintro k a b ⟨rfl,rfl⟩;unfold aID;rw[DW];rfl
 rintro a b ⟨rfl,rfl⟩;rw[GY];refine fK.of ?_;have Z:=u f.length;rw[GY]at Z;unfold aMY;rw[Gw (allOf l f) AA (fun r x=>bif decide (JH l f x<f.length)then r++[x]else r) (fun i r=>r.length≤i) (fun r=>some r) (E9 _)]
 ·congr 1;unfold QU
  have key:∀(S r:List Int),S.foldl (fun r x=>bif decide (JH l f x<f.length)then r++[x]else r) r=r++S.filter (fun x=>decide (JH l f x<f.length)):=by
   intro S
   induction S with
   |nil=>intro r;simp
   |cons x S ih=>
    intro r;rw[G6,ih,RJ];cases decide (JH l f x<f.length)<;>simp
  simpa using key (allOf l f) []
 ·intro k r i h hI;refine⟨?_,?_⟩
  ·cases decide (JH l f (allOf l f)[i]<f.length)with
   |false=>show r.length≤i+1;omega
   |true=>show(r++[(allOf l f)[i]]).length≤i+1;simp;omega
  unfold aN7;rw[dec_lt h];simp only[Bg];unfold aaw
  rw[Gw (f.map (Ez l)) WZ (fun(n:Int) c=>bif Di c (allOf l f)[i]then BA (n+1)else n) (fun _ _=>True)
   (fun n=>bif decide (n<((f.map (Ez l)).length:Int))then k (r++[(allOf l f)[i]]) (BA ((i:Int)+1))else k r (BA ((i:Int)+1))) trivial]
  ·have z:=aJQ (allOf l f)[i] (f.map (Ez l)) 0 WZ;rw[show((0:Nat):Int)=0 from rfl]at z;rw[z,List.countP_map,D6,J4]
   have e:decide (((f.countP ((fun c=>Di c (allOf l f)[i])∘Ez l):Nat):Int)<(f.length:Int))=decide (JH l f (allOf l f)[i]<f.length):=by
    unfold JH;rw[xk];exact Int.ofNat_lt
   rw[e];cases decide (JH l f (allOf l f)[i]<f.length)<;>rfl
  ·intro k2 n j J _;refine⟨trivial,?_⟩;have L:j<f.length:=by rw[D6]at J;exact J
   have Y:=pG l f[j];have m:=(I.each f[j] (ET L)).1;unfold aM0;rw[dec_lt J,CQ J,CQ h];simp only[Bg,Ac];rw[Vq _ _ (by rw[UC];omega)];simp only[Ac];cases Di (f.map (Ez l))[j] (allOf l f)[i]<;>rfl
  intro k2 n _;unfold aM0;rw[DW];simp only[BZ];rw[CQ h];simp only[Ac];rw[DZ FU];cases decide (n<((f.map (Ez l)).length:Int))<;>rfl
 intro k r _;unfold aN7;rw[DW];rfl
def afy (l:List AY) (f:List (List BI)) (j:l.length≤1000) (ha:Pn l) (h:NT f):aAo l f=some (Jf l f):=by
 have m:=aFH h;have n:=MK (Pq f);have q:=aPa h j;unfold aAo;rw[abv f h,asC l f j ha h];simp only[Ac];rw[DZ AA];simp only[Ac];rw[adr _ KC];unfold Jf;rw[rU]
def arY (l:List AY) (f:List (List BI)) (j:l.length≤1000) (ha:Pn l) (h:NT f):aBH l f=some (Jf l f):=by
 have m:=aFH h;have n:=MK (Pq f);have q:=aPa h j;unfold aBH;rw[aQm f h,anl l f j ha h];simp only[Ac];rw[aF9 _ _ AA AA];rfl
def Dx (l:List AY):Prop:=∀e∈l,I9 e
def Dx.ajE {l:List AY} (h:Dx l):Pn l:=fun e f=>(h e f).auth
def aGy {R A α:Type} {body:(A→Int→Option R)→A→Int→Option R} (l:List α) (q:l.length<Az) (p:α→Bool) (g:Nat→Option R) (rest:Option R) (a0:A)
 (s:∀k (i:Nat) (h:i<l.length),body k a0 (i:Int)=bif p l[i]then g i else k a0 (BA ((i:Int)+1))) (u:∀k,body k a0 (l.length:Int)=rest):
 aV body Az a0 0=if l.findIdx p<l.length then g (l.findIdx p)else rest:=by
 have J:Az=9223372036854775808:=rfl
 have key:∀n (i:Nat),i+n=l.length→∀m,n<m→aV body m a0 (i:Int)=if(l.drop i).findIdx p+i<l.length then g ((l.drop i).findIdx p+i)else rest:=by
  intro n
  induction n with
  |zero=>
   intro i hi m z;obtain⟨m,rfl⟩:∃j,m=j+1:=⟨m-1,AA⟩
   have :i=l.length:=AA
   subst this;show body (aV body m) _ _=_;rw[u,OV,DF BU]
  |succ n I=>
   intro i hi m z;obtain⟨m,rfl⟩:∃j,m=j+1:=⟨m-1,AA⟩
   have f:i<l.length:=AA
   show body (aV body m) _ _=_;rw[s _ i f,wrap_succ i AA,I (i+1) AA m AA,LV f,TF];cases p l[i]with
   |true=>simp only[Bg,J4];rw[D7 f]
   |false=>
    simp only[BZ];rw[show(l.drop (i+1)).findIdx p+(i+1)=(l.drop (i+1)).findIdx p+1+i by omega]
 have :=key l.length 0 AA Az q;simpa using this
def Sm {s:List BI} {k:Int} {key:ByteArray} {id:Int} {x:BI} (h:x∈FN s k key id):x=⟨k,key,id⟩∨x∈s:=by
 unfold FN at h;rcases I8.1 h with h|h
 ·exact .inr (uO h)
 rcases F6.1 h with h|h
 ·exact .inl h
 exact .inr (aMU h)
def tC (s:List BI):Prop:=∀x∈s,x.Id=0
def Yj {s:List BI} {k:Int} {key:ByteArray} (h:tC s):tC (FN s k key 0):=fun x f=>by
 rcases Sm f with rfl|f
 ·rfl
 exact h x f
def og (l:List BI) (k:Int) (key:ByteArray) (f:Int):Option BP:=
 (bif decide (f<(l.length:Int))then(Aq l f).bind fun h=>some (h.Kind==k)else some false).bind fun j=>(bif j then(Aq l f).bind fun m=>some (m.Key.toList==key.toList)else some false).bind fun n=>(bif n then some l else(Gy l 0 f).bind fun q=>(CZ 32 [] q).bind fun s=>(CZ 32 s [(⟨k,key,0⟩:BI)]).bind fun u=>(Gy l f ((l).length)).bind fun z=>(CZ 32 u z).bind fun I=>some I)
def pY (s:List BI) (k:Int) (key:ByteArray) (hs:s.length≤1000000) (m:tC s):Vd s k key=some (FN s k key 0):=by
 unfold Vd aT6
 have f:og s k key ((El s ⟨k,key,0⟩:Nat):Int)=some (FN s k key 0):=by
  have O:=cu s ⟨k,key,0⟩;unfold og FN
  have j:((Gy s 0 ((El s ⟨k,key,0⟩:Nat):Int)).bind fun q=>(CZ 32 [] q).bind fun u=>(CZ 32 u [(⟨k,key,0⟩:BI)]).bind fun z=>(Gy s ((El s ⟨k,key,0⟩:Nat):Int) ((s).length)).bind fun I=>(CZ 32 z I).bind fun J=>some J)=some (s.take (El s ⟨k,key,0⟩)++⟨k,key,0⟩::s.drop (El s ⟨k,key,0⟩)):=by
   rw[xU O];simp only[Ac];rw[DZ Dy];simp only[Ac,IE];rw[DZ Dy];simp only[Ac];rw[Vg O];simp only[Ac];rw[DZ Dy];simp
  rw[j];by_cases n:El s ⟨k,key,0⟩<s.length
  ·rw[dec_lt n,CQ n];simp only[Bg,Ac]
   have L:Jk s ⟨k,key,0⟩=(s[El s ⟨k,key,0⟩].Kind==k&&decide (s[El s ⟨k,key,0⟩].Key=key)):=by
    unfold Jk;rw[Dn n];rfl
   rw[L,Ia];cases S:s[El s ⟨k,key,0⟩].Kind==k with
   |false=>rfl
   |true=>
    simp only[Bg,Ac,Fe];cases hd:decide (s[El s ⟨k,key,0⟩].Key=key)with
    |true=>
     simp only[Bg];have U:s[El s ⟨k,key,0⟩].Kind=k:=ZP
     have Y:s[El s ⟨k,key,0⟩].Key=key:=by simpa using hd
     have Z:=m _ (ET n)
     have h4:(⟨k,key,0⟩:BI)=s[El s ⟨k,key,0⟩]:=by
      have :∀(y:BI),y.Kind=k→y.Key=key→y.Id=0→(⟨k,key,0⟩:BI)=y:=fun y a b c=>by cases y;simp only at a b c;rw[a,b,c]
      exact this _ U Y Z
     congr 1
     conv=>rhs;arg 2;arg 1;rw[h4]
     rw[←LV n,bF]
    |false=>rfl
  have m:El s ⟨k,key,0⟩=s.length:=AA
  have L:Jk s ⟨k,key,0⟩=false:=by unfold Jk;rw[m,II (E9 _)]
  rw[L,m,DW];rfl
 rw[Je s (fuel_lt AA) (fun x=> !Eu x ⟨k,key,0⟩) (fun i=>og s k key (i:Int)) (og s k key (s.length:Int))]
 ·split
  ·exact f
  rename_i h;have m:El s ⟨k,key,0⟩=s.length:=aTC
  rw[m]at f;exact f
 ·intro k2 i h;unfold aJF
  have e:(bif decide ((i:Int)<(s.length:Int))then(Aq s (i:Int)).bind fun x5=>(bif decide (x5.Kind<k)then some true else(Aq s (i:Int)).bind fun x8=>(bif (x8.Kind==k)then(Aq s (i:Int)).bind fun M=>some (Op.bytesLess (M.Key.toList) (key.toList))else some false).bind fun x9=>some x9).bind fun x6=>some x6 else some false)=some (Eu s[i] ⟨k,key,0⟩):=by
   rw[dec_lt h,CQ h];simp only[Bg,Ac];unfold Eu;cases decide (s[i].Kind<k)<;>cases s[i].Kind==k<;>rfl
  rw[e];simp only[Ac];cases Eu s[i] ⟨k,key,0⟩<;>rfl
 intro k2;unfold aJF;rw[DW];simp only[BZ,Ac];unfold og;rw[DW];rfl
def LU (e:AY):List BI:=FN (FN (FN [] 1 Bf 0) 3 Bf 0) 2 e.bG 0
def keysOf (e:AY):List BI:=
 bif e.Kind==1 then[]else bif e.Kind==2 then(bif e.Content.N==3||e.Content.N==1||e.Content.N==2 then FN (FN (LU e) 2 e.Key 0) 4 Bf 0 else FN (LU e) 2 e.Key 0)else LU e
def aN4 (e:AY):(LU e).length≤3:=by
 have f:=P7 [] 1 Bf 0;have h:=P7 (FN [] 1 Bf 0) 3 Bf 0;have j:=P7 (FN (FN [] 1 Bf 0) 3 Bf 0) 2 e.bG 0;unfold LU;simp only[Lm]at f;omega
def aUd (e:AY):tC (LU e):=Yj (Yj (Yj fun x f=>absurd f Fv))
def V7 (e:AY):(keysOf e).length≤5:=by
 have f:=aN4 e;have h:=P7 (LU e) 2 e.Key 0;have j:=P7 (FN (LU e) 2 e.Key 0) 4 Bf 0;unfold keysOf;cases e.Kind==1<;>cases e.Kind==2<;>cases(e.Content.N==3||e.Content.N==1||e.Content.N==2)<;>simp only[Bg,BZ,Lm]<;>omega
def aSR (e:AY):xq e=some (keysOf e):=by
 have h:=aN4 e;have j:=P7 (LU e) 2 e.Key 0;have f:=P7 [] 1 Bf 0;have m:=P7 (FN [] 1 Bf 0) 3 Bf 0;simp only[Lm]at f;unfold xq keysOf;rw[XE [] 1 Bf 0 BU];simp only[Ac];rw[XE _ 3 Bf 0 AA];simp only[Ac];rw[XE _ 2 e.bG 0 AA];simp only[Ac];show(bif e.Kind==1 then some []else bif e.Kind==2 then(RP (LU e) 2 e.Key 0).bind _ else dD (LU e))=_;rw[XE (LU e) 2 e.Key 0 AA];simp only[Ac];rw[XE _ 4 Bf 0 AA];unfold dD;cases e.Kind==1<;>cases e.Kind==2<;>cases e.Content.N==3<;>cases e.Content.N==1<;>cases e.Content.N==2<;>rfl
def aNH (e:AY):iY e=some (keysOf e):=by
 have m:=aN4 e;have n:=P7 (LU e) 2 e.Key 0;have h:=P7 [] 1 Bf 0;have q:=P7 (FN [] 1 Bf 0) 3 Bf 0;have z0:tC []:=fun x j=>absurd j Fv;simp only[Lm]at h;unfold iY keysOf;rw[pY [] 1 Bf BU z0];simp only[Ac];rw[pY _ 3 Bf AA (Yj z0)];simp only[Ac];rw[pY _ 2 e.bG AA (Yj (Yj z0))];simp only[Ac];show(bif e.Kind==1 then some []else bif e.Kind != 2 then some (LU e)else(Vd (LU e) 2 e.Key).bind _)=_;rw[pY (LU e) 2 e.Key AA (aUd e)];simp only[Ac];rw[pY _ 4 Bf AA (Yj (aUd e))];unfold aGa;have f:(e.Kind != 2)= !(e.Kind==2):=rfl;rw[f];cases e.Kind==1<;>cases e.Kind==2<;>cases e.Content.N==3<;>cases e.Content.N==1<;>cases e.Content.N==2<;>rfl
def Ei (k:BI) (x:AY):Bool:=x.Kind==k.Kind&&decide (x.Key=k.Key)
def V8 (l:List AY) (e:AY):List AY:=(keysOf e).flatMap fun k=>((ofIds l e.bM).find? (Ei k)).toList
def flat_length {α β:Type} {f:α→List β} {n:Nat} (h:∀x,(f x).length≤n):∀l:List α,(l.flatMap f).length≤n*l.length
 | []=>BU
 |x::l=>by
  have j:=h x;have m:=flat_length h l;rw[Nw,EL,Fp,Nat.mul_succ];omega
def aAI (l:List AY) (e:AY):(V8 l e).length≤5:=by
 have h:=flat_length (f:=fun k=>((ofIds l e.bM).find? (Ei k)).toList) (n:=1) (fun k=>toList_le _) (keysOf e);have j:=V7 e;unfold V8;omega
def aIy {l:List AY} {ids:List Int} {x:AY} (h:x∈ofIds l ids):x∈l:=by
 obtain⟨i,_,h⟩:=Rw.1 h;exact OY h
def arA {l:List AY} {e x:AY} (h:x∈V8 l e):x∈l:=by
 obtain⟨k,_,h⟩:=UG.1 h;have :(ofIds l e.bM).find? (Ei k)=some x:=JB
 exact aIy (U9 this)
def J8 (x:BI):Sl:=⟨x.Kind,x.Key⟩
def aeH (e:AY):mF e=some ((keysOf e).map J8):=by
 unfold mF;rw[aSR];simp only[Ac];have j:=V7 e;unfold aSF;rw[Gw (keysOf e) AA (fun r x=>r++[J8 x]) (fun i r=>r.length≤i) (fun r=>some r) (E9 _)]
 ·rw[foldl_append (fun x=>[J8 x]),IE];congr 1
  induction keysOf e with
  |nil=>rfl
  |cons x s f=>rw[Nw,f];rfl
 ·intro k r i h m;refine⟨aFP,?_⟩;unfold aLA;rw[Ce h,DZ FU];rfl
 intro k r _;unfold aLA;rw[Dk]
def aPs (l:List AY) (p:AY→Bool):∀ids:List Int,(ofIds l ids).find? p=(ids.find? fun i=>match EM l i with |some x=>p x|none=>false).bind (EM l)
 | []=>rfl
 |i::ids=>by
  have f:=aPs l p ids;unfold ofIds at f ⊢;rw[RN,Yk];cases h:EM l i with
  |none=>exact f
  |some x=>
   simp only;rw[Yk];cases p x with
   |true=>exact h.symm
   |false=>exact f
def acg (l:List AY) (e:AY) (q:l.length≤1000) (s:e.bM.length≤40):uf l e=some (V8 l e):=by
 unfold uf;rw[aeH];simp only[Ac];have u:=V7 e;unfold aP7;rw[Gw (a0:=[]) ((keysOf e).map J8) WZ (fun r k=>r++((ofIds l e.bM).find? fun x=>x.Kind==k.aa5&&decide (x.Key=k.aa6)).toList) (fun i r=>r.length≤i) (fun r=>some r) (E9 _)]
 ·congr 1;rw[foldl_append (fun k:Sl=>((ofIds l e.bM).find? fun x=>x.Kind==k.aa5&&decide (x.Key=k.aa6)).toList),IE,List.flatMap_map];rfl
 ·intro k r i h z;have I:=toList_le ((ofIds l e.bM).find? fun x=>x.Kind==((keysOf e).map J8)[i].aa5&&decide (x.Key=((keysOf e).map J8)[i].aa6));refine⟨KC,?_⟩;have hi:i<5:=by rw[D6]at h;omega
  unfold aOM;rw[Ce h];generalize((keysOf e).map J8)[i]=K;unfold adQ
  rw[aGy e.bM (fuel_lt AA) (fun id=>match EM l id with |some x=>x.Kind==K.aa5&&decide (x.Key=K.aa6)|none=>false)
   (fun j=>lJ k (i:Int) (r++(match e.bM[j]? with |some id=>(EM l id).toList|none=>[]))) (lJ k (i:Int) r)]
  ·rw[aPs,KF];by_cases f:e.bM.findIdx (fun id=>match EM l id with |some x=>x.Kind==K.aa5&&decide (x.Key=K.aa6)|none=>false)<e.bM.length
   ·rw[D7 f,Dn f];rfl
   rw[DF f,II AA];simp only[Option.bind_none,Option.toList_none,Pm];rfl
  ·intro k2 j m;unfold aL5;rw[Ce m,OG l _ AA,Dn m];simp only[Ac];cases n:EM l e.bM[j]with
   |none=>rw[Qm n];rfl
   |some x=>
    rw[N7 n];simp only[Bg,Pj];unfold VI;rw[Ia];rw[DZ FU];cases x.Kind==K.aa5<;>cases decide (x.Key=K.aa6)<;>rfl
  intro k2;unfold aL5;rw[Dk]
 intro k r _;unfold aOM;rw[Dk]
def aSp (l:List AY) (e:AY) (J:l.length≤1000) (Y:e.bM.length≤40):tq l e=some (V8 l e):=by
 unfold tq;rw[aNH,aIr l _ J AA];simp only[Ac];have Z:=V7 e;have L:=Zh l e.bM;unfold aPq;rw[Gw (a0:=[]) (keysOf e) AA (fun r k=>r++((ofIds l e.bM).find? (Ei k)).toList) (fun i r=>r.length≤i) (fun r=>some r) (E9 _)]
 ·rw[foldl_append (fun k:BI=>((ofIds l e.bM).find? (Ei k)).toList),IE];rfl
 ·intro k r i h hI;have M:=toList_le ((ofIds l e.bM).find? (Ei (keysOf e)[i]));refine⟨KC,?_⟩;have hi:i<5:=AA
  unfold aGx;rw[dec_lt h];simp only[Bg];generalize ofIds l e.bM=O at L M;unfold aQE
  have q:∀m (a:List AY) (j:Int),0<m→jw (Q9 O (keysOf e) (i:Int) k) m a true j=k a (BA ((i:Int)+1)):=by
   intro m a j I;obtain⟨m,rfl⟩:∃u,m=u+1:=⟨m-1,AA⟩
   show Q9 O (keysOf e) (i:Int) k (jw (Q9 O (keysOf e) (i:Int) k) m) a true j=_;unfold Q9;cases decide (j<(O.length:Int))<;>rfl
  have key:∀n (j:Nat),j+n=O.length→∀m,n+1<m→jw (Q9 O (keysOf e) (i:Int) k) m r false (j:Int)=k (r++((O.drop j).find? (Ei (keysOf e)[i])).toList) (BA ((i:Int)+1)):=by
   intro n
   induction n with
   |zero=>
    intro j S m I;obtain⟨m,rfl⟩:∃u,m=u+1:=⟨m-1,AA⟩
    have :j=O.length:=AA
    subst this;show Q9 O (keysOf e) (i:Int) k (jw (Q9 O (keysOf e) (i:Int) k) m) r false _=_;unfold Q9;rw[DW,OV];simp
   |succ n U=>
    intro j S m I;obtain⟨m,rfl⟩:∃u,m=u+1:=⟨m-1,AA⟩
    have s:j<O.length:=AA
    have z:=U (j+1) AA m AA;show Q9 O (keysOf e) (i:Int) k (jw (Q9 O (keysOf e) (i:Int) k) m) r false _=_;have f:=q m;generalize jw (Q9 O (keysOf e) (i:Int) k) m=K at z f;unfold Q9 aF0 aFY;rw[dec_lt s,CQ s,CQ h];simp only[Bg,IX,Ac];rw[Ia,wrap_succ j AA,LV s,Yk,z];rw[DZ FU];simp only[Ac];rw[f _ _ AA];unfold Ei;cases O[j].Kind==(keysOf e)[i].Kind<;>cases decide (O[j].Key=(keysOf e)[i].Key)<;>rfl
  have :=key O.length 0 AA Az jG;exact this
 intro k r _;unfold aGx;rw[DW];rfl
def Un (c:ByteArray):CO:=bif !(c.toList==Bf.toList)then{ VB with Users:=[⟨c,100⟩] }else VB
def X8 (l:List AY):ByteArray:=match l.find? fun x=>x.Kind==1 with |some x=>x.bG|none=>Bf
def FY (l:List AY):CO:=match l.find? fun x=>x.Kind==3 with |some x=>x.Content.Levels|none=>Un (X8 l)
def afL (c:ByteArray):aDy c=some (Un c):=by
 unfold aDy Un aGA;cases c.toList==Bf.toList<;>rfl
def amm (c:ByteArray):zu c=some (Un c):=by
 unfold zu Un aGR;cases c.toList==Bf.toList<;>rfl
def aa9 (l:List AY) (k:Int) (f:l.length≤1000):um l k=some (if l.findIdx (fun e=>e.Kind==k)<l.length then((l.findIdx (fun e=>e.Kind==k):Nat):Int)else -1):=by
 unfold um;rw[aNo l AA (fun a0=>aBD a0 k) (fun e=>e.Kind==k) fun _=>rfl];rfl
def aNn (l:List AY) (j:l.length≤1000) (q:Dx l):dM l=some (FY l,X8 l):=by
 have m:∀c,cD l c=some (match l.find? fun x=>x.Kind==3 with |some x=>x.Content.Levels|none=>Un c,c):=by
  intro c;unfold cD;rw[aa9 l 3 j,KF];simp only[Ac];by_cases h:l.findIdx (fun e=>e.Kind==3)<l.length
  ·rw[D7 h,show decide (((l.findIdx (fun e=>e.Kind==3):Nat):Int)≥0)=true by simp,CQ h,Dn h];simp only[Bg,Ac];have n:=q _ (ET h);have s:=n.users;have u:=n.kinds;unfold aCe aGB;rw[DZ Uf,DZ Uf];rfl
  rw[DF h,II AA,afL];rfl
 unfold dM;rw[aa9 l 1 j];simp only[Ac];by_cases h:l.findIdx (fun e=>e.Kind==1)<l.length
 ·have f:X8 l=l[l.findIdx (fun e=>e.Kind==1)].bG:=by unfold X8;rw[KF,Dn h]
  rw[D7 h,show decide (((l.findIdx (fun e=>e.Kind==1):Nat):Int)≥0)=true by simp,CQ h];simp only[Bg,Ac];rw[m,←f];rfl
 have f:X8 l=Bf:=by unfold X8;rw[KF,II AA]
 rw[DF h];show cD l Bf=_;rw[m,←f];rfl
def aJb (l:List AY) (Z:l.length≤1000):dH l=some (FY l,X8 l):=by
 have u:∀c,aEz l c 0 Iy=some (match l.find? fun x=>x.Kind==3 with |some x=>x.Content.Levels|none=>Un c,c):=by
  intro c;unfold aEz
  have M:∀{R:Type} {body:(Int→CO→Option R)→Int→CO→Option R} (p:AY→Bool) (g:Nat→Option R) (rest:Option R) (a0:CO)
   (S:∀k (i:Nat) (h:i<l.length),body k (i:Int) a0=bif p l[i]then g i else k (BA ((i:Int)+1)) a0) (U:∀k,body k (l.length:Int) a0=rest),
   aV body Az 0 a0=if l.findIdx p<l.length then g (l.findIdx p)else rest:=by
   intro R body p g rest a0 S U;have hf:Az=9223372036854775808:=rfl
   have key:∀n (i:Nat),i+n=l.length→∀m,n<m→aV body m (i:Int) a0=if(l.drop i).findIdx p+i<l.length then g ((l.drop i).findIdx p+i)else rest:=by
    intro n
    induction n with
    |zero=>
     intro i hi m J;obtain⟨m,rfl⟩:∃s,m=s+1:=⟨m-1,AA⟩
     have :i=l.length:=AA
     subst this;show body (aV body m) _ _=_;rw[U,OV,DF BU]
    |succ n O=>
     intro i hi m J;obtain⟨m,rfl⟩:∃s,m=s+1:=⟨m-1,AA⟩
     have f:i<l.length:=AA
     show body (aV body m) _ _=_;rw[S _ i f,wrap_succ i AA,O (i+1) AA m AA,LV f,TF];cases p l[i]with
     |true=>simp only[Bg,J4];rw[D7 f]
     |false=>
      simp only[BZ];rw[show(l.drop (i+1)).findIdx p+(i+1)=(l.drop (i+1)).findIdx p+1+i by omega]
   have :=key l.length 0 AA Az AA;simpa using this
  rw[M (fun x=>x.Kind==3) (fun i=>some ((match l[i]? with |some x=>x.Content.Levels|none=>Iy),c)) (some (Un c,c))]
  ·rw[KF];by_cases h:l.findIdx (fun e=>e.Kind==3)<l.length
   ·rw[D7 h,Dn h]
   rw[DF h,II AA]
  ·intro k i h;unfold aMu;rw[Ce h,CQ h,Dn h];rfl
  intro k;unfold aMu;rw[Dk,amm];rfl
 unfold dH ae3;obtain⟨F,L⟩:∃F:ByteArray→Option (CO×ByteArray),∀c,aEz l c 0 Iy=F c:=⟨_,fun _=>rfl⟩
 simp only[L]at u
 have z:∀m (c:ByteArray) (j:Int),0<m→jw (QS l) m c true j=F c:=by
  intro m c j J;obtain⟨m,rfl⟩:∃s,m=s+1:=⟨m-1,AA⟩
  show QS l (jw (QS l) m) c true j=_;unfold QS;simp only[L];cases decide (j<(l.length:Int))<;>rfl
 have key:∀n (j:Nat),j+n=l.length→∀m,n+1<m→jw (QS l) m Bf false (j:Int)=F (match(l.drop j).find? fun x=>x.Kind==1 with |some x=>x.bG|none=>Bf):=by
  intro n
  induction n with
  |zero=>
   intro j Y m J;obtain⟨m,rfl⟩:∃s,m=s+1:=⟨m-1,AA⟩
   have :j=l.length:=AA
   subst this;show QS l (jw (QS l) m) Bf false _=_;unfold QS;simp only[L];rw[DW,OV];rfl
  |succ n O=>
   intro j Y m J;obtain⟨m,rfl⟩:∃s,m=s+1:=⟨m-1,AA⟩
   have f:j<l.length:=AA
   have I:=O (j+1) AA m AA;show QS l (jw (QS l) m) Bf false _=_;have q:=z m;generalize jw (QS l) m=K at I q;unfold QS aGW;simp only[L];rw[dec_lt f,CQ f];simp only[Bg,IX,Ac];rw[wrap_succ j AA,LV f,Yk,I,q _ _ AA];cases l[j].Kind==1<;>rfl
 have :=key l.length 0 AA Az jG;rw[show((0:Nat):Int)=0 from rfl]at this;rw[this,u];rfl
def ED (v:CO) (u:ByteArray):Int:=match v.Users.find? fun x=>decide (x.User=u)with |some x=>x.N|none=>v.User
def Yp (v:CO) (u:ByteArray) (h:v.Users.length≤1000):TD v u=some (ED v u):=by
 unfold TD aSZ ED;rw[Je v.Users (fuel_lt AA) (fun x=>decide (x.User=u)) (fun i=>some (match v.Users[i]? with |some x=>x.N|none=>0)) (some v.User)]
 ·rw[KF];by_cases h:v.Users.findIdx (fun x=>decide (x.User=u))<v.Users.length
  ·rw[D7 h,Dn h]
  rw[DF h,II AA]
 ·intro k i h;unfold aLm;rw[Ce h,Ia,Dn h]
 intro k;unfold aLm;rw[Dk]
def Xe (v:CO) (u:ByteArray) (h:v.Users.length≤1000):SK v u=some (ED v u):=by
 unfold SK aRm ED;rw[Je v.Users (fuel_lt AA) (fun x=>decide (x.User=u)) (fun i=>some (match v.Users[i]? with |some x=>x.N|none=>0)) (some v.User)]
 ·rw[KF];by_cases h:v.Users.findIdx (fun x=>decide (x.User=u))<v.Users.length
  ·rw[D7 h,Dn h]
  rw[DF h,II AA]
 ·intro k i h;unfold aIe;rw[Ce h,Ia,Dn h,CQ h];rfl
 intro k;unfold aIe;rw[Dk]
def bn {l:List AY} (h:Dx l):(FY l).Users.length≤100∧(FY l).Kinds.length≤100:=by
 unfold FY;cases f:l.find? fun x=>x.Kind==3 with
 |some x=>
  have :=h x (U9 f);exact⟨this.users,this.kinds⟩
 |none=>
  simp only;unfold Un;cases(X8 l).toList==Bf.toList with
  |true=>
   show VB.Users.length≤100∧VB.Kinds.length≤100;exact⟨Bd,Bd⟩
  |false=>
   show 1≤100∧VB.Kinds.length≤100;exact⟨Bd,Bd⟩
def sS (l:List AY) (e:AY):Int:=ED (FY (V8 l e)) e.bG
def Dx.from {l:List AY} (h:Dx l) (e:AY):Dx (V8 l e):=fun x f=>h x (arA f)
def aew (l:List AY) (e:AY) (h:l.length≤1000) (f:Dx l) (j:e.bM.length≤40):aAB l e=some (sS l e):=by
 have m:=aAI l e;have n:=(bn (f.from e)).1;unfold aAB;rw[acg l e h j];simp only[Ac];rw[aNn _ AA (f.from e)];simp only[Ac];rw[Yp _ _ AA];rfl
def aTk (l:List AY) (e:AY) (f:l.length≤1000) (h:Dx l) (j:e.bM.length≤40):wB l e=some (sS l e):=by
 have m:=aAI l e;have n:=(bn (h.from e)).1;unfold wB;rw[aSp l e f j];simp only[Ac];rw[aJb _ AA];simp only[Ac];rw[Xe _ _ AA];rfl
def RD (e:AY):Bool:=bif e.Kind==2 then(e.Content.N==0||e.Content.N==4)&& !(decide (e.Key=e.bG))else e.Kind==3||e.Kind==4
def aqy (e:AY):zW e=some (RD e):=by
 unfold zW aEQ RD;rw[Ia];by_cases h:e.Kind=2
 ·simp[h];cases e.Content.N==0<;>cases e.Content.N==4<;>rfl
 have f:(e.Kind==2)=false:=JB
 rw[f];cases e.Kind==3<;>cases e.Kind==4<;>rfl
def amg (e:AY):yR e=some (RD e):=by
 unfold yR RD;rw[Ia];cases e.Kind==2<;>cases e.Content.N==0<;>cases e.Content.N==4<;>cases e.Kind==3<;>cases e.Kind==4<;>rfl
def adN (l:List Int) (x:Int) (h:l.length≤1099511627776):nX l x=some (if l.findIdx (· ==x)<l.length then((l.findIdx (· ==x):Nat):Int)else -1):=by
 unfold nX abE;rw[Je l (fuel_lt h) (· ==x) (fun i=>some (i:Int)) (some (-1))]
 ·split<;>rfl
 ·intro k i hi;unfold aOh;rw[Ce hi];have :(x==l[i])=(l[i]==x):=by rw[QM];simp only[SN];exact eq_comm
  rw[this]
 intro k;unfold aOh;rw[Dk]
def adV (l:List Int) (x:Int):decide (l.findIdx (· ==x)<l.length)=Di l x:=by
 rw[QM,JW,Gi,wu];exact⟨fun⟨y,f,j⟩=>by rw[←(by simpa using j:y=x)];exact f,fun h=>⟨x,h,BU⟩⟩
def sD (l:List Int) (x:Int) (h:l.length≤1099511627776):eM l x=some (Di l x):=by
 unfold eM;rw[adN l x h,←adV];by_cases f:l.findIdx (· ==x)<l.length
 ·rw[D7 f,Ib f];simp
 rw[DF f,Ir f];rfl
def ac0 (l:List Int) (x:Int) (h:l.length≤1099511627776):dF l x=some (Di l x):=by
 unfold dF;rw[sD l x h];rfl
def ev (l:List AY) (id:Int):AY:=(I5 l id).1
def Xa (l:List AY) (id:Int):Bool:=dS l id&&RD (ev l id)
def O8 (l:List AY) (full:List Int):List Int:=full.filter (Xa l)
def X9 (l:List AY) (full:List Int):List Int:=EX (O8 l full++full.filter (Di (chainOf l (O8 l full))))
def aOX {l:List AY} {full:List Int} {x:Int}:x∈X9 l full↔x∈full∧(Xa l x=true∨MI l (O8 l full) x):=by
 unfold X9;rw[LZ,I8,Gn,JW,aEq];unfold O8;rw[Gn];exact⟨fun h=>h.elim (fun h=>⟨h.1,.inl h.2⟩) fun h=>⟨h.1,.inr h.2⟩,fun⟨h,k⟩=>k.elim (fun k=>.inl ⟨h,k⟩) fun k=>.inr ⟨h,k⟩⟩
def aR9 (l:List AY) (full:List Int):Inc (X9 l full):=LY _
def aIq (p:Int→Bool):∀(S r:List Int),S.foldl (fun r x=>bif p x then r++[x]else r) r=r++S.filter p
 | [],r=>BU
 |x::S,r=>by
  rw[G6,aIq p S,RJ];cases p x<;>simp
def ahs (l:List AY) (full:List Int) (n:l.length≤1000) (q:Dx l) (u:full.length≤120000) (f:(O8 l full).length≤100000):aCF l full=some (X9 l full):=by
 unfold aCF adL;rw[Gw (a0:=[]) full AA (fun r x=>bif Xa l x then r++[x]else r) (fun i r=>r.length≤i) (fun r=>(Wv l r).bind fun j=>aIi full j r 0) (E9 _)]
 ·have s:full.foldl (fun r x=>bif Xa l x then r++[x]else r) []=O8 l full:=by rw[aIq];rfl
  have z:=Zv l (O8 l full);rw[s,aO4 l _ n q.ajE f];simp only[Ac];unfold aIi;rw[Gw full AA (fun r x=>bif Di (chainOf l (O8 l full)) x then r++[x]else r) (fun i r=>r.length≤(O8 l full).length+i) (fun r=>some (EX r)) (E9 _)]
  ·rw[aIq];rfl
  ·intro k r i h m;refine⟨?_,?_⟩
   ·cases Di (chainOf l (O8 l full)) full[i]with
    |false=>show r.length≤(O8 l full).length+(i+1);omega
    |true=>show(r++[full[i]]).length≤(O8 l full).length+(i+1);simp;omega
   unfold aMe aCk;rw[Ce h,ac0 _ _ AA];simp only[Ac];rw[DZ FU];cases Di (chainOf l (O8 l full)) full[i]<;>rfl
  intro k r m;unfold aMe;rw[Dk,Zj _ AA];rfl
 ·intro k r i h m;refine⟨?_,?_⟩
  ·cases Xa l full[i]with
   |false=>show r.length≤i+1;omega
   |true=>show(r++[full[i]]).length≤i+1;simp;omega
  unfold aHV aAM;rw[Ce h,OG l _ AA];simp only[Ac];rw[DZ FU];unfold Xa dS ev;rw[aqy,OO];cases(EM l full[i]).isSome<;>cases RD (I5 l full[i]).1<;>rfl
 intro k r _;unfold aHV;rw[Dk]
def MI.aDr {l:List AY} {ids:List Int} {i x:Int} (hi:i∈ids) (h:MI l [i] x):MI l ids x:=by
 induction h with
 |one h f j=>rw[KQ.1 h]at f;exact .one hi f j
 |more h f j m=>exact .more m f j
def MI.split {l:List AY} {ids:List Int} {x:Int}:MI l ids x↔∃i∈ids,MI l [i] x:=by
 constructor
 ·intro h
  induction h with
  |one h f j=>exact⟨_,h,.one (KQ.2 rfl) f j⟩
  |more h f j q=>obtain⟨i,m,n⟩:=q;exact⟨i,m,.more n f j⟩
 rintro⟨i,m,n⟩;exact .aDr m n
def MI.dS {l:List AY} {ids:List Int} {x:Int} (h:MI l ids x):dS l x=true:=by cases h<;>assumption
def Z8 (h r:List Int) (y:Int):List Int:=bif Di h y then put r y else r
def aGp (h:List Int):∀(c r:List Int),Inc r→Inc (c.foldl (Z8 h) r)∧∀x,x∈c.foldl (Z8 h) r↔x∈r∨x∈c∧x∈h
 | [],r,j=>⟨j,fun x=>BU⟩
 |y::c,r,j=>by
  rw[G6];unfold Z8;cases s:Di h y with
  |true=>
   obtain⟨m,n⟩:=aGp h c (put r y) (Rn j);refine⟨m,fun x=>(n x).trans ?_⟩;rw[WO,F6];constructor
   ·rintro((f|rfl)|f)
    ·exact .inl f
    ·exact .inr ⟨.inl rfl,JW.1 s⟩
    exact .inr ⟨.inr f.1,f.2⟩
   rintro(f|⟨rfl|f,q⟩)
   ·exact .inl (.inl f)
   ·exact .inl (.inr rfl)
   exact .inr ⟨f,q⟩
  |false=>
   obtain⟨m,n⟩:=aGp h c r j;refine⟨m,fun x=>(n x).trans ⟨fun f=>f.imp id fun f=>⟨Hr _ f.1,f.2⟩,fun f=>f.imp id fun f=>⟨?_,f.2⟩⟩⟩;rcases F6.1 f.1 with rfl|q
   ·exact absurd f.2 (O7.1 s)
   exact q
def ZT (l:List AY) (h r:List Int) (x:Int):List Int:=bif RD (ev l x)then(chainOf l [x]).foldl (Z8 h) (put r x)else r
def aJW (l:List AY) (h:List Int):∀(c r:List Int),Inc r→Inc (c.foldl (ZT l h) r)∧∀x,x∈c.foldl (ZT l h) r↔x∈r∨∃i∈c,RD (ev l i)=true∧(x=i∨MI l [i] x∧x∈h)
 | [],r,n=>⟨n,fun x=>BU⟩
 |y::c,r,n=>by
  rw[G6];unfold ZT;cases q:RD (ev l y)with
  |true=>
   obtain⟨z,I⟩:=aGp h (chainOf l [y]) (put r y) (Rn n);obtain⟨s,u⟩:=aJW l h c _ z;refine⟨s,fun x=>(u x).trans ?_⟩;rw[I x,WO,aEq];constructor
   ·rintro(((f|rfl)|f)|⟨i,f,m⟩)
    ·exact .inl f
    ·exact .inr ⟨x,GR ..,q,.inl rfl⟩
    ·exact .inr ⟨y,GR ..,q,.inr f⟩
    exact .inr ⟨i,Hr _ f,m⟩
   rintro(f|⟨i,f,m,j⟩)
   ·exact .inl (.inl (.inl f))
   rcases F6.1 f with rfl|f
   ·rcases j with rfl|j
    ·exact .inl (.inl (.inr rfl))
    exact .inl (.inr j)
   exact .inr ⟨i,f,m,j⟩
  |false=>
   obtain⟨s,u⟩:=aJW l h c r n;refine⟨s,fun x=>(u x).trans ⟨fun f=>f.imp id fun⟨i,m,j⟩=>⟨i,Hr _ m,j⟩,fun f=>f.imp id fun⟨i,m,j,J⟩=>⟨i,?_,j,J⟩⟩⟩;rcases F6.1 m with rfl|m
   ·rw[q]at j;cases j
   exact m
def atC (l:List AY) (full:List Int):(F9 l full).foldl (ZT l (F9 l full)) []=X9 l full:=by
 obtain⟨n,q⟩:=aJW l (F9 l full) (F9 l full) [] .nil;refine GI n (aR9 _ _) fun x=>(q x).trans ?_;rw[aOX,MV,MI.split];unfold O8 Xa;constructor
 ·rintro(m|⟨i,m,f,j⟩)
  ·exact absurd m Fv
  have h:=MV.1 m;rcases j with rfl|j
  ·exact⟨h.1,.inl (by rw[h.2,f];rfl)⟩
  exact⟨j.2.1,.inr ⟨i,Gn.2 ⟨h.1,by rw[h.2,f];rfl⟩,j.1⟩⟩
 rintro⟨m,f|⟨i,f,j⟩⟩
 ·rw[DJ]at f;exact .inr ⟨x,MV.2 ⟨m,f.1⟩,f.2,.inl rfl⟩
 rw[Gn,DJ]at f;exact .inr ⟨i,MV.2 ⟨f.1,f.2.1⟩,f.2.2,.inr ⟨j,m,j.dS⟩⟩
def asj (l:List AY) (full:List Int) (u:l.length≤1000) (I:Dx l) (J:full.length≤100000):aBS l full=some (X9 l full):=by
 unfold aBS;rw[abB l full u J];simp only[Ac];have L:(F9 l full).length≤l.length:=kW (Ya l full) fun x f=>(MV.1 f).2;unfold aaP;rw[Gw (a0:=[]) (F9 l full) AA (ZT l (F9 l full)) (fun _ r=>Inc r∧∀x∈r,dS l x=true) (fun r=>some r) ⟨.nil,fun x f=>absurd f Fv⟩]
 ·rw[atC]
 ·intro k r i h n;have q:dS l (F9 l full)[i]=true:=(MV.1 (ET h)).2;have M:=kW n.1 n.2;have g:=aGp (F9 l full) (chainOf l [(F9 l full)[i]]) (put r (F9 l full)[i]) (Rn n.1);refine⟨?_,?_⟩
  ·unfold ZT;cases RD (ev l (F9 l full)[i])with
   |false=>exact n
   |true=>
    refine⟨g.1,fun x f=>?_⟩;rcases(g.2 x).1 f with m|m
    ·rcases WO.1 m with m|rfl
     ·exact n.2 x m
     exact q
    exact(MV.1 m.2).2
  unfold aJB uP;rw[Ce h,Lp l _ AA];simp only[Ac];rw[amg,CQ h];simp only[Ac];rw[dY _ _ AA];simp only[Ac];rw[aKA l _ u I.ajE BU];simp only[Ac];unfold ZT;show(bif RD (ev l (F9 l full)[i])then _ else _)=_;cases RD (ev l (F9 l full)[i])with
  |false=>rfl
  |true=>
   simp only[Bg];have Y:=Zv l [(F9 l full)[i]];unfold aTn
   rw[Gw (chainOf l [(F9 l full)[i]]) AA (Z8 (F9 l full)) (fun _ r=>Inc r∧∀x∈r,dS l x=true) (fun r=>k r (BA ((i:Int)+1))) ⟨Rn n.1,fun x f=>by
    rcases WO.1 f with m|rfl
    ·exact n.2 x m
    exact q⟩]
   ·intro k2 O j z s;have S:=kW s.1 s.2;refine⟨?_,?_⟩
    ·unfold Z8;cases U:Di (F9 l full) (chainOf l [(F9 l full)[i]])[j]with
     |false=>exact s
     |true=>
      refine⟨Rn s.1,fun x f=>?_⟩;rcases WO.1 f with m|rfl
      ·exact s.2 x m
      exact(MV.1 (JW.1 U)).2
    unfold aNq aC4;rw[Ce z,Vq _ _ AA,CQ z];simp only[Ac];rw[dY _ _ AA];unfold Z8;cases Di (F9 l full) (chainOf l [(F9 l full)[i]])[j]<;>rfl
   intro k2 O _;unfold aNq uP;rw[Dk]
 intro k r _;unfold aJB;rw[Dk]
def aGK (l:List AY) (full:List Int):(X9 l full).length≤l.length:=
 kW (aR9 l full) fun x f=>by
  rcases(aOX.1 f).2 with h|h
  ·unfold Xa at h;rw[DJ]at h;exact h.1
  exact h.dS
def FK (l:List AY) (id:Int):Q8:=⟨id,sS l (ev l id),(ev l id).Time,chainOf l [id]⟩
def jy (l:List AY) (left:List Int) (x:Int):Bool:= !left.any fun y=>Di (chainOf l [x]) y
def Ym (a b:Q8):Bool:=bif a.IJ != b.IJ then decide (a.IJ>b.IJ)else decide (a.AQ<b.AQ)
def Ih (l:List AY) (left:List Int) (b:Option Int) (x:Int):Option Int:=bif jy l left x&&(match b with |none=>true|some y=>Ym (FK l x) (FK l y))then some x else b
def Tt (l:List AY) (left:List Int):Option Int:=left.foldl (Ih l left) none
def NQ (l:List AY):Nat→List Int→List Int
 |0,_=>[]
 |n+1,left=>match Tt l left with
  |none=>[]
  |some b=>b::NQ l n (left.filter (· != b))
def aP2 (l:List AY):∀ids:List Int,ids.flatMap (fun id=>bif dS l id then[FK l id]else[])=(ids.filter (dS l)).map (FK l)
 | []=>rfl
 |i::ids=>by
  rw[Nw,aP2 l ids,RJ];cases dS l i<;>simp
def aqr (l:List AY) (ids:List Int) (n:l.length≤1000) (j:Dx l) (hi:ids.length≤100000):aDd l ids=some ((F9 l ids).map (FK l)):=by
 unfold aDd;rw[Zj ids AA];simp only[Ac];have q:=MK ids;unfold acT;rw[Gw (a0:=[]) (EX ids) AA (fun r id=>r++bif dS l id then[FK l id]else[]) (fun i r=>r.length≤i) (fun r=>some r) (E9 _)]
 ·rw[foldl_append (fun id=>bif dS l id then[FK l id]else[]),IE,aP2];rfl
 ·intro k r i h u;refine⟨?_,?_⟩
  ·cases dS l (EX ids)[i]<;>simp <;>omega
  unfold aLx aFK;rw[Ce h,OG l _ AA];simp only[Ac];unfold dS;cases f:EM l (EX ids)[i]with
  |none=>rw[Qm f];simp
  |some e=>
   have s:=j e (OY f);have m:ev l (EX ids)[i]=e:=by unfold ev;rw[N7 f]
   rw[N7 f];simp only[Bg,Option.isSome_some];rw[aew l e n j s.auth,aO4 l _ n j.ajE BU];simp only[Ac];rw[DZ FU];unfold FK;rw[m];rfl
 intro k r _;unfold aLx;rw[Dk]
def aeM (l:List AY) (left:List Int):∀(c:List Int) (b:Option Int) {x:Int},c.foldl (Ih l left) b=some x→b=some x∨x∈c
 | [],b,x,h=>.inl h
 |y::c,b,x,h=>by
  rw[G6]at h;rcases aeM l left c _ h with f|f
  ·have key:∀c:Bool,(bif c then some y else b)=some x→b=some x∨x=y:=fun c j=>by
    cases c with
    |true=>simp only[Bg,LJ]at j;exact .inr j.symm
    |false=>exact .inl j
   rcases key _ f with m|m
   ·exact .inl m
   exact .inr (m▸GR ..)
  exact .inr (Hr _ f)
def ai3 {l:List AY} {left:List Int} {x:Int} (h:Tt l left=some x):x∈left:=by
 rcases aeM l left left none h with h|h
 ·cases h
 exact h
def acj {left:List Int} (n:left.Nodup) {j:Nat} (q:j<left.length):left.take j++left.drop (j+1)=left.filter (· != left[j]):=by
 have e:left=left.take j++left[j]::left.drop (j+1):=by rw[←LV q,bF]
 have f:(left.take j++left[j]::left.drop (j+1)).Nodup:=by rw[←e];exact n
 have m:=aEl.1 f;have s:=NC.1 m.2.1
 have u:(left.take j).filter (· != left[j])=left.take j:=wE.2 fun x h=>by
  have :=m.2.2 x h left[j] (GR ..);simpa using this
 have z:(left.drop (j+1)).filter (· != left[j])=left.drop (j+1):=wE.2 fun x h=>by
  have :x≠left[j]:=fun e=>s.1 (e▸h);simpa using this
 have :(left.take j++left[j]::left.drop (j+1)).filter (· != left[j])=left.take j++left.drop (j+1):=by
  rw[PS,RJ,u,z];simp
 rw[←e]at this;exact this.symm
def ab2 {left:List Int} (f:left.Nodup) {b:Int} (h:b∈left):(left.filter (· != b)).length+1=left.length:=by
 obtain⟨j,m,rfl⟩:=Ii h;rw[←acj f m,EL,Fa,L6];omega
def aij {left:List Int} (h:Inc left) (b:Int):OJ left [b]=left.filter (· != b):=by
 unfold OJ;rw[ald h];congr 1;funext x;by_cases e:x=b
 ·subst e;simp[Di]
 simp[Di,e]
def aiq (l:List AY) (hl:l.length≤1000):∀(m:Nat) (left f:List Int) (N:Nat),left.length=m→Inc left→(∀x∈left,dS l x=true)→f.length+left.length≤1000000→m<N→aV XU N (left.map (FK l)) f=some (f++NQ l m left):=by
 intro m
 induction m with
 |zero=>
  intro left f N hm hi hk hacc hN;obtain⟨N,rfl⟩:∃N',N=N'+1:=⟨N-1,AA⟩
  have :left=[]:=Gt hm;subst this;show XU _ _ _=_;unfold XU NQ;simp
 |succ m ih=>
  intro left f N hm hi hk hacc hN;obtain⟨N,rfl⟩:∃N',N=N'+1:=⟨N-1,AA⟩
  have hll:=kW hi hk;refine fK.eq ?_;show fK (XU (aV XU N) _ _) _;have ih':=fun S acc' h1 h2 h3 h4=>ih S acc' N h1 h2 h3 h4 AA;generalize aV XU N=K at ih';unfold XU;rw[show decide (((left.map (FK l)).length:Int)>0)=true by rw[D6];simp;omega];simp only[Bg];unfold aaj;refine SP (body:=aOC (left.map (FK l)) K) (fun Z a b c=>∃i:Nat,b=i∧i+Z=left.length∧c=f∧((a= -1∧(left.take i).foldl (Ih l left) none=none)∨∃(j:Nat) (s:j<left.length),a=(j:Int)∧(left.take i).foldl (Ih l left) none=some left[j])) ?_ Az left.length (-1) 0 f (fuel_lt AA) ⟨0,rfl,AA,rfl,.inl ⟨rfl,rfl⟩⟩;rintro Z a b c k ⟨i,rfl,hm2,rfl,hI⟩ u;unfold aOC;by_cases z:i<left.length
  ·have J:i<(left.map (FK l)).length:=by rw[D6];exact z
   rw[dec_lt J,CQ J,UC];simp only[Bg,Ac]
   have hst:(left.take (i+1)).foldl (Ih l left) none=Ih l left ((left.take i).foldl (Ih l left) none) left[i]:=by
    rw[Oe z,Vy];rfl
   unfold aSE;have hc:=Zv l [left[i]]
   have hin:∀(k2:Int→Int→List Int→Option (List Int)),aV (XF (left.map (FK l)) (FK l left[i]) k2 (i:Int) a) Az 0 c=bif jy l left left[i]then(bif decide (a<0)then Y0 k2 (i:Int) a true c else(Aq (left.map (FK l)) a).bind fun U=>(aK (FK l left[i]) U).bind fun Y=>Y0 k2 (i:Int) a Y c)else ZE k2 (i:Int) a c:=by
    intro k2
    have key:∀n (j:Nat),j+n=left.length→∀m,n<m→aV (XF (left.map (FK l)) (FK l left[i]) k2 (i:Int) a) m (j:Int) c=bif !(left.drop j).any (fun y=>Di (chainOf l [left[i]]) y)then(bif decide (a<0)then Y0 k2 (i:Int) a true c else(Aq (left.map (FK l)) a).bind fun U=>(aK (FK l left[i]) U).bind fun Y=>Y0 k2 (i:Int) a Y c)else ZE k2 (i:Int) a c:=by
     intro n
     induction n with
     |zero=>
      intro j s m hm;obtain⟨m,rfl⟩:∃m',m=m'+1:=⟨m-1,AA⟩
      have :j=left.length:=AA
      subst this;show XF _ _ _ _ _ _ _ _=_;unfold XF;rw[show decide ((left.length:Int)<((left.map (FK l)).length:Int))=false by rw[D6];exact DW _,OV];rfl
     |succ n ihn=>
      intro j s m hm;obtain⟨m,rfl⟩:∃m',m=m'+1:=⟨m-1,AA⟩
      have hjl:j<left.length:=AA
      have aFl:j<(left.map (FK l)).length:=by rw[D6];exact hjl
      have M:=ihn (j+1) AA m AA;show XF _ _ _ _ _ (aV _ m) _ _=_;generalize aV (XF (left.map (FK l)) (FK l left[i]) k2 (i:Int) a) m=L at M;unfold XF;rw[Ce aFl,UC];show((dF (chainOf l [left[i]]) left[j]).bind _)=_;rw[ac0 _ _ AA,wrap_succ j AA,LV hjl,qx];simp only[Ac];cases Di (chainOf l [left[i]]) left[j]with
      |true=>rfl
      |false=>
       simp only[BZ,Ll];exact M
    exact key left.length 0 AA Az (fuel_lt AA)
   rw[hin];have hw:=wrap_succ i AA;unfold Y0 ZE;rw[hw];cases I:jy l left left[i]with
   |false=>
    simp only[BZ];refine u (Z-1) _ _ _ AA ⟨i+1,rfl,AA,rfl,?_⟩;have e:Ih l left ((left.take i).foldl (Ih l left) none) left[i]=(left.take i).foldl (Ih l left) none:=by unfold Ih;rw[I];rfl
    rw[hst,e];exact hI
   |true=>
    simp only[Bg];rcases hI with⟨rfl,O⟩|⟨j,s,rfl,O⟩
    ·rw[show decide ((-1:Int)<0)=true by decide];simp only[Bg];refine u (Z-1) _ _ _ AA ⟨i+1,rfl,AA,rfl,.inr ⟨i,z,rfl,?_⟩⟩;rw[hst,O];unfold Ih;rw[I];rfl
    have h:j<(left.map (FK l)).length:=by rw[D6];exact s
    rw[show decide ((j:Int)<0)=false by simp,CQ h,UC];simp only[BZ,Ac]
    have e1:aK (FK l left[i]) (FK l left[j])=some (Ym (FK l left[i]) (FK l left[j])):=by
     unfold aK Ym;cases(FK l left[i]).IJ != (FK l left[j]).IJ<;>rfl
    rw[e1];simp only[Ac];cases ha:Ym (FK l left[i]) (FK l left[j])with
    |true=>
     simp only[Bg];refine u (Z-1) _ _ _ AA ⟨i+1,rfl,AA,rfl,.inr ⟨i,z,rfl,?_⟩⟩;rw[hst,O];unfold Ih;rw[I];simp only[ha];rfl
    |false=>
     simp only[BZ];refine u (Z-1) _ _ _ AA ⟨i+1,rfl,AA,rfl,.inr ⟨j,s,rfl,?_⟩⟩;rw[hst,O];unfold Ih;rw[I];simp only[ha];rfl
  have hie:i=left.length:=AA
  subst hie;rw[show decide ((left.length:Int)<((left.map (FK l)).length:Int))=false by rw[D6];exact DW _];simp only[BZ];rw[GY]at hI;have q:NQ l (m+1) left=match Tt l left with |none=>[]|some b=>b::NQ l m (left.filter (· != b)):=rfl
  rcases hI with⟨rfl,O⟩|⟨j,s,rfl,O⟩
  ·rw[show decide ((-1:Int)<0)=true by decide];refine .ret ?_;have h1:Tt l left=none:=O;rw[q,h1];simp
  have h:j<(left.map (FK l)).length:=by rw[D6];exact s
  rw[show decide ((j:Int)<0)=false by simp,CQ h,UC];simp only[BZ,Ac];have h1:Tt l left=some left[j]:=O;rw[DZ FU];simp only[Ac];rw[xU (Nat.le_of_lt h),wrap_succ j AA,Vg h];simp only[Ac];rw[DZ (by rw[Fa,L6,D6];omega)];simp only[Ac]
  have e2:(left.map (FK l)).take j++(left.map (FK l)).drop (j+1)=(left.filter (· != left[j])).map (FK l):=by
   rw[←acj (Xd hi) s,Jo,YI,Yt]
  rw[e2];have hwl:=ab2 (Xd hi) (ET s);rw[ih' (left.filter (· != left[j])) (c++[(FK l left[j]).mX]) AA (hi.sublist TT) (fun x hx=>hk x ((Gn.1 hx).1)) Uj];refine .ret ?_;rw[q,h1,H7];rfl
def asg (l:List AY) (ids:List Int) (h:l.length≤1000) (j:Dx l) (hi:ids.length≤100000):aAD l ids=some (NQ l (F9 l ids).length (F9 l ids)):=by
 have m:(F9 l ids).length≤l.length:=kW (Ya l ids) fun x f=>(MV.1 f).2;unfold aAD;rw[aqr l ids h j hi];simp only[Ac];unfold aTJ;rw[aiq l h _ (F9 l ids) [] Az rfl (Ya l ids) (fun x f=>(MV.1 f).2) Uf (fuel_lt AA)];rfl
def ahZ (l:List AY) (left:List Int) (x:Int) (f:l.length≤1000) (j:Dx l) (m:left.length≤100000):zV l left x=some (jy l left x):=by
 unfold zV;rw[aKA l _ f j.ajE BU];simp only[Ac];have n:=Zv l [x];unfold aOj;rw[GL (chainOf l [x]) (fuel_lt AA) (fun y=>Di left y) false (some true)]
 ·unfold jy
  have e:(chainOf l [x]).any (fun y=>Di left y)=left.any fun y=>Di (chainOf l [x]) y:=by
   rw[QM,Hd,Hd];simp only[JW];exact⟨fun⟨y,a,b⟩=>⟨y,b,a⟩,fun⟨y,a,b⟩=>⟨y,b,a⟩⟩
  rw[e];cases left.any fun y=>Di (chainOf l [x]) y<;>rfl
 ·intro k i h;unfold aMJ;rw[Ce h,Vq _ _ AA];simp only[Ac]
 intro k;unfold aMJ;rw[Dk]
def aH4 {R A B C D:Type} {Q:R→Prop} {body:(A→B→C→D→Option R)→A→B→C→D→Option R} (I:Nat→A→B→C→D→Prop) (z:∀m a b c d k,I m a b c d→(∀f a' j q s,f<m→I f a' j q s→fK (k a' j q s) Q)→fK (body k a b c d) Q):
 ∀n m a b c d,m<n→I m a b c d→fK (Uh body n a b c d) Q
 |0,m,_,_,_,_,h,_=>AA
 |n+1,m,a,b,c,d,h,hi=>z m a b c d _ hi fun f a' j q s h' u=>aH4 I z n f a' j q s AA u
def Qe {l:List AY} {x:Int} (h:dS l x=true):EM l x=some (ev l x)∧(ev l x).Id=x:=by
 unfold dS at h;obtain⟨e,f⟩:=Qy.1 h;have :ev l x=e:=by unfold ev;rw[N7 f]
 rw[this];exact⟨f,aa2 f⟩
def akP (l:List AY) (x y:Int) (h:l.length≤1000) (f:Dx l) (m:dS l x=true) (n:dS l y=true) (q:y<x):aEn l (ev l x) (ev l y)=some (Ym (FK l x) (FK l y)):=by
 obtain⟨s,u⟩:=Qe m;obtain⟨z,I⟩:=Qe n;unfold aEn;rw[aTk l _ h f (f _ (OY s)).auth,aTk l _ h f (f _ (OY z)).auth];simp only[Ac];unfold Ym FK;simp only;cases sS l (ev l x) != sS l (ev l y)with
 |true=>rfl
 |false=>
  simp only[BZ];rw[u,I];by_cases j:(ev l x).Time=(ev l y).Time
  ·rw[j];simp;omega
  have :((ev l x).Time != (ev l y).Time)=true:=Ny
  rw[this];rfl
def ao7 (l:List AY) (hl:l.length≤1000) (hs:Dx l):∀(m:Nat) (left f:List Int) (N:Nat),left.length=m→Inc left→(∀x∈left,dS l x=true)→f.length+left.length≤1000000→m<N→aV (XT l) N left f=some (f++NQ l m left):=by
 intro m
 induction m with
 |zero=>
  intro left f N hm hi L O hN;obtain⟨N,rfl⟩:∃N',N=N'+1:=⟨N-1,AA⟩
  have :left=[]:=Gt hm;subst this;show XT _ _ _ _=_;unfold XT NQ;simp
 |succ m ih=>
  intro left f N hm hi L O hN;obtain⟨N,rfl⟩:∃N',N=N'+1:=⟨N-1,AA⟩
  have hll:=kW hi L;refine fK.eq ?_;show fK (XT l (aV (XT l) N) _ _) _;have S:=fun I U Y h2 h3 h4=>ih I U N Y h2 h3 h4 AA;generalize aV (XT l) N=K at S;unfold XT;rw[show decide ((left.length:Int)>0)=true by simp;omega];simp only[Bg];unfold adC;refine aH4 (body:=aLk left l K) (fun M a b c d=>∃i:Nat,b=i∧i+M=left.length∧c=f∧((a=false∧(left.take i).foldl (Ih l left) none=none)∨∃(j:Nat) (s:j<left.length),j<i∧a=true∧d=ev l left[j]∧(left.take i).foldl (Ih l left) none=some left[j])) ?_ Az left.length false 0 f Et (fuel_lt AA) ⟨0,rfl,AA,rfl,.inl ⟨rfl,rfl⟩⟩;rintro M a b c d k ⟨i,rfl,hm2,rfl,hI⟩ u;unfold aLk;by_cases h:i<left.length
  ·rw[dec_lt h,CQ h];simp only[Bg,Ac];rw[Lp l _ AA];simp only[Ac];rw[ahZ l left _ hl hs AA];simp only[Ac]
   have hst:(left.take (i+1)).foldl (Ih l left) none=Ih l left ((left.take i).foldl (Ih l left) none) left[i]:=by
    rw[Oe h,Vy];rfl
   unfold aGP;rw[wrap_succ i AA];cases z:jy l left left[i]with
   |false=>
    simp only[BZ,Ac];refine u (M-1) _ _ _ _ AA ⟨i+1,rfl,AA,rfl,?_⟩;have e:Ih l left ((left.take i).foldl (Ih l left) none) left[i]=(left.take i).foldl (Ih l left) none:=by unfold Ih;rw[z];rfl
    rw[hst,e];rcases hI with n|⟨j,s,J,n⟩
    ·exact .inl n
    exact .inr ⟨j,s,AA,n⟩
   |true=>
    simp only[Bg];rcases hI with⟨rfl,n⟩|⟨j,s,J,rfl,rfl,n⟩
    ·simp only[IX,Bg,Ac];refine u (M-1) _ _ _ _ AA ⟨i+1,rfl,AA,rfl,.inr ⟨i,h,AA,rfl,rfl,?_⟩⟩;rw[hst,n];unfold Ih;rw[z];rfl
    simp only[EW,BZ];have Z:left[j]<left[i]:=KY.1 hi j i s h J;have e1:=akP l left[i] left[j] hl hs (L _ (ET h)) (L _ (ET s)) Z;rw[show(I5 l left[i]).1=ev l left[i]from rfl,e1];simp only[Ac];cases ha:Ym (FK l left[i]) (FK l left[j])with
    |true=>
     simp only[Bg];refine u (M-1) _ _ _ _ AA ⟨i+1,rfl,AA,rfl,.inr ⟨i,h,AA,rfl,rfl,?_⟩⟩;rw[hst,n];unfold Ih;rw[z];simp only[ha];rfl
    |false=>
     simp only[BZ];refine u (M-1) _ _ _ _ AA ⟨i+1,rfl,AA,rfl,.inr ⟨j,s,AA,rfl,rfl,?_⟩⟩;rw[hst,n];unfold Ih;rw[z];simp only[ha];rfl
  have hie:i=left.length:=AA
  subst hie;rw[DW];simp only[BZ];rw[GY]at hI;have q:NQ l (m+1) left=match Tt l left with |none=>[]|some b=>b::NQ l m (left.filter (· != b)):=rfl
  rcases hI with⟨rfl,n⟩|⟨j,s,J,rfl,rfl,n⟩
  ·refine .ret ?_;have Y:Tt l left=none:=n;rw[q,Y];simp
  simp only[EW,BZ];have Y:Tt l left=some left[j]:=n;have hid:=(Qe (L _ (ET s))).2;rw[hid,DZ FU];simp only[Ac];rw[yX _ _ AA BU,aij hi];simp only[Ac];have hwl:=ab2 (Xd hi) (ET s);rw[S (left.filter (· != left[j])) (c++[left[j]]) AA (hi.sublist TT) (fun x hx=>L x ((Gn.1 hx).1)) Uj];refine .ret ?_;rw[q,Y,H7];rfl
def afr (l:List AY) (ids:List Int) (h:l.length≤1000) (j:Dx l) (hi:ids.length≤100000):zx l ids=some (NQ l (F9 l ids).length (F9 l ids)):=by
 have m:(F9 l ids).length≤l.length:=kW (Ya l ids) fun x f=>(MV.1 f).2;unfold zx;rw[abB l ids h hi];simp only[Ac];unfold aSq;rw[ao7 l h j _ (F9 l ids) [] Az rfl (Ya l ids) (fun x f=>(MV.1 f).2) Uf (fuel_lt AA)];rfl
def aaN (l:List AY):∀(n:Nat) (left:List Int) {x:Int},x∈NQ l n left→x∈left
 |0,_,_,h=>absurd h Fv
 |n+1,left,x,h=>by
  unfold NQ at h;cases f:Tt l left with
  |none=>rw[f]at h;exact absurd h Fv
  |some b=>
   rw[f]at h;rcases F6.1 h with rfl|h
   ·exact ai3 f
   exact(Gn.1 (aaN l n _ h)).1
def ab4 (l:List AY):∀(n:Nat) (left:List Int),(NQ l n left).length≤n
 |0,_=>E9 _
 |n+1,left=>by
  unfold NQ;cases Tt l left with
  |none=>exact EY _
  |some b=>have :=ab4 l n (left.filter (· != b));simp only[Fp];omega
def Rj (l:List AY) (e:AY):Option Int:=e.bM.find? fun id=>dS l id&&(ev l id).Kind==3
def YK (l:List AY) (e:AY):Int×Bool:=match Rj l e with |some x=>(x,true)|none=>(0,false)
def aSb (l:List AY) (e:AY) (f:l.length≤1000) (j:e.bM.length≤40):lZ l e=some (YK l e):=by
 unfold lZ aRO;rw[Je e.bM (fuel_lt AA) (fun id=>dS l id&&(ev l id).Kind==3) (fun i=>some (match e.bM[i]? with |some x=>(x,true)|none=>(0,false))) (some (0,false))]
 ·unfold YK Rj;rw[KF];by_cases h:e.bM.findIdx (fun id=>dS l id&&(ev l id).Kind==3)<e.bM.length
  ·rw[D7 h]
  rw[DF h,II AA]
 ·intro k i h;unfold aIL;rw[Ce h,OG l _ AA,Dn h];simp only[Ac];unfold dS ev;rw[OO];cases(EM l e.bM[i]).isSome<;>rfl
 intro k;unfold aIL;rw[Dk]
def aq3 (l:List AY) (e:AY) (f:l.length≤1000) (j:e.bM.length≤40):aBN l e=some (YK l e):=by
 unfold aBN aay;rw[Je e.bM (fuel_lt AA) (fun id=>dS l id&&(ev l id).Kind==3) (fun i=>some (match e.bM[i]? with |some x=>(x,true)|none=>(0,false))) (some (0,false))]
 ·unfold YK Rj;rw[KF];by_cases h:e.bM.findIdx (fun id=>dS l id&&(ev l id).Kind==3)<e.bM.length
  ·rw[D7 h]
  rw[DF h,II AA]
 ·intro k i h;unfold aHu;rw[Ce h,Lp l _ AA,Dn h,CQ h];simp only[Ac];unfold dS ev;rw[OO];cases(EM l e.bM[i]).isSome<;>rfl
 intro k;unfold aHu;rw[Dk]
def Nb (l:List AY):Nat→List Int→Int→List Int
 |0,seen,_=>seen
 |n+1,seen,id=>bif Di seen id|| !dS l id then seen else match Rj l (ev l id)with
  |none=>seen++[id]
  |some x=>Nb l n (seen++[id]) x
def jK (l:List AY) (id:Int):List Int:=Nb l l.length [] id
structure Tm (l:List AY) (seen:List Int):Prop where
 nodup:seen.Nodup
 known:∀x∈seen,dS l x=true
def Tm.length {l:List AY} {seen:List Int} (h:Tm l seen):seen.length≤l.length:=by
 rw[←(WR seen).length_eq,abg h.nodup];exact kW (LY _) fun x f=>h.known x (LZ.1 f)
def Tm.snoc {l:List AY} {seen:List Int} (h:Tm l seen) {id:Int} (j:id∉seen) (m:dS l id=true):Tm l (seen++[id]):=by
 refine⟨aEl.2 ⟨h.nodup,BU,fun a ha b n=>?_⟩,fun x f=>?_⟩
 ·rw[KQ.1 n];exact fun e=>j (e▸ha)
 rcases I8.1 f with f|f
 ·exact h.known x f
 rw[KQ.1 f];exact m
def aeV (l:List AY):∀(n:Nat) (seen:List Int) (id:Int),Tm l seen→Tm l (Nb l n seen id)
 |0,_,_,h=>h
 |n+1,seen,id,h=>by
  unfold Nb;cases f:Di seen id|| !dS l id with
  |true=>exact h
  |false=>
   rw[yu,O7]at f;have j:=h.snoc f.1 (by simpa using f.2);simp only[BZ];cases Rj l (ev l id)with
   |none=>exact j
   |some x=>exact aeV l n _ x j
def aQJ (l:List AY):∀(n:Nat) (seen:List Int) (id:Int),∃t,Nb l n seen id=seen++t
 |0,seen,_=>⟨[],by simp[Nb]⟩
 |n+1,seen,id=>by
  unfold Nb;cases Di seen id|| !dS l id with
  |true=>exact⟨[],BU⟩
  |false=>
   simp only[BZ];cases Rj l (ev l id)with
   |none=>exact⟨[id],rfl⟩
   |some x=>
    obtain⟨t,f⟩:=aQJ l n (seen++[id]) x;exact⟨id::t,by simp only[f,H7];rfl⟩
def aOo (l:List AY) (id:Int):(jK l id).length≤l.length:=(aeV l _ [] id ⟨aY,fun x f=>absurd f Fv⟩).length
def ag5 (l:List AY) (M:l.length≤1000) (O:Dx l) (S U:List Int):∀(m:Nat) (seen:List Int) (id:Int) (N:Nat),seen.length+m=l.length→Tm l seen→m<N→EZ YA N seen seen S U id l=some (Nb l m seen id):=by
 intro m
 induction m with
 |zero=>
  intro seen id N Y j Z;obtain⟨N,rfl⟩:∃N',N=N'+1:=⟨N-1,AA⟩
  have q:=j.length;show YA _ _ _ _ _ _ _=_;unfold YA;rw[sD _ _ AA,OG l _ AA];simp only[Ac];rw[OO];cases s:Di seen id with
  |true=>rfl
  |false=>
   cases h:(EM l id).isSome with
   |false=>rfl
   |true=>
    have u:=(j.snoc (O7.1 s) h).length;simp only[EL,Om]at u;omega
 |succ m ih=>
  intro seen id N Y j Z;obtain⟨N,rfl⟩:∃N',N=N'+1:=⟨N-1,AA⟩
  have q:=j.length;show YA (EZ YA N) _ _ _ _ _ _=_;have n:=fun f z h1 u=>ih f z N h1 u AA;generalize EZ YA N=K at n;unfold YA Nb;rw[sD _ _ AA,OG l _ AA];simp only[Ac];rw[OO];cases s:Di seen id with
  |true=>rfl
  |false=>
   cases h:(EM l id).isSome with
   |false=>rw[show dS l id=false from h];rfl
   |true=>
    obtain⟨e,L⟩:=Qy.1 h;rw[show dS l id=true from h];simp only[IX,EW,KP,Bg,BZ];rw[DZ FU];simp only[Ac];unfold aEg;simp only[BZ];rw[DZ FU];simp only[Ac];have I:(I5 l id).1=ev l id:=rfl
    have J:(ev l id).bM.length≤40:=by
     have :ev l id=e:=by unfold ev;rw[N7 L]
     rw[this];exact(O e (OY L)).auth
    rw[I,aSb l _ M J];simp only[Ac];unfold YK;cases Rj l (ev l id)with
    |none=>rfl
    |some x=>exact n (seen++[id]) x Uj (j.snoc (O7.1 s) h)
def anI (l:List AY) (id:Int) (f:l.length≤1000) (h:Dx l):zF l id=some (jK l id):=by
 unfold zF s0 aQs;exact ag5 l f h [] [] l.length [] id Az BU ⟨aY,fun x j=>absurd j Fv⟩ (fuel_lt AA)
def aqB (l:List AY) (z:l.length≤1000) (I:Dx l):∀(m:Nat) (seen:List Int) (id:Int) (i N:Nat),i+m=l.length→seen.length≤i→m<N→jw (XJ l) N seen id (i:Int)=some (Nb l m seen id):=by
 intro m
 induction m with
 |zero=>
  intro seen id i N J L M;obtain⟨N,rfl⟩:∃N',N=N'+1:=⟨N-1,AA⟩
  have :i=l.length:=AA
  subst this;show XJ _ _ _ _ _=_;unfold XJ;rw[DW];rfl
 |succ m O=>
  intro seen id i N J L M;obtain⟨N,rfl⟩:∃N',N=N'+1:=⟨N-1,AA⟩
  show XJ _ (jw (XJ l) N) _ _ _=_;have h:=fun f j S U Y=>O f j S N U Y AA;generalize jw (XJ l) N=K at h;unfold XJ Nb;rw[dec_lt AA,Lp l _ AA,Vq _ _ AA];simp only[Bg,Ac];rw[OO];cases n:(EM l id).isSome with
  |false=>rw[show dS l id=false from n];cases Di seen id<;>rfl
  |true=>
   rw[show dS l id=true from n];cases Z:Di seen id with
   |true=>rfl
   |false=>
    obtain⟨e,u⟩:=Qy.1 n;simp only[EW,KP,BZ,Ac];rw[DZ FU];simp only[Ac];have q:(I5 l id).1=ev l id:=rfl
    have s:(ev l id).bM.length≤40:=by
     have :ev l id=e:=by unfold ev;rw[N7 u]
     rw[this];exact(I e (OY u)).auth
    rw[q,aq3 l _ z s,wrap_succ i AA];simp only[Ac];unfold YK;cases Rj l (ev l id)with
    |none=>rfl
    |some x=>exact h (seen++[id]) x (i+1) AA Uj
def aSu (l:List AY) (id:Int) (f:l.length≤1000) (h:Dx l):xw l id=some (jK l id):=by
 unfold xw abK;exact aqB l f h l.length [] id 0 Az BU (E9 _) (fuel_lt AA)
def Yb (f h:List Int):Int:=match h.find? (Di f)with |some x=>((f.findIdx (· ==x):Nat):Int)|none=>(f.length:Int)
def La (l:List AY) (f:List Int) (id:Int):Int:=Yb f (jK l id)
def arq (l:List AY) (f:List Int) (hl:l.length≤1000) (hs:Dx l) (hm:f.length≤100000):∀(m:Nat) (seen:List Int) (z id:Int) (N:Nat),seen.length+m=l.length→Tm l seen→seen.find? (Di f)=none→m<N→BG Wn N seen f z id l=some (Yb f (Nb l m seen id)):=by
 have j:∀seen:List Int,seen.find? (Di f)=none→Yb f seen=(f.length:Int):=fun seen h=>by unfold Yb;rw[h]
 intro m
 induction m with
 |zero=>
  intro seen z id N hm M I hN;obtain⟨N,rfl⟩:∃N',N=N'+1:=⟨N-1,AA⟩
  have Y:=M.length;show Wn _ _ _ _ _ _=_;unfold Wn;rw[sD _ _ AA,OG l _ AA];simp only[Ac];rw[OO];have U:Yb f (Nb l 0 seen id)=(f.length:Int):=j seen I;rw[U];cases J:Di seen id with
  |true=>rfl
  |false=>
   cases L:(EM l id).isSome with
   |false=>rfl
   |true=>
    have Z:=(M.snoc (O7.1 J) L).length;simp only[EL,Om]at Z;omega
 |succ m ih=>
  intro seen z id N hm M I hN;obtain⟨N,rfl⟩:∃N',N=N'+1:=⟨N-1,AA⟩
  have Y:=M.length;show Wn (BG Wn N) _ _ _ _ _=_;have O:=fun s z' id' h1 Z h3=>ih s z' id' N h1 Z h3 AA;generalize BG Wn N=K at O;unfold Wn uJ;rw[sD _ _ AA,OG l _ AA,adN _ _ AA];simp only[Ac];rw[OO];have u:Nb l (m+1) seen id=bif Di seen id|| !dS l id then seen else match Rj l (ev l id)with |none=>seen++[id]|some x=>Nb l m (seen++[id]) x:=rfl
  cases J:Di seen id with
  |true=>rw[u,J];simp only[Bool.true_or,Bg,EW,BZ];rw[j seen I]
  |false=>
   cases L:(EM l id).isSome with
   |false=>rw[u,J,show dS l id=false from L];simp only[Ll,IX,Bg];rw[j seen I]
   |true=>
    obtain⟨e,U⟩:=Qy.1 L;rw[u,J,show dS l id=true from L];simp only[IX,EW,KP,Bg,BZ];have n:=adV f id;by_cases q:f.findIdx (· ==id)<f.length
    ·rw[D7 q,show decide (((f.findIdx (· ==id):Nat):Int)≥0)=true by simp];simp only[Bg];rw[Ib q]at n
     have hex:∃t,(match Rj l (ev l id)with |none=>seen++[id]|some x=>Nb l m (seen++[id]) x)=seen++[id]++t:=by
      cases Rj l (ev l id)with
      |none=>exact⟨[],BU⟩
      |some x=>exact aQJ l m (seen++[id]) x
     obtain⟨t,ht⟩:=hex;rw[ht];unfold Yb;rw[qV,qV,I];simp[←n]
    rw[DF q,show decide ((-1:Int)≥0)=false by decide];simp only[BZ];rw[Ir q]at n;rw[DZ FU];simp only[Ac];have hev:(I5 l id).1=ev l id:=rfl
    have hea:(ev l id).bM.length≤40:=by
     have :ev l id=e:=by unfold ev;rw[N7 U]
     rw[this];exact(hs e (OY U)).auth
    have S:(seen++[id]).find? (Di f)=none:=by rw[qV,I];simp[←n]
    rw[hev,aSb l _ hl hea];simp only[Ac];unfold YK;cases Rj l (ev l id)with
    |none=>simp only[IX,Bg];rw[j _ S]
    |some x=>exact O (seen++[id]) z x Uj (M.snoc (O7.1 J) L) S
def agM (l:List AY) (f:List Int) (id:Int) (h:l.length≤1000) (j:Dx l) (m:f.length≤100000):aGH l f id=some (La l f id):=by
 unfold aGH s0 aPN;exact arq l f h j m l.length [] 0 id Az BU ⟨aY,fun x n=>absurd n Fv⟩ rfl (fuel_lt AA)
def alX (l:List Int) (x:Int) (h:l.length≤100000):aGj l x=some ((l.findIdx (· ==x):Nat):Int):=by
 unfold aGj aRp;rw[Je l (fuel_lt AA) (· ==x) (fun i=>some (i:Int)) (some (l.length:Int))]
 ·split
  ·rfl
  rename_i h;have :l.findIdx (· ==x)≤l.length:=aBE;congr 2;omega
 ·intro k i hi;unfold aL8;rw[Ce hi]
 intro k;unfold aL8;rw[Dk]
def aPo (l:List AY) (f:List Int) (id:Int) (j:l.length≤1000) (m:Dx l) (n:f.length≤100000):pR l f id=some (La l f id):=by
 unfold pR;rw[aSu l id j m];simp only[Ac];have q:=aOo l id;unfold aaG La Yb;generalize jK l id=W at q;rw[Je W (fuel_lt AA) (Di f) (fun i=>some (match W[i]? with |some x=>((f.findIdx (· ==x):Nat):Int)|none=>0)) (some (f.length:Int))]
 ·rw[KF];by_cases h:W.findIdx (Di f)<W.length
  ·rw[D7 h,Dn h]
  rw[DF h,II AA]
 ·intro k i h;unfold aIb;rw[Ce h,Vq _ _ AA,CQ h,Dn h];simp only[Ac];rw[alX _ _ n];rfl
 intro k;unfold aIb;rw[Dk]
def Eh (l:List AY) (f:List Int) (id:Int):KO:=⟨id,La l f id,(ev l id).Time⟩
def qP (x:KO):Int×Int×Int:=(x.mX,x.yP,x.AQ)
def Gp (x y:KO):Bool:=KL (qP x) (qP y)
def Tn (l:List AY) (f ids:List Int):List Int:=(QA Gp ((ids.filter (dS l)).map (Eh l f))).map (·.mX)
def aTa (l:List AY) (f:List Int):∀ids:List Int,ids.flatMap (fun id=>bif dS l id then[Eh l f id]else[])=(ids.filter (dS l)).map (Eh l f)
 | []=>rfl
 |i::ids=>by
  rw[Nw,aTa l f ids,RJ];cases dS l i<;>simp
def ata (s:List KO) (z:s.length≤1000000) (n:(s.map (·.mX)).Nodup):dN s=some s:=by
 unfold dN;by_cases I:s.length<2
 ·rw[show decide ((s.length:Int)<2)=true by simp;omega];rfl
 rw[show decide ((s.length:Int)<2)=false by simp;omega];simp only[BZ];unfold acX;refine fK.eq ?_;refine Xv (body:=aE6) (fun m a b=>∃i:Nat,a=i∧i+m=s.length∧0<i∧b=s) ?_ Az (s.length-1) 1 s (fuel_lt AA) ⟨1,rfl,AA,AA,rfl⟩;rintro m a b k ⟨i,rfl,J,hi,rfl⟩ q;unfold aE6;by_cases f:i<b.length
 ·rw[dec_lt f,CQ f];simp only[Bg,Ac];have w:BA ((i:Int)-1)=((i-1:Nat):Int):=QC
  have h:i-1<b.length:=AA
  rw[w,CQ h];simp only[Ac]
  have j:b[i].mX≠b[i-1].mX:=by
   have :=KY.1 n (i-1) i WZ WZ AA;simp only[UC]at this;exact fun e=>this e.symm
  have u:uZ b[i] b[i-1]=false:=by
   unfold uZ;rw[show(b[i].mX==b[i-1].mX)=false by simpa using j];rfl
  rw[u,wrap_succ i AA];exact q (m-1) _ _ AA ⟨i+1,rfl,AA,AA,rfl⟩
 have :i=b.length:=AA
 subst this;rw[DW];exact .ret rfl
def aNU (l:List AY) (f:List Int) (ids:List Int):(ids.map (Eh l f)).map (·.mX)=ids:=by
 rw[su];exact List.map_id' ids
def atP (l:List AY) (f ids:List Int) (z:l.length≤1000) (I:Dx l) (J:f.length≤100000) (hi:ids.length≤100000) (L:ids.Nodup):aDp l f ids=some (Tn l f ids):=by
 unfold aDp ab1;rw[Gw (a0:=[]) ids AA (fun r id=>r++bif dS l id then[Eh l f id]else[]) (fun i r=>r.length≤i) (fun M=>(aGX M).bind fun n=>(dN n).bind fun q=>aNe q [] 0) (E9 _)]
 ·rw[foldl_append (fun id=>bif dS l id then[Eh l f id]else[]),IE,aTa];have O:=Kt (dS l) ids;have s:((ids.filter (dS l)).map (Eh l f)).length≤100000:=WZ
  unfold aGX aA4;rw[D7 AA];simp only[Ac];have e:(QA (fun x y:KO=>KL (x.mX,x.yP,x.AQ) (y.mX,y.yP,y.AQ)) ((ids.filter (dS l)).map (Eh l f)))=QA Gp ((ids.filter (dS l)).map (Eh l f)):=rfl;rw[e];unfold Tn;have u:=kU Gp ((ids.filter (dS l)).map (Eh l f))
  have j:((QA Gp ((ids.filter (dS l)).map (Eh l f))).map (·.mX)).Nodup:=by
   rw[(u.map (·.mX)).nodup_iff,aNU];exact L.sublist TT
  have m:(QA Gp ((ids.filter (dS l)).map (Eh l f))).length≤100000:=by rw[u.length_eq];exact s
  generalize QA Gp ((ids.filter (dS l)).map (Eh l f))=S at j m;rw[ata S AA j];simp only[Ac];unfold aNe;rw[Gw (a0:=[]) S AA (fun r x=>r++[x.mX]) (fun i r=>r.length≤i) (fun r=>some r) (E9 _)]
  ·rw[foldl_append (fun x:KO=>[x.mX]),IE];congr 1;clear j m
   induction S with
   |nil=>rfl
   |cons x S U=>rw[Nw,U];rfl
  ·intro k r i h Y;refine⟨aFP,?_⟩;unfold aI7;rw[Ce h,DZ FU];rfl
  intro k r _;unfold aI7;rw[Dk]
 ·intro k r i h Y;refine⟨?_,?_⟩
  ·cases dS l ids[i]<;>simp <;>omega
  unfold aME zK;rw[Ce h,OG l _ AA];simp only[Ac];rw[OO,agM l f _ z I J];simp only[Ac];rw[DZ FU];unfold dS;cases(EM l ids[i]).isSome with
  |true=>rfl
  |false=>simp
 intro k r _;unfold aME;rw[Dk]
def ahX (l:List AY) (f:List Int) (a b:Int) (q:l.length≤1000) (s:Dx l) (u:f.length≤100000):yU l f a b=some (!Gp (Eh l f b) (Eh l f a)):=by
 unfold yU;rw[aPo l f a q s u,aPo l f b q s u,Lp l a AA,Lp l b AA];simp only[Ac]
 have j:(!Gp (Eh l f b) (Eh l f a))=decide (La l f b<La l f a∨La l f a=La l f b∧((ev l a).Time<(ev l b).Time∨(ev l a).Time=(ev l b).Time∧a<b)):=by
  rw[QM,RZ,Gi];exact acC (qP (Eh l f b)) (qP (Eh l f a))
 rw[j];show(bif La l f a != La l f b then some (decide (La l f a>La l f b))else bif (ev l a).Time != (ev l b).Time then some (decide ((ev l a).Time<(ev l b).Time))else some (decide (a<b)))=_;by_cases m:La l f a=La l f b
 ·rw[show(La l f a != La l f b)=false by simp[m]];simp only[BZ];by_cases n:(ev l a).Time=(ev l b).Time
  ·rw[show((ev l a).Time != (ev l b).Time)=false by simp[n]];simp only[BZ];congr 1;rw[xk];constructor
   ·intro h;exact .inr ⟨m,.inr ⟨n,h⟩⟩
   rintro(h|⟨_,h|⟨_,h⟩⟩)
   ·omega
   ·omega
   exact h
  rw[show((ev l a).Time != (ev l b).Time)=true by simp[n]];simp only[Bg];congr 1;rw[xk];constructor
  ·intro h;exact .inr ⟨m,.inl h⟩
  rintro(h|⟨_,h|⟨h,_⟩⟩)
  ·omega
  ·exact h
  exact absurd h n
 rw[show(La l f a != La l f b)=true by simp[m]];simp only[Bg];congr 1;rw[xk];constructor
 ·intro h;exact .inl h
 rintro(h|⟨h,_⟩)
 ·exact h
 exact absurd h m
def aKv (x y z:KO) (h:Gp x y=true) (k:Gp y z=true):Gp x z=true:=aKi _ _ _ h k
def aPh (x y:KO) (h:Gp x y=false):Gp y x=true:=aTs _ _ h
def als (x y:KO) (h:Gp x y=true) (k:Gp y x=true):x=y:=by
 have :=ac3 _ _ h k;unfold qP at this;cases x;cases y;simp only[Qc]at this;obtain⟨a,b,c⟩:=this;subst a b c;rfl
def XH (l:List AY) (f:List Int) (h:List Int) (x:Int):List Int:=h.take (h.findIdx fun a=>Gp (Eh l f x) (Eh l f a))++x::h.drop (h.findIdx fun a=>Gp (Eh l f x) (Eh l f a))
def aeZ (l:List AY) (f h:List Int) (x:Int):(XH l f h x).Perm (x::h):=by
 unfold XH;refine zq.trans ?_;rw[bF]
def apJ (l:List AY) (f j:List Int) (x:Int) (h:j.Pairwise fun a b=>Gp (Eh l f a) (Eh l f b)=true):(XH l f j x).Pairwise fun a b=>Gp (Eh l f a) (Eh l f b)=true:=by
 unfold XH
 have s:∀a∈j.take (j.findIdx fun a=>Gp (Eh l f x) (Eh l f a)),Gp (Eh l f a) (Eh l f x)=true:=by
  intro a ha;obtain⟨i,hi,rfl⟩:=Ii ha;have n:i<j.findIdx fun a=>Gp (Eh l f x) (Eh l f a):=by simp at hi;omega
  have :=List.not_of_lt_findIdx n;rw[aAz];exact aPh _ _ aLa
 have ha:∀d∈j.drop (j.findIdx fun a=>Gp (Eh l f x) (Eh l f a)),Gp (Eh l f x) (Eh l f d)=true:=by
  intro d hd;obtain⟨i,hi,rfl⟩:=Ii hd;rw[L6]at hi;have m:(j.findIdx fun a=>Gp (Eh l f x) (Eh l f a))<j.length:=AA
  have u:=aIA (w:=m);rw[List.getElem_drop];rcases YD i with rfl|I
  ·simpa using u
  exact aKv _ _ _ u (KY.1 h _ _ m AA AA)
 refine aFG.2 ⟨h.sublist (List.take_sublist _ _),Ol.2 ⟨ha,h.sublist (List.drop_sublist _ _)⟩,fun a z b q=>?_⟩;rcases F6.1 q with rfl|q
 ·exact s a z
 exact aKv _ _ _ (s a z) (ha b q)
def YG (l:List AY) (f:List Int) (h:List Int) (x:Int):List Int:=bif dS l x then XH l f h x else h
def ael (l:List AY) (f ids:List Int):ids.foldl (YG l f) []=Tn l f ids:=by
 have key:∀(ids j:List Int),j.Pairwise (fun a b=>Gp (Eh l f a) (Eh l f b)=true)→(ids.foldl (YG l f) j).Pairwise (fun a b=>Gp (Eh l f a) (Eh l f b)=true)∧(ids.foldl (YG l f) j).Perm (ids.filter (dS l)++j):=by
  intro ids
  induction ids with
  |nil=>intro j h;exact⟨h,.refl _⟩
  |cons x ids q=>
   intro j h;rw[G6,RJ];unfold YG;cases dS l x with
   |false=>exact q j h
   |true=>
    obtain⟨n,m⟩:=q (XH l f j x) (apJ l f j x h);refine⟨n,m.trans ?_⟩;simp only[JQ,WT];exact((aeZ l f j x).append_left _).trans zq
 obtain⟨n,m⟩:=key ids [] .nil;rw[Pm]at m;unfold Tn
 have s:(ids.foldl (YG l f) []).map (Eh l f)=QA Gp ((ids.filter (dS l)).map (Eh l f)):=
  aRV aKv aPh als (m.map _) (aKx.2 n)
 rw[←s,aNU]
def amY (l:List AY) (f ids:List Int) (L:l.length≤1000) (M:Dx l) (z:f.length≤100000) (hi:ids.length≤100000) (O:ids.Nodup):Fn1 l f ids=some (Tn l f ids):=by
 unfold Fn1 aUh;rw[Gw (a0:=[]) ids AA (YG l f) (fun i r=>r.length≤i∧∀x∈r,x∈ids.take i) (fun r=>some r) ⟨E9 _,fun x s=>absurd s Fv⟩]
 ·rw[ael]
 ·intro k r i h ⟨S,u⟩;have m:ids.take (i+1)=ids.take i++[ids[i]]:=Oe h
  have I:Di r ids[i]=false:=O7.2 fun z=>by
   obtain⟨j,n,e⟩:=Ii (u _ z);rw[aAz]at e;rw[Fa]at n;exact KY.1 O j i AA h AA e
  refine⟨?_,?_⟩
  ·unfold YG;cases dS l ids[i]with
   |false=>exact⟨by show r.length≤i+1;omega,fun x s=>by rw[m];exact eS _ (u x s)⟩
   |true=>
    have J:=aeZ l f r ids[i];refine⟨?_,fun x s=>?_⟩
    ·show(XH l f r ids[i]).length≤i+1;rw[J.length_eq,Fp];omega
    rw[m];rcases F6.1 (J.mem_iff.1 s)with rfl|s
    ·exact aBZ _ (KQ.2 rfl)
    exact eS _ (u x s)
  unfold aNh oW;rw[Ce h,Lp l _ AA,CQ h];simp only[Ac];rw[Vq _ _ AA,I,OO];unfold YG dS;cases(EM l ids[i]).isSome with
  |false=>rfl
  |true=>
   simp only[EW,BZ,Ac,Bg];unfold aQp
   have q:∀(k2:Int→Option (List Int)) (j:Nat),j≤r.length→pV k2 (j:Int) r ids (i:Int) k false=k (r.take j++ids[i]::r.drop j) (BA ((i:Int)+1)):=by
    intro k2 j n;unfold pV oW;simp only[BZ];rw[Vg n];simp only[Ac];rw[DZ Dy];simp only[Ac,IE];rw[xU n,CQ h];simp only[Ac];rw[DZ Dy];simp only[Ac];rw[DZ Dy];simp
   rw[Je r (fuel_lt AA) (fun a=>Gp (Eh l f ids[i]) (Eh l f a)) (fun j=>k (r.take j++ids[i]::r.drop j) (BA ((i:Int)+1))) (k (r.take r.length++ids[i]::r.drop r.length) (BA ((i:Int)+1)))]
   ·unfold XH;split
    ·rfl
    rename_i U
    have :(r.findIdx fun a=>Gp (Eh l f ids[i]) (Eh l f a))=r.length:=by
     have :=aBE (p:=fun a=>Gp (Eh l f ids[i]) (Eh l f a)) (xs:=r);omega
    rw[this]
   ·intro k2 j n;unfold aIN;rw[dec_lt n,CQ n,CQ h];simp only[Bg,Ac];rw[ahX l f _ _ L M z];simp only[Ac];cases Gp (Eh l f ids[i]) (Eh l f r[j])with
    |true=>simp only[EW,Bg];rw[q k2 j (Nat.le_of_lt n)]
    |false=>rfl
   intro k2;unfold aIN;rw[DW];simp only[BZ];rw[q k2 r.length (E9 _)]
 intro k r _;unfold aNh;rw[Dk]
def aoi {l:List AY} {f ids:List Int} {x:Int}:x∈Tn l f ids↔x∈ids∧dS l x=true:=by
 unfold Tn;rw[((kU Gp ((ids.filter (dS l)).map (Eh l f))).map (·.mX)).mem_iff,aNU,Gn]
def amF (l:List AY) (f ids:List Int):(Tn l f ids).length≤ids.length:=by
 unfold Tn;rw[D6,(kU _ _).length_eq,D6];exact Kt _ _
def Jv (c:Int):Bool:=(decide (c≥97)&&decide (c≤122))||(decide (c≥48)&&decide (c≤57))
def abD (c:Int):dQ c=some (Jv c):=by
 unfold dQ Jv;cases decide (c≥97)<;>cases decide (c≤122)<;>cases decide (c≥48)<;>cases decide (c≤57)<;>rfl
def aI3 (c:Int):Yx c=some (Jv c):=by
 unfold Yx Jv;cases decide (c≥97)<;>cases decide (c≤122)<;>cases decide (c≥48)<;>cases decide (c≤57)<;>rfl
def PV (l:List Int) (p:Int→Bool):Bool:=decide ((l.length:Int)≥1)&&decide ((l.length:Int)≤32)&&l.all fun c=>Jv c||p c
def isLocal (c:Int):Bool:=c==95||c==46||c==45||c==61
def UH (c:Int):Bool:=c==46||c==45
def Ur (l:List Int):Bool:=PV l isLocal
def Y7 (l:List Int):Bool:=PV l UH&&Jv (l.getD 0 0)&&Jv (l.getD (l.length-1) 0)
def vS {n:Nat} (h:n≤9223372036854775807):n<Az:=jG
def abY {s:ByteArray} (j:s.size≤9223372036854775807) (f:Int→Option Bool) (p:Int→Bool) (m:∀c,f c=some (p c)):aA s f=some (PV (Bv s) p):=by
 have n:aMj s f 0=some ((Bv s).all fun c=>Jv c||p c):=by
  unfold aMj;rw[GL (Bv s) (by rw[Gx];exact vS j) (fun c=> !(Jv c||p c)) false (some true) ?_ ?_,JZ,nH]
  ·intro k i h;have h':i<s.size:=Ux
   simp only[aMp,dec_lt h',Bg,Tz h,abD,m,Ac];cases Jv (Bv s)[i]<;>cases p (Bv s)[i]<;>rfl
  intro k;simp only[aMp,Gx,DW,BZ]
 unfold aA PV;rw[n,Gx];have q:decide ((s.size:Int)≥1)= !decide ((s.size:Int)<1):=aH2
 have u:decide ((s.size:Int)≤32)= !decide ((s.size:Int)>32):=aO8
 rw[q,u];cases decide ((s.size:Int)<1)<;>cases decide ((s.size:Int)>32)<;>rfl
def aiG {s:ByteArray} (f:s.size≤9223372036854775807):aA s (fun a0=>vw a0)=some (PV (Bv s) isLocal):=abY f _ isLocal (fun c=>by unfold vw isLocal;cases c==95<;>cases c==46<;>cases c==45<;>cases c==61<;>rfl)
def aiU {s:ByteArray} (f:s.size≤9223372036854775807):aA s (fun a0=>vG a0)=some (PV (Bv s) UH):=abY f _ UH (fun c=>by unfold vG UH;cases c==46<;>cases c==45<;>rfl)
def aqS {s:ByteArray} (f:s.size≤9223372036854775807):aGY s=some (Ur (Bv s)):=by
 unfold aGY Ur;rw[aiG f];rfl
def aFS {s:ByteArray} (h:0<s.size):Gh s 0=some ((Bv s).getD 0 0):=by
 have h':0<(Bv s).length:=aB6
 rw[aiA h'];simp[List.getD,h']
def aOy {s:ByteArray} (h:0<s.size) (j:s.size≤9223372036854775807):Gh s (BA ((s.size:Int)-1))=some ((Bv s).getD ((Bv s).length-1) 0):=by
 have h':s.size-1<(Bv s).length:=by rw[Gx];omega
 rw[PN AA AA,show(s.size:Int)-1=((s.size-1:Nat):Int) by omega,Tz h'];have f:(Bv s).length-1=s.size-1:=by rw[Gx]
 rw[f];simp[List.getD,h']
def aTe {l:List Int} {p:Int→Bool} (h:PV l p=true):0<l.length∧l.length≤32:=by
 unfold PV at h;simp only[DJ,Gi]at h;omega
def anN {s:ByteArray} (f:s.size≤9223372036854775807):aBr s=some (Y7 (Bv s)):=by
 unfold aBr Y7;rw[aiU f];simp only[Ac];cases j:PV (Bv s) UH with
 |false=>rfl
 |true=>
  have h:0<s.size:=by have :=(aTe j).1;rwa [Gx]at this
  simp only[Bg,aFS h,aOy h f,abD,Ac];cases Jv ((Bv s).getD 0 0)<;>simp
def aoa {s:ByteArray} (f:s.size≤9223372036854775807):yc s=some (bif Y7 (Bv s)then 0 else 3):=by
 have m:aJZ s 0=some (bif (Bv s).all fun c=>Jv c||UH c then 0 else 3):=by
  unfold aJZ;rw[GL (Bv s) kF (fun c=> !(Jv c||UH c)) 3 (some 0) ?_ ?_,JZ,←nH]
  ·cases((Bv s).any fun c=> !(Jv c||UH c))<;>rfl
  ·intro k i h;have h':i<s.size:=Ux
   simp only[aHy,dec_lt h',Bg,Tz h,aI3,Ac,UH,bne];cases Jv (Bv s)[i]<;>cases(Bv s)[i]==46<;>cases(Bv s)[i]==45<;>rfl
  intro k;simp only[aHy,Gx,DW,BZ]
 have n:decide ((s.size:Int)≥1)= !decide ((s.size:Int)<1):=aH2
 have q:decide ((s.size:Int)≤32)= !decide ((s.size:Int)>32):=aO8
 unfold yc Y7 PV;rw[m];rw[show((Bv s).length:Int)=(s.size:Int) by rw[Gx],n,q];by_cases u:(s.size:Int)<1
 ·simp[u]
 have j:0<s.size:=AA
 simp only[aFS j,aOy j f,aI3,Ac];cases decide ((s.size:Int)<1)<;>cases decide ((s.size:Int)>32)<;>cases Jv ((Bv s).getD 0 0)<;>cases Jv ((Bv s).getD ((Bv s).length-1) 0)<;>cases((Bv s).all fun c=>Jv c||UH c)<;>rfl
def afo {s:ByteArray} (f:s.size≤9223372036854775807):aA3 s=some (Ur (Bv s)):=by
 unfold aA3 aan;rw[GL (Bv s) kF (fun c=> !(Jv c||isLocal c)) false (some (decide ((s.size:Int)≥1)&&decide ((s.size:Int)≤32))) ?_ ?_]
 ·unfold Ur PV;rw[←nH,Gx];cases((Bv s).any fun c=> !(Jv c||isLocal c))<;>cases decide ((s.size:Int)≥1)<;>cases decide ((s.size:Int)≤32)<;>rfl
 ·intro k i h;have h':i<s.size:=Ux
  simp only[aKD,dec_lt h',Bg,Tz h,aI3,Ac,isLocal,bne];cases Jv (Bv s)[i]<;>cases(Bv s)[i]==95<;>cases(Bv s)[i]==46<;>cases(Bv s)[i]==45<;>cases(Bv s)[i]==61<;>rfl
 intro k;simp only[aKD,Gx,DW,BZ];cases decide ((s.size:Int)≥1)<;>cases decide ((s.size:Int)≤32)<;>rfl
def aQ7 (s:ByteArray):(Bv s).length=s.data.toList.length:=by simp[Bv]
def FP (s:ByteArray):Nat:=(Bv s).findIdx (· ==58)
def aJ6 (s:ByteArray):FP s≤s.size:=by unfold FP;rw[←Gx];exact aBE
def aR1 {s:ByteArray} (f:s.size≤9223372036854775807):sF s=some (FP s:Int):=by
 unfold sF aPV;rw[Je (Bv s) kF (· ==58) (fun i=>some (i:Int)) (some (s.size:Int)) ?_ ?_]
 ·have :=aJ6 s;by_cases h:(Bv s).findIdx (· ==58)<(Bv s).length
  ·rw[D7 h];rfl
  rw[DF h];congr 2;unfold FP at this ⊢;rw[Gx]at h;omega
 ·intro k i h;have h':i<s.size:=Ux
  simp only[aOf,dec_lt h',Bg,Tz h,Ac,bne];cases(Bv s)[i]==58<;>rfl
 intro k;simp only[aOf,Gx,DW,BZ,Ac]
def U2 (s:ByteArray):ByteArray:=s.extract 1 (FP s)
def Qk (s:ByteArray):ByteArray:=s.extract (FP s+1) s.size
def Ru (s:ByteArray):Bool:=decide (FP s<s.size)&&Ur (Bv (U2 s))&&Y7 (Bv (Qk s))
def GV (s:ByteArray) (m:Int):Bool:=decide (0<s.size)&&(Bv s).getD 0 0==m&&Ru s
def extract_size (s:ByteArray) (a b:Nat):(s.extract a b).size≤s.size:=by rw[aHx];omega
def aaM {s:ByteArray} (h:0<s.size) (f:(Bv s).getD 0 0≠58):1≤FP s:=by
 unfold FP;have j:0<(Bv s).length:=aB6
 match m:Bv s with
 | []=>rw[m]at j;simp at j
 |c::l=>
  rw[m]at f;simp only[List.getD_cons_zero]at f;rw[TF,show(c==58)=false from by simpa using f];simp
def aB9 {s:ByteArray} (j:s.size≤9223372036854775807) {m:Int} (q:m≠58):aC s m=some (GV s m):=by
 unfold aC GV;by_cases f:0<s.size
 ·rw[show decide ((s.size:Int)<1)=false from by simp;omega,show decide (0<s.size)=true by simpa using f];simp only[BZ,aFS f,Ac,bne];cases u:(Bv s).getD 0 0==m with
  |false=>rfl
  |true=>
   have n:(Bv s).getD 0 0=m:=Rh
   have z:=aaM f (by rw[n];exact q);have I:=aJ6 s;simp only[EW,BZ,aR1 j,Ac,Fe];unfold Ru;by_cases h:FP s<s.size
   ·have J:MR s 1 (FP s:Int)=some (U2 s):=fM (lo:=1) z I
    have L:MR s (BA ((FP s:Int)+1)) (s.size:Int)=some (Qk s):=by
     rw[PN AA AA,show(FP s:Int)+1=((FP s+1:Nat):Int) by omega];exact fM AA (E9 _)
    rw[show decide ((FP s:Int)<(s.size:Int))=true from by simpa using h,show decide (FP s<s.size)=true by simpa using h];have M:(U2 s).size≤9223372036854775807:=Ej (extract_size _ _ _) j;have O:(Qk s).size≤9223372036854775807:=Ej (extract_size _ _ _) j;simp only[Bg,J,L,afo M,aoa O,Ac];cases Ur (Bv (U2 s))<;>cases Y7 (Bv (Qk s))<;>rfl
   rw[show decide ((FP s:Int)<(s.size:Int))=false from by simpa using h,show decide (FP s<s.size)=false by simpa using h];rfl
 rw[show decide ((s.size:Int)<1)=true from by simp;omega,show decide (0<s.size)=false by simpa using f];rfl
def splitB (s:ByteArray) (b:Bool):ByteArray×ByteArray×Bool:=bif b then(U2 s,Qk s,true)else(Bf,Bf,false)
def aiv (b c:UInt8):(b==c)=(((b.toNat:Nat):Int)==((c.toNat:Nat):Int)):=by
 by_cases h:b=c
 ·subst h;simp
 have :¬b.toNat=c.toNat:=fun e=>h (UInt8.toNat_inj.1 e);have f:(b==c)=false:=JB
 rw[f];symm;simp;omega
def abQ (s:ByteArray) (c:UInt8):s.data.toList.findIdx (· ==c)=(Bv s).findIdx (· ==((c.toNat:Nat):Int)):=by
 unfold Bv;rw[List.findIdx_map];congr 1;funext b;exact aiv b c
def aqp (s:ByteArray):∀x∈Bv s,0≤x∧x<256:=by
 intro x f;unfold Bv at f;rw[Fh]at f;obtain⟨c,_,rfl⟩:=f;have :=c.toNat_lt;omega
def getD_mem {s:ByteArray} (h:0<s.size):(Bv s).getD 0 0∈Bv s:=by
 have f:0<(Bv s).length:=aB6
 have e:(Bv s).getD 0 0=(Bv s)[0]:=by simp[List.getD,f]
 rw[e];exact ET f
def ahl (marks:ByteArray) {c:Int} (n:0≤c) (q:c<256):decide (Lib.indexByte marks.data.toList c.toNat.toUInt8<0)= !(Bv marks).contains c:=by
 have e:(((c.toNat.toUInt8).toNat:Nat):Int)=c:=by
  rw[Nat.toUInt8,UInt8.toNat_ofNat'];omega
 rw[aJ9,abQ,e,←aQ7 marks];by_cases f:c∈Bv marks
 ·have j:(Bv marks).findIdx (· ==c)<(Bv marks).length:=List.findIdx_lt_length_of_exists ⟨c,f,BU⟩;rw[D7 j,show(Bv marks).contains c=true by simpa using f];simp
 have m:¬(Bv marks).findIdx (· ==c)<(Bv marks).length:=fun h=>by
  have :=aIA (w:=h);simp only[SN]at this;exact f (this▸ET h)
 rw[DF m,show(Bv marks).contains c=false by simpa using f];rfl
def aOl (s:ByteArray) (a b:Nat):(s.extract 1 s.size).extract a b=s.extract (1+a) (min (1+b) s.size):=by
 refine bytes_inj ?_;simp only[aUf];have :(Bv s).take s.size=Bv s:=PW (by rw[Gx];omega);rw[this,List.take_drop,aIz];congr 1;have :min (1+b) s.size=min (1+b) (Bv s).length:=by rw[Gx]
 rw[this,List.take_eq_take_min]
def ana {s:ByteArray} (h:0<s.size) (f:(Bv s).getD 0 0≠58):(Bv (s.extract 1 s.size)).findIdx (· ==58)+1=FP s:=by
 unfold FP;rw[aUf];have :(Bv s).take s.size=Bv s:=PW (by rw[Gx];omega);rw[this];have j:0<(Bv s).length:=aB6
 match m:Bv s with
 | []=>rw[m]at j;simp at j
 |c::l=>
  rw[m]at f;simp only[List.getD_cons_zero]at f;rw[TF,show(c==58)=false from by simpa using f];rfl
def ajw {s:ByteArray} (z:s.size≤9223372036854775807) (h:0<s.size) (m:(Bv s).getD 0 0≠58):∃a b,strings_Cut (s.extract 1 s.size) gZ=some (a,b,decide (FP s<s.size))∧(FP s<s.size→a=U2 s∧b=Qk s):=by
 have I:=aaM h m;have J:=aJ6 s;have L:=ana h m;have j:(s.extract 1 s.size).size=s.size-1:=by rw[aHx];omega
 have n:aGS (s.extract 1 s.size) gZ=some (if FP s<s.size then((FP s-1:Nat):Int)else -1):=by
  show some (Lib.indexByte (s.extract 1 s.size).data.toList 58)=_;rw[aJ9,abQ,←aQ7 (s.extract 1 s.size)];show some (if(Bv (s.extract 1 s.size)).findIdx (· ==58)<_ then(((Bv (s.extract 1 s.size)).findIdx (· ==58):Nat):Int)else -1)=_;rw[Gx,j];have e:(Bv (s.extract 1 s.size)).findIdx (· ==58)=FP s-1:=AA
  rw[e];congr 1;by_cases f:FP s<s.size
  ·rw[D7 f,D7 AA]
  rw[DF f,DF AA]
 unfold strings_Cut aON;rw[n,Ac];by_cases f:FP s<s.size
 ·rw[D7 f,show decide (((FP s-1:Nat):Int)≥0)=true from by simp,show decide (FP s<s.size)=true by simpa using f];have q:MR (s.extract 1 s.size) 0 ((FP s-1:Nat):Int)=some ((s.extract 1 s.size).extract 0 (FP s-1)):=fM (lo:=0) AA AA
  have u:MR (s.extract 1 s.size) (BA (((FP s-1:Nat):Int)+(gZ.size:Int))) ((s.extract 1 s.size).size:Int)=some ((s.extract 1 s.size).extract (FP s) (s.size-1)):=by
   rw[show(gZ.size:Int)=1 from rfl,PN AA AA,show((FP s-1:Nat):Int)+1=((FP s:Nat):Int) by omega,j];exact fM AA AA
  simp only[Bg,q,u,Ac];refine⟨_,_,rfl,fun _=>⟨?_,?_⟩⟩
  ·rw[aOl];unfold U2;congr 1;omega
  rw[aOl];unfold Qk;rw[Ph 1 (FP s)];congr 1;omega
 rw[DF f,show decide ((-1:Int)≥0)=false from rfl,show decide (FP s<s.size)=false by simpa using f];exact⟨_,_,rfl,fun h=>absurd h f⟩
def aKT {s:ByteArray} (j:s.size≤9223372036854775807) {marks:ByteArray} (n:∀m∈Bv marks,m≠58):eK s marks=some (splitB s ((Bv marks).any fun m=>GV s m)):=by
 unfold eK;by_cases h:0<s.size
 ·have q:(s.toList==Bf.toList)=false:=by
   rw[Ia];simp only[iG];intro e;rw[e]at h;exact absurd h Bd
  have u:=aqp s _ (getD_mem h)
  have f:((Bv marks).any fun m=>GV s m)=((Bv marks).contains ((Bv s).getD 0 0)&&Ru s):=by
   unfold GV;rw[show decide (0<s.size)=true by simpa using h]
   induction Bv marks with
   |nil=>rfl
   |cons m l z=>rw[qx,z,List.contains_cons];cases(Bv s).getD 0 0==m<;>cases Ru s<;>simp
  rw[q,f];simp only[BZ,aFS h,Ac,strings_IndexByte,ahl marks u.1 u.2];cases I:(Bv marks).contains ((Bv s).getD 0 0)with
  |false=>rfl
  |true=>
   have J:(Bv s).getD 0 0≠58:=n _ yD;obtain⟨a,b,L,M⟩:=ajw j h J;have O:MR s 1 (s.size:Int)=some (s.extract 1 s.size):=fM (lo:=1) AA (E9 _);simp only[EW,BZ,O,L,Ac,Fe];unfold Ru;cases S:decide (FP s<s.size)with
   |false=>rfl
   |true=>
    obtain⟨rfl,rfl⟩:=M (VZ S);have U:(U2 s).size≤9223372036854775807:=Ej (extract_size _ _ _) j;have Y:(Qk s).size≤9223372036854775807:=Ej (extract_size _ _ _) j;simp only[EW,BZ,aqS U,anN Y,Ac];cases Ur (Bv (U2 s))<;>cases Y7 (Bv (Qk s))<;>rfl
 have Z:s.size=0:=AA
 have he:s=Bf:=bytes_inj (by
  have h1:Bv s=[]:=Gt (by rw[Gx];exact Z)
  rw[h1];rfl)
 have f:((Bv marks).any fun m=>GV s m)=false:=by
  rw[aLR];intro m _;unfold GV;rw[show decide (0<s.size)=false by simpa using h];simp
 rw[f,he,show(Bf.toList==Bf.toList)=true from by simp];rfl
def JU (s:ByteArray):Bool:=GV s 64||(GV s 33||false)
def alJ {s:ByteArray} (f:s.size≤9223372036854775807):eK s xP=some (splitB s (JU s)):=
 aKT f (marks:=xP) (by rw[show Bv xP=[64,33]from rfl];intro m h;simp only[F6,Fv,eF]at h;omega)
def abm {s:ByteArray} (h:Ru s=true):FP s<s.size:=by unfold Ru at h;simp only[DJ,Gi]at h;exact h.1.1
def kP {s:ByteArray} (j:s.size≤9223372036854775807):jE s=some (splitB s (JU s)).2.1∧bZ s=some (splitB s (JU s)).2.1:=by
 have n:FP s<s.size→MR s (BA ((FP s:Int)+1)) (s.size:Int)=some (Qk s):=fun q=>by
  rw[PN AA AA,show(FP s:Int)+1=((FP s+1:Nat):Int) by omega];exact fM AA (E9 _)
 unfold jE bZ;rw[alJ j,aB9 j Bd,aB9 j Bd,aR1 j];refine⟨rfl,?_⟩;unfold JU;cases f:GV s 64 with
 |true=>
  have m:=abm (s:=s) (by unfold GV at f;simp only[DJ]at f;exact f.2);simp only[Ac,EW,BZ,n m,Bool.true_or];rfl
 |false=>
  cases h:GV s 33 with
  |true=>
   have m:=abm (s:=s) (by unfold GV at h;simp only[DJ]at h;exact h.2);simp only[Ac,EW,IX,BZ,Bg,n m,Ll,Bool.true_or];rfl
  |false=>rfl
def aI4 {R A α:Type} {body:(Int→A→Option R)→Int→A→Option R} (l:List α) (q:l.length<Az) (p:α→Bool) (g:Nat→Option R) (rest:Option R) (a0:A)
 (s:∀k (i:Nat) (h:i<l.length),body k (i:Int) a0=bif p l[i]then g i else k (BA ((i:Int)+1)) a0) (u:∀k,body k (l.length:Int) a0=rest):
 aV body Az 0 a0=if l.findIdx p<l.length then g (l.findIdx p)else rest:=by
 have J:Az=9223372036854775808:=rfl
 have key:∀n (i:Nat),i+n=l.length→∀m,n<m→aV body m (i:Int) a0=if(l.drop i).findIdx p+i<l.length then g ((l.drop i).findIdx p+i)else rest:=by
  intro n
  induction n with
  |zero=>
   intro i hi m z;obtain⟨m,rfl⟩:∃j,m=j+1:=⟨m-1,AA⟩
   have :i=l.length:=AA
   subst this;show body (aV body m) _ _=_;rw[u,OV,DF BU]
  |succ n I=>
   intro i hi m z;obtain⟨m,rfl⟩:∃j,m=j+1:=⟨m-1,AA⟩
   have f:i<l.length:=AA
   show body (aV body m) _ _=_;rw[s _ i f,wrap_succ i AA,I (i+1) AA m AA,LV f,TF];cases p l[i]with
   |true=>simp only[Bg,J4];rw[D7 f]
   |false=>
    simp only[BZ];rw[show(l.drop (i+1)).findIdx p+(i+1)=(l.drop (i+1)).findIdx p+1+i by omega]
 have :=key l.length 0 AA Az q;simpa using this
def Jh (l:List AY):AY×Bool:=match l.find? fun x=>x.Kind==1 with |some x=>(x,true)|none=>(Et,false)
def aN5 (l:List AY) (p:AY→Bool):(if l.findIdx p<l.length then(some (match l[l.findIdx p]? with |some x=>(x,true)|none=>(Et,false)))else some (Et,false))=some (match l.find? p with |some x=>(x,true)|none=>(Et,false)):=by
 rw[KF];by_cases h:l.findIdx p<l.length
 ·rw[D7 h]
 rw[DF h,II AA]
def acd (l:List AY) (f:l.length≤1000):nM l=some (Jh l):=by
 unfold nM aQu;rw[aI4 l (fuel_lt AA) (fun x=>x.Kind==1) (fun i=>some (match l[i]? with |some x=>(x,true)|none=>(Et,false))) (some (Et,false))]
 ·exact aN5 l _
 ·intro k i h;unfold aL9;rw[Ce h,Dn h]
 intro k;unfold aL9;rw[Dk]
def aSI (l:List AY) (f:l.length≤1000):wF l=some (Jh l):=by
 unfold wF aPY;rw[aI4 l (fuel_lt AA) (fun x=>x.Kind==1) (fun i=>some (match l[i]? with |some x=>(x,true)|none=>(Et,false))) (some (Et,false))]
 ·exact aN5 l _
 ·intro k i h;unfold aKV;rw[Ce h,CQ h,Dn h];rfl
 intro k;unfold aKV;rw[Dk]
def OZ (u:ByteArray) (x:AY):Bool:=x.Kind==2&&decide (x.Key=u)
def LD (l:List AY) (u:ByteArray):Int:=match l.find? (OZ u)with |some x=>x.Content.N|none=>0
def zL (u:ByteArray) (x:AY):(bif (x.Kind==2)then some (x.Key.toList==u.toList)else some false)=some (OZ u x):=by
 unfold OZ;rw[Ia];cases x.Kind==2<;>rfl
def aJO (l:List AY) (u:ByteArray) (f:l.length≤1000):dO l u=some (LD l u):=by
 unfold dO abT LD;rw[Je l (fuel_lt AA) (OZ u) (fun i=>some (match l[i]? with |some x=>x.Content.N|none=>0)) (some 0)]
 ·rw[KF];by_cases h:l.findIdx (OZ u)<l.length
  ·rw[D7 h]
  rw[DF h,II AA]
 ·intro k i h;unfold aLX;rw[Ce h,CQ h,Dn h];simp only[Ac];rw[zL];rfl
 intro k;unfold aLX;rw[Dk]
def aMn (l:List AY) (u:ByteArray) (f:l.length≤1000):kZ l u=some (LD l u):=by
 unfold kZ aTL LD;rw[Je l (fuel_lt AA) (OZ u) (fun i=>some (match l[i]? with |some x=>x.Content.N|none=>0)) (some 0)]
 ·rw[KF];by_cases h:l.findIdx (OZ u)<l.length
  ·rw[D7 h]
  rw[DF h,II AA]
 ·intro k i h;unfold aOG;rw[Ce h,CQ h,Dn h];simp only[Ac];rw[zL];rfl
 intro k;unfold aOG;rw[Dk]
def gq (e:AY) (l:List AY):Bool:=
 (Jh l).2&&(e.bK.length==1&&(e.bK.getD 0 0==(Jh l).1.Id&&(decide (e.bG=(Jh l).1.bG)&&(decide (e.Key=(Jh l).1.bG)&&(e.Content.N==3&& !l.any (OZ e.Key))))))
def anz (e:AY) (l:List AY) (q:l.length≤1000):aEZ e l=some (gq e l):=by
 have s:aHs l e 0=some (!l.any (OZ e.Key)):=by
  unfold aHs;rw[GL l (fuel_lt AA) (OZ e.Key) false (some true)]
  ·cases l.any (OZ e.Key)<;>rfl
  ·intro k i h;unfold aNg;rw[Ce h,zL];rfl
  intro k;unfold aNg;rw[Dk]
 unfold aEZ gq YC;rw[acd l q];simp only[Ac];rw[s,Ia,Ia];cases(Jh l).2 with
 |false=>rfl
 |true=>
  by_cases f:e.bK.length=1
  ·have n:0<e.bK.length:=AA
   have j:((e.bK.length:Int) != 1)=false:=O9
   have m:(e.bK.length==1)=true:=KZ
   have u:Aq e.bK 0=some (e.bK.getD 0 0):=by
    have :Aq e.bK ((0:Nat):Int)=some e.bK[0]:=CQ n;rw[show((0:Nat):Int)=0 from rfl]at this;rw[this];simp[List.getD,n]
   rw[j,m,u];simp only[Ac,bne];cases e.bK.getD 0 0==(Jh l).1.Id<;>cases decide (e.bG=(Jh l).1.bG)<;>cases decide (e.Key=(Jh l).1.bG)<;>cases e.Content.N==3<;>rfl
  have j:((e.bK.length:Int) != 1)=true:=Dy
  have m:(e.bK.length==1)=false:=KZ
  rw[j,m];rfl
def aqP (e:AY) (l:List AY) (q:l.length≤1000):aAF e l=some (gq e l):=by
 have s:aEa l e.Key=some (l.any (OZ e.Key)):=by
  unfold aEa aTz;rw[GL l (fuel_lt AA) (OZ e.Key) true (some false)]
  ·cases l.any (OZ e.Key)<;>rfl
  ·intro k i h;unfold aO5;rw[Ce h,CQ h];simp only[Ac];rw[zL];rfl
  intro k;unfold aO5;rw[Dk]
 unfold aAF gq VO;rw[aSI l q];simp only[Ac];rw[s,Ia,Ia];cases(Jh l).2 with
 |false=>rfl
 |true=>
  by_cases f:e.bK.length=1
  ·have n:0<e.bK.length:=AA
   have j:((e.bK.length:Int)==1)=true:=O9
   have m:(e.bK.length==1)=true:=KZ
   have u:Aq e.bK 0=some (e.bK.getD 0 0):=by
    have :Aq e.bK ((0:Nat):Int)=some e.bK[0]:=CQ n;rw[show((0:Nat):Int)=0 from rfl]at this;rw[this];simp[List.getD,n]
   rw[j,m,u];simp only[Ac];cases e.bK.getD 0 0==(Jh l).1.Id<;>cases decide (e.bG=(Jh l).1.bG)<;>cases decide (e.Key=(Jh l).1.bG)<;>cases e.Content.N==3<;>rfl
  have j:((e.bK.length:Int)==1)=false:=Dy
  have m:(e.bK.length==1)=false:=KZ
  rw[j,m];rfl
def moveB (f t:Int) (s:Bool):Bool:=
 bif decide (f<0)||decide (f>4)then false else bif t==3 then s&&f != 4 else bif t==0 then f==1||f==2||f==3||(f==4&& !s)else bif t==2 then s&&(f==0||f==2)else bif t==1 then !s&&(f==0||f==2||f==1)else bif t==4 then !s else false
def aRn (f t:Int) (s:Bool):Uo f t s=some (moveB f t s):=by
 unfold Uo moveB;simp only[JZ,Ac,eP,TI]
def ao8 (f t:Int) (s:Bool):YO f t s=some (moveB f t s):=by
 rw[←aRn];by_cases h:f<0
 ·unfold YO Uo;rw[Ib h];rfl
 by_cases j:f>4
 ·unfold YO Uo;rw[Ib j];cases decide (f<0)<;>rfl
 by_cases m:t<0
 ·unfold YO Uo;rw[Ib m,Ir h,Ir j,show(t==3)=false by simp;omega,show(t==0)=false by simp;omega,show(t==2)=false by simp;omega,show(t==1)=false by simp;omega,show(t==4)=false by simp;omega];rfl
 by_cases n:t>4
 ·unfold YO Uo;rw[Ib n,Ir m,Ir h,Ir j,show(t==3)=false by simp;omega,show(t==0)=false by simp;omega,show(t==2)=false by simp;omega,show(t==1)=false by simp;omega,show(t==4)=false by simp;omega];rfl
 have q:f=0∨f=1∨f=2∨f=3∨f=4:=AA
 have u:t=0∨t=1∨t=2∨t=3∨t=4:=AA
 rcases q with rfl|rfl|rfl|rfl|rfl<;>rcases u with rfl|rfl|rfl|rfl|rfl<;>cases s<;>decide
def jF (l:List AY):Int×List ByteArray:=match l.find? fun x=>x.Kind==4 with |some x=>(x.Content.N,x.Content.Allow)|none=>(0,[])
def ahr (l:List AY) (j:l.length≤1000) (f:Dx l):aAt l=some (jF l):=by
 unfold aAt aQB jF;rw[Je l (fuel_lt AA) (fun x=>x.Kind==4) (fun i=>some (match l[i]? with |some x=>(x.Content.N,x.Content.Allow)|none=>(0,[]))) (some (0,[]))]
 ·rw[KF];by_cases h:l.findIdx (fun x=>x.Kind==4)<l.length
  ·rw[D7 h]
  rw[DF h,II AA]
 ·intro k i h;have ha:=(f _ (ET h)).allow;unfold aMh;rw[Ce h,Dn h,DZ Uf];rfl
 intro k;unfold aMh;rw[Dk]
def ahD (l:List AY) (j:l.length≤1000) (f:Dx l):aDo l=some (jF l):=by
 unfold aDo ach jF;rw[Je l (fuel_lt AA) (fun x=>x.Kind==4) (fun i=>some (match l[i]? with |some x=>(x.Content.N,x.Content.Allow)|none=>(0,[]))) (some (0,[]))]
 ·rw[KF];by_cases h:l.findIdx (fun x=>x.Kind==4)<l.length
  ·rw[D7 h]
  rw[DF h,II AA]
 ·intro k i h;have ha:=(f _ (ET h)).allow;unfold aLG;rw[Ce h,CQ h,Dn h];simp only[Ac];rw[DZ Uf];rfl
 intro k;unfold aLG;rw[Dk]
def wS (f now:Int):Int:=bif now==3||f==1 then 0 else bif now==1&&(f==0||f==2||f==3)then 0 else 21
def qO (f now:Int):Int:=bif f==2&&(now==0||now==2)then 0 else 21
def aph (r n:Int):aDG r n=some (wS r n):=by
 unfold aDG mY aFN wS;cases n==3<;>cases r==1<;>cases r==2<;>cases r==3<;>cases r==0<;>cases n==1<;>rfl
def ak5 (r n:Int):aAL r n=some (wS r n):=by
 unfold aAL wS;cases n==3<;>cases r==1<;>cases r==2<;>cases r==3<;>cases r==0<;>cases n==1<;>rfl
def ait (r n:Int):aCK r n=some (qO r n):=by
 unfold aCK zo qO bne;cases r==2<;>cases n==0<;>cases n==2<;>rfl
def alQ (r n:Int):aCY r n=some (qO r n):=by
 unfold aCY qO;cases r==2<;>cases n==0<;>cases n==2<;>rfl
def pO (m now:Int) (l:List AY):Int:=bif m==3 then wS (jF l).1 now else bif m==2 then qO (jF l).1 now else 0
def agq (m now:Int) (l:List AY) (f:l.length≤1000) (h:Dx l):aGJ m now l=some (pO m now l):=by
 unfold aGJ pO;rw[ahr l f h];simp only[Ac];rw[aph,ait];cases m==3<;>cases m==2<;>rfl
def aqm (e:AY) (now:Int) (l:List AY) (f:l.length≤1000) (h:Dx l):aFL e l now=some (pO e.Content.N now l):=by
 unfold aFL pO;rw[ahD l f h];simp only[Ac];rw[ak5,alQ];cases e.Content.N==3<;>cases e.Content.N==2<;>rfl
def HY (k:Int):Bool:=decide (k≥1)&&decide (k≤10)
def aOn (k:Int):ZY k=some (HY k):=by
 unfold ZY HY;cases decide (k≥1)<;>rfl
def aCa (k:Int):SL k=some (HY k):=by
 unfold SL HY;cases decide (k≥1)<;>rfl
def VY (v:CO) (k:Int):Int:=match v.Kinds.find? fun x=>x.Kind==k with |some x=>x.N|none=>bif HY k then v.State else v.Message
def aJl (v:CO) (k:Int) (h:v.Kinds.length≤1000):jk v k=some (VY v k):=by
 unfold jk aaS VY;rw[Je v.Kinds (fuel_lt AA) (fun x=>x.Kind==k) (fun i=>some (match v.Kinds[i]? with |some x=>x.N|none=>0)) (some (bif HY k then v.State else v.Message))]
 ·rw[KF];by_cases h:v.Kinds.findIdx (fun x=>x.Kind==k)<v.Kinds.length
  ·rw[D7 h,Dn h]
  rw[DF h,II AA]
 ·intro k2 i h;unfold aMT;rw[Ce h,Dn h]
 intro k2;unfold aMT;rw[Dk,aOn];cases HY k<;>rfl
def ug (v:CO) (k:Int) (h:v.Kinds.length≤1000):eU v k=some (VY v k):=by
 unfold eU aPK VY;rw[Je v.Kinds (fuel_lt AA) (fun x=>x.Kind==k) (fun i=>some (match v.Kinds[i]? with |some x=>x.N|none=>0)) (some (bif HY k then v.State else v.Message))]
 ·rw[KF];by_cases h:v.Kinds.findIdx (fun x=>x.Kind==k)<v.Kinds.length
  ·rw[D7 h,Dn h]
  rw[DF h,II AA]
 ·intro k2 i h;unfold aMR;rw[Ce h,CQ h,Dn h];rfl
 intro k2;unfold aMR;rw[Dk,aCa];cases HY k<;>rfl
def UE (f h j:Int):Bool:=h==j||(decide (h≤f)&&decide (j≤f))
def numsOf (v:CO):List Int:=[v.User,v.Message,v.State,v.gB,v.jI,v.lV,v.gQ]
def xu (f:Int) (p:Int×Int):Bool:= !UE f p.1 p.2
def Ub (f:Int) (h j:CO) (x:Ij):Bool:= !UE f (VY h x.Kind) (VY j x.Kind)
def IU (h:Int) (f j:CO) (m:ByteArray) (x:Gl):Bool:= !(UE h (ED f x.User) (ED j x.User)&&(ED f x.User==ED j x.User||decide (x.User=m)||decide (ED f x.User<h)))
def qE (f j:CO) (h:ByteArray):Int:=
 bif ((numsOf f).zip (numsOf j)).any (xu (ED f h))then 20 else bif (f.Kinds++j.Kinds).any (Ub (ED f h) f j)then 20 else bif (f.Users++j.Users).any (IU (ED f h) f j h)then 20 else 0
def aNf (f j m:Int):Vw j m f=some (!UE f j m):=by
 unfold Vw UE;have n:(j != m)= !(j==m):=rfl;have q:decide (j>f)= !decide (j≤f):=by by_cases h:j≤f<;>simp[h]<;>omega
 have s:decide (m>f)= !decide (m≤f):=by by_cases h:m≤f<;>simp[h]<;>omega
 rw[n,q,s];cases j==m<;>cases decide (j≤f)<;>cases decide (m≤f)<;>rfl
def aGU (h f j:Int):fB f j h=some (UE h f j):=by
 unfold fB UE;cases f==j<;>cases decide (f≤h)<;>rfl
structure Y2 (v:CO):Prop where
 users:v.Users.length≤100
 kinds:v.Kinds.length≤100
def sO (a b:CO):((numsOf a).zip (numsOf b)).length=7:=rfl
def aok (f m:CO) (n:ByteArray) (O:Y2 f) (S:Y2 m):qG f m n=some (qE f m n):=by
 have o1:=O.users;have o2:=O.kinds;have n1:=S.users;have n2:=S.kinds;unfold qG;rw[Yp f n AA];unfold aAY;simp only[Ac];unfold qE;generalize U:ED f n=q
 have Y:aCU f m q n false 0=some (bif (f.Users++m.Users).any (IU q f m n)then 20 else 0):=by
  unfold aCU;rw[aGy ([f.Users,m.Users]:List (List Gl)) (fuel_lt BU) (fun us=>us.any (IU q f m n)) (fun _=>some 20) (some 0) false]
  ·have e:(f.Users++m.Users).any (IU q f m n)=([f.Users,m.Users]:List (List Gl)).any (fun us=>us.any (IU q f m n)):=BU
   rw[e]
   have Z:∀L:List (List Gl),(if L.findIdx (fun us=>us.any (IU q f m n))<L.length then some (20:Int)else some 0)=some (bif L.any (fun us=>us.any (IU q f m n))then 20 else 0):=fun L=>by
    by_cases h:L.findIdx (fun us=>us.any (IU q f m n))<L.length
    ·rw[D7 h];have :L.any (fun us=>us.any (IU q f m n))=true:=Hd.2 ((wu).1 h);rw[this];rfl
    rw[DF h]
    have :L.any (fun us=>us.any (IU q f m n))=false:=by
     rw[Bool.eq_false_iff];exact fun k=>h (wu.2 (Hd.1 k))
    rw[this];rfl
   exact Z _
  ·intro k i h
   have I:([f.Users,m.Users]:List (List Gl))[i].length≤100:=by
    have :([f.Users,m.Users]:List (List Gl))[i]∈[f.Users,m.Users]:=ET h;simp only[F6,Fv,eF]at this;rcases this with e|e<;>rw[e]<;>assumption
   unfold aC7;rw[show decide ((i:Int)<2)=true by simp only[Fp,Lm]at h;simp;omega,CQ h];simp only[Bg,Ac];generalize([f.Users,m.Users]:List (List Gl))[i]=us at I;unfold aSY;rw[aGy us (fuel_lt AA) (IU q f m n) (fun _=>some 20) (k false (BA ((i:Int)+1))) false]
   ·by_cases u:us.findIdx (IU q f m n)<us.length
    ·rw[D7 u];have :us.any (IU q f m n)=true:=Hd.2 ((wu).1 u);rw[this];rfl
    rw[DF u]
    have :us.any (IU q f m n)=false:=by
     rw[Bool.eq_false_iff];exact fun k=>u (wu.2 (Hd.1 k))
    rw[this];rfl
   ·intro k2 j J;unfold zC iC;rw[Ce J,Yp f _ AA,Yp m _ AA];simp only[Ac];rw[aNf,Ia];unfold IU;have u:decide (ED f us[j].User≥q)= !decide (ED f us[j].User<q):=by by_cases h:ED f us[j].User<q<;>simp[h]<;>omega
    have h3:(ED f us[j].User != ED m us[j].User)= !(ED f us[j].User==ED m us[j].User):=rfl;simp only[Ac];rw[u,h3];cases UE q (ED f us[j].User) (ED m us[j].User)<;>cases ED f us[j].User==ED m us[j].User<;>cases decide (us[j].User=n)<;>cases decide (ED f us[j].User<q)<;>rfl
   intro k2;unfold zC;rw[Dk]
  intro k;unfold aC7 iC;rw[show decide (((([f.Users,m.Users]:List (List Gl)).length:Nat):Int)<2)=false from rfl];rfl
 have hK:aCS f m q n 0=some (bif (f.Kinds++m.Kinds).any (Ub q f m)then 20 else bif (f.Users++m.Users).any (IU q f m n)then 20 else 0):=by
  unfold aCS;rw[GL ([f.Kinds,m.Kinds]:List (List Ij)) (fuel_lt BU) (fun s=>s.any (Ub q f m)) 20 (aCU f m q n false 0)]
  ·rw[Y];have e:(f.Kinds++m.Kinds).any (Ub q f m)=([f.Kinds,m.Kinds]:List (List Ij)).any (fun s=>s.any (Ub q f m)):=BU
   rw[e];cases([f.Kinds,m.Kinds]:List (List Ij)).any (fun s=>s.any (Ub q f m))<;>rfl
  ·intro k i h
   have M:([f.Kinds,m.Kinds]:List (List Ij))[i].length≤100:=by
    have :([f.Kinds,m.Kinds]:List (List Ij))[i]∈[f.Kinds,m.Kinds]:=ET h;simp only[F6,Fv,eF]at this;rcases this with e|e<;>rw[e]<;>assumption
   unfold aC1;rw[show decide ((i:Int)<2)=true by simp only[Fp,Lm]at h;simp;omega,CQ h];simp only[Bg,Ac];generalize([f.Kinds,m.Kinds]:List (List Ij))[i]=s at M;unfold aSL;rw[GL s (fuel_lt AA) (Ub q f m) 20 (k (BA ((i:Int)+1)))]
   ·intro k2 j J;unfold aBM;rw[Ce J,aJl f _ AA,aJl m _ AA];simp only[Ac];rw[aNf];rfl
   intro k2;unfold aBM;rw[Dk]
  intro k;unfold aC1;rw[show decide (((([f.Kinds,m.Kinds]:List (List Ij)).length:Nat):Int)<2)=false from rfl];rfl
 unfold aRN;rw[GL ((numsOf f).zip (numsOf m)) aSg (xu q) 20 (aCS f m q n 0)]
 ·rw[hK];cases((numsOf f).zip (numsOf m)).any (xu q)<;>rfl
 ·intro k i h;have z:i<7:=by rw[sO]at h;exact h
  have e1:Aq [f.User,f.Message,f.State,f.gB,f.jI,f.lV,f.gQ] (i:Int)=some ((numsOf f)[i]'(z)):=CQ (l:=numsOf f) z;have e2:Aq [m.User,m.Message,m.State,m.gB,m.jI,m.lV,m.gQ] (i:Int)=some ((numsOf m)[i]'(z)):=CQ (l:=numsOf m) z;unfold aFE;rw[show decide ((i:Int)<7)=true by simp;omega,e1,e2];simp only[Bg,Ac];rw[aNf,aNd];rfl
 intro k;unfold aFE;rw[sO,show decide (((7:Nat):Int)<7)=false from rfl];rfl
def amf (f j:CO) (u h:ByteArray) (m:Y2 f) (n:Y2 j):kX f j u h=some (UE (ED f h) (ED f u) (ED j u)&&(ED f u==ED j u||decide (u=h)||decide (ED f u<ED f h))):=by
 have q:=m.users;have s:=n.users;unfold kX;rw[Xe f h AA,Xe f u AA,Xe j u AA];simp only[Ac];rw[aGU,Ia];simp only[Ac];cases UE (ED f h) (ED f u) (ED j u)<;>cases ED f u==ED j u<;>cases decide (u=h)<;>cases decide (ED f u<ED f h)<;>rfl
def agK (f j:CO) (m:ByteArray) (z:Y2 f) (I:Y2 j):aB2 f j m=some (qE f j m):=by
 have o1:=z.users;have o2:=z.kinds;have n1:=I.users;have n2:=I.kinds;unfold aB2;rw[Xe f m AA];unfold aG6;simp only[Ac];unfold qE
 have s:∀x:Gl,(kX f j x.User m)=some (!IU (ED f m) f j m x):=fun x=>by
  rw[amf f j _ _ z I];unfold IU;rw[xQ]
 generalize L:ED f m=q at s
 have J:aO0 j f m 0=some (bif j.Users.any (IU q f j m)then 20 else 0):=by
  unfold aO0;rw[GL j.Users (fuel_lt AA) (IU q f j m) 20 (some 0)]
  ·cases j.Users.any (IU q f j m)<;>rfl
  ·intro k i h;unfold aLE;rw[Ce h,s];simp only[Ac,xQ]
  intro k;unfold aLE;rw[Dk]
 have O:aLU f j m 0=some (bif (f.Users++j.Users).any (IU q f j m)then 20 else 0):=by
  unfold aLU;rw[GL f.Users (fuel_lt AA) (IU q f j m) 20 (some (bif j.Users.any (IU q f j m)then 20 else 0))]
  ·rw[aLj];cases f.Users.any (IU q f j m)<;>rfl
  ·intro k i h;unfold aJd;rw[Ce h,s];simp only[Ac,xQ]
  intro k;unfold aJd;rw[Dk,J]
 have S:aCw f j q m 0=some (bif (f.Kinds++j.Kinds).any (Ub q f j)then 20 else bif (f.Users++j.Users).any (IU q f j m)then 20 else 0):=by
  unfold aCw;have M:BA ((f.Kinds.length:Int)+(j.Kinds.length:Int))=(((f.Kinds++j.Kinds).length:Nat):Int):=by rw[EL,bP];omega
  rw[GL (f.Kinds++j.Kinds) (fuel_lt KC) (Ub q f j) 20 (some (bif (f.Users++j.Users).any (IU q f j m)then 20 else 0))]
  ·cases(f.Kinds++j.Kinds).any (Ub q f j)<;>rfl
  ·intro k i h;unfold aO2 aCx;rw[M,dec_lt h];simp only[Bg];by_cases hi:i<f.Kinds.length
   ·rw[dec_lt hi,CQ hi];simp only[Bg,Ac];rw[ug f _ AA,ug j _ AA];simp only[Ac];rw[aGU,aJk hi];rfl
   have U:i-f.Kinds.length<j.Kinds.length:=by rw[EL]at h;omega
   have w:BA ((i:Int)-(f.Kinds.length:Int))=((i-f.Kinds.length:Nat):Int):=by rw[EL]at h;rw[bP];omega
   rw[show decide ((i:Int)<(f.Kinds.length:Int))=false by simp;omega,w,CQ U];simp only[BZ,Ac];rw[ug f _ AA,ug j _ AA];simp only[Ac];rw[aGU,adx AA];rfl
  intro k;unfold aO2;rw[M,DW,O];rfl
 unfold aRr;rw[GL ((numsOf f).zip (numsOf j)) aSg (xu q) 20 (aCw f j q m 0)]
 ·rw[S];cases((numsOf f).zip (numsOf j)).any (xu q)<;>rfl
 ·intro k i h;have u:i<7:=by rw[sO]at h;exact h
  have Y:Aq [f.User,f.Message,f.State,f.gB,f.jI,f.lV,f.gQ] (i:Int)=some ((numsOf f)[i]'(u)):=CQ (l:=numsOf f) u;have Z:Aq [j.User,j.Message,j.State,j.gB,j.jI,j.lV,j.gQ] (i:Int)=some ((numsOf j)[i]'(u)):=CQ (l:=numsOf j) u;unfold aIv;rw[show decide ((i:Int)<(([f.User,f.Message,f.State,f.gB,f.jI,f.lV,f.gQ]:List Int).length:Int))=true from dec_lt (n:=7) u,Y,Z];simp only[Bg,Ac];rw[aGU,aNd];rfl
 intro k;unfold aIv;rw[sO];rfl
def ny (e:AY) (l:List AY) (now:Int):Int:=
 bif !(LD l e.bG==3)then 18 else
 bif e.Content.N==1&&decide (ED (FY l) e.bG<(FY l).gB)then 20 else
 bif e.Content.N==0&&((now==4&&decide (ED (FY l) e.bG<(FY l).lV))||decide (ED (FY l) e.bG<(FY l).jI)||decide (ED (FY l) e.Key≥ED (FY l) e.bG))then 20 else
 bif e.Content.N==4&&(decide (ED (FY l) e.bG<(FY l).lV)||decide (ED (FY l) e.Key≥ED (FY l) e.bG))then 20 else 0
def qp (e:AY) (l:List AY):Int:=
 bif gq e l then 0 else
 bif decide (e.Key=e.bG)&&LD l e.Key==4 then 19 else
 bif !moveB (LD l e.Key) e.Content.N (decide (e.Key=e.bG))then 18 else
 bif decide (e.Key=e.bG)then pO e.Content.N (LD l e.Key) l else ny e l (LD l e.Key)
def nT (e:AY) (l:List AY):Int:=
 bif decide (ED (FY l) e.bG<VY (FY l) e.Kind)then 20 else bif e.Kind==3 then qE (FY l) e.Content.Levels e.bG else 0
def ad7 (s:ByteArray):ByteArray:=(splitB s (JU s)).2.1
def QW (e:AY) (l:List AY):Int:=
 bif e.Kind==1 then(bif !(Jh l).2&&(ad7 e.bG).toList==(ad7 e.Room).toList then 0 else 17)else
 bif !(Jh l).2 then 17 else bif e.Kind==2 then qp e l else bif !(LD l e.bG==3)then 18 else nT e l
def aOx {l:List AY} (h:Dx l):Y2 (FY l):=⟨(bn h).1,(bn h).2⟩
def I9.levels {e:AY} (h:I9 e):Y2 e.Content.Levels:=⟨h.users,h.kinds⟩
def aqX (e:AY) (l:List AY) (j:l.length≤1000) (h:Dx l) (m:I9 e):aDz e l=some (nT e l):=by
 have f:=aOx h;have n:=f.users;have q:=f.kinds;unfold aDz nT;rw[aNn l j h];simp only[Ac];rw[Yp _ _ AA,aJl _ _ AA];simp only[Ac];rw[aok _ _ _ f m.levels];cases decide (ED (FY l) e.bG<VY (FY l) e.Kind)<;>cases e.Kind==3<;>rfl
def aqb (e:AY) (l:List AY) (h:l.length≤1000) (j:Dx l) (m:I9 e):aD4 e l=some (nT e l):=by
 have f:=aOx j;have n:=f.users;have q:=f.kinds;unfold aD4 nT;rw[aJb l h];simp only[Ac];rw[Xe _ _ AA,ug _ _ AA];simp only[Ac];rw[agK _ _ _ f m.levels];cases decide (ED (FY l) e.bG<VY (FY l) e.Kind)<;>cases e.Kind==3<;>rfl
def fZ (x:Int):Except Value Unit:=.error (.iface 150 (.agg #[.int .i64 x]))
def adE (x:Int):ZL x=some (fZ x):=rfl
def aNz (b:Bool) (x:Int):PZ b x=some (bif b then .ok ()else fZ x):=by cases b<;>rfl
def aHW (b:Bool) (x:Int) (f:Unit→Option (Except Value Unit)):L8 (bif b then .ok ()else fZ x) f=bif b then f ()else some (fZ x):=by cases b<;>rfl
def acV (x:Int) (f:Unit→Option (Except Value Unit)):L8 (fZ x) f=some (fZ x):=rfl
def ajX (a b:Int):decide (a≥b)= !decide (a<b):=by by_cases h:a<b<;>simp[h]<;>omega
def aiI (e:AY) (l:List AY) (now:Int) (f:l.length≤1000) (j:Dx l):(jP l e now).bind S9=some (ny e l now):=by
 have u:=(bn j).1;unfold jP ny;rw[aJO l _ f,aNn l f j];simp only[Ac];rw[Yp _ _ AA,Yp _ _ AA];simp only[aNz,Ac,aHW,ajX]
 have z:decide (ED (FY l) e.Key<ED (FY l) e.bG)= !decide (ED (FY l) e.bG≤ED (FY l) e.Key):=by
  by_cases h:ED (FY l) e.Key<ED (FY l) e.bG<;>simp[h]<;>omega
 have s:(now != 4)= !(now==4):=rfl;rw[s];generalize decide (ED (FY l) e.Key<ED (FY l) e.bG)=t;generalize decide (ED (FY l) e.bG<(FY l).gB)=i;generalize decide (ED (FY l) e.bG<(FY l).lV)=b;generalize decide (ED (FY l) e.bG<(FY l).jI)=k;generalize(now==4)=n;cases LD l e.bG==3 with
 |false=>rfl
 |true=>
  by_cases m:e.Content.N=1
  ·rw[m];cases i<;>rfl
  rw[show(e.Content.N==1)=false by simpa using m];by_cases q:e.Content.N=0
  ·rw[q];cases n<;>cases b<;>cases k<;>cases t<;>rfl
  rw[show(e.Content.N==0)=false by simpa using q];cases e.Content.N==4<;>cases b<;>cases t<;>rfl
def ajL (e:AY) (l:List AY) (now:Int) (f:l.length≤1000) (h:Dx l):aEH e l now=some (ny e l now):=by
 have j:=(bn h).1;unfold aEH ny;rw[aMn l _ f,aJb l f];simp only[Ac];rw[Xe _ _ AA,Xe _ _ AA];simp only[Ac,JZ,eP,TI,bne]
def apL (e:AY) (l:List AY) (f:l.length≤1000) (j:Dx l):aG4 e l=some (qp e l):=by
 unfold aG4 qp;rw[anz e l f];simp only[Ac];cases gq e l with
 |true=>rfl
 |false=>
  simp only[BZ]
  have n:∀o:Option (Except Value Unit),(o.bind fun q=>(S9 q).bind fun u=>some u)=o.bind S9:=fun o=>by
   cases o with
   |none=>rfl
   |some x=>cases h:S9 x<;>simp[h]
  rw[n];have m:=aiI e l (LD l e.Key) f j;unfold aO3;rw[aJO l _ f,Ia];simp only[Ac];rw[ao8,agq _ _ _ f j];simp only[Ac,aNz,adE,aHW,acV,JZ];have z:(LD l e.Key != 4)= !(LD l e.Key==4):=rfl;rw[z];generalize jP l e (LD l e.Key)=J at m;generalize decide (e.Key=e.bG)=s;cases s with
  |true=>
   cases LD l e.Key==4 with
   |true=>rfl
   |false=>cases moveB (LD l e.Key) e.Content.N true<;>rfl
  |false=>
   cases moveB (LD l e.Key) e.Content.N false with
   |false=>rfl
   |true=>exact m
def aj0 (e:AY) (l:List AY) (f:l.length≤1000) (h:Dx l):yN e l=some (qp e l):=by
 unfold yN qp;rw[aqP e l f,aMn l _ f];simp only[Ac];rw[aRn,aqm e _ l f h,ajL e l _ f h,Ia];simp only[Ac,JZ,TI]
def aKL (e:AY) (l:List AY) (f:l.length≤1000) (m:Dx l) (j:I9 e):eX e l=some (QW e l):=by
 have z:=j.sender;have I:=j.room;unfold eX QW
 have n:∀o:Option (Except Value Unit),(o.bind fun q=>(S9 q).bind fun u=>some u)=o.bind S9:=fun o=>by
  cases o with
  |none=>rfl
  |some x=>cases h:S9 x<;>simp[h]
 rw[n];unfold aK6 aEi yj aF3;rw[acd l f,(kP (s:=e.bG) AA).1,(kP (s:=e.Room) AA).1,aJO l _ f,aqX e l f m j,apL e l f m];simp only[Ac,aNz,adE,aHW,acV];show _=some (bif e.Kind==1 then(bif !(Jh l).2&&(splitB e.bG (JU e.bG)).2.1.toList==(splitB e.Room (JU e.Room)).2.1.toList then 0 else 17)else _);cases e.Kind==1 with
 |true=>
  cases(Jh l).2 with
  |true=>rfl
  |false=>cases(splitB e.bG (JU e.bG)).2.1.toList==(splitB e.Room (JU e.Room)).2.1.toList<;>rfl
 |false=>
  cases(Jh l).2 with
  |false=>rfl
  |true=>
   cases e.Kind==2 with
   |true=>rfl
   |false=>cases LD l e.bG==3<;>rfl
def aKb (e:AY) (l:List AY) (f:l.length≤1000) (j:Dx l) (h:I9 e):jU e l=some (QW e l):=by
 have m:=h.sender;have n:=h.room;unfold jU aG5 QW;rw[aSI l f,(kP (s:=e.bG) AA).2,(kP (s:=e.Room) AA).2,aMn l _ f,aqb e l f j h,aj0 e l f j];simp only[Ac];show _=some (bif e.Kind==1 then(bif !(Jh l).2&&(splitB e.bG (JU e.bG)).2.1.toList==(splitB e.Room (JU e.Room)).2.1.toList then 0 else 17)else _);cases e.Kind==1 with
 |true=>
  cases(Jh l).2 with
  |true=>rfl
  |false=>cases(splitB e.bG (JU e.bG)).2.1.toList==(splitB e.Room (JU e.Room)).2.1.toList<;>rfl
 |false=>
  cases(Jh l).2 with
  |false=>rfl
  |true=>
   cases e.Kind==2 with
   |true=>rfl
   |false=>unfold bne;cases LD l e.bG==3<;>rfl
def kY (named:List AY) (k:BI):AY×Bool:=match named.find? (Ei k)with |some x=>(x,true)|none=>(Et,false)
def dU (l:List AY) (s:List BI) (e:AY) (k:BI):AY×Bool:=bif (Gs s k.Kind k.Key).2 then I5 l (Gs s k.Kind k.Key).1 else kY (ofIds l e.bM) k
def TA (l:List AY) (s:List BI) (e:AY) (k:BI):List AY:=bif (dU l s e k).2 then[(dU l s e k).1]else[]
def VE (l:List AY) (s:List BI) (e:AY):List AY:=(keysOf e).flatMap (TA l s e)
def aHv (l:List AY) (s:List BI) (e:AY) (k:BI):(TA l s e k).length≤1:=by
 unfold TA;cases(dU l s e k).2<;>simp
def ad5 (l:List AY) (s:List BI) (e:AY):(VE l s e).length≤5:=by
 have h:=flat_length (f:=TA l s e) (n:=1) (aHv l s e) (keysOf e);have j:=V7 e;unfold VE;omega
def aqf {l:List AY} {s:List BI} {e x:AY} (h:x∈VE l s e):x∈l:=by
 obtain⟨k,_,h⟩:=UG.1 h;unfold TA dU kY at h;cases m:(Gs s k.Kind k.Key).2 with
 |true=>
  rw[m]at h;simp only[Bg]at h;cases f:EM l (Gs s k.Kind k.Key).1 with
  |none=>rw[Qm f]at h;exact absurd h Fv
  |some y=>rw[N7 f]at h;rw[KQ.1 h];exact OY f
 |false=>
  rw[m]at h;simp only[BZ]at h;cases j:(ofIds l e.bM).find? (Ei k)with
  |none=>rw[j]at h;exact absurd h Fv
  |some y=>rw[j]at h;rw[KQ.1 h];exact aIy (U9 j)
def Dx.base {l:List AY} (h:Dx l) (s:List BI) (e:AY):Dx (VE l s e):=fun x f=>h x (aqf f)
def agD (named:List AY) (k:BI) (f:named.length≤1000):aER named k=some (kY named k):=by
 unfold aER;rw[aNo named AA (fun a0=>rD a0 k) (Ei k) fun e=>by unfold rD Ei;rw[Ia];cases e.Kind==k.Kind<;>rfl];exact found_eq named (Ei k) rfl
def aqW (named:List AY) (k:BI) (f:named.length≤1000):aB8 named k.Kind k.Key=some (kY named k):=by
 unfold aB8 aOz;rw[aI4 named (fuel_lt AA) (Ei k) (fun i=>some (match named[i]? with |some x=>(x,true)|none=>(Et,false))) (some (Et,false))]
 ·exact aN5 named _
 ·intro k2 i h;unfold aOe;rw[Ce h,CQ h,Dn h];simp only[Ac];rw[Ia];unfold Ei;cases named[i].Kind==k.Kind<;>cases decide (named[i].Key=k.Key)<;>rfl
 intro k2;unfold aOe;rw[Dk]
def alS (l:List AY) (s:List BI) (e:AY) (j:l.length≤1000) (q:e.bM.length≤40) (m:J5 s) (f:s.length≤1000000):aBe l s e=some (VE l s e):=by
 unfold aBe;have u:=Zh l e.bM;have z:=V7 e;have n:JM 376 Et 0 5=some []:=by unfold JM;rw[D7 aAK];rfl
 rw[ap1 l _ j AA,n,aSR];simp only[Ac];unfold aTT;rw[Gw (keysOf e) AA (fun r k=>r++TA l s e k) (fun i r=>r.length≤i) (fun r=>some r) (E9 _)]
 ·rw[foldl_append (TA l s e),IE];rfl
 ·intro k r i h I;have J:=aHv l s e (keysOf e)[i];refine⟨KC,?_⟩;unfold aOT aA0 aC3;rw[Ce h,agD _ _ AA,aIM s _ _ f m];simp only[Ac];rw[OG l _ AA,DZ FU];simp only[Ac];rw[DZ FU];unfold TA dU;cases(Gs s (keysOf e)[i].Kind (keysOf e)[i].Key).2 with
  |true=>
   simp only[Bg];cases(I5 l (Gs s (keysOf e)[i].Kind (keysOf e)[i].Key).1).2 with
   |true=>rfl
   |false=>simp
  |false=>
   simp only[BZ];cases(kY (ofIds l e.bM) (keysOf e)[i]).2 with
   |true=>rfl
   |false=>simp
 intro k r _;unfold aOT;rw[Dk]
def aqs (l:List AY) (s:List BI) (e:AY) (j:l.length≤1000) (m:e.bM.length≤40) (f:s.length≤1000000):aB1 l s e=some (VE l s e):=by
 unfold aB1;have n:=Zh l e.bM;have q:=V7 e;rw[aNH,aIr l _ j AA];simp only[Ac];unfold aPD;rw[Gw (a0:=[]) (keysOf e) AA (fun r k=>r++TA l s e k) (fun i r=>r.length≤i) (fun r=>some r) (E9 _)]
 ·rw[foldl_append (TA l s e),IE];rfl
 ·intro k r i h u;have z:=aHv l s e (keysOf e)[i];refine⟨KC,?_⟩;unfold aIm aCC aGO;rw[dec_lt h,CQ h];simp only[Bg,Ac];rw[aqW _ _ AA,aLW s _ _ f];simp only[Ac];rw[Lp l _ AA,DZ FU];simp only[Ac];rw[DZ FU];unfold TA dU;cases(Gs s (keysOf e)[i].Kind (keysOf e)[i].Key).2 with
  |true=>
   simp only[Bg];cases(I5 l (Gs s (keysOf e)[i].Kind (keysOf e)[i].Key).1).2 with
   |true=>rfl
   |false=>simp
  |false=>
   simp only[BZ];cases(kY (ofIds l e.bM) (keysOf e)[i]).2 with
   |true=>rfl
   |false=>simp
 intro k r _;unfold aIm;rw[DW];rfl
def XI (l:List AY) (s:List BI) (id:Int):Bool:=dS l id&&(HY (ev l id).Kind&&QW (ev l id) (VE l s (ev l id))==0)
def Qj (l:List AY) (s:List BI) (id:Int):List BI:=bif XI l s id then FN s (ev l id).Kind (ev l id).Key (ev l id).Id else s
def RH (l:List AY) (s:List BI) (ids:List Int):List BI:=ids.foldl (Qj l) s
def aac {l:List AY} {s:List BI} (h:J5 s) (id:Int):J5 (Qj l s id):=by
 unfold Qj;cases XI l s id with
 |true=>exact Vt h _ _ _
 |false=>exact h
def aNk {l:List AY}:∀{ids:List Int} {s:List BI},J5 s→J5 (RH l s ids)
 | [],_,h=>h
 |id::ids,s,h=>aNk (ids:=ids) (aac h id)
def aLJ (l:List AY) (s:List BI) (id:Int):(Qj l s id).length≤s.length+1:=by
 unfold Qj;cases XI l s id with
 |true=>exact P7 _ _ _ _
 |false=>exact Nat.le_succ _
def aGE (l:List AY):∀(ids:List Int) (s:List BI),(RH l s ids).length≤s.length+ids.length
 | [],s=>E9 _
 |id::ids,s=>by
  have f:=aGE l ids (Qj l s id);have h:=aLJ l s id;show(RH l (Qj l s id) ids).length≤_;rw[Fp];omega
def aUb {l:List AY} (f:Dx l) {id:Int} (h:dS l id=true):I9 (ev l id):=f _ (OY (Qe h).1)
def afx (l:List AY) (s:List BI) (id:Int) (I:l.length≤1000) (q:Dx l) (m:J5 s) (h:s.length≤1000000):Mem l s id=some (Qj l s id):=by
 unfold Mem aHI qg Qj XI;have f:aDg s (.error (.iface 317 (.agg #[])):Except Value (List BI))=some s:=rfl;rw[OG l _ AA];simp only[Ac];rw[OO];cases u:(EM l id).isSome with
 |false=>rw[show dS l id=false from u];exact f
 |true=>
  have j:dS l id=true:=u;have z:=aUb q j;have n:(I5 l id).1=ev l id:=rfl;rw[j,n,aOn];simp only[Ac,EW,BZ,Fe];cases HY (ev l id).Kind with
  |false=>exact f
  |true=>
   have J:=ad5 l s (ev l id);rw[alS l s _ I z.auth m h];simp only[Ac,EW,BZ,Fe];rw[aKL _ _ AA (q.base s _) z];simp only[Ac];rw[XE s _ _ _ h];unfold bne;cases QW (ev l id) (VE l s (ev l id))==0 with
   |true=>rfl
   |false=>exact f
def aRA (l:List AY) (s:List BI) (ids:List Int) (m:l.length≤1000) (n:Dx l) (f:J5 s) (q:s.length+ids.length≤1000000):YX l s ids=some (RH l s ids):=by
 unfold YX aBm;rw[DZ Uf];simp only[Ac,IE];unfold aby;rw[Gw ids AA (Qj l) (fun i r=>J5 r∧r.length≤s.length+i) (fun r=>some r) ⟨f,E9 _⟩]
 ·rfl
 ·intro k r i h j;have u:=aLJ l r ids[i];refine⟨⟨aac j.1 _,AA⟩,?_⟩;unfold aJa;rw[Ce h,afx l r _ m n j.1 AA];rfl
 intro k r _;unfold aJa;rw[Dk]
def adP (l:List AY) (s:List BI) (ids:List Int) (u:l.length≤1000) (m:Dx l) (z:s.length+ids.length≤1000000):aF l s ids=some (RH l s ids):=by
 unfold aF;rw[DZ Uf];simp only[Ac,IE];unfold aaC;rw[Gw ids AA (Qj l) (fun i r=>r.length≤s.length+i) (fun r=>some r) (E9 _)]
 ·rfl
 ·intro k r i h I;have J:=aLJ l r ids[i];refine⟨AA,?_⟩;unfold aIc rZ aF7 Qj XI;rw[Ce h,Lp l _ AA];simp only[Ac];rw[OO];cases n:(EM l ids[i]).isSome with
  |false=>rw[show dS l ids[i]=false from n];rfl
  |true=>
   have f:dS l ids[i]=true:=n;have q:=aUb m f;have j:(I5 l ids[i]).1=ev l ids[i]:=rfl;rw[f,j,aCa];simp only[Ac,Bg,Fe];cases HY (ev l ids[i]).Kind with
   |false=>rfl
   |true=>
    have L:=ad5 l r (ev l ids[i]);rw[aqs l r _ u q.auth AA];simp only[Ac,Bg,Fe];rw[aKb _ _ AA (m.base r _) q];simp only[Ac];rw[aKo r _ _ _ AA];cases QW (ev l ids[i]) (VE l r (ev l ids[i]))==0<;>rfl
 intro k r _;unfold aIc;rw[Dk]
def Md (l:List AY) (f:List (List BI)):List Int:=X9 l (Jf l f)
def NS (l:List AY) (f:List (List BI)):List Int:=NQ l (F9 l (Md l f)).length (F9 l (Md l f))
def Iu (l:List AY) (f:List (List BI)):List BI:=RH l (Hg f) (NS l f)
def Xn (l:List AY) (f:List (List BI)):List Int:=bif (Gs (Iu l f) 3 Bf).2 then jK l (Gs (Iu l f) 3 Bf).1 else[]
def NJ (l:List AY) (f:List (List BI)):List Int:=Tn l (Xn l f) (OJ (Jf l f) (Md l f))
def qw (s a:List BI):List BI:=a.foldl (fun s x=>FN s x.Kind x.Key x.Id) s
def lastOf (l:List AY) (f:List (List BI)):List BI:=qw (RH l (Iu l f) (NJ l f)) (Hg f)
structure KT (l:List AY) (sts:List (List BI)):Prop where
 len:l.length≤100
 small:Dx l
 states:NT sts
def gW {l:List AY} {f:List (List BI)} (h:KT l f):(Jf l f).length≤40000:=by
 have u:=h.len;have z:=aFH h.states;have I:=MK (Pq f);have j:=aCM l f [] fun s m=>(h.states.2 s m).1;have n:=h.states.1;have q:=Kt (fun x=>decide (JH l f x<f.length)) (allOf l f);have J:f.length*(100+l.length)≤100*200:=aDe n AA;have L:=aHQ (EX (Pq f)) (QU l f)
 have M:(QU l f).length≤20000:=by
  unfold QU;unfold allOf at q ⊢;simp only[Lm]at j;omega
 unfold Jf;omega
def apf {l:List AY} {f:List (List BI)} (h:KT l f):(O8 l (Jf l f)).length≤40000:=Ej (Kt _ _) (gW h)
def aK2 {l:List AY} {f:List (List BI)} (h:KT l f):(NS l f).length≤100:=by
 have m:=ab4 l (F9 l (Md l f)).length (F9 l (Md l f));have n:(F9 l (Md l f)).length≤l.length:=kW (Ya _ _) fun x j=>(MV.1 j).2;have q:=h.len;unfold NS;omega
def aCX {l:List AY} {f:List (List BI)} (h:KT l f):(Iu l f).length≤200:=by
 have j:=aGE l (NS l f) (Hg f);have m:=aK2 h;have n:=YR h.states;unfold Iu;omega
def aLy {l:List AY} {f:List (List BI)} (h:KT l f):J5 (Iu l f):=aNk (aQF h.states)
def adG {l:List AY} {f:List (List BI)} (h:KT l f):(Xn l f).length≤100:=by
 have j:=aOo l (Gs (Iu l f) 3 Bf).1;have m:=h.len;unfold Xn;cases(Gs (Iu l f) 3 Bf).2 with
 |true=>simp only[Bg];omega
 |false=>exact EY _
def abL {l:List AY} {f:List (List BI)} (h:KT l f):(NJ l f).length≤40000:=by
 have j:=amF l (Xn l f) (OJ (Jf l f) (Md l f));have m:=aIa (Jf l f) (Md l f);have n:=gW h;unfold NJ;omega
def an5 {l:List AY} {f:List (List BI)} (h:KT l f):oq (Jf l f) (Md l f) l (Iu l f,NS l f) (Hg f,EX (Pq f)) (Xn l f)=some ⟨lastOf l f,NS l f,NJ l f⟩:=by
 have n:=h.len;have q:=gW h;have u:=aGK l (Jf l f);have z:=adG h;have I:=aIa (Jf l f) (Md l f);have J:=aCX h;have L:=abL h;have M:=YR h.states;unfold oq aO7 aOi;rw[aip _ _ AA (by unfold Md;omega)];simp only[Ac];rw[atP l _ _ AA h.small AA AA (Xd (aLS _ _))];simp only[Ac];show((YX l (Iu l f) (NJ l f)).bind _).bind _=_;rw[aRA l _ _ AA h.small (aLy h) AA];simp only[Ac];unfold abl;have O:=aGE l (NJ l f) (Iu l f);show aV _ Az 0 (⟨RH l (Iu l f) (NJ l f),NS l f,NJ l f⟩:Na)=_;rw[zy (Hg f) AA (fun v x=>({ v with DK:=FN v.DK x.Kind x.Key x.Id }:Na)) (fun i v=>v.DK.length≤(RH l (Iu l f) (NJ l f)).length+i) (fun v=>some v) (E9 _)]
 ·congr 1;unfold lastOf qw
  have key:∀(a:List BI) (v:Na),a.foldl (fun v x=>({ v with DK:=FN v.DK x.Kind x.Key x.Id }:Na)) v=⟨a.foldl (fun s x=>FN s x.Kind x.Key x.Id) v.DK,v.adM,v.arL⟩:=by
   intro a
   induction a with
   |nil=>intro v;rfl
   |cons x a j=>intro v;rw[G6,j];rfl
  rw[key]
 ·intro k v i hi S;have m:=P7 v.DK (Hg f)[i].Kind (Hg f)[i].Key (Hg f)[i].Id;refine⟨by show(FN _ _ _ _).length≤_;omega,?_⟩;unfold aJV;rw[Ce hi,XE _ _ _ _ AA];rfl
 intro k v _;unfold aJV;rw[Dk]
def ako {l:List AY} {f:List (List BI)} (h:KT l f):aBu l f=some ⟨lastOf l f,NS l f,NJ l f⟩:=by
 have n:=h.len;have q:=gW h;have s:=aGK l (Jf l f);have u:=apf h;have z:=aCX h;have I:=aK2 h;have J:=YR h.states;have j:=an5 h;unfold aBu;rw[abv f h.states,afy l f AA h.small.ajE h.states];simp only[Ac];rw[ahs l _ AA h.small AA AA];simp only[Ac];unfold aK3 aHC;rw[asg l _ AA h.small AA];simp only[Ac];have ha:YX l (Hg f) (NS l f)=some (Iu l f):=aRA l _ _ AA h.small (aQF h.states) AA;unfold NS Md at ha;rw[ha];simp only[Ac];rw[aIM _ _ _ AA (aLy h)];simp only[Ac];rw[anI l _ AA h.small];unfold Xn at j;cases m:(Gs (Iu l f) 3 Bf).2 with
 |true=>rw[m]at j;exact j
 |false=>rw[m]at j;exact j
def amG {l:List AY} {f:List (List BI)} (h:KT l f):lW (Jf l f) (Md l f) l (Hg f,EX (Pq f)) (NS l f) (Iu l f) (Xn l f)=some ⟨Hg f,NS l f,Iu l f,NJ l f,lastOf l f⟩:=by
 have q:=h.len;have u:=gW h;have z:=aGK l (Jf l f);have I:=adG h;have J:=aIa (Jf l f) (Md l f);have L:=aCX h;have M:=abL h;have O:=YR h.states;unfold lW;rw[yX _ _ AA (by unfold Md;omega)];simp only[Ac];rw[amY l _ _ AA h.small AA AA (Xd (aLS _ _))];simp only[Ac];show(aF l (Iu l f) (NJ l f)).bind _=_;rw[adP l _ _ AA h.small AA];simp only[Ac];unfold aPc;have S:=aGE l (NJ l f) (Iu l f);show aV _ Az 0 (⟨Hg f,NS l f,Iu l f,NJ l f,RH l (Iu l f) (NJ l f)⟩:NR)=_;rw[zy (Hg f) AA (fun v x=>({ v with Last:=FN v.Last x.Kind x.Key x.Id }:NR)) (fun i v=>v.Same=Hg f∧v.Last.length≤(RH l (Iu l f) (NJ l f)).length+i) (fun v=>some v) ⟨rfl,E9 _⟩]
 ·congr 1;unfold lastOf qw
  have key:∀(a:List BI) (v:NR),a.foldl (fun v x=>({ v with Last:=FN v.Last x.Kind x.Key x.Id }:NR)) v=⟨v.Same,v.Power,v.First,v.Others,a.foldl (fun s x=>FN s x.Kind x.Key x.Id) v.Last⟩:=by
   intro a
   induction a with
   |nil=>intro v;rfl
   |cons x a m=>intro v;rw[G6,m];rfl
  rw[key]
 ·intro k v i hi j;have n:=P7 v.Last (Hg f)[i].Kind (Hg f)[i].Key (Hg f)[i].Id;refine⟨⟨j.1,by show(FN _ _ _ _).length≤_;omega⟩,?_⟩;unfold aOd;rw[j.1,dec_lt hi,CQ hi];simp only[Bg,Ac];rw[aKo _ _ _ _ AA];rfl
 intro k v j;unfold aOd;rw[j.1,DW];rfl
def apD {l:List AY} {f:List (List BI)} (h:KT l f):aG7 l f=some ⟨Hg f,NS l f,Iu l f,NJ l f,lastOf l f⟩:=by
 have n:=h.len;have q:=gW h;have s:=aGK l (Jf l f);have u:=aCX h;have z:=aK2 h;have I:=YR h.states;have j:=amG h;unfold aG7;rw[aQm f h.states,arY l f AA h.small.ajE h.states];simp only[Ac];rw[asj l _ AA h.small AA];simp only[Ac];rw[afr l _ AA h.small AA];simp only[Ac];have ha:aF l (Hg f) (NS l f)=some (Iu l f):=adP l _ _ AA h.small AA;unfold NS Md at ha;rw[ha];simp only[Ac];rw[aLW _ _ _ AA];simp only[Ac];rw[aSu l _ AA h.small];unfold Xn at j;cases m:(Gs (Iu l f) 3 Bf).2 with
 |true=>rw[m]at j;exact j
 |false=>rw[m]at j;exact j
def aGz (a:List BI) (h:a.length≤1000000):XQ a a=some true:=by
 unfold XQ;rw[show((a.length:Int) != (a.length:Int))=false by simp];simp only[BZ];unfold aaD;have f:a.any (fun _=>false)=false:=by rw[aLR];exact fun _ _ h=>I4
 rw[GL a (fuel_lt AA) (fun _=>false) false (some true)]
 ·rw[f];rfl
 ·intro k i hi;unfold aKs rM;rw[dec_lt hi,CQ hi];simp only[Bg,Ac];rw[show(a[i].Kind != a[i].Kind)=false by simp,show(!(a[i].Key.toList==a[i].Key.toList))=false by simp,show(a[i].Id != a[i].Id)=false by simp];rfl
 intro k;unfold aKs;rw[DW];rfl
def iR (l:List AY) (f:List (List BI)):List BI:=match f with
 | []=>[]
 | [s]=>s
 |_=>lastOf l f
def aTS {l:List AY} {f:List (List BI)} (h:KT l f):kQ l f=some (iR l f):=by
 match f,h with
 | [],_=>rfl
 | [s],h=>
   have u:=(h.states.2 s (GR ..)).1;have j:Aq [s] 0=some s:=rfl;show((Aq [s] 0).bind fun m=>(CZ 32 [] m).bind fun n=>some n)=some s;rw[j];simp only[Ac];rw[DZ Uf];rfl
 |s::t::f,h=>
  unfold kQ;have j:(((s::t::f).length:Int)==0)=false:=aBI
  have q:(((s::t::f).length:Int)==1)=false:=aBI
  rw[j,q,ako h];rfl
def aPm {l:List AY} {f:List (List BI)} (h:KT l f):pX l f=some (iR l f):=by
 match f,h with
 | [],_=>rfl
 | [s],_=>rfl
 |s::t::f,h=>
  unfold pX;have j:(((s::t::f).length:Int)==0)=false:=aBI
  have m:(((s::t::f).length:Int)==1)=false:=aBI
  rw[j,m,apD h];rfl
def KT.of {l:List AY} {f:List (List BI)} (j:l.length≤14∧Dx l) (h:f.length≤100∧∀s∈f,s.length≤20∧J5 s):KT l f:=
 ⟨by have :=j.1;omega,j.2,⟨h.1,fun s m=>⟨by have :=(h.2 s m).1;omega,(h.2 s m).2⟩⟩⟩
def aPr {x:BI}:∀(a s:List BI),x∈qw s a→x∈a∨x∈s
 | [],_,h=>.inr h
 |y::a,s,h=>by
  rcases aPr a _ h with h|h
  ·exact .inl (Hr _ h)
  rcases Sm h with h|h
  ·left;rw[h];cases y;exact GR ..
  exact .inr h
def aa4 (l:List AY) (ids:List Int) (x:BI):Prop:=∃id∈ids,dS l id=true∧HY (ev l id).Kind=true∧x=⟨(ev l id).Kind,(ev l id).Key,(ev l id).Id⟩
def aNb {l:List AY} {x:BI}:∀(ids:List Int) (s:List BI),x∈RH l s ids→x∈s∨aa4 l ids x
 | [],_,h=>.inl h
 |id::ids,s,h=>by
  rcases aNb ids _ h with h|⟨j,n,h⟩
  ·have f:x∈bif XI l s id then FN s (ev l id).Kind (ev l id).Key (ev l id).Id else s:=h
   cases m:XI l s id with
   |false=>rw[m]at f;exact .inl f
   |true=>
    rw[m]at f;rcases Sm f with f|f
    ·unfold XI at m;simp only[DJ]at m;exact .inr ⟨id,GR ..,m.1,m.2.1,f⟩
    exact .inl f
  exact .inr ⟨j,Hr _ n,h⟩
def aj2 {l:List AY} {f:List (List BI)} {x:Int} (h:x∈Md l f):x∈Jf l f:=(aOX.1 h).1
def acE {l:List AY} {f:List (List BI)} {x:BI} (h:x∈lastOf l f):x∈Hg f∨aa4 l (Jf l f) x:=by
 unfold lastOf at h;rcases aPr _ _ h with h|h
 ·exact .inl h
 rcases aNb _ _ h with h|⟨j,m,h⟩
 ·unfold Iu at h;rcases aNb _ _ h with h|⟨j,m,h⟩
  ·exact .inl h
  exact .inr ⟨j,aj2 (MV.1 (aaN _ _ _ m)).1,h⟩
 exact .inr ⟨j,(aPL.1 (aoi.1 m).1).1,h⟩
def abh :∀(a s:List BI),J5 s→J5 (qw s a)
 | [],_,h=>h
 |x::a,s,h=>abh a _ (Vt h x.Kind x.Key x.Id)
def ai1 {l:List AY} {f:List (List BI)} (h:KT l f):J5 (lastOf l f):=abh _ _ (aNk (aLy h))
structure IQ (l:List AY) (s:List BI):Prop where
 sorted:J5 s
 named:∀x∈s,dS l x.Id=true∧HY x.Kind=true∧(ev l x.Id).Kind=x.Kind∧(ev l x.Id).Key=x.Key
def IQ.nil (l:List AY):IQ l []:=⟨List.Pairwise.nil,fun _ h=>absurd h Fv⟩
def IQ.nodup {l:List AY} {s:List BI} (h:IQ l s):(s.map (·.Id)).Nodup:=by
 rw[aaE,aKx];refine List.Pairwise.imp_of_mem ?_ h.sorted;intro a b ha j f e;obtain⟨_,_,m,k2⟩:=h.named a ha;obtain⟨_,_,n,q⟩:=h.named b j;have u:a.Kind=b.Kind:=by rw[←m,←n,e]
 have z:a.Key=b.Key:=by rw[←k2,←q,e]
 rw[pz (VX.2 ⟨u,z⟩)]at f;cases f
def IQ.length {l:List AY} {s:List BI} (h:IQ l s):s.length≤l.length:=by
 have :Tm l (s.map (·.Id)):=⟨h.nodup,fun x f=>by
  obtain⟨y,j,rfl⟩:=Fh.1 f
  exact(h.named y j).1⟩
 have :=this.length
 rwa [D6]at this
def IQ.okay {l:List AY} {f:List (List BI)} (j:l.length≤100) (n:Dx l) (q:f.length≤100) (h:∀s∈f,IQ l s):KT l f:=
 ⟨j,n,q,fun s m=>⟨Ej (h s m).length j,(h s m).sorted⟩⟩
def IQ.resolve {l:List AY} {f:List (List BI)} (j:KT l f) (h:∀s∈f,IQ l s):IQ l (iR l f):=by
 match f,j,h with
 | [],_,_=>exact .nil l
 | [s],_,h=>exact h s (GR ..)
 |s::t::f,j,h=>
  refine⟨ai1 j,fun x u=>?_⟩;rcases acE u with z|⟨id,_,q,hst,m⟩
  ·exact(h s (GR ..)).named x ((aQY j.states (List.cons_ne_nil _ _)).1 z s (GR ..))
  have n:=Qe q;have I:x.Id=id:=by rw[m];exact n.2
  rw[I];exact⟨q,by rw[m];exact hst,by rw[m],by rw[m]⟩
def IQ.set {l:List AY} {s:List BI} (h:IQ l s) {e:AY} (m:dS l e.Id=true) (j:ev l e.Id=e) (hst:HY e.Kind=true):IQ l (FN s e.Kind e.Key e.Id):=
 ⟨Vt h.sorted _ _ _,fun x f=>by
  rcases Sm f with rfl|f
  ·exact⟨m,hst,by rw[j],by rw[j]⟩
  exact h.named x f⟩
def WS (l:List AY) (e:AY):Bool:=e.bK.all (dS l)&&e.bM.all (dS l)
def XA (l:List AY):Bool:=l.all (WS l)
def Yr {α:Type} {l:List α} {p:α→Bool} {x:α} (h:x∈l) (f:p x=false):l.all p=false:=by
 rw[←Kz,ER];exact fun j=>by rw[j x h]at f;cases f
def all_good {α:Type} {l:List α} {p:α→Bool} (h:∀j,(hj:j<l.length)→p l[j]=true):l.all p=true:=ER.2 (afu h)
def ae7 (f:List Int) (l:List AY) (m:List (Int×Int)) (h:WV l m) (j:f.length≤1000):sN f m=some (f.all (dS l)):=by
 unfold sN aSz;rw[GL f (fuel_lt AA) (fun x=> !dS l x) false (some true)]
 ·rw[List.all_eq_not_any_not];cases(f.any fun x=> !dS l x)<;>rfl
 ·intro k i hi;unfold aMM;rw[Ce hi,h.isSome]
 intro k;unfold aMM;rw[Dk]
def aiF (l:List AY) (I:l.length≤100) (J:Dx l):aDw l=some (XA l):=by
 refine fK.eq ?_;unfold aDw;refine(lq l AA).bind fun m s=>?_;unfold aQi;refine Xv (body:=aMS l) (Q:=fun b=>b=XA l) (fun n a b=>∃i:Nat,a=i∧i+n=l.length∧b=m∧∀j,(f:j<i)→(I:j<l.length)→WS l l[j]=true) ?_ Az l.length 0 m (fuel_lt AA) ⟨0,rfl,AA,rfl,fun j f=>AA⟩;rintro n a b k ⟨i,rfl,M,rfl,u⟩ L;unfold aMS;by_cases hi:i<l.length
 ·have z:=J l[i] (ET hi);have O:=z.prev;have S:=z.auth;rw[Ce hi,ae7 _ l b s AA,Ac,CQ hi,Ac,ae7 _ l b s AA];cases h:l[i].bK.all (dS l)with
  |false=>exact .ret (Yr (ET hi) (by unfold WS;rw[h];rfl)).symm
  |true=>
   cases ha:l[i].bM.all (dS l)with
   |false=>exact .ret (Yr (ET hi) (by unfold WS;rw[h,ha];rfl)).symm
   |true=>
    refine L (n-1) _ _ AA ⟨i+1,wrap_succ i AA,AA,rfl,fun j f q=>?_⟩;by_cases e:j=i
    ·subst e;unfold WS;rw[h,ha];rfl
    exact u j AA q
 have :i=l.length:=AA
 subst this;rw[Dk];exact .ret (all_good fun j f=>u j f f).symm
def ZU (l:List AY):List Int:=l.foldl (fun r e=>e.bM.foldl put (e.bK.foldl put r)) []
def agr {l:List AY} {i:Nat} (hi:i<l.length) (f:List Int→Int→Option (List Int)) (v:List Int) (n:Inc v) (q:v.length≤900000) (ha:l[i].bM.length≤40):
 aBP l (i:Int) f v 0=f (l[i].bM.foldl put v) (BA ((i:Int)+1)):=by
 unfold aBP;rw[Gw l[i].bM AA put (fun j a=>Inc a∧a.length≤v.length+j) (fun a=>f a (BA ((i:Int)+1))) ⟨n,AA⟩]
 ·intro k a j h m;have s:=fC a l[i].bM[j];refine⟨⟨Rn m.1,AA⟩,?_⟩;unfold aJ7;rw[CQ hi,Ac,dec_lt h,Bg,Ac,CQ h,Ac,aHB a _ m.1 AA,Ac]
 intro k a _;unfold aJ7;rw[CQ hi,Ac,DW];rfl
def agV {l:List AY} {i:Nat} (hi:i<l.length) (f:List Int→Int→Option (List Int)) (v:List Int) (m:Inc v) (u:v.length≤800000) (s:l[i].bK.length≤40) (ha:l[i].bM.length≤40):
 aKX l (i:Int) f v 0=f (l[i].bM.foldl put (l[i].bK.foldl put v)) (BA ((i:Int)+1)):=by
 unfold aKX;rw[Gw l[i].bK AA put (fun j a=>Inc a∧a.length≤v.length+j) (fun a=>aBP l (i:Int) f a 0) ⟨m,AA⟩]
 ·have h:=jM l[i].bK v;exact agr hi f _ (aGh m) AA ha
 ·intro k a j n q;have s:=fC a l[i].bK[j];refine⟨⟨Rn q.1,AA⟩,?_⟩;unfold aIs;rw[CQ hi,Ac,dec_lt n,Bg,Ac,CQ n,Ac,aHB a _ q.1 AA,Ac]
 intro k a _;unfold aIs;rw[CQ hi,Ac,DW];rfl
def aAC :∀(l:List AY) (r:List Int),Inc r→(∀e∈l,e.bK.length≤40∧e.bM.length≤40)→
 Inc (l.foldl (fun r e=>e.bM.foldl put (e.bK.foldl put r)) r)∧(l.foldl (fun r e=>e.bM.foldl put (e.bK.foldl put r)) r).length≤r.length+l.length*80∧
 ∀x,x∈l.foldl (fun r e=>e.bM.foldl put (e.bK.foldl put r)) r↔x∈r∨∃e∈l,x∈e.bK∨x∈e.bM
 | [],r,h,_=>⟨h,BU,fun x=>BU⟩
 |e::l,r,h,j=>by
  have s:=j e (GR ..);obtain⟨m,u,n⟩:=aAC l (e.bM.foldl put (e.bK.foldl put r)) (aGh (aGh h)) fun x q=>j x (Hr _ q);have z:=jM e.bK r;have I:=jM e.bM (e.bK.foldl put r);rw[G6];refine⟨m,by rw[Fp];omega,fun x=>(n x).trans ?_⟩;rw[aJK,aJK];constructor
  ·rintro(((h|h)|h)|⟨y,f,h⟩)
   ·exact .inl h
   ·exact .inr ⟨e,GR ..,.inl h⟩
   ·exact .inr ⟨e,GR ..,.inr h⟩
   exact .inr ⟨y,Hr _ f,h⟩
  rintro(h|⟨y,f,h⟩)
  ·exact .inl (.inl (.inl h))
  rcases F6.1 f with rfl|f
  ·exact h.elim (fun h=>.inl (.inl (.inr h))) fun h=>.inl (.inr h)
  exact .inr ⟨y,f,h⟩
def Dx.lists {l:List AY} (f:Dx l):∀e∈l,e.bK.length≤40∧e.bM.length≤40:=fun e h=>⟨(f e h).prev,(f e h).auth⟩
def asI {l:List AY} {i:Nat} (h:i<l.length):(l.take (i+1)).foldl (fun r e=>e.bM.foldl put (e.bK.foldl put r)) ([]:List Int)=l[i].bM.foldl put (l[i].bK.foldl put ((l.take i).foldl (fun r e=>e.bM.foldl put (e.bK.foldl put r)) [])):=by
 rw[TN,Dn h,Pj,Vy];rfl
def aoe (l:List AY) (s:l.length≤1000) (f:Dx l):aDb l=some (ZU l):=by
 unfold aDb ac7;refine fK.eq (Jm l.length (fuel_lt AA) (fun i a=>a=(l.take i).foldl (fun r e=>e.bM.foldl put (e.bK.foldl put r)) []) rfl (fun i a k hi ha m=>?_) fun a k ha=>?_)
 ·subst ha;obtain⟨n,h,_⟩:=aAC (l.take i) [] .nil fun e q=>f.lists e (uO q);have j:=f.lists l[i] (ET hi);unfold aN9;rw[dec_lt hi,Bg,agV hi k _ n (by rw[Fa]at h;simp only[Lm]at h;omega) j.1 j.2,wrap_succ i AA];exact m _ (asI hi).symm
 unfold aN9;rw[DW];refine .ret ?_;rw[ha,GY];rfl
def ahA {l:List AY} (f:Dx l):(ZU l).length≤l.length*80:=by
 have :=(aAC l [] .nil f.lists).2.1;unfold ZU;simpa using this
def aRQ {l:List AY} (f:Dx l) {x:Int}:x∈ZU l↔∃e∈l,x∈e.bK∨x∈e.bM:=by
 have :=(aAC l [] .nil f.lists).2.2 x;unfold ZU;rw[this];simp
def ajW {l:List AY}:XA l=true↔∀e∈l,(∀x∈e.bK,dS l x=true)∧∀x∈e.bM,dS l x=true:=by
 unfold XA WS;simp only[ER,DJ]
def arG (l:List AY) (q:l.length≤1000) (j:Dx l):zZ l=some (XA l):=by
 have J:=ahA j;unfold zZ;rw[aoe l q j,Ac,aGr l _ q AA,Ac];refine BX some ?_;rw[QM,ajW];constructor
 ·intro h e m;have n:Xk l (ZU l)=[]:=Gt aND
  have key:∀x,x∈e.bK∨x∈e.bM→dS l x=true:=fun x f=>by
   cases u:dS l x with
   |true=>rfl
   |false=>have :=aN2.2 ⟨(aRQ j).2 ⟨e,m,f⟩,u⟩;rw[n]at this;cases this
  exact⟨fun x f=>key x (.inl f),fun x f=>key x (.inr f)⟩
 intro h
 have n:Xk l (ZU l)=[]:=List.eq_nil_iff_forall_not_mem.2 fun x f=>by
  obtain⟨z,s⟩:=aN2.1 f;obtain⟨e,m,I⟩:=(aRQ j).1 z;rw[I.elim ((h e m).1 x) ((h e m).2 x)]at s;cases s
 rw[n];rfl
def jl (l:List AY):Prop:=∀e∈l,1≤e.Depth∧e.Depth≤100000
def GN (l:List AY) (x:Int):Int:=(I5 l x).1.Depth
def Ua (l:List AY) (e:AY):Bool:=e.bM.all (fun x=>decide (GN l x<e.Depth))&&bif (e.bK.length:Int)==0 then e.Depth==1 else e.bK.all (fun x=>decide (GN l x<e.Depth))&&e.bK.any fun x=>GN l x==e.Depth-1
def UU (l:List AY):Int:=bif XA l then bif l.all (Ua l)then 0 else 15 else 14
def aPi {l:List AY} (h:jl l) (x:Int):0≤GN l x∧GN l x≤100000:=by
 unfold GN I5;cases f:EM l x with
 |none=>exact⟨Int.le_refl 0,Bd⟩
 |some e=>have :=h e (OY f);exact⟨by show 0≤e.Depth;omega,this.2⟩
def aMy (a b:Int):decide (a≥b)= !decide (a<b):=by by_cases h:a<b<;>simp[h];omega
def qW {α:Type} (l:List α) (p:α→Bool):l.any (fun x=> !p x)= !l.all p:=by rw[List.all_eq_not_any_not,xQ]
def akC (l:List AY) (e:AY) (z:l.length≤1000) (u:I9 e) (hd:jl l) (I:1≤e.Depth∧e.Depth≤100000):vK l e=some (Ua l e):=by
 have S:=u.prev;have U:=u.auth;have w:BA (e.Depth-1)=e.Depth-1:=PN AA AA
 have m:aGo e l ((e.bK.length:Int)==0) 0=some (bif (e.bK.length:Int)==0 then true else e.bK.all (fun x=>decide (GN l x<e.Depth))&&e.bK.any fun x=>GN l x==e.Depth-1):=by
  unfold aGo;refine fK.eq (Jm e.bK.length (fuel_lt AA) (fun i a=>(∀j,(h:j<i)→(z:j<e.bK.length)→decide (GN l e.bK[j]<e.Depth)=true)∧a=(((e.bK.length:Int)==0)||(e.bK.take i).any fun x=>GN l x==e.Depth-1)) ⟨fun j h=>AA,BU⟩ (fun i a k hi ha J=>?_) fun a k ha=>?_)
  ·have L:((e.bK.length:Int)==0)=false:=by simp;intro M;rw[M]at hi;simp at hi
   unfold aBv;rw[Ce hi,Lp l _ AA,Ac,aMy];refine fK.bif (fun f=>.ret ?_) fun f=>?_
   ·have f:decide (GN l e.bK[i]<e.Depth)=false:=by unfold GN;simpa using f
    rw[L,Yr (ET hi) f];rfl
   have f:decide (GN l e.bK[i]<e.Depth)=true:=by unfold GN;simpa using f
   rw[show(bif a then some true else some ((I5 l e.bK[i]).1.Depth==BA (e.Depth-1)))=some (a||(GN l e.bK[i]==e.Depth-1)) by rw[w];cases a<;>rfl,Ac,wrap_succ i AA];refine J _ ⟨fun j h n=>?_,?_⟩
   ·by_cases O:j=i
    ·subst O;exact f
    exact ha.1 j AA n
   rw[ha.2,TN,Dn hi,Pj,aLj,Bool.or_assoc];simp
  unfold aBv;rw[Dk];refine .ret ?_;rw[ha.2,GY,all_good fun j h=>ha.1 j h h];cases((e.bK.length:Int)==0)<;>simp
 unfold vK
 have q:aHr e l 0=some (e.bM.all (fun x=>decide (GN l x<e.Depth))&&(bif (e.bK.length:Int)==0 then true else e.bK.all (fun x=>decide (GN l x<e.Depth))&&e.bK.any fun x=>GN l x==e.Depth-1)):=by
  unfold aHr;rw[GL e.bM (fuel_lt AA) (fun x=> !decide (GN l x<e.Depth)) false (aGo e l ((e.bK.length:Int)==0) 0)]
  ·rw[m,qW];cases e.bM.all (fun x=>decide (GN l x<e.Depth))<;>rfl
  ·intro k i hi;unfold aBn;rw[Ce hi,Lp l _ AA,Ac,aMy];rfl
  intro k;unfold aBn;rw[Dk]
 rw[q];unfold Ua;have s:(e.Depth != 1)= !(e.Depth==1):=rfl;rw[s];cases((e.bK.length:Int)==0)<;>cases(e.Depth==1)<;>cases e.bM.all (fun x=>decide (GN l x<e.Depth))<;>rfl
def aKW {l:List AY} {m:List (Int×Int)} (h:WV l m) {x:Int} (f:dS l x=true):∃e,Aq l ((CX m x).getD 0)=some e∧e.Depth=GN l x:=⟨_,h.get (Qe f).1,rfl⟩
def asL (p:List Int) (f:Int→Int) (d a:Int) (j:∃y∈p,f y=a) (ha:∀y∈p,f y≤a):(p.all (fun x=>decide (f x<d))&&p.any fun x=>f x==d-1)=bif decide (d>a)then d-a==1 else false:=by
 obtain⟨y,j,e⟩:=j;by_cases h:d>a
 ·have q:p.all (fun x=>decide (f x<d))=true:=ER.2 fun x m=>by have :=ha x m;simp;omega
  rw[q,Fe,Ib h,Bg,QM,Hd];constructor
  ·rintro⟨x,m,n⟩;have :=ha x m;have :=eq_of_beq n;simp;omega
  intro n;have :=eq_of_beq n;exact⟨y,j,Dy⟩
 rw[Ir h,BZ,Yr j Dy];rfl
def aqT (l:List AY) (m:List (Int×Int)) (e:AY) (J:WV l m) (O:I9 e) (s:WS l e=true) (hd:jl l) (S:1≤e.Depth∧e.Depth≤100000):aFF l m e=some (Ua l e,m):=by
 have h1:=O.prev;have h2:=O.auth;unfold WS at s;simp only[DJ,ER]at s;unfold aFF abb;rw[GL e.bM (fuel_lt AA) (fun x=> !decide (GN l x<e.Depth)) (false,m) (some ((bif (e.bK.length:Int)==0 then e.Depth==1 else e.bK.all (fun x=>decide (GN l x<e.Depth))&&e.bK.any fun x=>GN l x==e.Depth-1),m))]
 ·rw[qW];unfold Ua;cases e.bM.all (fun x=>decide (GN l x<e.Depth))<;>rfl
 ·intro k i hi;unfold aNm;obtain⟨x,L,j⟩:=aKW J (s.2 _ (ET hi));rw[Ce hi,L,Ac,aMy,j]
 intro k;unfold aNm;rw[Dk];cases n:((e.bK.length:Int)==0)with
 |true=>rfl
 |false=>
  have M:0<e.bK.length:=by
   rcases YD e.bK.length with h|h
   ·rw[h]at n;cases n
   exact h
  obtain⟨x,L,j⟩:=aKW J (s.1 _ (ET M));have U:Aq e.bK 0=some e.bK[0]:=CQ (i:=0) M;rw[BZ,BZ,U,Ac,L,Ac,j];unfold acK;refine fK.eq (Jm e.bK.length (fuel_lt AA) (fun i a=>(0≤a∧a≤100000)∧(∃y∈e.bK,GN l y=a)∧∀y∈e.bK.take i,GN l y≤a) ⟨aPi hd _,⟨_,ET M,rfl⟩,fun y u=>by simp at u⟩ (fun i a k2 hi ha Y=>?_) fun a k2 ha=>?_)
  ·unfold aJG;obtain⟨y,u,q⟩:=aKW J (s.1 _ (ET hi));have Z:=aPi hd e.bK[i];rw[Ce hi,u,Ac,wrap_succ i AA,q]
   have I:WI a (GN l e.bK[i])=a∧GN l e.bK[i]≤a∨WI a (GN l e.bK[i])=GN l e.bK[i]∧a≤GN l e.bK[i]:=by
    unfold WI;by_cases h:GN l e.bK[i]>a
    ·rw[Ib h];exact .inr ⟨rfl,AA⟩
    rw[Ir h];exact .inl ⟨rfl,AA⟩
   refine Y _ ⟨AA,?_,fun z n=>?_⟩
   ·rcases I with h|h
    ·rw[h.1];exact ha.2.1
    rw[h.1];exact⟨_,ET hi,rfl⟩
   rw[TN,Dn hi,Pj,I8,KQ]at n;rcases n with n|rfl
   ·have :=ha.2.2 z n;omega
   omega
  obtain⟨Z,⟨y,u,q⟩,f⟩:=ha;rw[GY]at f;unfold aJG;rw[Dk,PN AA AA,asL e.bK (GN l) e.Depth a ⟨y,u,q⟩ f];cases decide (e.Depth>a)<;>exact .ret rfl
def aky (l:List AY) (s:l.length≤100) (u:Dx l) (hd:jl l):aGn l=some (UU l):=by
 unfold aGn UU;rw[aiF l s u,Ac];cases J:XA l with
 |false=>rfl
 |true=>
  have L:∀e∈l,WS l e=true:=ER.1 J;refine fK.eq ((lq l AA).bind fun m M=>?_);unfold acZ;refine Xv (body:=aNs l) (Q:=fun b=>b=bif l.all (Ua l)then 0 else 15) (fun n a b=>∃i:Nat,a=i∧i+n=l.length∧b=m∧∀j,(h:j<i)→(s:j<l.length)→Ua l l[j]=true) ?_ Az l.length 0 m (fuel_lt AA) ⟨0,rfl,AA,rfl,fun j h=>AA⟩;rintro n a b k ⟨i,rfl,S,rfl,z⟩ O;unfold aNs;by_cases hi:i<l.length
  ·have f:=ET hi;rw[Ce hi,aqT l b l[i] M (u _ f) (L _ f) hd (hd _ f),Ac];cases I:Ua l l[i]with
   |false=>exact .ret (by rw[Yr f I];rfl)
   |true=>
    refine O (n-1) _ _ AA ⟨i+1,wrap_succ i AA,AA,rfl,fun j h q=>?_⟩;by_cases e:j=i
    ·subst e;exact I
    exact z j AA q
  have :i=l.length:=AA
  subst this;rw[Dk];exact .ret (by rw[all_good fun j h=>z j h h];rfl)
def afE (l:List AY) (u:l.length≤100) (q:Dx l) (hd:jl l):yC l=some (UU l):=by
 unfold yC UU;rw[arG l AA q,Ac];cases I:XA l with
 |false=>rfl
 |true=>
  show aIl l 0=_;unfold aIl;refine fK.eq (Res l.length (fuel_lt AA) (fun i=>∀j,(h:j<i)→(u:j<l.length)→Ua l l[j]=true) (fun j h=>AA) (fun i k hi m z=>?_) fun k m=>?_)
  ·have f:=ET hi;unfold aOH;rw[Ce hi,akC l l[i] AA (q _ f) hd (hd _ f),Ac,wrap_succ i AA];cases s:Ua l l[i]with
   |false=>exact .ret (by rw[Yr f s];rfl)
   |true=>
    refine z fun j h n=>?_;by_cases e:j=i
    ·subst e;exact s
    exact m j AA n
  unfold aOH;rw[DW];exact .ret (by rw[all_good fun j h=>m j h h];rfl)
section
variable {α β R : Type} {lt : α → α → Bool}
def KD (lt:α→α→Bool) (A:List α) (x:α):List α:=(A.reverse.dropWhile (lt x)).reverse++x::(A.reverse.takeWhile (lt x)).reverse
def apo {A:List α} {a x:α} (h:lt x a=true):KD lt (A++[a]) x=KD lt A x++[a]:=by
 unfold KD;rw[aLO,List.reverse_singleton,List.singleton_append,aSt h,List.takeWhile_cons_of_pos h,List.reverse_cons,H7];rfl
def apw {A:List α} {a x:α} (h:lt x a=false):KD lt (A++[a]) x=A++a::[x]:=by
 have h':¬lt x a=true:=by rw[h];simp
 unfold KD;rw[aLO,List.reverse_singleton,List.singleton_append,aaU h',List.takeWhile_cons_of_neg h'];simp
def atf (A:List α) (x:α):(KD lt A x).length=A.length+1:=by
 unfold KD;have :=BX List.length (uI (p:=lt x) (l:=A.reverse));simp only[EL,List.length_reverse,Fp]at this ⊢;omega
def arW (A:List α) (x:α):(KD lt A x).Perm (x::A):=by
 unfold KD;refine zq.trans (List.Perm.cons x ?_);rw[←aLO,uI,List.reverse_reverse]
def aiy {lt':β→β→Bool} {f:α→β} (h:∀x a,lt x a=lt' (f x) (f a)) (A:List α) (x:α):(KD lt A x).map f=KD lt' (A.map f) (f x):=by
 have e:lt x=lt' (f x)∘f:=funext fun a=>h x a;unfold KD;have j:(A.map f).reverse=A.reverse.map f:=aHb.symm;rw[j,List.dropWhile_map,List.takeWhile_map,Jo,Ko,aHb,aHb,e]
def aPE {lt':β→β→Bool} {f:α→β} (h:∀x a,lt x a=lt' (f x) (f a)):∀(l A:List α),(l.foldl (KD lt) A).map f=(l.map f).foldl (KD lt') (A.map f)
 | [],A=>rfl
 |x::l,A=>by rw[G6,aPE h l,Ko,G6,aiy h]
def aAZ :∀(l A:List α),(l.foldl (KD lt) A).length=A.length+l.length
 | [],A=>rfl
 |x::l,A=>by rw[G6,aAZ l,atf,Fp];omega
def aaB :∀(l A:List α),(l.foldl (KD lt) A).Perm (A++l)
 | [],A=>by rw[Pm];exact .refl _
 |x::l,A=>by
  rw[G6];exact(aaB l (KD lt A x)).trans (((arW A x).append_right l).trans (zq (l₁:=A) (l₂:=l) (a:=x)).symm)
def aEb (A:List α) (x:α) (B:List α):Aq (A++x::B) (A.length:Int)=some x:=by rw[aAq];simp
def aNR (A:List α) (a x:α) (B:List α):Aq (A++a::x::B) ((A.length+1:Nat):Int)=some x:=by rw[aAq];simp
def set_mid (A:List α) (x y:α) (B:List α):(A++x::B).set A.length y=A++y::B:=BU
def aam (A:List α) (a x y:α) (B:List α):(A++a::x::B).set (A.length+1) y=A++a::y::B:=by
 have :=set_mid (A++[a]) x y B;simpa using this
def bubble {body:(Int→List α→Option R)→Int→List α→Option R} (f:List α→Option R) (N:Nat) (L:∀k x B,(x::B).length=N→body k 0 (x::B)=f (x::B))
 (M:∀k A a x B,(A++a::x::B).length=N→body k ((A.length+1:Nat):Int) (A++a::x::B)=bif lt x a then k (A.length:Int) (A++x::a::B)else f (A++a::x::B)):
 ∀n (A:List α) (x:α) (B:List α),A.length=n→(A++x::B).length=N→∀m,n<m→aV body m (A.length:Int) (A++x::B)=f (KD lt A x++B):=by
 intro n
 induction n with
 |zero=>
  intro A x B s u m O;obtain⟨m,rfl⟩:∃z,m=z+1:=⟨m-1,AA⟩
  obtain rfl:=Gt s;exact L _ x B u
 |succ n S=>
  intro A x B s u m O;obtain⟨m,rfl⟩:∃z,m=z+1:=⟨m-1,AA⟩
  have h:A≠[]:=fun e=>by subst e;cases s
  obtain⟨A',a,rfl⟩:∃A' a,A=A'++[a]:=⟨A.dropLast,A.getLast h,(List.dropLast_concat_getLast h).symm⟩
  have I:A'.length=n:=P6
  have J:A'++[a]++x::B=A'++a::x::B:=BU
  have j:(A'++a::x::B).length=N:=by rw[←J];exact u
  have U:(A'++[a]).length=A'.length+1:=BU
  rw[J,U];show body (aV body m) _ _=_;rw[M _ A' a x B j];cases q:lt x a with
  |true=>
   rw[Bg,S A' x (a::B) I (by simp at j ⊢;omega) m AA,apo q];simp
  |false=>rw[BZ,apw q];simp
end
def Y4 (a b:AY):Bool:=decide (a.Depth<b.Depth)||((a.Depth==b.Depth)&&decide (a.Id<b.Id))
def fF (l:List AY):List AY:=l.foldl (KD Y4) []
def Oi (l:List AY):List Int:=(fF l).map (·.Id)
def aI8 (l:List AY):(fF l).length=l.length:=by unfold fF;rw[aAZ];simp
def anZ (l:List AY):(fF l).Perm l:=by have :=aaB (lt:=Y4) l [];rwa [IE]at this
def ajH (a b:AY):aGl a b=some (Y4 a b):=by
 unfold aGl Y4;cases decide (a.Depth<b.Depth)<;>cases(a.Depth==b.Depth)<;>rfl
def aPe {α β:Type} {f:β→α→β} {b:β} {l:List α} {i:Nat} (h:i<l.length):(l.take (i+1)).foldl f b=f ((l.take i).foldl f b) l[i]:=by
 rw[TN,Dn h,Pj,Vy];rfl
def map_take {α β:Type} {f:α→β} {l:List α} {i:Nat} (h:i<l.length):(l.take (i+1)).map f=(l.take i).map f++[f l[i]]:=by
 rw[TN,Dn h,Pj,Jo];rfl
def asy (l:List AY) (h:l.length≤1000000):aFW l=some (l.map (·.Id)):=by
 unfold aFW abJ;refine fK.eq (Jm l.length (fuel_lt AA) (fun i a=>a=(l.take i).map (·.Id)) rfl (fun i a k hi ha f=>?_) fun a k ha=>?_)
 ·unfold aOW;have hlen:a.length≤i:=oG
  rw[Ce hi,DZ FU,Ac,wrap_succ i AA];exact f _ zh
 unfold aOW;rw[Dk];exact .ret W9
def arZ (l:List AY) (n:l.length≤1000):aEy l=some (Oi l):=by
 unfold aEy abZ;refine fK.eq (Jm l.length (fuel_lt AA) (fun i a=>a=(l.take i).foldl (KD Y4) []) rfl (fun i a k hi ha j=>?_) fun a k ha=>?_)
 ·have hlen:a.length=i:=by rw[ha,aAZ,Fa];simp;omega
  unfold aKP;rw[Ce hi,DZ FU,Ac];unfold ae0;have f:=bubble (lt:=Y4) (body:=aBy k (i:Int)) (fun v=>k v ((i+1:Nat):Int)) (i+1) (fun k2 x B h=>?_) (fun k2 A b x B h=>?_) i a l[i] [] hlen Dy Az (fuel_lt AA)
  ·rw[hlen]at f;rw[f,Pm];exact j _ (by rw[aPe hi,ha])
  ·unfold aBy nE;rw[wrap_succ i AA];rfl
  have q:A.length+2≤i+1:=by rw[←h];simp
  have m:BA (((A.length+1:Nat):Int)-1)=(A.length:Int):=QC
  unfold aBy nE;rw[Ib (show((A.length+1:Nat):Int)>0 by omega),Bg,aNR,Ac,m,aEb,Ac,ajH,Ac,wrap_succ i AA];cases Y4 x b with
  |false=>rfl
  |true=>
   simp only[Bg,Ac,Zo];rw[aam,aEb,Ac,set_mid]
 unfold aKP;rw[DW,BZ];have e:a=fF l:=by rw[ha,GY];rfl
 rw[e,asy _ (by rw[aI8];omega)];exact .ret rfl
def qN (e:AY):Qz:=⟨e.Depth,e.Id⟩
def l9 (a b:Qz):Bool:=decide (a.oV<b.oV)||((a.oV==b.oV)&&decide (a.mX<b.mX))
def aiT (a x:Qz):(bif decide (a.oV<x.oV)then some true else(bif (a.oV==x.oV)then some (decide (a.mX≤x.mX))else some false).bind fun f=>some f)=some (!l9 x a):=by
 unfold l9;by_cases h:a.oV<x.oV
 ·rw[Ib h,Bg,Ir AA,show(x.oV==a.oV)=false by simp;omega];rfl
 rw[Ir h,BZ];by_cases j:a.oV=x.oV
 ·rw[j,Ir (show ¬x.oV<x.oV by omega)];simp only[dz,Bg,Ac,Ll,Fe];by_cases m:a.mX≤x.mX
  ·rw[Ib m,Ir AA];rfl
  rw[Ir m,Ib AA];rfl
 rw[show(a.oV==x.oV)=false by simpa using j,Ib (show x.oV<a.oV by omega)];rfl
def afA (l:List AY) (hl:l.length≤1000):aEs l=some (Oi l):=by
 have u:JM 16 aG0 0 (l.length:Int)=some []:=by unfold JM;rw[D7 ⟨Int.le_refl _,AA,AA⟩];rfl
 unfold aEs;rw[u,Ac];unfold abH;refine fK.eq (Jm l.length (fuel_lt AA) (fun i a=>a=((l.take i).map qN).foldl (KD l9) []) rfl (fun i a k hi ha I=>?_) fun a k ha=>?_)
 ·have hlen:a.length=i:=by rw[ha,aAZ,D6,Fa];simp;omega
  unfold aJ2;rw[Ce hi,CQ hi,Ac,DZ FU,Ac];unfold aaO;have J:BA (((a++[(⟨l[i].Depth,l[i].Id⟩:Qz)]).length:Int)-1)=(a.length:Int):=aH5
  rw[J];have L:=bubble (lt:=l9) (body:=uQ k (i:Int)) (fun v=>k v ((i+1:Nat):Int)) (i+1) (fun k2 x B m=>?_) (fun k2 A b x B m=>?_) i a (qN l[i]) [] hlen Dy Az (fuel_lt AA)
  ·show fK (aV (uQ k (i:Int)) Az (a.length:Int) (a++[qN l[i]])) _;rw[L,Pm];exact I _ (by rw[map_take hi,Vy,ha];rfl)
  ·unfold uQ qm;rw[wrap_succ i AA];rfl
  have hA:A.length+2≤i+1:=by rw[←m];simp
  have M:BA (((A.length+1:Nat):Int)-1)=(A.length:Int):=QC
  unfold uQ qm;rw[Ib (show((A.length+1:Nat):Int)>0 by omega),Bg,M,aEb,Ac,aNR,Ac,aiT,Ac,wrap_succ i AA];cases l9 x b with
  |false=>rfl
  |true=>
   simp only[EW,BZ,Bg,Ac,Zo];rw[set_mid,aNR,Ac,aam]
 unfold aJ2;rw[Dk];have e:a=(fF l).map qN:=by rw[ha,GY];exact(aPE (lt:=Y4) (lt':=l9) (f:=qN) (fun _ _=>rfl) l []).symm
 have O:a.length=l.length:=by rw[e,D6,aI8]
 have S:JM 8 0 (a.length:Int) (a.length:Int)=some (List.replicate a.length (0:Int)):=by unfold JM;rw[D7 ⟨AA,Int.le_refl _,AA⟩];simp
 have U:Oi l=a.map (·.mX):=by rw[e,su];rfl
 rw[S,Ac,U];unfold aUa;refine SP (body:=aNp a) (Q:=fun r=>r=a.map (·.mX)) (fun n (x:Int) (o:List Int) (p:List Qz)=>∃i:Nat,x=i∧i+n=a.length∧o=(a.take i).map (·.mX)++List.replicate (a.length-i) 0∧p=a) ?_ Az a.length 0 (List.replicate a.length 0) a (fuel_lt AA) ⟨0,rfl,AA,BU,rfl⟩;rintro n x o p k2 ⟨i,rfl,hn,q,rfl⟩ j;unfold aNp;by_cases hi:i<p.length
 ·have s:((p.take i).map (·.mX)).length=i:=by rw[D6,Fa];omega
  obtain⟨z,Y⟩:∃z,p.length-i=z+1:=⟨p.length-i-1,AA⟩
  have h:o=(p.take i).map (·.mX)++0::List.replicate z 0:=by rw[q,Y,List.replicate_succ]
  have Z:Aq o (i:Int)=some 0:=by have :=aEb ((p.take i).map (·.mX)) 0 (List.replicate z 0);rw[s]at this;rw[h];exact this
  have s2:o.set i p[i].mX=(p.take i).map (·.mX)++p[i].mX::List.replicate z 0:=by have :=set_mid ((p.take i).map (·.mX)) 0 p[i].mX (List.replicate z 0);rw[s]at this;rw[h];exact this
  rw[Ce hi,Z,Ac];refine j (n-1) _ _ _ AA ⟨i+1,wrap_succ i AA,AA,?_,rfl⟩;rw[Zo,s2,map_take hi,show p.length-(i+1)=z by omega];simp
 have :i=p.length:=AA
 subst this;rw[Dk];exact .ret (by rw[q];simp)
def J6 (l:List AY) (x y:Int):Bool:=dS l y&&(y != x&&Di (ev l y).bK x)
def Ti (l:List AY) (ids:List Int):List Int:=(EX ids).filter fun x=> !ids.any (J6 l x)
def aoM {α:Type} {a b:List α} (p:α→Bool) (h:∀x,x∈a↔x∈b):a.any p=b.any p:=by
 rw[QM,Hd,Hd];exact⟨fun⟨x,f,k⟩=>⟨x,(h x).1 f,k⟩,fun⟨x,f,k⟩=>⟨x,(h x).2 f,k⟩⟩
def akT (ids:List Int) (p:Int→Bool):EX (ids.filter p)=(EX ids).filter p:=
 GI (LY _) ((LY ids).sublist TT) fun x=>by rw[LZ,Gn,Gn,LZ]
def aHX (l:List AY) (ids:List Int):(Ti l ids).length≤ids.length:=Ej (Kt _ _) (MK ids)
def aMA {α:Type} {p:α→Bool} {l:List α} {i:Nat} (h:i<l.length):(l.take (i+1)).filter p=(l.take i).filter p++bif p l[i]then[l[i]]else[]:=by
 rw[TN,Dn h,Pj,PS];cases f:p l[i]<;>simp[f]
def xI {α:Type} {p:α→Bool} {l:List α} {i:Nat} (h:i<l.length):(l.take (i+1)).any p=((l.take i).any p||p l[i]):=by
 rw[TN,Dn h,Pj,aLj];simp
def ala (l:List AY) (ids:List Int) (hl:l.length≤100) (hs:Dx l) (hi0:ids.length≤1000):aGF l ids=some (Ti l ids):=by
 unfold aGF;refine fK.eq ((lq l AA).bind fun m U=>?_);unfold acp;refine SP (body:=aHo ids l) (Q:=fun r=>r=Ti l ids) (fun n a b c=>∃i:Nat,a=i∧i+n=ids.length∧b=m∧∀x,(CX c x).getD false=(ids.take i).any (J6 l x)) ?_ Az ids.length 0 m [] (fuel_lt AA) ⟨0,rfl,AA,rfl,fun x=>rfl⟩;rintro n a b c k ⟨i,rfl,hn,rfl,I⟩ J;unfold aHo;by_cases hi:i<ids.length
 ·have Y:∀M,(∀x,(CX M x).getD false=((ids.take i).any (J6 l x)||J6 l x ids[i]))→fK (aCt k (i:Int) b M) (fun r=>r=Ti l ids):=fun M h8=>J (n-1) _ _ _ AA ⟨i+1,wrap_succ i AA,AA,rfl,fun x=>by rw[h8,xI hi]⟩;rw[Ce hi,U.isSome];cases f:dS l ids[i]with
  |false=>exact Y c fun x=>by rw[I];unfold J6;rw[f];simp
  |true=>
   obtain⟨Z,_⟩:=Qe f;rw[U.get Z,Ac];have hp:=(hs _ (OY Z)).prev;simp only[EW,BZ];unfold adD;refine SP (body:=aNt (ev l ids[i]) ids[i] k (i:Int)) (Q:=fun r=>r=Ti l ids) (fun L a2 b2 c2=>∃j:Nat,a2=j∧j+L=(ev l ids[i]).bK.length∧b2=b∧∀x,(CX c2 x).getD false=((ids.take i).any (J6 l x)||(ids[i] != x&&Di ((ev l ids[i]).bK.take j) x))) ?_ Az (ev l ids[i]).bK.length 0 b c (fuel_lt AA) ⟨0,rfl,AA,rfl,fun x=>by rw[I,aB0];unfold Di;simp⟩;rintro L a2 b2 c2 k2 ⟨j,rfl,hn2,rfl,h⟩ q;unfold aNt;by_cases s:j<(ev l ids[i]).bK.length
   ·have u:∀x,Di ((ev l ids[i]).bK.take (j+1)) x=(Di ((ev l ids[i]).bK.take j) x||(x==(ev l ids[i]).bK[j])):=fun x=>by
     rw[QM,bV,JW,JW,TN,Dn s,Pj,I8,KQ,SN]
    rw[Ce s];cases z:(ev l ids[i]).bK[j] != ids[i]with
    |true=>
     refine q (L-1) _ _ _ AA ⟨j+1,wrap_succ j AA,AA,rfl,fun x=>?_⟩;rw[Q5,u];cases O:x==(ev l ids[i]).bK[j]with
     |true=>
      have e:=eq_of_beq O;subst e;rw[show(ids[i] != (ev l ids[i]).bK[j])=true by rw[bne_comm];exact z];simp
     |false=>rw[BZ,h,KP]
    |false=>
     refine q (L-1) _ _ _ AA ⟨j+1,wrap_succ j AA,AA,rfl,fun x=>?_⟩;rw[u,h];have e:(ev l ids[i]).bK[j]=ids[i]:=bf
     rw[e];cases O:x==ids[i]with
     |false=>simp
     |true=>have e2:=eq_of_beq O;subst e2;simp
   have :j=(ev l ids[i]).bK.length:=AA
   subst this;rw[Dk];exact Y _ fun x=>by rw[h,GY];unfold J6;rw[f];rfl
 have :i=ids.length:=AA
 subst this;rw[Dk];unfold aSV;rw[GY]at I;refine Jm ids.length (fuel_lt AA) (fun i a=>a=(ids.take i).filter fun x=> !ids.any (J6 l x)) rfl (fun i a k2 hi ha J=>?_) fun a k2 ha=>?_
 ·have S:a.length≤i:=aOJ
  unfold aM1 aEk;rw[Ce hi,wrap_succ i AA,I];have hf:=aMA (p:=fun x=> !ids.any (J6 l x)) hi;cases hb:ids.any (J6 l ids[i])with
  |true=>exact J _ (by rw[hf,ha,hb];simp)
  |false=>
   simp only[IX,Bg];rw[DZ FU,Ac];exact J _ (by rw[hf,ha,hb];rfl)
 have S:a.length≤ids.length:=aOJ
 unfold aM1;rw[Dk,Zj _ AA];exact .ret (by rw[ha,GY,akT];rfl)
def ati {l:List Int} (h:Inc l) {i j:Nat} (hi:i<l.length) (m:j<l.length) (e:l[i]=l[j]):i=j:=by
 rcases aAw i j with f|f|f
 ·have :=KY.1 h i j hi m f;omega
 ·exact f
 have :=KY.1 h j i m hi f;omega
def anK (l:List AY) (ids:List Int) (hl:l.length≤1000) (hs:Dx l) (hi0:ids.length≤1000):mP l ids=some (Ti l ids):=by
 have s:=LY ids;have hlen:=MK ids;have u:∀x,(EX ids).any (J6 l x)=ids.any (J6 l x):=fun x=>aoM _ fun _=>LZ;unfold mP Ti;rw[aKz _ AA,Ac];have f:(fun x=> !ids.any (J6 l x))=fun x=> !(EX ids).any (J6 l x):=funext fun x=>by rw[u]
 rw[f];generalize EX ids=S at s hlen;clear u f;unfold aPB;refine fK.eq (Jm S.length (fuel_lt AA) (fun i a=>a=(S.take i).filter fun x=> !S.any (J6 l x)) rfl (fun i a k hi ha Y=>?_) fun a k ha=>?_)
 ·have hal:a.length≤i:=aOJ
  have Z:=aMA (p:=fun x=> !S.any (J6 l x)) hi;unfold aHa;rw[dec_lt hi,Bg];unfold aSj;refine SP (body:=aLL S l (i:Int) k) (Q:=_) (fun n b x c=>∃j:Nat,x=j∧j+n=S.length∧c=a∧b= !(S.take j).any (J6 l S[i])) ?_ Az S.length true 0 a (fuel_lt AA) ⟨0,rfl,AA,rfl,BU⟩;rintro n b x c k2 ⟨j,rfl,hn,rfl,I⟩ J;unfold aLL;by_cases L:j<S.length
  ·have m:∀M,M=(!((S.take j).any (J6 l S[i])||J6 l S[i] S[j]))→fK (zN k2 (j:Int) M c) (fun x=>x=(S.filter fun x=> !S.any (J6 l x))):=fun M h'=>J (n-1) _ _ _ AA ⟨j+1,wrap_succ j AA,AA,rfl,by rw[xI L];exact h'⟩;rw[Ce L,Lp l _ AA,Ac,OO]
   have O:(((j:Int) != (i:Int)))=(S[j] != S[i]):=by
    rw[QM];simp only[bne_iff_ne,ne_eq];constructor
    ·intro h e;exact h (by rw[ati s L hi e])
    intro h e;have :j=i:=AA
    subst this;exact h rfl
   rw[O];cases q:(EM l S[j]).isSome with
   |false=>
    unfold ZH;exact m b (by rw[I];unfold J6 dS;rw[q];simp)
   |true=>
    cases U:S[j] != S[i]with
    |false=>
     unfold ZH;exact m b (by rw[I];unfold J6;rw[U];simp)
    |true=>
     simp only[Bg]
     have hpl:(I5 l S[j]).1.bK.length≤40:=by
      obtain⟨e,he⟩:=Qy.1 q;rw[N7 he];exact(hs e (OY he)).prev
     rw[CQ hi,Ac,Vq _ _ AA,Ac];unfold ZH;cases hh:Di (I5 l S[j]).1.bK S[i]with
     |true=>exact m false (by unfold J6 dS ev;rw[q,U,hh];simp)
     |false=>exact m b (by rw[I];unfold J6 dS ev;rw[q,U,hh];simp)
  have :j=S.length:=AA
  subst this;rw[Dk,I,GY];unfold aF6;rw[wrap_succ i AA];cases z:S.any (J6 l S[i])with
  |true=>exact Y _ (by rw[Z,ha,z];simp)
  |false=>
   simp only[IX,Bg];rw[CQ hi,Ac,DZ FU,Ac];exact Y _ (by rw[Z,ha,z];rfl)
 unfold aHa;rw[DW];exact .ret W9
end Go.Proofs.YtolgdkhlelfpoaaGreat
end
