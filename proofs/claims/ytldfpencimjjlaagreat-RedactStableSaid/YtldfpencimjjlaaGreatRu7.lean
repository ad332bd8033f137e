/- Part 7 of what the laws' proofs lean on: states of the walk, typed functions of the program and their laws (short forms written by wip/shrink.py; no condition). -/
import Derived.Test.YtldfpencimjjlaaGreatRu6
set_option linter.defProp false
set_option linter.unnecessarySimpa false
set_option linter.unusedVariables false
set_option linter.unusedSimpArgs false
section
namespace Go.Proofs.YtldfpencimjjlaaGreat
open Go.RowKit
def eF {k:Int} {c:Bj} (hb:oO k=some false) (h:G7 k c=some 0):Ub k c=some true∧XB k c=some 0∧Lp k c.N=some 0∧TU k c=some 0∧Vk c=some 0∧
 (bif k==4 then TG c=some 0 else Oa c.Allow=some 0∧Oa c.gy=some 0∧VL c.Levels=some 0):=by
 unfold G7 at h;rw[(lH k).2,AQ,hb]at h;obtain⟨x2,j,h⟩:=CY h;obtain⟨e2,h⟩:=IY h BJ;subst e2
 have m:Ub k c=some true:=by
  cases Y:(decide (k≥1)&&decide (k≤14))with
  |false=>rw[Y]at j;cases j
  |true=>
   rw[Y]at j;obtain⟨y,q,u⟩:=CY (show(Ub k c).bind (fun x4=>some (!x4))=some false from j);have u:=CO u;cases y with
   |true=>exact q
   |false=>cases u
 simp only[AQ,Aj]at h;obtain⟨x11,z,h⟩:=CY h;obtain⟨e,h⟩:=L6 h;subst e;obtain⟨CG,I,h⟩:=CY h;obtain⟨e,h⟩:=L6 h;subst e;obtain⟨x15,J,h⟩:=CY h;obtain⟨e,h⟩:=L6 h;subst e;obtain⟨x17,L,h⟩:=CY h;obtain⟨e,h⟩:=L6 h;subst e;refine⟨m,z,I,J,L,?_⟩;cases Z:k==4 with
 |true=>
  rw[Z,Au]at h;obtain⟨y,q,h⟩:=CY h;obtain rfl:=CO h;exact q
 |false=>
  rw[Z,Aj]at h;obtain⟨y1,M,h⟩:=CY h;obtain⟨e,h⟩:=L6 h;subst e;obtain⟨y2,O,h⟩:=CY h;obtain⟨e,h⟩:=L6 h;subst e;obtain⟨y3,U,h⟩:=CY h;obtain rfl:=CO h;exact⟨M,O,U⟩
def mF {k:Int} {c:Bj} (q:1≤k∧k≤14) (u:oO k=some false) (z:Ub k c=some true) (I:XB k c=some 0) (J:Lp k c.N=some 0) (L:TU k c=some 0) (M:Vk c=some 0)
 (j:bif k==4 then TG c=some 0 else Oa c.Allow=some 0∧Oa c.gy=some 0∧VL c.Levels=some 0):G7 k c=some 0:=by
 unfold G7;rw[(lH k).2,AQ,u,IJ (show k≥1 by omega),IJ q.2,z,I,J,L,M];cases m:k==4 with
 |true=>rw[m,Au]at j;rw[j];rfl
 |false=>
  rw[m,Aj]at j;rw[j.1,j.2.1,j.2.2];rfl
def atC {k:Int} {c:Bj} (u:1≤k∧k≤14) (h:G7 k c=some 0):G7 k (IG k c)=some 0:=by
 by_cases O:k=1
 ·subst O;exact h
 by_cases U:k=2
 ·subst U;obtain⟨I,J,q,j,z,m⟩:=eF (k:=2) A8 h;refine mF u A8 ?_ A8 q A8 z ⟨A8,A8,A8⟩;rw[XQ (K:=2) (show _=some true by kernel_rfl) (show _=some true by kernel_rfl) (show _=some false by kernel_rfl) (show _=some false by kernel_rfl) (show _=some true by kernel_rfl) (show _=some false by kernel_rfl) (show _=some false by kernel_rfl) (show _=some false by kernel_rfl)];unfold J4;simp only[KP];kernel_rfl
 by_cases Y:k=3
 ·subst Y;obtain⟨I,J,q,j,z,m⟩:=eF (k:=3) A8 h;refine mF u A8 ?_ A8 A8 A8 A8 ⟨A8,A8,m.2.2⟩;rw[XQ (K:=3) (show _=some false by kernel_rfl) (show _=some false by kernel_rfl) (show _=some false by kernel_rfl) (show _=some false by kernel_rfl) (show _=some false by kernel_rfl) (show _=some false by kernel_rfl) (show _=some false by kernel_rfl) (show _=some true by kernel_rfl)];unfold J4;simp only[KP];kernel_rfl
 by_cases Z:k=4
 ·subst Z;obtain⟨I,J,q,j,z,m⟩:=eF (k:=4) A8 h
  have hr:TG (IG 4 c)=some 0:=by
   have m:TG c=some 0:=m
   have hB:Zz (IG 4 c)=Zz c:=by
    funext k i;unfold Zz;rfl
   have e1:(IG 4 c).Allow=c.Allow:=rfl;have e2:(IG 4 c).N=c.N:=rfl;rw[←m];unfold TG aLo;rw[e1,e2,hB]
  refine mF u A8 ?_ A8 q A8 A8 hr;rw[XQ (K:=4) (show _=some false by kernel_rfl) (show _=some true by kernel_rfl) (show _=some false by kernel_rfl) (show _=some false by kernel_rfl) (show _=some false by kernel_rfl) (show _=some true by kernel_rfl) (show _=some false by kernel_rfl) (show _=some false by kernel_rfl)];unfold J4;simp only[KP];kernel_rfl
 by_cases h5:k=5
 ·subst h5;obtain⟨I,J,q,j,z,m⟩:=eF (k:=5) A8 h;refine mF u A8 ?_ A8 q A8 A8 ⟨A8,A8,A8⟩;rw[XQ (K:=5) (show _=some false by kernel_rfl) (show _=some true by kernel_rfl) (show _=some false by kernel_rfl) (show _=some false by kernel_rfl) (show _=some false by kernel_rfl) (show _=some false by kernel_rfl) (show _=some false by kernel_rfl) (show _=some false by kernel_rfl)];unfold J4;simp only[KP];kernel_rfl
 by_cases h6:k=6
 ·subst h6;obtain⟨I,J,q,j,z,m⟩:=eF (k:=6) A8 h;refine mF u A8 ?_ A8 A8 A8 A8 ⟨m.1,m.2.1,A8⟩;rw[XQ (K:=6) (show _=some false by kernel_rfl) (show _=some false by kernel_rfl) (show _=some false by kernel_rfl) (show _=some false by kernel_rfl) (show _=some false by kernel_rfl) (show _=some true by kernel_rfl) (show _=some true by kernel_rfl) (show _=some false by kernel_rfl)];unfold J4;simp only[KP];kernel_rfl
 by_cases L:k=14
 ·subst L;obtain⟨I,J,q,j,z,m⟩:=eF (k:=14) A8 h;refine mF u A8 ?_ A8 A8 ?_ A8 ⟨A8,A8,A8⟩
  ·rw[XQ (K:=14) (show _=some true by kernel_rfl) (show _=some false by kernel_rfl) (show _=some true by kernel_rfl) (show _=some false by kernel_rfl) (show _=some false by kernel_rfl) (show _=some false by kernel_rfl) (show _=some false by kernel_rfl) (show _=some false by kernel_rfl)];unfold J4;simp only[KP];kernel_rfl
  unfold TU at j ⊢;obtain⟨x1,q1,j⟩:=CY j;obtain⟨x2,q2,j⟩:=CY j;obtain⟨e,_⟩:=IY j BJ;subst e;rw[q1,AQ];have :(bif x1 then(bif decide ((IG 14 c).Target<0)then some true else(bif (IG 14 c).Target==0 then some ((14:Int) != 11)else some false).bind fun x6=>some x6).bind fun x4=>some x4 else some false)=some false:=q2;rw[this];rfl
 have hz:IG k c=ET:=by unfold IG;simp only[O,U,Y,Z,h5,h6,L,JE]
 rw[hz];have M:k=7∨k=8∨k=9∨k=10∨k=11∨k=12∨k=13:=AA
 rcases M with rfl|rfl|rfl|rfl|rfl|rfl|rfl
 ·exact(show G7 7 ET=some 0 by kernel_rfl)
 ·exact(show G7 8 ET=some 0 by kernel_rfl)
 ·exact(show G7 9 ET=some 0 by kernel_rfl)
 ·exact(show G7 10 ET=some 0 by kernel_rfl)
 ·exact(show G7 11 ET=some 0 by kernel_rfl)
 ·exact(show G7 12 ET=some 0 by kernel_rfl)
 exact(show G7 13 ET=some 0 by kernel_rfl)
def aN6 (k:Int) (c:Bj):IG k (IG k c)=IG k c:=by
 by_cases m:k=1
 ·subst m;rfl
 by_cases q:k=2
 ·subst q;rfl
 by_cases u:k=3
 ·subst u;rfl
 by_cases z:k=4
 ·subst z;rfl
 by_cases I:k=5
 ·subst I;rfl
 by_cases J:k=6
 ·subst J;rfl
 by_cases j:k=14
 ·subst j;rfl
 unfold IG;simp only[m,q,u,z,I,J,j,JE]
def acQ (e:AB):Ji e (J7 e):=by
 refine⟨rfl,rfl,rfl,rfl,rfl,rfl,rfl,rfl,rfl,fun h=>?_,fun h=>?_⟩
 ·show(IG e.Kind e.Content).N=_;rcases h with h|h<;>rw[h]<;>rfl
 show(IG e.Kind e.Content).Levels=_;rw[h];rfl
def aHk {e:AB} (h:Fl e):Fl (J7 e):=by
 have j:=h.content.strip e.Kind;exact⟨h.prev,h.auth,j.allow,j.deny,j.users,j.kinds,h.room,h.sender,h.key,j.text,j.via,h.server,j.allows,j.denies,j.names⟩
def aFx {α:Type} {p:α→α→Bool} (j:∀x,p x x=true) (a:List α):Lr p a a=true:=by
 unfold Lr;rw[KE,Fe]
 have :((a.zip a).any fun x=> !p x.1 x.2)=false:=by
  rw[aI8];intro x m
  have :x.1=x.2:=by
   obtain⟨i,hi,rfl⟩:=GZ m;rw[aGN]
  rw[this,j];simp
 rw[this];rfl
def ahX (a:Bj):jC a a=true:=by
 unfold jC vW uN;rw[aFx (p:=UC) fun x=>KE _,aFx (p:=UC) fun x=>KE _,aFx (p:=Tt) fun x=>by unfold Tt;simp,aFx (p:=SP) fun x=>by unfold SP;simp];simp
def aoE {e:AB} (J:1≤e.Kind∧e.Kind≤14) (hs:Fl e) (h:Ty e=some 0):Ty (J7 e)=some 0:=by
 have q:=aHk hs
 have u:vN (J7 e)=vN e:=by
  have :Zw (J7 e)=Zw e:=by
   unfold Zw J7;show({ { e with Content:=IG e.Kind (IG e.Kind e.Content),Id:=0,qc:=XK }with Id:=0 }:AB)=_;rw[aN6]
  unfold vN;rw[this]
 have L:e.aP.size≤2000:=hs.sender
 have z:∀v,VZ e v=some 0→VZ (J7 e) false=some 0:=fun v j=>by
  unfold VZ at j ⊢;obtain⟨_,j⟩:=IY j BJ;rw[(aEL hs.x).2]at j;rw[(aEL q.x).2,u];exact j
 unfold Ty at h ⊢;obtain⟨x1,m,h⟩:=CY h;obtain⟨M,h⟩:=L6 h;subst M
 have O:Zv (J7 e)=some 0:=by
  unfold Zv at m ⊢;obtain⟨y1,U,m⟩:=CY m;obtain⟨Y,m⟩:=L6 m;subst Y;obtain⟨y2,Z,m⟩:=CY m;obtain rfl:=CO m;have hf:xA (J7 e)=xA e:=rfl;rw[hf,U];show(G7 e.Kind (IG e.Kind e.Content)).bind _=_;rw[atC J Z];rfl
 have j:∃v,VZ e v=some 0:=by
  obtain⟨I,_,h⟩:=CY h;cases I with
  |false=>
   rw[IU,Au]at h;obtain⟨_,_,h⟩:=CY h;obtain⟨_,_,h⟩:=CY h;exact⟨_,h⟩
  |true=>exact⟨false,h⟩
 obtain⟨v,j⟩:=j;have z:=z v j;rw[O,AQ,Ln,Aj,(aKZ q.x).2,AQ,aMS,AQ];have ht:IG (J7 e).Kind (J7 e).Content=(J7 e).Content:=aN6 ..;rw[ht,aR6 _ q.content,ahX,AQ,Dz,z];cases(!(lI (J7 e)==(J7 e).Hash))<;>rfl
structure Yb (l k:List AB):Prop where
 len:k.length=l.length
 at_:∀i (h:i<l.length) (h':i<k.length),k[i]=l[i]∨k[i]=J7 l[i]
def Yb.sim {l k:List AB} (h:Yb l k) {i:Nat} (hi:i<l.length) (j:i<k.length):Ji l[i] k[i]:=by
 rcases h.at_ i hi j with e|e<;>rw[e]
 ·exact .refl _
 exact acQ _
def aJJ {R:Type} {f g:(Int→Option R)→Int→Option R} (s n:Nat) (J:s≤n+1) (q:n+1<Af) (h:∀k k' (i:Nat),s≤i→i<n→k ((i+1:Nat):Int)=k' ((i+1:Nat):Int)→f k (i:Int)=g k' (i:Int)) (j:∀k k' (i:Nat),n≤i→f k (i:Int)=g k' (i:Int)):bg f Af (s:Int)=bg g Af (s:Int):=by
 have key:∀m (i:Nat),s≤i→i+m=n+1→∀a,m<a→bg f a (i:Int)=bg g a (i:Int):=by
  intro m
  induction m with
  |zero=>
   intro i hi u a ha;obtain⟨a,rfl⟩:∃a',a=a'+1:=⟨a-1,AA⟩
   exact j _ _ i AA
  |succ m z=>
   intro i hi u a ha;obtain⟨a,rfl⟩:∃a',a=a'+1:=⟨a-1,AA⟩
   by_cases I:i<n
   ·exact h _ _ i hi I (z (i+1) AA AA a AA)
   exact j _ _ i AA
 exact key (n+1-s) s (Dk _) AA Af AA
def aMD {i n:Nat} (h:n≤i):decide ((i:Int)<(n:Int))=false:=IC AA
def aau {l:List AB} (m:NZ l=some 0) (hl:l.length≤100):∀x∈l,Ty x=some 0:=by
 unfold NZ at m;obtain⟨_,h⟩:=IY m BJ;unfold nX at h
 obtain⟨u,_⟩:=lasts l.length AA (fun i=>∀x,l[i]? =some x→Ty x=some 0) (fun k i hi j=>by
  unfold Yl at j;rw[Bv hi]at j;obtain⟨y,z,j⟩:=CY j;obtain⟨e,j⟩:=L6 j;subst e;rw[wrap_succ i AA]at j
  exact⟨fun x q=>by rw[D9 hi]at q;obtain rfl:=CO q;exact z,j⟩) 0 (EZ _) h
 exact gq u
def akO {l k:List AB} (h:Yb l k) (L:P9 l) (hl:l.length≤100) (M:NZ l=some 0):NZ k=some 0:=by
 have hlen:=h.len
 have u:∀i (hi:i<l.length),Ty l[i]=some 0:=fun i hi=>by
  exact aau M hl _ (Df hi)
 rw[←M];unfold NZ;rw[hlen];congr 1;unfold nX;refine aJJ (s:=0) (n:=l.length) AA (fuel_lt AA) (fun a b i _ hi e=>?_) fun a b i hi=>?_
 ·have m:i<k.length:=AA
  unfold Yl;rw[Bv hi,hlen,dec_lt hi,Au,Ba m,AQ,u i hi]
  have :Ty k[i]=some 0:=by
   rcases h.at_ i hi m with q|q<;>rw[q]
   ·exact u i hi
   exact aoE (L.ev _ (Df hi)).1.kind (L.ev _ (Df hi)).2 (u i hi)
  rw[this,AQ,AQ,Ln,Aj,Aj,wrap_succ i AA,e]
 unfold Yl;rw[hlen,aMD hi,Aj,Aj];unfold kT;refine aJJ (s:=1) (n:=l.length) AA (fuel_lt AA) (fun a b i Y hi e=>?_) fun a b i hi=>?_
 ·have m:i<k.length:=AA
  have O:0<l.length:=AA
  have I:0<k.length:=AA
  have z:Ae l 0=some l[0]:=Ba O;have Z:Ae k 0=some k[0]:=Ba I;unfold Tj;rw[Bv hi,hlen,dec_lt hi,Au,Ba m,AQ,z,Z,AQ,AQ,(h.sim hi m).room,(h.sim O I).room,wrap_succ i AA,e]
 unfold Tj;rw[hlen,aMD hi,Aj,Aj];unfold dN;refine aJJ (s:=1) (n:=l.length) AA (fuel_lt AA) (fun a b i Y hi e=>?_) fun a b i hi=>?_
 ·have m:i<k.length:=AA
  obtain⟨j,rfl⟩:∃j,i=j+1:=⟨i-1,AA⟩
  have hw:Ag (((j+1:Nat):Int)-1)=(j:Int):=aQ4
  have U:j<l.length:=AA
  have J:j<k.length:=AA
  unfold Ug;rw[hlen,dec_lt hi,Au,Au,hw,Ba U,Ba J,Ba hi,Ba m];simp only[AQ];rw[(h.sim hi m).id,(h.sim U J).id,wrap_succ (j+1) AA,e]
 unfold Ug;rw[hlen,aMD hi,Aj,Aj]
def aaj {l k:List AB} (h:Yb l k):k.map (·.Id)=l.map (·.Id):=by
 refine jR (by simp[h.len]) fun i j m=>?_;rw[CM]at j m;rw[MW,MW,(h.sim m j).id]
def ak2 {l k:List AB} (h:Yb l k) (m:P9 l):∀e∈k,Fl e:=fun e u=>by
 obtain⟨i,hi,rfl⟩:=GZ u;have j:i<l.length:=aLN
 have hs:=(m.ev _ (Df j)).2;rcases h.at_ i j hi with q|q<;>rw[q]
 ·exact hs
 exact aHk hs
def aDM {l k:List AB} (h:Yb l k) (z:(l.map (·.Id)).Nodup) {x:Int} (q:x∈l.map (·.Id)):bY l x=true∧bY k x=true∧Ji (ev l x) (ev k x)∧ev l x∈l∧ev k x∈k:=by
 have hi:=aaj h;obtain⟨e,I,rfl⟩:=Ee.1 q;obtain⟨i,j,rfl⟩:=GZ I;have m:i<k.length:=by rw[h.len];exact j
 have hs:=h.sim j m;have u:(k.map (·.Id)).Nodup:=by rw[hi];exact z
 have J:ev l l[i].Id=l[i]:=Wi z (Df j);have L:ev k l[i].Id=k[i]:=by rw[←hs.id];exact Wi u (Df m)
 rw[J,L];exact⟨Ia.2 q,Ia.2 (by rw[hi];exact q),hs,Df j,Df m⟩
structure aNY (l k:List AB):Prop where
 ref:NZ k=some 0
 prog:Nr k=some 0
 facts:P9 k
 deep:IB k=0
 ids:k.map (·.Id)=l.map (·.Id)
 agr:G5 l k (l.map (·.Id))
def ajV {l k:List AB} (h:Yb l k) (Y:P9 l) (hl:l.length≤100) (hc:NZ l=some 0) (hd:IB l=0):aNY l k:=by
 have J:=akO h Y hl hc;obtain⟨c,c1,c2,c3⟩:=aPE (l:=k) (fun e L=>(ak2 h Y e L).wide) (by rw[h.len];exact hl);obtain rfl:c=0:=CO (c2.symm.trans J);have M:=Rq Y.inc;have q:=aaj h;have u:∀x,bY k x=bY l x:=fun x=>by rw[KG,Ia,Ia,q]
 have O:∀x,Ey k x=Ey l x:=fun x=>by
  show(ev k x).Depth=(ev l x).Depth;by_cases I:x∈l.map (·.Id)
  ·exact(aDM h M I).2.2.1.depth
  have n1:bY l x=false:=by cases hq:bY l x with
   |true=>exact absurd (Ia.1 hq) I
   |false=>rfl
  have n2:bY k x=false:=by rw[u];exact n1
  have z:∀{m:List AB},bY m x=false→ev m x=F6:=fun{m} Z=>by
   unfold bY at Z
   have :Dh m x=none:=by cases hg:Dh m x with
    |none=>rfl
    |some e=>rw[hg]at Z;cases Z
   unfold ev;rw[QH this]
  rw[z n1,z n2]
 refine⟨J,c1,c3 rfl,?_,q,⟨M,fun x I=>?_,fun x I a ha=>?_,fun x I a ha=>?_⟩⟩
 ·unfold IB at hd ⊢;cases U:Oz l with
  |false=>rw[U]at hd;cases hd
  |true=>
   rw[U,Au]at hd;cases h2:l.all (Lc l)with
   |false=>rw[h2]at hd;cases hd
   |true=>
    have hcl:Oz k=true:=by
     unfold Oz at U ⊢;rw[DT]at U ⊢;intro e L;obtain⟨i,hi,rfl⟩:=GZ L;have j:i<l.length:=aLN
     have :=U _ (Df j);have hs:=h.sim j hi;unfold RN at this ⊢;rw[hs.prev,hs.auth,show bY k=bY l from funext u];exact this
    have hdp:k.all (Lc k)=true:=by
     rw[DT]at h2 ⊢;intro e L;obtain⟨i,hi,rfl⟩:=GZ L;have j:i<l.length:=aLN
     have :=h2 _ (Df j);have hs:=h.sim j hi;unfold Lc at this ⊢;rw[hs.prev,hs.auth,hs.depth,show Ey k=Ey l from funext O];exact this
    rw[hcl,hdp];rfl
 ·obtain⟨a,b,c,_⟩:=aDM h M I;exact⟨a,b,c⟩
 ·exact Ia.1 ((Xp hd (aDM h M I).2.2.2.1).2 a ha).1
 exact Ia.1 ((Xp hd (aDM h M I).2.2.2.1).1 a ha).1
def aSY {l k:List AB} (h:aNY l k) (M:P9 l) (hl:l.length≤100) (u:k.length≤100) (hd:IB l=0):(∀x,Du (D5 k) x=Du (D5 l) x)∧TN k (D5 k)=TN l (D5 l)∧Hf k (D5 k)=Hf l (D5 l):=by
 have I:=M.ok hl;have q:=h.facts.ok u;have O:=aP0 h.agr I hd q h.deep
 have J:∀x,Du (D5 k) x=Du (D5 l) x:=fun x=>by
  by_cases j:x∈l.map (·.Id)
  ·exact(O x j).1
  have z:∀{m:List AB},x∉m.map (·.Id)→Du (D5 m) x=none:=fun{m} U=>by
   rw[vM,ac4];exact fun Y=>U (Ia.1 (iO.1 Y))
  rw[z j,z (by rw[h.ids];exact j)]
 have L:Hf k (D5 k)=Hf l (D5 l):=by
  rw[aLQ,aLQ,h.ids];exact bn fun x _=>by unfold Gn;rw[J]
 exact⟨J,aqz h.agr I hd q h.deep (fun x j=>by rw[aLQ]at j;exact(EY.1 j).1) L,L⟩
def KY (x:Ci):JK:=⟨x.id,x.before,x.after,x.err⟩
def YN (t:List Ci) (x:Int):JK×Bool:=match Du t x with
 |some y=>(KY y,true)
 |none=>(kW,false)
def ate (t:List Ci) (x:Int):(YN t x).1.After=Ho t x:=by unfold YN Ho;cases Du t x<;>rfl
def apZ (t:List Ci) (x:Int):(YN t x).1.Err=errOf t x:=by unfold YN errOf;cases Du t x<;>rfl
def aev (t:List Ci) (x:Int) (O:t.length≤1000000):aI9 (t.map KY) x=some (YN t x):=by
 unfold aI9 aQ6;have J:(t.map KY).length=t.length:=CM ..;refine dP.eq (Xi (body:=aNc (t.map KY) x) (Q:=(· =YN t x)) (fun n a _=>∃i:Nat,a=i∧i+n=t.length∧∀j,(m:j<i)→(hl:j<t.length)→¬(t[j].id==x)=true) ?_ Af t.length 0 _ (fuel_lt AA) ⟨0,rfl,AA,fun j m=>AA⟩);rintro n a b k ⟨i,rfl,U,u⟩ L;unfold aNc;by_cases hi:i<t.length
 ·have q:i<(t.map KY).length:=AA
  rw[Bv q,Ba q,AQ,MW];show dP (bif t[i].id==x then some (KY t[i],true)else k _ b) _;cases I:t[i].id==x with
  |true=>
   have z:Du t x=some t[i]:=by
    unfold Du;rw[List.find?_eq_some_iff_getElem];exact⟨I,i,hi,rfl,fun j m=>by have :=u j m AA;simpa using this⟩
   exact .ret (by unfold YN;rw[z])
  |false=>
   refine L (n-1) _ _ AA ⟨i+1,wrap_succ i AA,AA,fun j m hl=>?_⟩;by_cases e:j=i
   ·subst e;rw[I];simp
   exact u j AA hl
 have :i=t.length:=AA
 subst this;rw[←J,CX]
 have z:Du t x=none:=by
  unfold Du;rw[aB9];intro y M;obtain⟨j,m,rfl⟩:=GZ M;exact u j m m
 exact .ret (by unfold YN;rw[z])
def abQ (t:List JK) (x:Int):aMg t x=aI9 t x:=rfl
def asD (l:List AB) (t:List Ci) (e:AB) (s:List Ah) (hl:l.length≤100) (hs:DF l) (u:Fl e) (L:s.length≤100) (Y:t.length≤1000):zG l (t.map KY) e s=some (KR l t e s):=by
 have Z:=u.auth;have h2:=fD l s
 have z:∀v,aA6 e (t.map KY) l s v=some (bif v != 0 then v else bif e.bD.any (fun x=>errOf t x != 0)then 16 else NG e (FZ l s)):=fun v=>by
  unfold aA6 aRb
  refine dP.eq (Jf e.bD.length (fuel_lt AA) (fun i a=>a=bif v != 0 then v else bif (e.bD.take i).any (fun x=>errOf t x != 0)then 16 else 0) (by cases m:v != 0 with
   |true=>rfl
   |false=>exact Y0) (fun i a k hi ha I=>?_) fun a k ha=>?_)
  ·unfold aMR aJv;rw[Bv hi,abQ,aev _ _ AA,AQ,apZ,wrap_succ i AA];have M:(bif a==0 then some (errOf t e.bD[i] != 0)else some false)=some (a==0&&errOf t e.bD[i] != 0):=by cases a==0<;>rfl
   rw[M,AQ]
   have j:∀b:Int,b=(bif a==0&&errOf t e.bD[i] != 0 then 16 else a)→b=bif v != 0 then v else bif (e.bD.take (i+1)).any (fun x=>errOf t x != 0)then 16 else 0:=fun b O=>by
    rw[aDQ hi,O,ha];cases m:v != 0 with
    |true=>
     have :(v==0)=false:=Y0
     simp only[Au,this,Bool.false_and,Aj]
    |false=>
     simp only[Aj];cases(e.bD.take i).any (fun x=>errOf t x != 0)<;>cases errOf t e.bD[i] != 0<;>rfl
   cases J:(a==0&&errOf t e.bD[i] != 0)with
   |true=>exact I _ (j 16 (by rw[J];rfl))
   |false=>exact I _ (j a (by rw[J];rfl))
  unfold aMR;rw[CX,Aj,ha,GI,agl l s hl AA,AQ,aMc e (FZ l s) AA (aEG hs _) u];cases m:v != 0 with
  |true=>simp only[Au,m];exact .ret rfl
  |false=>
   cases e.bD.any (fun x=>errOf t x != 0)with
   |true=>exact .ret rfl
   |false=>exact .ret rfl
 unfold zG KR XV;rw[ar9 l e hl u,AQ,afH l e AA AA,AQ,aMc e _ (Eh (aCM l e) AA) (hs.from e) u,AQ,z,z];have q:(Pm l e != 0)= !(Pm l e==0):=rfl;rw[q];cases U:Pm l e==0 with
 |true=>rfl
 |false=>rw[IU,Au,Au,q,U];rfl
def aIL (l:List AB):∀(ids:List Int) (t:List Ci),(ids.foldl (fun t id=>t++[Hw l t (ev l id)]) t).length=t.length+ids.length
 | [],t=>rfl
 |x::ids,t=>by rw[Et,aIL l ids,EG,Fa];simp;omega
def anf {l:List AB} (h:Jo l):aPl l=some ((D5 l).map KY):=by
 have hl:=h.len;have hs:=h.small;have L:=aMW l;unfold aPl;rw[apR l AA,AQ];unfold D5;generalize Hy l=ids at L;unfold adv;refine dP.eq (Jf ids.length (fuel_lt AA) (fun i a=>a=(Gz l (ids.take i)).map KY) rfl (fun i a k hi ha hk=>?_) fun a k ha=>?_)
 ·have M:KI l (Gz l (ids.take i)):=aDW hl hs _ _ fun y O=>absurd O Ez
  have U:(Gz l (ids.take i)).length≤100:=by
   have :=aIL l (ids.take i) [];unfold Gz;rw[this,FY,Md];omega
  have m:=aOh l hi;have he:=aFA hs ids[i];have Y:=he.prev;generalize Gz l (ids.take i)=t at ha M U m;subst ha;unfold aOs;rw[Bv hi,NQ l _ AA,AQ];have z:(Gq l ids[i]).1=ev l ids[i]:=rfl;unfold aTY;refine TR (body:=aNE (Gq l ids[i]) l k (i:Int)) (Q:=_) (fun n a b c=>∃j:Nat,b=j∧j+n=(ev l ids[i]).bC.length∧c=t.map KY∧a=((ev l ids[i]).bC.take j).map (Ho t)) ?_ Af (ev l ids[i]).bC.length [] 0 (t.map KY) (fuel_lt AA) ⟨0,rfl,AA,rfl,rfl⟩;rintro n a b c k2 ⟨j,rfl,hn,rfl,ha⟩ Z;unfold aNE;rw[z];by_cases hj:j<(ev l ids[i]).bC.length
  ·have hal:a.length≤j:=kX
   rw[Bv hj,abQ,aev _ _ AA,AQ,ate,D7 FM,AQ,wrap_succ j AA];exact Z (n-1) _ _ _ AA ⟨j+1,rfl,AA,rfl,by rw[map_take hj,ha]⟩
  have :j=(ev l ids[i]).bC.length:=AA
  subst this;rw[GI]at ha;subst ha;rw[CX,Aj];have hp:=M.stB hl hs Y;have I:=hp.length
  have hJ:dP (zM l (Gq l ids[i]) k (i:Int) (t.map KY) ⟨(ev l ids[i]).Id,stB l t (ev l ids[i]),[],0⟩) (fun x=>x=(Gz l ids).map KY):=by
   unfold zM;rw[z];show dP ((zG l (t.map KY) (ev l ids[i]) (stB l t (ev l ids[i]))).bind _) _;rw[asD l t (ev l ids[i]) _ hl hs he AA AA,AQ];have q:Hw l t (ev l ids[i])=Y5 (ev l ids[i]) (stB l t (ev l ids[i])) (KR l t (ev l ids[i]) (stB l t (ev l ids[i]))):=rfl;rw[q]at m;generalize KR l t (ev l ids[i]) (stB l t (ev l ids[i]))=r at m;generalize stB l t (ev l ids[i])=s at m I
   have J:∀y:Ci,y=Y5 (ev l ids[i]) s r→dP (aDX k (i:Int) (t.map KY) (KY y)) (fun x=>x=(Gz l ids).map KY):=fun y O=>by
    unfold aDX;rw[D7 (by simp only[Nq,CM];omega),AQ,wrap_succ i AA];exact hk _ (by rw[m,O,JU];rfl)
   show dP ((bif r==0 then(Ui (ev l ids[i]).Kind).bind fun u=>some u else some false).bind _) _;rw[aCb,show(bif r==0 then(some (Gv (ev l ids[i]).Kind)).bind fun u=>some u else some false)=some (r==0&&Gv (ev l ids[i]).Kind) by cases r==0<;>rfl,AQ];cases hc:(r==0&&Gv (ev l ids[i]).Kind)with
   |true=>
    rw[Au];show dP ((jD s (ev l ids[i]).Kind (ev l ids[i]).Key (ev l ids[i]).Id).bind _) _;rw[aOH _ _ _ _ AA,AQ];exact J ⟨(ev l ids[i]).Id,s,FQ s (ev l ids[i]).Kind (ev l ids[i]).Key (ev l ids[i]).Id,r⟩ (by unfold Y5;rw[hc];rfl)
   |false=>
    rw[Aj];exact J ⟨(ev l ids[i]).Id,s,s,r⟩ (by unfold Y5;rw[hc];rfl)
  by_cases hz:(ev l ids[i]).bC=[]
  ·have hst:stB l t (ev l ids[i])=[]:=by unfold stB;rw[hz];rfl
   rw[hst]at hJ;rw[hz];exact hJ
  have hpos:0<(ev l ids[i]).bC.length:=xY.2 hz;rw[IJ U2,Au,amB (M.okay hl hs _ AA),AQ];exact hJ
 unfold aOs;rw[CX];exact .ret lg
def akn {l:List AB} {c:Int} (q:NZ l=some c) (h:c=0→Jo l):aKQ l=some ((Dp l c).map KY)∧KI l (Dp l c)∧(Dp l c).length≤l.length:=by
 unfold aKQ aeU Dp;rw[q,AQ];cases u:c==0 with
 |false=>exact⟨rfl,fun y m=>absurd m Ez,EZ _⟩
 |true=>
  have j:=h (eq_of_beq u);have hlen:(D5 l).length=l.length:=by rw[←aMW l];have :=aIL l (Hy l) [];simpa[D5,Gz]using this
  rw[Au,ars l j.len j.small j.dep,AQ,AQ,AQ,Fe];cases hd:IB l==0 with
  |false=>exact⟨rfl,fun y m=>absurd m Ez,EZ _⟩
  |true=>
   rw[Dz,Aj,anf j,AQ,Au];exact⟨rfl,zl j,aT hlen⟩
def Gp (t:List Ci) (x:Int):List Ah×Int:=match Du t x with
 |some y=>(y.before,bif y.err != 0 then 2 else 4)
 |none=>([],0)
def OY (l:List AB) (t:List Ci):List Int:=l.filterMap fun e=>(Du t e.Id).map fun y=>bif y.err != 0 then 2 else 4
section
variable {l : List AB} {c : Int}
def am8 (q:Nr l=some c) (h:c=0→Jo l) (id:Int):Vh l id=some (Gp (Dp l c) id):=by
 unfold Vh;refine dP.eq ((run_eq l q h).bind fun o u=>?_);rcases u with⟨j,rfl⟩|⟨j,_,T,rfl,m⟩
 ·rw[j];exact .ret rfl
 rw[j];simp only[bV];unfold aLD sB Gp;rw[m.r,m.b];cases Du (D5 l) id with
 |none=>exact .ret rfl
 |some y=>
  show dP ((bif y.err != 0 then some 2 else some 4).bind fun z=>some (y.before,z)) (fun r=>r=(y.before,bif y.err != 0 then 2 else 4));cases y.err != 0<;>exact .ret rfl
def agE (q:Nr l=some c) (h:c=0→Jo l):nT l=some (Hf l (Dp l c)):=by
 unfold nT;refine dP.eq ((run_eq l q h).bind fun o j=>?_);rcases j with⟨m,rfl⟩|⟨m,j,T,rfl,u⟩
 ·rw[m,aaC];exact .ret rfl
 rw[m];show dP ((bQ T.1 T.2.1 T.2.2 l).bind _) _;rw[aPo u j.len];exact .ret rfl
def aqK (t:List Ci) {i:Nat} (h:i<l.length):OY (l.take (i+1)) t=OY (l.take i) t++((Du t l[i].Id).map fun y=>bif y.err != 0 then 2 else 4).toList:=by
 unfold OY;rw[Ot h,bG];congr 1
def aRh (l:List AB) (t:List Ci):(OY l t).length≤l.length:=List.length_filterMap_le ..
def aLK (u:Nr l=some c) (h:c=0→Jo l):Xf l=some (OY l (Dp l c)):=by
 unfold Xf;refine dP.eq ((run_eq l u h).bind fun o j=>?_);rcases j with⟨m,rfl⟩|⟨m,j,T,rfl,z⟩
 ·rw[m];exact .ret (show[]=OY l []from(aT1.2 fun _ _=>rfl).symm)
 rw[m];have hl:=j.len;show dP (aNI l [] 0 T.1 T.2.1 T.2.2) _;unfold aNI;refine aDt (body:=aPd l) (Q:=(· =OY l (D5 l))) (fun n a b c d e=>∃i:Nat,b=i∧i+n=l.length∧a=OY (l.take i) (D5 l)∧c=T.1∧d=T.2.1∧e=T.2.2) ?_ Af l.length [] 0 _ _ _ (fuel_lt AA) ⟨0,rfl,AA,rfl,rfl,rfl,rfl⟩;rintro n a b c d e k ⟨i,rfl,M,ha,rfl,rfl,rfl⟩ I;unfold aPd;by_cases hi:i<l.length
 ·have J:a.length≤i:=by rw[ha];exact Eh (aRh _ _) aBe
  obtain⟨y,q⟩:=aRx (Ia.2 (Ee.2 ⟨_,Df hi,rfl⟩));unfold sB;rw[Bv hi,z.err];have L:errOf (D5 l) l[i].Id=y.err:=by unfold errOf;rw[q];rfl
  rw[L,show(bif y.err != 0 then some 2 else some 4)=some (bif y.err != 0 then(2:Int)else 4) by cases y.err != 0<;>rfl,AQ,D7 FM,AQ,wrap_succ i AA];exact I (n-1) _ _ _ _ _ AA ⟨i+1,rfl,AA,by rw[aqK _ hi,q,ha];rfl,rfl,rfl,rfl⟩
 have :i=l.length:=AA
 subst this;rw[DC];exact .ret lg
end
def aQn {l:List AB} {t:List Ci} (h:KI l t) {x:Int} {y:Ci} (j:Du t x=some y):I9 l y.before∧I9 l y.after:=h y (SV j)
def NK (l:List AB) (s:List Ah) (j:AB):Int:=
 bif !(j.Kind==14)then 1 else bif !bY l j.Content.Target then 5 else bif !(I5 (FZ l s) j.aP==3)then 18 else
 bif !decide (j.aP=(ev l j.Content.Target).aP)&&decide (Dw (EX (FZ l s)) j.aP<(EX (FZ l s)).fC)then 20 else 0
def Q8 (l:List AB) (t:List Ci) (e:AB):Bool:=Gn t e.Id&&(e.Kind==14&&NK l (Gp t e.Id).1 e==0)
def Ox (l:List AB) (t:List Ci):List AB:=l.filter (Q8 l t)
def iE (l:List AB) (t:List Ci):List AB:=(Rx l).filter (Q8 l t)
def aO (l:List AB):List Int:=l.map (·.Content.Target)
def FH (l:List AB) (t:List Ci):List Int:=Ed (aO (Ox l t))
def Gm (g:List Int) (e:AB):AB:=bif CZ g e.Id then J7 e else e
def VF (l:List AB) (t:List Ci) (id:Int):Option AB:=(iE l t).find? fun e=>e.Content.Target==id
def dZ {l:List AB} {t:List Ci} {x:Int}:x∈FH l t↔∃e∈l,Q8 l t e=true∧e.Content.Target=x:=by
 unfold FH aO Ox;rw[JV,Ee];exact⟨fun⟨e,j,h⟩=>⟨e,(EY.1 j).1,(EY.1 j).2,h⟩,fun⟨e,m,q,u⟩=>⟨e,EY.2 ⟨m,q⟩,u⟩⟩
def aOS (l:List AB) (t:List Ci):(Ox l t).length≤l.length:=Ic ..
def aUv (l:List AB) (e:AB):Q8 l [] e=false:=by unfold Q8 Gn Du;rfl
def abp (l:List AB):Ox l []=[]:=Zb.2 fun e _=>by rw[aUv];decide
def aij (l:List AB):iE l []=[]:=Zb.2 fun e _=>by rw[aUv];decide
def afK (l:List AB):FH l []=[]:=by unfold FH;rw[abp];rfl
def Px (id:Int) (b:Option AB) (e:AB):Option AB:=bif e.Content.Target==id&&(match b with |none=>true|some y=>Hl e y)then some e else b
def acN (id:Int) (b:Option AB) (e:AB):(Px id b e=some e∧e.Content.Target=id∧∀y,b=some y→Hl e y=true)∨(Px id b e=b∧(e.Content.Target=id→∃y,b=some y∧Hl e y=false)):=by
 unfold Px;cases j:e.Content.Target==id with
 |false=>exact .inr ⟨rfl,fun h=>by rw[h,KE]at j;cases j⟩
 |true=>
  have j:=eq_of_beq j;cases b with
  |none=>exact .inl ⟨rfl,j,fun y h=>GL⟩
  |some y=>
   simp only[Fe];cases hl:Hl e y with
   |true=>exact .inl ⟨rfl,j,fun z h=>by rw[←CO h];exact hl⟩
   |false=>exact .inr ⟨rfl,fun _=>⟨y,rfl,hl⟩⟩
def asq {a b c:AB} (j:Hl b a=false) (m:Hl c b=false):Hl c a=false:=by rw[eL]at *;omega
def aLg {a b:AB} (h:Hl a b=true):Hl b a=false:=by
 rw[eL];unfold Hl at h;rw[XT,CW,G8,G8,Q5]at h;omega
def Least (id:Int) (xs:List AB) (b:Option AB):Prop:=(∀y,b=some y→y∈xs∧y.Content.Target=id)∧∀e∈xs,e.Content.Target=id→∃y,b=some y∧Hl e y=false
def acM (id:Int):∀(xs j:List AB) (b:Option AB),Least id j b→Least id (j++xs) (xs.foldl (Px id) b)
 | [],j,b,h=>by rw[P6];exact h
 |x::xs,j,b,h=>by
  rw[Et,show j++x::xs=(j++[x])++xs by simp];refine acM id xs (j++[x]) _ ⟨fun y m=>?_,fun e q z=>?_⟩
  ·rcases acN id b x with⟨u,I,_⟩|⟨u,_⟩
   ·rw[u]at m;obtain rfl:=CO m;exact⟨GU.2 (.inr (Gu.2 rfl)),I⟩
   rw[u]at m;exact⟨GU.2 (.inl (h.1 y m).1),(h.1 y m).2⟩
  rcases acN id b x with⟨u,_,J⟩|⟨u,I⟩
  ·refine⟨x,u,?_⟩;rcases GU.1 q with q|q
   ·obtain⟨y,m,hl⟩:=h.2 e q z;exact asq (aLg (J y m)) hl
   rw[Gu.1 q];cases hl:Hl x x with
   |false=>rfl
   |true=>have :=aLg hl;rw[hl]at this;cases this
  rcases GU.1 q with q|q
  ·obtain⟨y,m,hl⟩:=h.2 e q z;exact⟨y,by rw[u];exact m,hl⟩
  rw[Gu.1 q]at z ⊢;obtain⟨y,m,hl⟩:=I z;exact⟨y,by rw[u];exact m,hl⟩
def ae2 (id:Int):∀(xs:List AB),xs.Pairwise (fun a b=>Hl b a=false)→Least id xs (xs.find? fun e=>e.Content.Target==id)
 | [],_=>⟨fun y h=>GL,fun e h=>absurd h Ez⟩
 |x::xs,I=>by
  obtain⟨J,L⟩:=OU.1 I;obtain⟨z,M⟩:=ae2 id xs L;rw[SB];cases u:x.Content.Target==id with
  |true=>
   refine⟨fun y q=>?_,fun e j m=>⟨x,rfl,?_⟩⟩
   ·obtain rfl:=CO q;exact⟨Ep ..,eq_of_beq u⟩
   rcases Ei.1 j with rfl|j
   ·cases hl:Hl e e with
    |false=>rfl
    |true=>have :=aLg hl;rw[hl]at this;cases this
   exact J e j
  |false=>
   refine⟨fun y q=>⟨FW _ (z y q).1,(z y q).2⟩,fun e j m=>?_⟩;rcases Ei.1 j with rfl|j
   ·rw[m,KE]at u;cases u
   exact M e j m
def ahJ {id:Int} {xs ys:List AB} {a b:Option AB} (j:∀e,e∈xs↔e∈ys) (q:∀x∈xs,∀y∈xs,x.Id=y.Id→x=y) (ha:Least id xs a) (u:Least id ys b):a=b:=by
 cases a with
 |none=>
  cases b with
  |none=>rfl
  |some y=>
   obtain⟨m,I⟩:=u.1 y rfl;obtain⟨z,J,_⟩:=ha.2 y ((j y).2 m) I;cases J
 |some x=>
  obtain⟨m,I⟩:=ha.1 x rfl;obtain⟨y,U,L⟩:=u.2 x ((j x).1 m) I;subst U;obtain⟨O,Y⟩:=u.1 y rfl;obtain⟨z,J,M⟩:=ha.2 y ((j y).2 O) Y;obtain rfl:=CO J;rw[eL]at L M;rw[q x m y ((j y).2 O) AA]
def akW {l:List AB} (j:(l.map (·.Id)).Nodup) (t:List Ci) (id:Int):(Ox l t).foldl (Px id) none=VF l t id:=by
 have m:=acM id (Ox l t) [] none ⟨fun y h=>GL,fun e h=>absurd h Ez⟩;rw[IV]at m;refine ahJ (ys:=iE l t) (fun e=>?_) (fun x q y u e=>?_) m (ae2 id _ ((aQt l).sublist QB))
 ·unfold Ox iE;rw[EY,EY,(aC l).mem_iff]
 rw[←Wi j (EY.1 q).1,←Wi j (EY.1 u).1,e]
def ahS {l:List AB} {t:List Ci} {id:Int} {e:AB} (h:VF l t id=some e):e∈l∧Q8 l t e=true∧e.Content.Target=id:=by
 unfold VF iE at h;have j:=SV h;obtain⟨m,q⟩:=EY.1 j;exact⟨(aC l).mem_iff.1 m,q,by have :=dn h;simpa using this⟩
def aiO {l:List AB} {t:List Ci} {id:Int}:(VF l t id).isSome=true↔id∈FH l t:=by
 rw[dZ];unfold VF iE;rw[List.find?_isSome];constructor
 ·rintro⟨e,j,h⟩;obtain⟨m,q⟩:=EY.1 j;exact⟨e,(aC l).mem_iff.1 m,q,Jz⟩
 rintro⟨e,j,m,q⟩;exact⟨e,EY.2 ⟨(aC l).mem_iff.2 j,m⟩,Nz⟩
def aCw {l:List AB} {t:List Ci} {e:AB} (h:Q8 l t e=true):Gn t e.Id=true∧e.Kind=14∧NK l (Gp t e.Id).1 e=0:=by
 unfold Q8 at h;simp only[CW,Q5]at h;exact⟨h.1,h.2.1,h.2.2⟩
def aId {l:List AB} {s:List Ah} {e:AB} (h:NK l s e=0):bY l e.Content.Target=true∧I5 (FZ l s) e.aP=3∧(e.aP≠(ev l e.Content.Target).aP→¬Dw (EX (FZ l s)) e.aP<(EX (FZ l s)).fC):=by
 unfold NK at h;cases u: !(e.Kind==14)with
 |true=>rw[u]at h;cases h
 |false=>
  rw[u,Aj]at h;cases z:bY l e.Content.Target with
  |false=>rw[z]at h;cases h
  |true=>
   rw[z,Dz,Aj]at h;cases j: !(I5 (FZ l s) e.aP==3)with
   |true=>rw[j]at h;cases h
   |false=>
    rw[j,Aj]at h;refine⟨rfl,O7,fun m q=>?_⟩;rw[IC m,IJ q]at h;cases h
def aiB {l:List AB} {t:List Ci} {x:Int} (h:x∈FH l t):bY l x=true:=by
 obtain⟨e,_,j,rfl⟩:=dZ.1 h;exact(aId (aCw j).2.2).1
def aaS {l l':List AB} {S:List Int} (h:G5 l l' S) {s:List Ah} (hs:JQ S s) {e f:AB} (q:Ji e f) (u:e.Kind=14→f.Content.Target=e.Content.Target) (I:bY l' e.Content.Target=bY l e.Content.Target) (J:bY l e.Content.Target=true→e.Content.Target∈S):NK l' s f=NK l s e:=by
 unfold NK;rw[q.kind];cases L:e.Kind==14 with
 |false=>rfl
 |true=>
  rw[u (eq_of_beq L),I,q.sender];cases m:bY l e.Content.Target with
  |false=>rfl
  |true=>
   have M:=h.mem _ (J m)
   have j:Gw (FZ l s) (FZ l' s):=h.ids fun y O=>by
    obtain⟨z,U,rfl⟩:=Ee.1 O;exact hs z U
   rw[zJ j,zI j,M.2.2.sender]
def adT {l:List AB} {s:List Ah} (h:I9 l s):JQ (l.map (·.Id)) s:=fun x j=>Ia.1 (h.named x j).1
def aSH {l:List AB} (j:Jo l) (x:Int):I9 l (Gp (D5 l) x).1:=by
 unfold Gp;cases m:Du (D5 l) x with
 |none=>exact .nil l
 |some y=>exact(aQn (zl j) m).1
def acS {e:AB} (h:e.Kind=14):(J7 e).Content.Target=e.Content.Target:=by
 show(IG e.Kind e.Content).Target=_;rw[h];rfl
def kG (g:List Int) (e:AB):Gm g e=e∨Gm g e=J7 e:=by
 unfold Gm;cases CZ g e.Id with
 |true=>exact .inr rfl
 |false=>exact .inl rfl
def aMF (g:List Int) (e:AB):(Gm g e).Id=e.Id:=by rcases kG g e with h|h<;>rw[h]<;>rfl
def agV (g:List Int) (e:AB):Gm g (Gm g e)=Gm g e:=by
 have h:=aMF g e;unfold Gm at h ⊢;rw[h];cases CZ g e.Id with
 |false=>rfl
 |true=>
  show J7 (J7 e)=J7 e;unfold J7;show({ e with Content:=IG e.Kind (IG e.Kind e.Content) }:AB)=_;rw[aN6]
def agI (g:List Int) (l:List AB):Yb l (l.map (Gm g)):=⟨CM ..,fun i h h'=>by rw[MW];exact kG g l[i]⟩
def anr {l:List AB} (g:List Int) (z:aNY l (l.map (Gm g))) (U:P9 l) (hl:l.length≤100) (hd:IB l=0):FH (l.map (Gm g)) (D5 (l.map (Gm g)))=FH l (D5 l):=by
 have I:(l.map (Gm g)).length≤100:=by rw[CM];exact hl
 obtain⟨Y,_,_⟩:=aSY z U hl I hd;have ho:=U.ok hl;have q:∀x,bY (l.map (Gm g)) x=bY l x:=fun x=>by rw[KG,Ia,Ia,z.ids]
 have Z:∀e,Q8 (l.map (Gm g)) (D5 (l.map (Gm g))) (Gm g e)=Q8 l (D5 l) e:=fun e=>by
  have j:Ji e (Gm g e):=by
   rcases kG g e with h|h<;>rw[h]
   ·exact .refl e
   exact acQ e
  have J:Gp (D5 (l.map (Gm g))) e.Id=Gp (D5 l) e.Id:=by unfold Gp;rw[Y]
  have L:Gn (D5 (l.map (Gm g))) e.Id=Gn (D5 l) e.Id:=by unfold Gn;rw[Y]
  unfold Q8
  rw[aMF,J,L,j.kind,aaS z.agr (adT (aSH ho e.Id)) j (fun M=>by
   rcases kG g e with h|h<;>rw[h]
   exact acS M) (q _) fun h=>Ia.1 h]
 refine BK (Jt _) (Jt _) fun x=>?_;have h1:=dZ (l:=l.map (Gm g)) (t:=D5 (l.map (Gm g))) (x:=x);have h2:=dZ (l:=l) (t:=D5 l) (x:=x);refine h1.trans (Iff.trans ?_ h2.symm)
 have ht:∀e,Q8 l (D5 l) e=true→(Gm g e).Content.Target=e.Content.Target:=fun e u=>by
  have M:=(aCw u).2.1;rcases kG g e with h|h<;>rw[h]
  exact acS M
 constructor
 ·rintro⟨f,hf,m,O⟩;obtain⟨e,u,rfl⟩:=Ee.1 hf;rw[Z]at m;exact⟨e,u,m,by rw[←O,ht e m]⟩
 rintro⟨e,u,m,O⟩;exact⟨Gm g e,Ee.2 ⟨e,u,rfl⟩,by rw[Z];exact m,by rw[ht e m];exact O⟩
def GH (d:Int) (l:List AB):List AB:=l.filter fun e=>decide (e.Depth≤d)
def anm {k:List AB} (hk:k.length≤1000) (hv:∀e∈k,Ty e=some 0) (hr:∀x∈k,∀y∈k,x.Room=y.Room) (hi:Inc (k.map (·.Id))):NZ k=some 0:=by
 have h3:∀s:Nat,1≤s→s≤k.length→dN k (s:Int)=some 0:=by
  have key:∀n (i:Nat) m,1≤i→i+n=k.length→n<m→bg (Ug k) m (i:Int)=some 0:=by
   intro n
   induction n with
   |zero=>
    intro i m _ u M;obtain⟨m,rfl⟩:∃I,m=I+1:=⟨m-1,AA⟩
    have :i=k.length:=AA
    subst this;show Ug k _ _=_;unfold Ug;rw[CX,Aj]
   |succ n O=>
    intro i m U u M;obtain⟨m,rfl⟩:∃I,m=I+1:=⟨m-1,AA⟩
    obtain⟨j,rfl⟩:∃j,i=j+1:=⟨i-1,AA⟩
    have J:j+1<k.length:=AA
    have hw:Ag (((j+1:Nat):Int)-1)=(j:Int):=aQ4
    have hlt:k[j].Id<k[j+1].Id:=by
     have :=Jq.1 hi j (j+1) U2 U2 AA;simpa using this
    show Ug k _ _=_;unfold Ug;rw[dec_lt J,Au,hw,Ba (show j<k.length by omega),AQ,Ba J,AQ,IC (show ¬k[j].Id≥k[j+1].Id by omega),Aj,wrap_succ (j+1) AA];exact O (j+1+1) m AA AA AA
  intro s U Z;exact key (k.length-s) s Af U AA (fuel_lt AA)
 have Y:dN k 1=some 0:=by
  by_cases h0:1≤k.length
  ·exact h3 1 (Dk _) h0
  have :k=[]:=Gg AA;subst this;have q:dN [] 1=some 0:=A8
  exact q
 have Z:kT k 1=some 0:=by
  by_cases h0:1≤k.length
  ·have key:∀n (i:Nat) m,1≤i→i+n=k.length→n<m→bg (Tj k) m (i:Int)=some 0:=by
    intro n
    induction n with
    |zero=>
     intro i m _ u M;obtain⟨m,rfl⟩:∃I,m=I+1:=⟨m-1,AA⟩
     have :i=k.length:=AA
     subst this;show Tj k _ _=_;unfold Tj;rw[CX,Aj];exact Y
    |succ n O=>
     intro i m U u M;obtain⟨m,rfl⟩:∃I,m=I+1:=⟨m-1,AA⟩
     have L:i<k.length:=AA
     have z:Ae k 0=some k[0]:=Ba (show 0<k.length by omega);show Tj k _ _=_;unfold Tj;rw[Bv L,z,AQ,hr _ (Df L) _ (Df (show 0<k.length by omega)),KE,Dz,Aj,wrap_succ i AA];have q:=O (i+1) m AA AA AA;unfold Tj at q;rw[z]at q;exact q
   exact key (k.length-1) 1 Af (Dk _) AA (fuel_lt AA)
  have :k=[]:=Gg AA;subst this;have q:kT [] 1=some 0:=A8
  exact q
 unfold NZ nX;rw[IC (show ¬((k.length:Int)>2000) by omega),Aj];refine dP.eq (Xv k.length (fuel_lt AA) (fun _=>True) trivial (fun i f hi _ hf=>?_) fun f _=>?_)
 ·unfold Yl;rw[Bv hi,hv _ (Df hi),AQ,Ln,Aj,wrap_succ i AA];exact hf trivial
 unfold Yl;rw[CX,Aj,Z];exact .ret rfl
def iw {d:Int} {l:List AB} {e:AB}:e∈GH d l↔e∈l∧e.Depth≤d:=by
 unfold GH;rw[EY,G8]
structure abl (l k:List AB):Prop where
 prog:Nr k=some 0
 facts:P9 k
 deep:IB k=0
 agr:G5 k l (k.map (·.Id))
def aqk {l:List AB} (d:Int) (U:P9 l) (hl:l.length≤100) (hc:NZ l=some 0) (hd:IB l=0):abl l (GH d l):=by
 have hn:=Rq U.inc;have hlen:(GH d l).length≤l.length:=Ic ..;have j:∀e∈GH d l,e∈l:=fun e m=>(iw.1 m).1;have I:Inc ((GH d l).map (·.Id)):=U.inc.sublist (QB.map _);have Z:=anm (k:=GH d l) AA (fun e m=>aau hc hl e (j e m)) (fun x q y hy=>U.room x (j x q) y (j y hy)) I;obtain⟨c,c1,c2,c3⟩:=aPE (l:=GH d l) (fun e m=>((U.ev e (j e m)).2).wide) AA;obtain rfl:c=0:=CO (c2.symm.trans Z);have O:=Rq I;have z:∀e∈GH d l,ev (GH d l) e.Id=e∧ev l e.Id=e:=fun e m=>⟨Wi O m,Wi hn (j e m)⟩
 have u:∀e∈GH d l,∀a,bY l a=true→(ev l a).Depth<e.Depth→bY (GH d l) a=true∧ev (GH d l) a=ev l a:=fun e m a k1 k2=>by
  obtain⟨g1,g2⟩:=Ib k1;have hm:ev l a∈GH d l:=iw.2 ⟨KL g1,by have :=(iw.1 m).2;omega⟩;have M:=(z _ hm).1;rw[g2]at M;exact⟨Ia.2 (Ee.2 ⟨_,hm,g2⟩),M⟩
 have hcl:Oz (GH d l)=true:=by
  unfold Oz;rw[DT];intro e m;obtain⟨J,L⟩:=Xp hd (j e m);unfold RN;rw[CW,DT,DT];exact⟨fun a ha=>(u e m a (L a ha).1 (L a ha).2).1,fun a ha=>(u e m a (J a ha).1 (J a ha).2).1⟩
 have hdp:(GH d l).all (Lc (GH d l))=true:=by
  rw[DT];intro e m;obtain⟨J,L⟩:=Xp hd (j e m)
  have hl2:l.all (Lc l)=true:=by
   unfold IB at hd;cases M:Oz l with
   |false=>rw[M]at hd;cases hd
   |true=>
    rw[M,Au]at hd;cases h2:l.all (Lc l)with
    |false=>rw[h2]at hd;cases hd
    |true=>rfl
  have h:=DT.1 hl2 e (j e m);have ea:∀a∈e.bD,Ey (GH d l) a=Ey l a:=fun a ha=>BI (·.Depth) (u e m a (J a ha).1 (J a ha).2).2;have Y:∀a∈e.bC,Ey (GH d l) a=Ey l a:=fun a ha=>BI (·.Depth) (u e m a (L a ha).1 (L a ha).2).2
  have q1:e.bD.all (fun x=>decide (Ey (GH d l) x<e.Depth))=e.bD.all (fun x=>decide (Ey l x<e.Depth)):=by
   rw[KG,DT,DT];exact⟨fun h x q=>by rw[←ea x q];exact h x q,fun h x q=>by rw[ea x q];exact h x q⟩
  have q2:e.bC.all (fun x=>decide (Ey (GH d l) x<e.Depth))=e.bC.all (fun x=>decide (Ey l x<e.Depth)):=by
   rw[KG,DT,DT];exact⟨fun h x q=>by rw[←Y x q];exact h x q,fun h x q=>by rw[Y x q];exact h x q⟩
  have q3:e.bC.any (fun x=>Ey (GH d l) x==e.Depth-1)=e.bC.any (fun x=>Ey l x==e.Depth-1):=by
   rw[KG,Fv,Fv];exact⟨fun⟨x,q,h⟩=>⟨x,q,by rw[←Y x q];exact h⟩,fun⟨x,q,h⟩=>⟨x,q,by rw[Y x q];exact h⟩⟩
  unfold Lc at h ⊢;rw[q1,q2,q3];exact h
 refine⟨c1,c3 rfl,by unfold IB;rw[hcl,hdp];rfl,⟨O,fun x q=>?_,fun x q a ha=>?_,fun x q a ha=>?_⟩⟩
 ·obtain⟨e,m,rfl⟩:=Ee.1 q;obtain⟨M,h2⟩:=z e m;rw[M,h2];exact⟨Ia.2 q,Ia.2 (Ee.2 ⟨e,j e m,rfl⟩),.refl e⟩
 ·obtain⟨e,m,rfl⟩:=Ee.1 q;rw[(z e m).1]at ha;obtain⟨_,L⟩:=Xp hd (j e m);exact Ia.1 (u e m a (L a ha).1 (L a ha).2).1
 obtain⟨e,m,rfl⟩:=Ee.1 q;rw[(z e m).1]at ha;obtain⟨J,_⟩:=Xp hd (j e m);exact Ia.1 (u e m a (J a ha).1 (J a ha).2).1
def ane {l:List AB} {d:Int} (h:abl l (GH d l)) (O:P9 l) (hl:l.length≤100) (hd:IB l=0) {x:Int} (U:x∈FH (GH d l) (D5 (GH d l))):x∈FH l (D5 l):=by
 have hlen:(GH d l).length≤l.length:=Ic ..;have Y:=O.ok hl;have j:=h.facts.ok AA;have Z:=aP0 h.agr j h.deep Y hd;obtain⟨e,J,L,h3⟩:=dZ.1 U;obtain⟨b1,b2,b3⟩:=aCw L;obtain⟨M,_,_⟩:=aId b3;obtain⟨q,_⟩:=Z e.Id (Ee.2 ⟨e,J,rfl⟩);have u:Gp (D5 l) e.Id=Gp (D5 (GH d l)) e.Id:=by unfold Gp;rw[q]
 have z:Gn (D5 l) e.Id=Gn (D5 (GH d l)) e.Id:=by unfold Gn;rw[q]
 have I:bY l e.Content.Target=true:=(h.agr.mem _ (Ia.1 M)).2.1;have m:=aaS h.agr (adT (aSH j e.Id)) (.refl e) (fun _=>rfl) (by rw[I,M]) fun hh=>Ia.1 hh;refine dZ.2 ⟨e,(iw.1 J).1,?_,h3⟩;unfold Q8;rw[z,u,m];exact L
def ah3 {α:Type} {v:List α} {i:Nat} {x:α} (h:v[i]? =some x):v.set i x=v:=by
 apply ZB;intro j;rw[aGx];split
 ·rename_i e;subst e;split
  ·rw[h]
  rename_i q;rw[I7 AA]
 rfl
def amU {R α:Type} (q:Nat→Int→List α→Option R) (l:List α) (f:α→α) (j:List α→Option R) (hl:l.length≤1099511627776)
 (M:∀m (i:Nat) v (h:i<l.length),v.length=l.length→v[i]? =some l[i]→q (m+1) (i:Int) v=q m (Ag ((i:Int)+1)) (v.set i (f l[i])))
 (O:∀m v,v.length=l.length→q (m+1) (l.length:Int) v=j v):q Af 0 l=j (l.map f):=by
 have key:∀n (i:Nat) (v:List α),i+n=l.length→v=(l.take i).map f++l.drop i→∀m,n<m→q m (i:Int) v=j (l.map f):=by
  intro n
  induction n with
  |zero=>
   intro i v hi z m U;obtain⟨m,rfl⟩:∃k,m=k+1:=⟨m-1,AA⟩
   have I:i=l.length:=AA
   subst I;have e:v=l.map f:=by rw[z];simp
   rw[O m v (by rw[e];simp),e]
  |succ n Y=>
   intro i v hi z m U;obtain⟨m,rfl⟩:∃k,m=k+1:=⟨m-1,AA⟩
   have h:i<l.length:=AA
   have J:((l.take i).map f).length=i:=DU
   have L:v=(l.take i).map f++l[i]::l.drop (i+1):=by rw[z,LG h]
   have hlen:v.length=l.length:=by rw[z];simp;omega
   have u:v[i]? =some l[i]:=by rw[L,Jd AA,J];simp
   rw[M m i v h hlen u,wrap_succ i AA];refine Y (i+1) _ AA ?_ m AA;rw[L,List.set_append_right _ _ AA,J,Nat.sub_self,List.set_cons_zero,Ot h,JU,Hr];rfl
 exact key l.length 0 l AA Ap Af (fuel_lt hl)
def XL {α:Type} {body:(Int→Option Bool)→Int→Option Bool} (l:List α) (hl:l.length≤1000) (rest:Option Bool) (j:∀k (i:Nat) (h:i<l.length),body k (i:Int)=k (Ag ((i:Int)+1))) (q:∀k,body k (l.length:Int)=rest):bg body Af 0=rest:=by
 have key:∀n (i:Nat),i+n=l.length→∀m,n<m→bg body m (i:Int)=rest:=by
  intro n
  induction n with
  |zero=>
   intro i hi m u;obtain⟨m,rfl⟩:∃k,m=k+1:=⟨m-1,AA⟩
   rw[show i=l.length by omega];exact q _
  |succ n z=>
   intro i hi m u;obtain⟨m,rfl⟩:∃k,m=k+1:=⟨m-1,AA⟩
   have :=j (bg body m) i AA;rw[wrap_succ i AA]at this;exact this.trans (z (i+1) AA m AA)
 exact key l.length 0 AA Af (fuel_lt AA)
def cZ (n:Int):(n != n)=false:=Ap
def aTe {l:List Int} (h:l.length≤1000):wG l l=some true:=by
 unfold wG aUq;rw[cZ,Aj];exact XL l h _ (fun k i h=>by simp only[aJl,dec_lt h,Au,Ba h,AQ,Ln,Aj]) (fun k=>by simp only[aJl,CX,Aj])
def aUl {l:List ByteArray} (h:l.length≤1000):U8 l l=some true:=by
 unfold U8 aCS;rw[cZ,Aj];exact XL l h _ (fun k i h=>aRA) (fun k=>aL5)
def akw {l:Bd} (j:l.Users.length≤1000) (m:l.Kinds.length≤1000):Wq l l=some true:=by
 have q:YM l l 0=some true:=by
  unfold YM;exact XL l.Kinds m _ (fun k i h=>by simp only[eA,dec_lt h,Au,Ba h,AQ,Ln,Aj,tK]) (fun k=>by simp only[eA,CX,Aj,KE,Au,AQ])
 unfold Wq;rw[cZ,cZ,Aj,AQ,Aj];unfold qy;exact XL l.Users j _ (fun k i h=>by simp only[mZ,dec_lt h,Au,Ba h,AQ,KE,Dz,Ln,Aj,qp]) (fun k=>by simp only[mZ,CX,Aj];exact q)
def apD {c:Bj} (j:c.Allow.length≤1000) (m:c.gy.length≤1000) (q:c.Levels.Users.length≤1000) (u:c.Levels.Kinds.length≤1000):St c c=some true:=by
 unfold St;simp only[KE,Au,AQ,aUl j,aUl m,akw q u]
def akZ {e:AB} (h:Fl e):aA4 e e=some true:=by
 have :=h.prev;have :=h.auth;have j:=h.allow;have m:=h.deny;have q:=h.users;have u:=h.kinds;unfold aA4;simp only[KE,Au,AQ,aTe (l:=e.bC) AA,aTe (l:=e.bD) AA,apD (c:=e.Content) AA AA AA AA]
def aoM {l:List AB} (h:l.length≤1000) (hs:∀e∈l,Fl e):aCs l l=some true:=by
 unfold aCs aUU;rw[cZ,Aj];exact XL l h _ (fun k i h=>by simp only[aKy,dec_lt h,Au,Ba h,AQ,akZ (hs _ (Df h)),Dz,Aj]) (fun k=>by simp only[aKy,CX,Aj])
end Go.Proofs.YtldfpencimjjlaaGreat
end
section
namespace Go.Proofs.YtldfpencimjjlaaGreat
open Go.RowKit
set_option maxRecDepth 20000
set_option maxHeartbeats 1000000
def ZV :YW=some true:=A8
def ai5 (l:List AB) (s:List Ah) (u:ByteArray):I5 (FZ l s) u=match s.find? (fun x=>(Dh l x.Id).any (Ir u))with |some x=>(ev l x.Id).Content.N|none=>0:=by
 unfold I5 FZ ofIds;rw[List.find?_filterMap,List.find?_map];have e:((fun a=>(Dh l a).any (Ir u))∘fun x:Ah=>x.Id)=fun x=>(Dh l x.Id).any (Ir u):=rfl;rw[e];cases m:s.find? fun x=>(Dh l x.Id).any (Ir u)with
 |none=>rfl
 |some x=>
  have h:=dn m;simp only[IW,AQ];cases j:Dh l x.Id with
  |none=>rw[j]at h;cases h
  |some y=>unfold ev;rw[La j]
def anW (l:List AB) (x:Ah) (u:ByteArray) (k:Int→Option Int) (v:Int) (hl:l.length≤1000):aIe l x u k v 0=bif (Dh l x.Id).any (Ir u)then some (ev l x.Id).Content.N else gU k v:=by
 unfold aIe;rw[JD l (fuel_lt AA) (fun e=>e.Id==x.Id) (fun i=>match l[i]? with |some e=>(bif Ir u e then some e.Content.N else gU k v)|none=>none) (gU k v)]
 ·by_cases h:l.findIdx (fun e=>e.Id==x.Id)<l.length
  ·have j:Dh l x.Id=some l[l.findIdx (fun e=>e.Id==x.Id)]:=by unfold Dh;rw[JG,D9 h]
   rw[CV h,D9 h];unfold ev;rw[La j,j];rfl
  have j:Dh l x.Id=none:=by unfold Dh;rw[JG,I7 AA]
  rw[Cc h,j];rfl
 ·intro k i h;unfold aO2;rw[Bv h,Ba h,D9 h];simp only[AQ];rw[vV,AQ];unfold bne;cases l[i].Id==x.Id<;>rfl
 intro k;unfold aO2;rw[CX];rfl
def aQe (l:List AB) (s:List Ah) (u:ByteArray) (hl:l.length≤1000) (hs:s.length≤1000):aV l s u=some (I5 (FZ l s) u):=by
 rw[ai5];unfold aV aQN;rw[JD s (fuel_lt AA) (fun x=>(Dh l x.Id).any (Ir u)) (fun i=>some (match s[i]? with |some x=>(ev l x.Id).Content.N|none=>0)) (some 0)]
 ·rw[JG];by_cases h:s.findIdx (fun x=>(Dh l x.Id).any (Ir u))<s.length
  ·rw[CV h]
  rw[Cc h,I7 AA]
 ·intro k i h;unfold aHE;rw[Bv h,anW _ _ _ _ _ hl,D9 h];rfl
 intro k;unfold aHE;rw[CX];rfl
section
variable {l : List AB} {s : List Ah} (hl : l.length ≤ 100) (hsm : DF l) (hs : s.length ≤ 100)
include hl hsm hs
def agF {j:AB} {st:Int} (q:Vh l j.Id=some (s,st)):Yy l j=some (NK l s j):=by
 have z:=fD l s;have m:DF (FZ l s):=aEG hsm _;have I:=(aEF m).users;unfold Yy NK;show(bif !(j.Kind==14)then _ else _)=_;cases j.Kind==14 with
 |false=>rfl
 |true=>
  have u:(Gq l j.Content.Target).2=bY l j.Content.Target:=Oo ..;rw[Dz,Aj,Aj,MK l _ AA,AQ,u];cases bY l j.Content.Target with
  |false=>rfl
  |true=>
   rw[Dz,Aj,Aj,q,AQ];show(aV l s j.aP).bind _=_;rw[aQe l s _ AA AA,AQ];show(bif !(I5 (FZ l s) j.aP==3)then _ else _)=_;cases I5 (FZ l s) j.aP==3 with
   |false=>rfl
   |true=>
    rw[Dz,Aj,Aj];show(dW l s).bind _=_;rw[aHY l s hl AA,AQ,sG _ AA m,AQ,IQ];show(bif !decide (j.aP=(ev l j.Content.Target).aP)then _ else _)=_;cases decide (j.aP=(ev l j.Content.Target).aP)with
    |true=>rfl
    |false=>
     rw[IU,Au];show(OZ (EX (FZ l s)) j.aP).bind _=_;rw[WU _ _ AA,AQ];unfold aFF;show(bif decide (Dw (EX (FZ l s)) j.aP<(EX (FZ l s)).fC)then _ else _)=_;cases decide (Dw (EX (FZ l s)) j.aP<(EX (FZ l s)).fC)<;>rfl
end
structure U0 (l:List AB) (t:List Ci):Prop where
 len:l.length≤100
 small:DF l
 at_:∀id,Vh l id=some (Gp t id)
 acc:nT l=some (Hf l t)
 tbl:aKQ l=some (t.map KY)
 tok:KI l t
 aF7:t.length≤l.length
 nd:t≠[]→(l.map (·.Id)).Nodup
def aTm {l:List AB} {c:Int} (hs:DF l) (hl:l.length≤100) (u:Nr l=some c) (z:NZ l=some c) (I:c=0→P9 l):U0 l (Dp l c):=by
 have j:c=0→Jo l:=fun m=>(I m).ok hl;obtain⟨J,L,M⟩:=akn z j;refine⟨hl,hs,am8 u j,agE u j,J,L,M,fun q=>?_⟩;unfold Dp at q;by_cases m:c=0
 ·exact(j m).nodup
 rw[Xb.2 m]at q;exact absurd rfl q
def aCZ {l:List AB} (hs:DF l) (hl:l.length≤100):∃c,U0 l (Dp l c)∧Nr l=some c∧NZ l=some c∧(c=0→P9 l):=by
 obtain⟨c,j,m,q⟩:=aPE (fun e u=>(hs e u).wide) hl;exact⟨c,aTm hs hl j m q,j,m,q⟩
def aqe {l:List AB} {t:List Ci} (h:KI l t) (x:Int):I9 l (Gp t x).1:=by
 unfold Gp;cases j:Du t x with
 |none=>exact .nil l
 |some y=>exact(aQn h j).1
def MN (e:AB):O6:=⟨e.Depth,e.Id,e.Content.Target⟩
def apv (a b:AB):ZH (MN a) (MN b)=some (Hl a b):=by
 unfold ZH Hl MN;cases decide (a.Depth<b.Depth)<;>cases(a.Depth==b.Depth)<;>rfl
def aEy (id:Int) (b:Option AB) (e:AB):Bool:=e.Content.Target==id&&(match b with |none=>true|some y=>Hl e y)
def aJU (b:Option AB):Int×Bool:=match b with
 |some e=>(e.Id,true)
 |none=>(0,false)
section
variable {l : List AB} {t : List Ci} (h : U0 l t)
include h
def U0.at_len (x:Int):(Gp t x).1.length≤100:=by have :=(aqe h.tok x).length;have :=h.len;omega
def U0.may (j:AB):Yy l j=some (NK l (Gp t j.Id).1 j):=agF h.len h.small (h.at_len _) (st:=(Gp t j.Id).2) (h.at_ _)
def U0.known {e:AB} (j:e∈l) (m:Gn t e.Id=true):Gq l e.Id=(e,true):=by
 have u:=h.nd (fun z=>by rw[z]at m;cases m);have I:bY l e.Id=true:=Ia.2 (Ee.2 ⟨e,j,rfl⟩);have q:=(Ib I).1;rw[Wi u j]at q;exact La q
def U0.effective:ng l=some ((Ox l t).map MN):=by
 have hlen:=h.len;unfold ng;rw[h.acc,AQ];unfold Hf aUr;have M:(l.filter fun e=>Gn t e.Id).length≤l.length:=Ic ..
 have hE:Ox l t=(l.filter fun e=>Gn t e.Id).filter fun e=>e.Kind==14&&NK l (Gp t e.Id).1 e==0:=by
  unfold Ox;rw[List.filter_filter];congr 1;funext e;unfold Q8;rw[Bool.and_comm]
 have u:∀x∈l.filter (fun e=>Gn t e.Id),Gq l x.Id=(x,true):=fun x z=>h.known (EY.1 z).1 (EY.1 z).2;rw[hE];generalize(l.filter fun e=>Gn t e.Id)=X at M u;have m:(X.map (·.Id)).length=X.length:=CM ..;refine dP.eq (Jf (X.map (·.Id)).length (fuel_lt AA) (fun i a=>a=((X.take i).filter fun e=>e.Kind==14&&NK l (Gp t e.Id).1 e==0).map MN) rfl (fun i a k hi ha I=>?_) fun a k ha=>?_)
 ·have j:i<X.length:=AA
  have O:a.length≤1000:=by
   rw[ha,CM];have :=Ic (fun e=>e.Kind==14&&NK l (Gp t e.Id).1 e==0) (X.take i);rw[FY]at this;omega
  unfold aND;rw[Bv hi,MW,MK l _ AA,u _ (Df j),AQ];simp only[Au,AQ];rw[h.may];have U:(bif X[i].Kind==14 then(some (NK l (Gp t X[i].Id).1 X[i])).bind fun q=>some (q==0)else some false)=some (X[i].Kind==14&&NK l (Gp t X[i].Id).1 X[i]==0):=by cases X[i].Kind==14<;>rfl
  rw[U,AQ];have J:=xq (p:=fun e=>e.Kind==14&&NK l (Gp t e.Id).1 e==0) j;cases L:X[i].Kind==14&&NK l (Gp t X[i].Id).1 X[i]==0 with
  |true=>
   rw[Au,D7 FM,AQ];unfold oV;rw[wrap_succ i AA];exact I _ (by rw[J,L,ha,JU];rfl)
  |false=>
   rw[Aj];unfold oV;rw[wrap_succ i AA];exact I _ (by rw[J,L,ha,JU];simp)
 rw[m,GI]at ha;unfold aND;rw[CX,Aj,ha];exact .ret rfl
def U0.gone:Qj l=some (FH l t):=by
 have hlen:=h.len;have j:=aOS l t;unfold Qj;rw[h.effective,AQ];unfold FH aO aeF;generalize Ox l t=E at j;have m:(E.map MN).length=E.length:=CM ..;refine dP.eq (Jf (E.map MN).length (fuel_lt AA) (fun i a=>a=(E.take i).map (·.Content.Target)) rfl (fun i a k hi ha z=>?_) fun a k ha=>?_)
 ·have q:i<E.length:=AA
  have u:a.length≤1000:=kX
  unfold aKa;rw[Bv hi,MW,D7 FM,AQ,wrap_succ i AA];exact z _ (by rw[map_take q,ha];rfl)
 rw[m,GI]at ha;have u:a.length≤1000:=by rw[ha,CM];omega
 unfold aKa;rw[CX,Aj,←ha];have I:(QZ a).length≤1099511627776:=by rw[(Uj a).length_eq];omega
 unfold Nj Sz;rw[CV AA,AQ,CV I,aCc,zh];exact .ret rfl
def U0.by_ (id:Int):fV l id=some (aJU (VF l t id)):=by
 have hlen:=h.len;have J:=aOS l t;unfold fV;rw[h.effective,AQ]
 have hb:(Ox l t).foldl (Px id) none=VF l t id:=by
  by_cases Y:t=[]
  ·subst Y;unfold VF;rw[abp,aij];rfl
  exact akW (h.nd Y) t id
 rw[←hb];unfold aT4;generalize Ox l t=E at J;have L:(E.map MN).length=E.length:=CM ..;have hz:∀b:Option AB,(some ((((b.map MN).getD bU).Id,b.isSome)):Option (Int×Bool))=some (aJU b):=fun b=>by cases b<;>rfl
 refine dP.eq (TR (body:=aHD (E.map MN) id) (Q:=(· =aJU (E.foldl (Px id) none))) (fun m M Z O=>∃i:Nat,Z=i∧i+m=E.length∧M=((E.take i).foldl (Px id) none).isSome∧O=(((E.take i).foldl (Px id) none).map MN).getD bU) ?_ Af E.length false 0 bU (fuel_lt AA) ⟨0,rfl,AA,rfl,rfl⟩);rintro m M Z O k ⟨i,rfl,hm,z,I⟩ hk;unfold aHD;by_cases hi:i<E.length
 ·have U:i<(E.map MN).length:=AA
  rw[Bv U,MW];have j:(E.take (i+1)).foldl (Px id) none=bif aEy id ((E.take i).foldl (Px id) none) E[i]then some E[i]else(E.take i).foldl (Px id) none:=aGq (f:=Px id) (b:=none) hi
  generalize(E.take i).foldl (Px id) none=b at z I j
  have e1:(bif (MN E[i]).Target==id then(bif (!M)then some true else((fun a0 a1=>ZH a0 a1) (MN E[i]) O).bind fun q=>some q).bind fun u=>some u else some false)=some (aEy id b E[i]):=by
   unfold aEy;show(bif E[i].Content.Target==id then _ else _)=_;cases E[i].Content.Target==id with
   |false=>rfl
   |true=>
    cases b with
    |none=>rw[z];rfl
    |some y=>
     rw[z,I];show((ZH (MN E[i]) (MN y)).bind fun q=>some q).bind (fun u=>some u)=_;rw[apv];rfl
  rw[e1,AQ];unfold aBN;cases hq:aEy id b E[i]with
  |true=>
   rw[hq]at j;rw[Au];exact hk (m-1) _ _ _ AA ⟨i+1,wrap_succ i AA,AA,(BI Option.isSome j).symm,(BI (fun b=>(Option.map MN b).getD bU) j).symm⟩
  |false=>
   rw[hq]at j;rw[Aj];exact hk (m-1) _ _ _ AA ⟨i+1,wrap_succ i AA,AA,by rw[z];exact(BI Option.isSome j).symm,by rw[I];exact(BI (fun b=>(Option.map MN b).getD bU) j).symm⟩
 have :i=E.length:=AA
 subst this;rw[←L,CX,Aj,z,I];rw[GI,hz];exact .ret rfl
end
end Go.Proofs.YtldfpencimjjlaaGreat
end
section
namespace Go.Proofs.YtldfpencimjjlaaGreat
open Go.RowKit
set_option maxRecDepth 20000
set_option maxHeartbeats 1000000
def aef {l:List Int} (h:l.length≤1000):fG l l=some true:=by
 unfold fG ab4;rw[cZ,Aj];exact XL l h _ (fun k i h=>by simp only[aNZ,dec_lt h,Au,Ba h,AQ,Ln,Aj]) (fun k=>by simp only[aNZ,CX,Aj])
def aoy (x:Ah):tH x x=true:=by unfold tH;simp
def aph {l:List Ah} (h:l.length≤1000):aGE l l=some true:=by
 unfold aGE aUo;rw[cZ,Aj];exact XL l h _ (fun k i h=>by simp only[aMC,dec_lt h,Au,Ba h,AQ,aoy,Dz,Aj]) (fun k=>by simp only[aMC,CX,Aj])
def yM (l:List AB) (t:List Ci):(FH l t).length≤l.length:=by
 have j:=ND (aO (Ox l t));have m:=aOS l t;unfold aO at j;rw[CM]at j;unfold FH aO;omega
def ada (l:List AB) (hl:l.length≤1000):vJ l=some (l.map (·.Id)):=by
 unfold vJ;have j:Il 8 (0:Int) 0 (l.length:Int)=some []:=abZ
 rw[j,AQ];unfold aaY;refine dP.eq (Jf l.length (fuel_lt AA) (fun i a=>a=(l.take i).map (·.Id)) rfl (fun i a k hi ha m=>?_) fun a k ha=>?_)
 ·have q:a.length≤1000:=kX
  unfold aOy;rw[Bv hi,D7 FM,AQ,wrap_succ i AA];exact m _ aCm
 rw[GI]at ha;unfold aOy;rw[CX,Aj,ha];exact .ret rfl
def ag0 {l:List AB} (hs:DF l) (g:List Int):DF (l.map (Gm g)):=fun e m=>by
 obtain⟨x,j,rfl⟩:=Ee.1 m;rcases kG g x with h|h<;>rw[h]
 ·exact hs x j
 exact aHk (hs x j)
def alX (l:List AB) (g:List Int):(l.map (Gm g)).map (·.Id)=l.map (·.Id):=by
 rw[aI];exact WM fun e _=>aMF g e
section
variable {l : List AB} {t : List Ci} (h : U0 l t)
include h
def U0.apply:XU l=some (l.map (Gm (FH l t))):=by
 have hlen:=h.len;have I:=yM l t;have hi:=Jt (aO (Ox l t));unfold XU;rw[h.gone,AQ]
 have J:mX l=some l:=by
  unfold mX;rw[D7 TQ];rfl
 rw[J,AQ]
 change Inc (FH l t)at hi
 generalize FH l t=g at I hi;unfold acK
 have step:∀(k:Int→List AB→Option (List AB)) (i:Nat) (v:List AB) (j:i<l.length),v.length=l.length→v[i]? =some l[i]→kQ l g k (i:Int) v=k (Ag ((i:Int)+1)) (v.set i (Gm g l[i])):=fun k i v j u q=>by
  obtain⟨r,L,z⟩:=aQs g l[i].Id hi AA;unfold kQ;rw[dec_lt j,Au,nE,q,AQ,L,AQ,z];unfold aD5 Gm;cases CZ g l[i].Id with
  |true=>
   rw[Au,Au,(acO (h.small _ (Df j)).x).1,AQ,AQ,Z9]
  |false=>rw[Aj,Aj,ah3 q]
 exact amU (fun m=>aQ (kQ l g) m) l (Gm g) some AA (fun m i v j u q=>step _ i v j u q) (fun m v u=>by
  show kQ l g _ _ v=_;unfold kQ
  rw[CX];rfl)
end
def aQV {l:List AB} (hd:IB l=0):Dp l 0=D5 l:=by unfold Dp;rw[hd];rfl
def aUd (l:List AB) (c:Int):Dp l c=[]∨(c=0∧IB l=0∧Dp l c=D5 l):=by
 unfold Dp;cases j:c==0 with
 |false=>exact .inl rfl
 |true=>
  cases m:IB l==0 with
  |false=>exact .inl rfl
  |true=>exact .inr ⟨eq_of_beq j,eq_of_beq m,rfl⟩
def aSE {l m:List AB} {g S:List Int} {C:List Ah} (hl:l.length≤100) (q:DF m) (u:XU l=some m) (j:m.map (·.Id)=l.map (·.Id)) (z:Qj m=some g) (I:Qj l=some g) (J:XU m=some m)
 (L:Xf l=some S) (M:Xf m=some S) (O:Zd l=some C) (U:Zd m=some C) (Y:g.length≤1000) (Z:S.length≤1000) (b3:C.length≤1000) (hG:aU l 14=some false):wQ l=some true:=by
 have hml:m.length=l.length:=by have :=BI List.length j;rwa [CM,CM]at this
 unfold wQ;rw[hG,AQ,Aj,u,AQ,ada m AA,ada l AA,AQ,AQ,j,aef U2,AQ,z,I,AQ,AQ,aef Y,J,AQ,AQ,aoM AA q,L,M];simp only[AQ,Dz,Aj,Ln];unfold ae8;refine XL S Z _ (fun k i hi=>?_) (fun k=>?_)
 ·unfold aIx;rw[Bv hi,Ba hi,AQ,Ln,Aj]
 unfold aIx;rw[CX,Aj,O,U,AQ,AQ,aph b3,ZV];rfl
def aqb {l k:List AB} {t u:List Ci} (hi:k.map (·.Id)=l.map (·.Id)) (h:∀x,Du u x=Du t x):OY k u=OY l t:=by
 have e:∀(l:List AB) (t:List Ci),OY l t=(l.map (·.Id)).filterMap fun x=>(Du t x).map fun y=>bif y.err != 0 then 2 else 4:=fun l t=>by
  unfold OY;rw[List.filterMap_map];rfl
 rw[e,e,hi];congr 1;funext x;rw[h]
def ar2 (l:List AB):wQ l=some true:=by
 obtain⟨b,M,hb⟩:=aPQ l;cases b with
 |true=>
  unfold wQ;rw[M,AQ,Au,ZV];rfl
 |false=>
  obtain⟨hl,hs⟩:=hb rfl;obtain⟨c,h,c1,c2,c3⟩:=aCZ hs AA;have hg:=yM l (Dp l c);have O:c=0→Jo l:=fun h0=>(c3 h0).ok AA;have I:=aQQ c1 O;have hst:=aLK c1 O;have hsl:=aRh l (Dp l c);have hcl:(TN l (Dp l c)).length≤l.length:=(aqR (l:=l) (c:=c) O).length;have ha:=h.apply;have J:=h.gone;rcases aUd l c with e|⟨rfl,hd,e⟩
  ·have hm:l.map (Gm (FH l (Dp l c)))=l:=by
    rw[e,afK]
    conv=>rhs;rw[←List.map_id l]
    exact WM fun x _=>rfl
   rw[hm]at ha;exact aSE AA hs ha rfl J J ha hst hst I I AA AA AA M
  have U:=c3 rfl;have q:=ajV (agI (FH l (Dp l 0)) l) U AA c2 hd;have Y:=anr (FH l (Dp l 0)) q U AA hd;have hml:(l.map (Gm (FH l (Dp l 0)))).length=l.length:=CM ..;obtain⟨r1,r2,_⟩:=aSY q U AA AA hd;have hsm:=ag0 hs (FH l (Dp l 0));have u:=alX l (FH l (Dp l 0))
  have Z:(l.map (Gm (FH l (Dp l 0)))).map (Gm (FH l (Dp l 0)))=l.map (Gm (FH l (Dp l 0))):=by
   rw[aI];exact WM fun x _=>agV _ x
  have hk:=aTm hsm AA q.prog q.ref fun _=>q.facts;have j:=aQQ q.prog fun _=>q.facts.ok AA;have m:=aLK q.prog fun _=>q.facts.ok AA;rw[aQV q.deep]at hk j m;have L:=hk.apply;have z:=hk.gone;rw[Y,←e]at L z;rw[Z]at L;rw[r2,←e]at j;rw[aqb u (fun x=>(r1 x).trans (by rw[e])) (t:=Dp l 0)]at m;exact aSE AA hsm ha u z J L hst m I j AA AA AA M
def ajQ {W I:List Int} {i:Nat} (hi:i<W.length) (L:I.length≤1000) (z:W[i]∈I) (k:Int→Option Bool):aPK I W (i:Int) k false 0=k (Ag ((i:Int)+1)):=by
 unfold aPK;have m:I.any (fun x=>x==W[i])=true:=Fv.2 ⟨_,z,KE _⟩
 have q:=H6 (body:=wW I W (i:Int) k) I AA (fun a x=>a||x==W[i]) (fun _ _=>True) (fun a=>bif (!a)then some false else k (Ag ((i:Int)+1))) (a0:=false) trivial (fun f a j u _=>⟨trivial,by
  unfold wW qm;rw[dec_lt u,Au,Ba u,AQ,Ba hi,AQ]
  cases a<;>rfl⟩) fun f a _=>by
  unfold wW;rw[CX];rfl
 rw[q]
 have e:∀(I:List Int) (a:Bool),I.foldl (fun a x=>a||x==W[i]) a=(a||I.any (fun x=>x==W[i])):=by
  intro I
  induction I with
  |nil=>intro a;simp
  |cons x I J=>intro a;rw[Et,J,Yn,Bool.or_assoc]
 rw[e,m];rfl
def aqO {W I:List Int} (u:W.length≤1000) (j:I.length≤1000) (m:∀x∈W,x∈I):aJL W I 0=some true:=by
 unfold aJL;refine dP.eq (Xv W.length (fuel_lt AA) (fun _=>True) trivial (fun i f hi _ q=>?_) fun f _=>?_)
 ·unfold zf;rw[dec_lt hi,Au,ajQ hi j (m _ (Df hi)),wrap_succ i AA];exact q trivial
 unfold zf;rw[CX,Aj,ZV];exact .ret rfl
def afz (l:List AB) (d:Int):aDn l d=some true:=by
 obtain⟨b,Y,Z⟩:=aPQ l;unfold aDn;rw[Y,AQ];cases b with
 |true=>rw[Au,AQ,Au,ZV];rfl
 |false=>
  obtain⟨hl,hs⟩:=Z rfl;obtain⟨c,h,c1,c2,L⟩:=aCZ hs AA;have ho:c=0→Jo l:=fun h0=>(L h0).ok AA;rw[Aj,aLK c1 ho,AQ,AQ];cases q:((OY l (Dp l c)).length:Int) != (l.length:Int)with
  |true=>rw[Au,ZV];rfl
  |false=>
   rw[Aj]
   have j:(OY l (Dp l c)).length=l.length:=by
    have :=bne_eq_false_iff_eq.1 q;omega
   have hul:(GH d l).length≤l.length:=Ic ..;have u:DF (GH d l):=fun e he=>hs e (iw.1 he).1;obtain⟨z,h',d1,d2,d3⟩:=aCZ u AA
   have m:∀x∈FH (GH d l) (Dp (GH d l) z),x∈FH l (Dp l c):=by
    rcases aUd l c with e|⟨rfl,hd,e⟩
    ·have hn:l=[]:=by
      refine Gg ?_;rw[e]at j;rw[←j];unfold OY Du;rw[List.length_eq_zero_iff,aT1];intro x _;rfl
     intro x I;obtain⟨y,hy,_⟩:=dZ.1 I;have :=(iw.1 hy).1;rw[hn]at this;exact absurd this Ez
    have M:=L rfl;have J:=aqk d M AA c2 hd;obtain rfl:z=0:=CO (d1.symm.trans J.prog);rw[aQV J.deep,e];exact fun x I=>ane J M AA hd I
   have g1:=yM l (Dp l c);have g2:=yM (GH d l) (Dp (GH d l) z);unfold abS;refine dP.eq (Jf l.length (fuel_lt AA) (fun i a=>a=GH d (l.take i)) rfl (fun i a k hi ha O=>?_) fun a k ha=>?_)
   ·have hal:a.length≤1000:=by
     rw[ha];have :(GH d (l.take i)).length≤(l.take i).length:=Ic ..;rw[FY]at this;omega
    unfold aB8;have U:GH d (l.take (i+1))=GH d (l.take i)++bif decide (l[i].Depth≤d)then[l[i]]else[]:=xq (p:=fun e:AB=>decide (e.Depth≤d)) hi
    rw[Bv hi];unfold pG;cases q:decide (l[i].Depth≤d)with
    |true=>
     rw[Au,Ba hi,AQ,D7 FM,AQ,wrap_succ i AA];exact O _ (by rw[U,q,ha];rfl)
    |false=>
     rw[Aj,wrap_succ i AA];exact O _ (by rw[U,q,ha];simp)
   rw[GI]at ha;unfold aB8;rw[CX,Aj,ha,h'.gone,AQ,h.gone,AQ,aqO AA AA m];exact .ret rfl
end Go.Proofs.YtldfpencimjjlaaGreat
end
section
namespace Go.Proofs.YtldfpencimjjlaaGreat
open Go.RowKit
set_option maxRecDepth 20000
set_option maxHeartbeats 1000000
def aQy (k:Int) (v:Bool):∀m:List (Int×Bool),(E8 m k v).map (·.1)=m.map (·.1)∨(k∉m.map (·.1)∧(E8 m k v).map (·.1)=m.map (·.1)++[k])
 | []=>.inr ⟨Ez,rfl⟩
 |p::m=>by
  unfold E8;cases j:k==p.1 with
  |true=>exact .inl (by rw[Au,Ig,Ig,eq_of_beq j])
  |false=>
   rw[Aj,Ig,Ig];rcases aQy k v m with h|⟨q,u⟩
   ·exact .inl (by rw[h])
   refine .inr ⟨fun z=>?_,by rw[u,X5]⟩;rcases Ei.1 z with e|e
   ·rw[e,KE]at j;cases j
   exact q e
def aLJ :∀(g:List Int) (m:List (Int×Bool)),(m.map (·.1)).Nodup→((g.foldl (fun a x=>E8 a x true) m).map (·.1)).Nodup∧∀x∈(g.foldl (fun a x=>E8 a x true) m).map (·.1),x∈m.map (·.1)∨x∈g
 | [],m,h=>⟨h,fun x j=>.inl j⟩
 |y::g,m,h=>by
  rw[Et];rcases aQy y true m with e|⟨J,I⟩
  ·obtain⟨u,z⟩:=aLJ g (E8 m y true) (by rw[e];exact h);refine⟨u,fun x j=>?_⟩;rcases z x j with q|q
   ·rw[e]at q;exact .inl q
   exact .inr (FW _ q)
  obtain⟨u,z⟩:=aLJ g (E8 m y true) (by
   rw[I,lK]
   exact⟨h,Ap,fun a ha b L=>by rw[Gu.1 L];exact fun e=>J (e▸ha)⟩)
  refine⟨u,fun x j=>?_⟩;rcases z x j with q|q
  ·rw[I]at q;rcases GU.1 q with q|q
   ·exact .inl q
   exact .inr (by rw[Gu.1 q];exact Ep ..)
  exact .inr (FW _ q)
def aTv (k:Int):∀m:List (Int×Bool),(m.map (·.1)).Nodup→((Ns m k).map (·.1)).Nodup∧∀x∈(Ns m k).map (·.1),x∈m.map (·.1)∧x≠k
 | [],h=>⟨h,fun x j=>absurd j Ez⟩
 |p::m,h=>by
  rw[Ig,Jy]at h;obtain⟨z,I⟩:=h;unfold Ns;cases q:k==p.1 with
  |true=>
   rw[Au];refine⟨I,fun x j=>⟨FW _ j,fun e=>z ?_⟩⟩;rw[←eq_of_beq q,←e];exact j
  |false=>
   rw[Aj,Ig,Jy];obtain⟨J,u⟩:=aTv k m I;refine⟨⟨fun L=>z (u _ L).1,J⟩,fun x j=>?_⟩;rcases Ei.1 j with e|j
   ·refine⟨by rw[e];exact Ep ..,fun M=>?_⟩;rw[←M,e,KE]at q;cases q
   exact⟨FW _ (u x j).1,(u x j).2⟩
def ac0 :∀(l:List AB) (m:List (Int×Bool)),(m.map (·.1)).Nodup→∀x∈(l.foldl (fun a e=>Ns a e.Id) m).map (·.1),x∈m.map (·.1)∧x∉l.map (·.Id)
 | [],m,_,x,j=>⟨j,Ez⟩
 |e::l,m,h,x,j=>by
  rw[Et]at j;obtain⟨I,u⟩:=aTv e.Id m h;obtain⟨z,J⟩:=ac0 l _ I x j;refine⟨(u x z).1,fun L=>?_⟩;rcases Ei.1 L with q|q
  ·exact(u x z).2 q
  exact J q
def alQ (l:List AB) (g:List Int) (hl:l.length≤1000) (O:g.length≤1000) (q:∀x∈g,bY l x=true):aAt l g=some []:=by
 obtain⟨u,z⟩:=aLJ g [] YV
 have I:l.foldl (fun a e=>Ns a e.Id) (g.foldl (fun a x=>E8 a x true) [])=[]:=by
  have hd:=ac0 l _ u;generalize l.foldl (fun a e=>Ns a e.Id) (g.foldl (fun a x=>E8 a x true) [])=m at hd;cases m with
  |nil=>rfl
  |cons p m=>
   obtain⟨J,L⟩:=hd p.1 (Ep ..);rcases z _ J with h|h
   ·exact absurd h Ez
   exact absurd (Ia.1 (q _ h)) L
 have hs:ji []=some []:=A8
 have M:∀m:List (Int×Bool),aDh l 0 m=(ji (l.foldl (fun a e=>Ns a e.Id) m)).bind fun j=>some j:=fun m=>by
  unfold aDh
  exact lZ (body:=aBv l) l AA (fun a e=>Ns a e.Id) (fun _ _=>True) (fun a=>(ji a).bind fun j=>some j) trivial (fun k a i h _=>⟨trivial,by
   unfold aBv
   rw[Bv h]⟩) fun k a _=>by
   unfold aBv;rw[CX,Aj]
 unfold aAt aat
 rw[lZ (body:=aD3 g l) g AA (fun a x=>E8 a x true) (fun _ _=>True) (fun a=>aDh l 0 a) trivial (fun k a i h _=>⟨trivial,by
    unfold aD3
    rw[Bv h]⟩) fun k a _=>by
    unfold aD3
    rw[CX,Aj],M,I,hs]
 rfl
def aSA (l:List AB):∀g:List Int,(∀x∈g,bY l x=true)→(ofIds l g).length=g.length
 | [],_=>rfl
 |x::g,h=>by
  have m:=(Ib (h x (Ep ..))).1;have j:=aSA l g fun y q=>h y (FW _ q);unfold ofIds at j ⊢;rw[OV,m,Fa,Fa,j]
def ao9 {l:List AB} {g:List Int} (q:(l.map (·.Id)).Nodup) (u:g.Nodup) (z:∀x∈g,bY l x=true):(l.filter fun e=>CZ g e.Id).length=g.length:=by
 have e:(l.filter fun e=>CZ g e.Id).length=((l.filter fun e=>CZ g e.Id).map (·.Id)).length:=(CM ..).symm;rw[e];refine Nat.le_antisymm (jO (q.sublist (QB.map _)) fun x j=>?_) (jO u fun x j=>?_)
 ·obtain⟨y,m,rfl⟩:=Ee.1 j;exact J3.1 (EY.1 m).2
 obtain⟨y,m,e⟩:=Ee.1 (Ia.1 (z x j));exact Ee.2 ⟨y,EY.2 ⟨m,by show CZ g y.Id=true;rw[e];exact J3.2 j⟩,e⟩
def ahv (l:List AB):aLW l=some true:=by
 unfold aLW;refine dP.eq ((aPQ l).bind fun b hb=>dP.bif (fun _=>by rw[ZV];exact .ret rfl) fun e=>?_);obtain⟨hl,hs⟩:=hb e;obtain⟨c,h,_⟩:=aCZ hs AA;have hgl:=yM l (Dp l c);have m:∀x∈FH l (Dp l c),bY l x=true:=fun x hx=>aiB hx;have hof:ofIds l (FH l (Dp l c))=ofIds l (FH l (Dp l c)):=rfl;have O:=aSA l _ m;have U:=alQ l _ AA AA m;have Y:=aQm l (FH l (Dp l c)) AA AA
 have z:(l.filter fun e=>CZ (FH l (Dp l c)) e.Id).length=(FH l (Dp l c)).length:=by
  by_cases Z:Dp l c=[]
  ·rw[Z,afK];rw[Zb.2 fun x _=>by unfold CZ;simp];rfl
  exact ao9 (h.nd Z) (Rq (Jt _)) m
 have hby:∀id,(VF l (Dp l c) id).isSome=CZ (FH l (Dp l c)) id:=fun id=>by
  rw[KG,aiO,J3]
 rw[h.gone,AQ];unfold aSC;refine Jf l.length (fuel_lt AA) (fun i a=>a=(((l.take i).filter fun e=>CZ (FH l (Dp l c)) e.Id).length:Int)) rfl (fun i a k hi ha hk=>?_) fun a k ha=>?_
 ·have hf:=xq (p:=fun e:AB=>CZ (FH l (Dp l c)) e.Id) hi
  have hfl:((l.take i).filter fun e=>CZ (FH l (Dp l c)) e.Id).length≤l.length:=by
   have :=Ic (fun e:AB=>CZ (FH l (Dp l c)) e.Id) (l.take i);rw[FY]at this;omega
  unfold aNp;rw[Bv hi,h.by_,AQ];have L:=hby l[i].Id;cases q:VF l (Dp l c) l[i].Id with
  |none=>
   rw[q]at L;show dP (nP k (i:Int) a) _;unfold nP;rw[wrap_succ i AA];refine hk _ ?_;rw[hf,show CZ (FH l (Dp l c)) l[i].Id=false from L.symm,ha];simp
  |some j=>
   rw[q]at L;obtain⟨b1,b2,b3⟩:=ahS q;obtain⟨M,f2,f3⟩:=aCw b2;obtain⟨m1,m2,m3⟩:=aId f3;have hnd:=h.nd (fun e0=>by rw[e0]at M;cases M);have hev:ev l j.Content.Target=l[i]:=by rw[b3];exact Wi hnd (Df hi)
   have I:DF (FZ l (Gp (Dp l c) j.Id).1):=aEG hs _;have hL:=(aEF I).users;have hal:=h.at_len j.Id;have Z:=fD l (Gp (Dp l c) j.Id).1
   have hst:(Gp (Dp l c) j.Id).2=4:=by
    obtain⟨y,y1,y2⟩:=iD.1 M;unfold Gp;rw[y1];show(bif y.err != 0 then(2:Int)else 4)=4;rw[y2];rfl
   have J:lD l (FH l (Dp l c)) k (i:Int) a false=k (Ag (a+1)) (Ag ((i:Int)+1)):=by
    unfold lD;rw[Aj,U,AQ];show((kM l (FH l (Dp l c))).bind fun Vz=>some ((Vz.length:Int) != ((FH l (Dp l c)).length:Int))).bind _=_;rw[Y,AQ,O,Ln];rfl
   have hj3:Yp l (i:Int) (j,true) (EX (FZ l (Gp (Dp l c) j.Id).1),Rn (FZ l (Gp (Dp l c) j.Id).1)) (FH l (Dp l c)) k a false=k (Ag (a+1)) (Ag ((i:Int)+1)):=by
    unfold Yp;rw[Aj,Ba hi,AQ,IQ];show(bif !decide (j.aP=l[i].aP)then _ else _)=_;by_cases u:j.aP=l[i].aP
    ·rw[IJ u,Dz,Aj];exact J
    rw[IC u,IU,Au];show(OZ (EX (FZ l (Gp (Dp l c) j.Id).1)) j.aP).bind _=_;rw[WU _ _ AA,AQ];have hlt:=m3 (by rw[hev];exact u);show lD l _ k _ a (decide (Dw (EX (FZ l (Gp (Dp l c) j.Id).1)) j.aP<(EX (FZ l (Gp (Dp l c) j.Id).1)).fC))=_;rw[IC hlt];exact J
   show dP ((KJ l j.Id).bind _) _;rw[MK l _ AA,h.known b1 M,AQ];show dP ((Vh l j.Id).bind _) _;rw[h.at_,AQ,aHY l _ AA AA,AQ,sG _ AA I,AQ];rw[show(!((j,true):AB×Bool).2)=false from rfl,Aj];show dP (bif j.Kind != 14 then _ else _) _;rw[f2,Ln,Aj,Ba hi,AQ];show dP (bif j.Content.Target != l[i].Id then _ else _) _;rw[b3,Ln,Aj,hst,Ln,Aj];show dP ((aV l (Gp (Dp l c) j.Id).1 j.aP).bind _) _;rw[aQe l _ _ AA AA,AQ,m2,Ln,hj3,wrap_succ i AA,ha,wrap_succ _ AA];refine hk _ ?_;rw[hf,show CZ (FH l (Dp l c)) l[i].Id=true from L.symm,EG];rfl
 rw[GI]at ha;unfold aNp;rw[CX,Aj,ha,z,KE,Au,ZV];exact .ret rfl
end Go.Proofs.YtldfpencimjjlaaGreat
end
