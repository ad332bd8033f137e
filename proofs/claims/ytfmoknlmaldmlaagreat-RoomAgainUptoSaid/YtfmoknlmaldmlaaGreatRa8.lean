/- Part 8 of the laws' proofs (short forms by wip/shrink2.py). -/
import Derived.Test.YtfmoknlmaldmlaaGreatRa7
set_option linter.defProp false
set_option linter.unnecessarySimpa false
set_option linter.unusedSectionVars false
set_option linter.unusedVariables false
set_option linter.unusedSimpArgs false
namespace Go.Proofs.YtfmoknlmaldmlaaGreat
open Go.RowKit Go.Proofs.Tryz
def LX (x:FH):JD:=⟨x.id,x.before,x.after,x.err⟩
def SX (t:A8 FH)(x:Int):JD×Ad:=match FU t x with
 |some y=>(LX y,true)
 |none=>(WL,false)
def aOL (t:A8 FH)(x:Int):(SX t x).1.After=JA t x:=by unfold SX JA;cases FU t x<;>rfl
def aTz (t:A8 FH)(x:Int):(SX t x).1.Err=errOf t x:=by unfold SX errOf;cases FU t x<;>rfl
def qJ (t:A8 FH)(x:Int)(O:t.length<=1000000):YS (t.map LX) x=some (SX t x):=by
 unfold YS aLu;have hm:(t.map LX).length=t.length:=Df ..;refine dL.eq (bU (body:=aCR (t.map LX) x) (Q:=(· =SX t x)) (λn a _=>∃i:Nat,a=i/\i+n=t.length/\∀j,(q:j<i)->(hl:j<t.length)->¬(t[j].id==x)=true) ?_ Az t.length 0 _ (fuel_lt AQ) ⟨0,rfl,AQ,λj q=>AQ⟩);rintro n a b k ⟨i,rfl,U,I⟩ J;unfold aCR;by_cases hi:i<t.length
 ·have u:i<(t.map LX).length:=AQ
  rw[DF u,CU u,Aj,Ph];show dL (bif t[i].id==x then some (LX t[i],true)else k _ b) _;cases L:t[i].id==x with
  |true=>
   have z:FU t x=some t[i]:=by
    unfold FU;rw[List.find?_eq_some_iff_getElem]
    grind
   exact .ret (by unfold SX;rw[z])
  |false=>
   refine J (n-1) _ _ AQ ⟨i+1,wrap_succ i AQ,AQ,λj q hl=>?_⟩;by_cases e:j=i
   ·subst e;rw[L];simp
   exact I j AQ hl
 have :i=t.length:=AQ
 subst this;rw[←hm,DZ]
 have z:FU t x=none:=by
  unfold FU;rw[a5y];intro y M;obtain⟨j,q,rfl⟩:=G8 M;exact I j q q
 exact .ret (by unfold SX;rw[z])
def aOc (t:A8 JD)(x:Int):aAI t x=YS t x:=rfl
def aXv (l:A8 Aa)(t:A8 FH)(e:Aa)(s:A8 BO)(hl:l.length<=100)(hs:Ea l)(j:Ey e)(hsl:s.length<=100)(M:t.length<=1000):vg l (t.map LX) e s=some (Oo l t e s):=by
 have h1:=j.auth;have h2:=a1B l s
 have I:∀v,zO e (t.map LX) l s v=some (bif v != 0 then v else bif e.bI.any (λx=>errOf t x != 0)then 16 else Lp e (LW l s)):=λv=>by
  unfold zO aMT
  refine dL.eq (Jj e.bI.length (fuel_lt AQ) (λi a=>a=bif v != 0 then v else bif (e.bI.take i).any (λx=>errOf t x != 0)then 16 else 0) (by cases q:v != 0 with
   |true=>
    rfl
   |false=>exact XP) (λi a k hi ha O=>?_) λa k ha=>?_)
  ·unfold aEN a8s;rw[DF hi,aOc,qJ _ _ AQ,Aj,aTz,wrap_succ i AQ];have J:(bif a==0 then some (errOf t e.bI[i] != 0)else some false)=some (a==0&&errOf t e.bI[i] != 0):=by cases a==0<;>rfl
   rw[J,Aj]
   have u:∀b:Int,b=(bif a==0&&errOf t e.bI[i] != 0 then 16 else a)->b=bif v != 0 then v else bif (e.bI.take (i+1)).any (λx=>errOf t x != 0)then 16 else 0:=λb L=>by
    rw[zy hi,L,ha]
    grind
   grind
  unfold aEN;rw[DZ,BQ,ha,H9,ad5 l s hl AQ,Aj,aJ2 e (LW l s) AQ (aIw hs _) j];cases q:v != 0 with
  |true=>
   simp only[Bj,q];exact .ret rfl
  |false=>
   cases e.bI.any (λx=>errOf t x != 0)with
   |true=>
    exact .ret rfl
   |false=>
    exact .ret rfl
 unfold vg Oo iZ;rw[adi l e hl j,Aj,aVD l e AQ AQ,Aj,aJ2 e _ (EI (a7p l e) AQ) (hs.from e) j,Aj,I,I];have z:(Rj l e != 0)= !(Rj l e==0):=rfl;rw[z]
 grind
def aHP (l:A8 Aa):∀(ids:A8 Int) (t:A8 FH),(ids.foldl (λt id=>t++[Ju l t (ev l id)]) t).length=t.length+ids.length
 | [],t=>rfl
 |x::ids,t=>by rw[Fl,aHP l ids,Ee,GH];simp;omega
variable {l:A8 Aa}
def aRp (h:KR l):a1L l=some ((DT l).map LX):=by
 have hl:=h.len;have hs:=h.small;have M:=a2x l;unfold a1L;rw[ajf l AQ,Aj];unfold DT;generalize JB l=ids at M;unfold aRS;refine dL.eq (Jj ids.length (fuel_lt AQ) (λi a=>a=(Ih l (ids.take i)).map LX) rfl (λi a k hi ha hk=>?_) λa k ha=>?_)
 ·have O:O6 l (Ih l (ids.take i)):=a8O hl hs _ _ λy hy=>absurd hy Gn
  have U:(Ih l (ids.take i)).length<=100:=by
   have :=aHP l (ids.take i) [];unfold Ih;rw[this,H7,QM];omega
  have q:=aJL l hi;have he:=aAZ hs ids[i];have Y:=he.prev;generalize Ih l (ids.take i)=t at ha O U q;subst ha;unfold aC3;rw[DF hi,NG l _ AQ,Aj];have I:(I9 l ids[i]).1=ev l ids[i]:=rfl;unfold aTm;refine Ur (body:=aCp (I9 l ids[i]) l k (i:Int)) (Q:=_) (λn a b c=>∃j:Nat,b=j/\j+n=(ev l ids[i]).bG.length/\c=t.map LX/\a=((ev l ids[i]).bG.take j).map (JA t)) ?_ Az (ev l ids[i]).bG.length [] 0 (t.map LX) (fuel_lt AQ) ⟨0,rfl,AQ,rfl,rfl⟩;rintro n a b c k2 ⟨j,rfl,hn,rfl,ha⟩ Z;unfold aCp;rw[I];by_cases hj:j<(ev l ids[i]).bG.length
  ·have hal:a.length<=j:=zl
   rw[DF hj,aOc,qJ _ _ AQ,Aj,aOL,Dz G9,Aj,wrap_succ j AQ];exact Z (n-1) _ _ _ AQ ⟨j+1,rfl,AQ,rfl,by rw[map_take hj,ha]⟩
  have :j=(ev l ids[i]).bG.length:=AQ
  subst this;rw[H9]at ha;subst ha;rw[DZ,BQ];have hp:=O.stB hl hs Y;have J:=hp.length
  have hJ:dL (y8 l (I9 l ids[i]) k (i:Int) (t.map LX) ⟨(ev l ids[i]).Id,stB l t (ev l ids[i]),[],0⟩) (λx=>x=(Ih l ids).map LX):=by
   unfold y8;rw[I];show dL ((vg l (t.map LX) (ev l ids[i]) (stB l t (ev l ids[i]))).bind _) _;rw[aXv l t (ev l ids[i]) _ hl hs he AQ AQ,Aj];have u:Ju l t (ev l ids[i])=Yg (ev l ids[i]) (stB l t (ev l ids[i])) (Oo l t (ev l ids[i]) (stB l t (ev l ids[i]))):=rfl;rw[u]at q;generalize Oo l t (ev l ids[i]) (stB l t (ev l ids[i]))=r at q;generalize stB l t (ev l ids[i])=s at q J
   have L:∀y:FH,y=Yg (ev l ids[i]) s r->dL (a1J k (i:Int) (t.map LX) (LX y)) (λx=>x=(Ih l ids).map LX):=λy hy=>by
    unfold a1J;rw[Dz (by simp only[Om,Df];omega),Aj,wrap_succ i AQ]
    grind
   show dL ((bif r==0 then(UY (ev l ids[i]).Kind).bind λz=>some z else some false).bind _) _;rw[a2w,show(bif r==0 then(some (J7 (ev l ids[i]).Kind)).bind λz=>some z else some false)=some (r==0&&J7 (ev l ids[i]).Kind) by cases r==0<;>rfl,Aj];cases hc:(r==0&&J7 (ev l ids[i]).Kind)with
   |true=>
    rw[Bj];show dL ((gq s (ev l ids[i]).Kind (ev l ids[i]).Key (ev l ids[i]).Id).bind _) _;rw[aGv _ _ _ _ AQ,Aj];exact L ⟨(ev l ids[i]).Id,s,Gi s (ev l ids[i]).Kind (ev l ids[i]).Key (ev l ids[i]).Id,r⟩ (by unfold Yg;rw[hc];rfl)
   |false=>
    rw[BQ];exact L ⟨(ev l ids[i]).Id,s,s,r⟩ (by unfold Yg;rw[hc];rfl)
  by_cases hz:(ev l ids[i]).bG=[]
  ·have hst:stB l t (ev l ids[i])=[]:=by unfold stB;rw[hz];rfl
   grind
  have hpos:0<(ev l ids[i]).bG.length:=qh.2 hz;rw[KC aZ,Bj,aV6 (O.okay hl hs _ AQ),Aj];exact hJ
 unfold aC3;rw[DZ];exact .ret ZX
def aST (l:A8 Aa)(t:A8 FH)(hl:l.length<=1000)(I:t.length<=1000):a2V l (t.map LX)=some (Gv l t):=by
 unfold a2V aWk;refine dL.eq (Jj l.length (fuel_lt AQ) (λi a=>a=Gv (l.take i) t) rfl (λi a k hi ha q=>?_) λa k ha=>?_)
 ·have z:a.length<=i:=aMU
  unfold aCe a2E;have j:(bif (SX t l[i].Id).2 then some ((SX t l[i].Id).1.Err==0)else some false)=some (Hd t l[i].Id):=by unfold SX Hd;cases FU t l[i].Id<;>rfl
  rw[DF hi,qJ _ _ AQ,Aj,j,Aj,wrap_succ i AQ];cases u:Hd t l[i].Id with
  |true=>
   rw[Bj,CU hi,Aj,Dz G9,Aj];exact q _ (by rw[aA1 hi,u,ha];rfl)
  |false=>exact q _ (by rw[aA1 hi,u,ha];simp)
 unfold aCe;rw[DZ];exact .ret ZX
def aeW (l:A8 Aa)(t:A8 FH)(hl:l.length<=100)(hs:Ea l)(q:O6 l t)(j:t.length<=1000):a4x l (t.map LX)=some (O8 l t):=by
 have ha:=gW l t;have u:=a4y l (Gv l t);unfold a4x a1D O8;rw[aST l t AQ j,Aj,aLz l _ AQ hs AQ,Aj,Aj];generalize Js l (Gv l t)=H at u;unfold aRn;refine dL.eq (Jj H.length (fuel_lt AQ) (λi a=>a=(H.take i).map (JA t)) rfl (λi a k hi ha z=>?_) λa k ha=>?_)
 ·have I:a.length<=i:=zl
  unfold aBk;rw[DF hi,qJ _ _ AQ,Aj,aOL,Dz G9,Aj,wrap_succ i AQ];exact z _ a6g
 rw[H9]at ha;unfold aBk;rw[DZ,BQ,ha,aV6 (q.okay hl hs _ AQ),Aj];cases H with
 |nil=>exact .ret rfl
 |cons x H=>exact .ret rfl
variable {c:Int}
def aIK (u:Ko l=some c)(h:c=0->KR l):mP l=some ((Pq l c).map LX)/\O6 l (Pq l c)/\(Pq l c).length<=l.length:=by
 unfold mP aG1 Pq;rw[u,Aj];cases z:c==0 with
 |false=>exact⟨rfl,λy q=>absurd q Gn,FB _⟩
 |true=>
  have j:=h (eq_of_beq z);have hlen:(DT l).length=l.length:=by rw[←a2x l];have :=aHP l (JB l) [];simpa[DT,Ih]using this
  rw[Bj,aWU l j.len j.small j.dep,Aj,Aj,Aj,Fv];cases hd:Hz l==0 with
  |false=>exact⟨rfl,λy q=>absurd q Gn,FB _⟩
  |true=>
   rw[El,BQ,aRp j,Aj,Bj];exact⟨rfl,aFW j,QE hlen⟩
def acS (j:Ko l=some c)(h:c=0->KR l)(hl:l.length<=100)(hs:Ea l):a6h l=some (O8 l (Pq l c)):=by
 obtain⟨h1,h2,h3⟩:=aIK j h;unfold a6h;rw[h1,Aj,aeW l _ hl hs h2 AQ];rfl
def a5n (t:A8 FH)(x:Int):A8 BO×Int:=match FU t x with
 |some y=>(y.before,bif y.err != 0 then 2 else 4)
 |none=>([],0)
def Uk (l:A8 Aa)(t:A8 FH):A8 Int:=l.filterMap λe=>(FU t e.Id).map λy=>bif y.err != 0 then 2 else 4
variable {i:Nat}
section
variable {l:A8 Aa} {c:Int}
def aYf (q:NZ l=some c)(h:c=0->KR l)(id:Int):qo l id=some (a5n (Pq l c) id):=by
 unfold qo;refine dL.eq ((run_eq l q h).bind λo u=>?_);rcases u with⟨h1,rfl⟩|⟨h1,_,T,rfl,j⟩
 ·rw[h1];exact .ret rfl
 rw[h1];simp only[jC];unfold aD4 uw a5n;rw[j.r,j.b];cases FU (DT l) id with
 |none=>exact .ret rfl
 |some y=>
  show dL ((bif y.err != 0 then some 2 else some 4).bind λz=>some (y.before,z)) (λr=>r=(y.before,bif y.err != 0 then 2 else 4));cases y.err != 0<;>exact .ret rfl
def aZG (q:NZ l=some c)(h:c=0->KR l):a2h l=some (Gv l (Pq l c)):=by
 unfold a2h;refine dL.eq ((run_eq l q h).bind λo j=>?_);rcases j with⟨h1,rfl⟩|⟨h1,j,T,rfl,u⟩
 ·rw[h1,aT6];exact .ret rfl
 rw[h1];show dL ((jE T.1 T.2.1 T.2.2 l).bind _) _;rw[aSS u j.len];exact .ret rfl
def afA (t:A8 FH)(h:i<l.length):Uk (l.take (i+1)) t=Uk (l.take i) t++((FU t l[i].Id).map λy=>bif y.err != 0 then 2 else 4).toList:=by
 unfold Uk;rw[OM h,jo];congr 1
def aaB (l:A8 Aa)(t:A8 FH):(Uk l t).length<=l.length:=List.length_filterMap_le ..
def ak3 (u:NZ l=some c)(h:c=0->KR l):a0D l=some (Uk l (Pq l c)):=by
 unfold a0D;refine dL.eq ((run_eq l u h).bind λo j=>?_);rcases j with⟨h1,rfl⟩|⟨h1,j,T,rfl,z⟩
 ·rw[h1];exact .ret (show[]=Uk l []from(List.filterMap_eq_nil_iff.2 λ_ _=>rfl).symm)
 rw[h1];have hl:=j.len;show dL (aJE l [] 0 T.1 T.2.1 T.2.2) _;unfold aJE;refine a5c (body:=aHS l) (Q:=(· =Uk l (DT l))) (λn a b c d e=>∃i:Nat,b=i/\i+n=l.length/\a=Uk (l.take i) (DT l)/\c=T.1/\d=T.2.1/\e=T.2.2) ?_ Az l.length [] 0 _ _ _ (fuel_lt AQ) ⟨0,rfl,AQ,rfl,rfl,rfl,rfl⟩;rintro n a b c d e k ⟨i,rfl,M,ha,rfl,rfl,rfl⟩ I;unfold aHS;by_cases hi:i<l.length
 ·have J:a.length<=i:=by rw[ha];exact EI (aaB _ _) kn
  obtain⟨y,q⟩:=vF (Hw.2 (FT.2 ⟨_,EZ hi,rfl⟩));unfold uw;rw[DF hi,z.err];have L:errOf (DT l) l[i].Id=y.err:=by unfold errOf;rw[q];rfl
  rw[L,show(bif y.err != 0 then some 2 else some 4)=some (bif y.err != 0 then(2:Int)else 4) by cases y.err != 0<;>rfl,Aj,Dz G9,Aj,wrap_succ i AQ];exact I (n-1) _ _ _ _ _ AQ ⟨i+1,rfl,AQ,by rw[afA _ hi,q,ha];rfl,rfl,rfl,rfl⟩
 have :i=l.length:=AQ
 subst this;rw[EL];exact .ret ZX
end
def Xx (hd:Hz l=0):Pq l 0=DT l:=by unfold Pq;rw[hd];rfl
def Qi (l:A8 Aa)(e:Aa):Nat:=l.findIdx λx=> !decide (x.Id<e.Id)
def Dw (l:A8 Aa)(e:Aa):A8 Aa:=l.take (Qi l e)++e::l.drop (Qi l e)
def mG (e x:Aa):Ad:= !(x.Room.toList==e.Room.toList)
def aeo (l:A8 Aa)(e:Aa):Qi l e<=l.length:=a3B
def Oa (l:A8 Aa)(e:Aa):(Dw l e).length=l.length+1:=by
 have :=aeo l e;unfold Dw;rw[Ee,GH,H7,LY];omega
variable {e:Aa}
def Nz {x:Aa}:x∈Dw l e↔x=e\/x∈l:=by
 unfold Dw;rw[Ie,FM];constructor
 ·rintro(h|h|h)
  ·exact .inr (gJ h)
  ·exact .inl h
  exact .inr (aJz h)
 rintro(h|h)
 ·exact .inr (.inl h)
 rw[←Ve (Qi l e) l]at h;rcases Ie.1 h with h|h
 ·exact .inl h
 exact .inr (.inr h)
section
variable {l:A8 Aa} {e:Aa} (hl:l.length <= 1000)
include hl
theorem aX5 :Vy l e=bif l.any (mG e)then some ([],13)else(bif bQ l e.Id then(TG e).bind λq=>(bif q then(Au l ((l.findIdx λx=>x.Id==e.Id:Nat):Int)).bind λI=>(TG I).bind λJ=>some (!J)else some false).bind λj=>some ((bif j then l.set (l.findIdx λx=>x.Id==e.Id) e else l),0)else some (Dw l e,0)):=by
 have u:a0T l=some l:=by
  unfold a0T;rw[Dz SC];rfl
 have z:kQ l e.Id=some (if l.findIdx (λx=>x.Id==e.Id)<l.length then((l.findIdx (λx=>x.Id==e.Id):Nat):Int)else -1):=by
  unfold kQ uF;rw[a8C l AQ _ (λx=>x.Id==e.Id) λ_=>rfl];rfl
 have L:aIA l l e 0=some (Dw l e,0):=by
  have U:∀i:Nat,i<=l.length->(a4Y l (i:Int) [e]).bind (λO=>some (O,(0:Int)))=some (l.take i++e::l.drop i,0):=λi hi=>by
   have h1:a1O l (i:Int) [e]=some (l.take i++e::l.drop i):=by
    show(if(0<=(i:Int)/\(i:Int)<=(l.length:Int))/\l.length<=34359738368 then some (l.take (i:Int).toNat++e::l.drop (i:Int).toNat)else none)=_;rw[ET ⟨⟨AQ,AQ⟩,AQ⟩,Xe]
   unfold a4Y;rw[h1];rfl
  unfold aIA;rw[KU l (fuel_lt AQ) (λx=> !decide (x.Id<e.Id)) (λi=>some (l.take i++e::l.drop i,(0:Int))) (some (l.take l.length++e::l.drop l.length,0))]
  ·unfold Dw Qi;split
   ·rfl
   rename_i Y;have :=a3B (xs:=l) (p:=λx=> !decide (x.Id<e.Id));rw[show l.findIdx (λx=> !decide (x.Id<e.Id))=l.length by omega]
  ·intro k i h;unfold aIR sQ;rw[DF h,U i AQ];cases decide (l[i].Id<e.Id)<;>rfl
  intro k;unfold aIR sQ;rw[DZ,BQ,BQ,U l.length (EW _)]
 unfold Vy aUl;rw[Hl l (fuel_lt AQ) (mG e) ([],13) (bif bQ l e.Id then(TG e).bind λq=>(bif q then(Au l ((l.findIdx λx=>x.Id==e.Id:Nat):Int)).bind λI=>(TG I).bind λJ=>some (!J)else some false).bind λj=>some ((bif j then l.set (l.findIdx λx=>x.Id==e.Id) e else l),0)else some (Dw l e,0))]
 ·intro k i h;unfold aHf;rw[DF h];rfl
 intro k;unfold aHf;rw[DZ,BQ,z,Aj,u,Aj,L]
 have M:bQ l e.Id=decide (l.findIdx (λx=>x.Id==e.Id)<l.length):=by
  unfold bQ Eb;rw[Oz,List.find?_isSome,IQ,gG]
 rw[M];by_cases h:l.findIdx (λx=>x.Id==e.Id)<l.length
 ·rw[ET h,KC h,Ic (show ¬(((l.findIdx (λx=>x.Id==e.Id):Nat):Int)<0) by omega),KC (show((l.findIdx (λx=>x.Id==e.Id):Nat):Int)>=0 by omega)];simp only[BQ,Bj,Aj];unfold a8o;congr 1;funext q;congr 1;funext j;cases j with
  |true=>rw[Bj,CU h,Xe];rfl
  |false=>rfl
 rw[Ef h,Ic h,KC (show(-1:Int)<0 by omega),Ic (show ¬((-1:Int)>=0) by omega),Ic (show ¬((l.length:Int)>=2000) by omega)];rfl
end
variable {α:Type}
def a7Q {p:α->α->Ad}(hp:∀x y,p x y=true->x=y){a b:A8 α}(h:N8 p a b=true):a=b:=by
 unfold N8 at h;rw[DR]at h;have hlen:a.length=b.length:=by have :=eq_of_beq h.1;omega
 have j:((a.zip b).any λx=> !p x.1 x.2)=false:=by simpa using h.2
 refine X9 hlen λi h1 h2=>?_
 have :=jy.1 j (a[i],b[i]) (by
  have q:i<(a.zip b).length:=Ej
  have :=EZ q
  rwa [aKM]at this)
 exact hp _ _ a4o
def ad3 {a b:Ch}(h:kT a b=true):a=b:=by
 unfold kT vW at h;simp only[DR,MP]at h;obtain⟨h1,h2,⟨⟨⟨⟨⟨⟨j,q⟩,u⟩,z⟩,I⟩,J⟩,L⟩⟩:=h
 have M:=a7Q (p:=VW) (λx y h=>by
  unfold VW at h;rw[DR]at h;cases x;cases y;simp only at h
  rw[toList_inj (eq_of_beq h.1),eq_of_beq h.2]) h1
 have O:=a7Q (p:=TS) (λx y h=>by
  unfold TS at h;rw[DR]at h;cases x;cases y;simp only at h
  rw[eq_of_beq h.1,eq_of_beq h.2]) h2
 cases a;cases b;simp only at *;subst M O j q u z I J L;rfl
variable {a:Aa}
def aYb {b:Aa}(ha:QL (SY a).Content)(hp:a.bG.length<=1000)(M:a.bI.length<=1000):∃r,WT (SY a) (SY b)=some r/\(r=true->a.Id=b.Id/\Gl a b):=by
 unfold WT;rw[a5d _ _ (show(SY a).bG.length<=_ from EI hp AQ),a5d _ _ (show(SY a).bI.length<=_ from EI M AQ),aFT _ ha];simp only[Lu,Aj,SB];refine⟨_,rfl,λh=>?_⟩;simp only[DR,MP]at h;obtain⟨⟨⟨⟨⟨⟨⟨⟨⟨⟨⟨⟨⟨h1,h2⟩,h3⟩,z⟩,h5⟩,O⟩,U⟩,Y⟩,J⟩,j⟩,q⟩,Z⟩,h13⟩,h14⟩:=h;have z:a.Kind=b.Kind:=z;have J:a.bG=b.bG:=by unfold kK at J;exact PI J
 have j:a.bI=b.bI:=by unfold kK at j;exact PI j
 unfold a0q at q;simp only[DR,MP]at q;have L:(Oc a.Kind a.Content).N=(Oc b.Kind b.Content).N:=q.1.1.1.1.1.1.2;have I:(Oc a.Kind a.Content).Levels=(Oc b.Kind b.Content).Levels:=ad3 q.2;refine⟨h1,h1.symm,toList_inj h2.symm,toList_inj h3.symm,z.symm,toList_inj O.symm,U.symm,Y.symm,J.symm,j.symm,λu=>?_,λu=>?_⟩
 ·rw[←z]at L;rcases u with u|u<;>rw[u]at L<;>exact L.symm
 rw[←z,u]at I;exact I.symm
variable {k:A8 Aa}
def afc (u:(l.map (·.Id)).Nodup)(J:(k.map (·.Id)).Nodup)(hd:Hz l=0)(hs:∀e∈l,∃f∈k,f.Id=e.Id/\Gl e f):Hr l k (l.map (·.Id)):=by
 have q:∀x∈l.map (·.Id),ev l x∈l:=λx j=>JZ (J8 (Hw.2 j)).1;refine⟨u,λx j=>?_,λx j a ha=>Hw.1 ((o8 hd (q x j)).2 a ha).1,λx j a ha=>Hw.1 ((o8 hd (q x j)).1 a ha).1⟩;obtain⟨e,z,rfl⟩:=FT.1 j;obtain⟨f,I,h1,h2⟩:=hs e z;have L:ev l e.Id=e:=YP u z;have M:ev k e.Id=f:=by rw[←h1];exact YP J I
 rw[L,M];exact⟨Hw.2 j,Hw.2 (FT.2 ⟨f,I,h1⟩),h2⟩
def aKm (x:Aa):YG x=some (SY x):=by unfold YG;rw[aBw];rfl
variable {x:Int}{y:Aa}
section
set_option maxHeartbeats 1000000
def aBZ {R:Type}{body:(Int->AB R)->Int->AB R}(s n:Nat)(z:n<=1000)(hs:s<=n)(rest:AB R)(j:∀k (i:Nat),s<=i->i<n->body k (i:Int)=k ((i+1:Nat):Int))(q:∀k,body k (n:Int)=rest):bn body Az (s:Int)=rest:=by
 have key:∀d (i:Nat),i+d=n->s<=i->∀m,d<m->bn body m (i:Int)=rest:=by
  intro d
  induction d with
  |zero=>
   intro i hi _ m hm;obtain⟨m,rfl⟩:∃k,m=k+1:=⟨m-1,AQ⟩
   rw[show i=n by omega];exact q _
  |succ d u=>
   intro i hi h1 m hm;obtain⟨m,rfl⟩:∃k,m=k+1:=⟨m-1,AQ⟩
   exact(j (bn body m) i h1 AQ).trans (u (i+1) AQ AQ m AQ)
 exact key (n-s) s AQ (EW _) Az (fuel_lt AQ)
def aWM (I:∀x∈k,Kv x=some 0)(J:∀x∈k,∀y∈k,x.Room=y.Room)(hi:Inc (k.map (·.Id)))(hl:k.length<=100)(q:0<k.length):Ko k=some 0:=by
 unfold Ko;rw[Ic (show ¬(k.length:Int)>2000 by omega),BQ];unfold a7J;refine aBZ 0 k.length AQ AQ _ (λf i _ h=>?_) λf=>?_
 ·unfold lD;rw[DF h,I _ (EZ h),Aj,Ry,BQ,wrap_succ i AQ]
 unfold lD;rw[DZ,BQ];unfold a3a;refine aBZ 1 k.length AQ AQ _ (λf i _ h=>?_) λf=>?_
 ·have z:Au k 0=some k[0]:=CU q;unfold tH;rw[DF h,z,Aj,J _ (EZ h) _ (EZ q),wrap_succ i AQ];simp
 unfold tH;rw[DZ,BQ];unfold a2G;refine aBZ 1 k.length AQ AQ _ (λf i h1 h=>?_) λf=>?_
 ·obtain⟨j,rfl⟩:∃j,i=j+1:=⟨i-1,AQ⟩
  have L:BA (((j+1:Nat):Int)-1)=(j:Int):=by rw[show((j+1:Nat):Int)-1=(j:Int) by omega];exact Oh AQ AQ
  have u:j<k.length:=AQ
  have M:k[j].Id<k[j+1].Id:=by
   have :=JQ.1 hi j (j+1) (by rw[Df];exact u) (by rw[Df];exact h) AQ
   grind
  unfold a07;rw[dec_lt h,Bj,L,CU u,CU h];simp only[Aj];rw[Ic (show ¬(k[j].Id>=k[j+1].Id) by omega),BQ,wrap_succ (j+1) AQ]
 unfold a07
 grind
def aKP (j:∀e∈k,Ey e)(hl:k.length<=100)(h:Ko k=some 0):NZ k=some 0:=by
 obtain⟨c,u,z,_⟩:=aVB (λe q=>(j e q).wide) hl
 grind
def aSB (j:(l.map (·.Id)).Nodup):Eb l x=some y↔y∈l/\y.Id=x:=by
 refine⟨λh=>⟨JZ h,aAc h⟩,λ⟨h1,h2⟩=>?_⟩;have h3:=(J8 (Hw.2 (FT.2 ⟨y,h1,rfl⟩))).1;rw[YP j h1,h2]at h3;exact h3
def aJs (hi:Inc (l.map (·.Id)))(J:e.Id∉l.map (·.Id)):Inc ((Dw l e).map (·.Id)):=by
 have hp:l.Pairwise λa b=>a.Id<b.Id:=cu.1 hi;have L:∀x∈l,x.Id≠e.Id:=λx q h=>J (FT.2 ⟨x,q,h⟩)
 have h1:∀x∈l.take (Qi l e),x.Id<e.Id:=λx q=>by
  obtain⟨j,u,rfl⟩:=G8 q;rw[H7]at u;rw[nT];have :=aHh (p:=λx:Aa=> !decide (x.Id<e.Id)) (xs:=l) (i:=j) (by unfold Qi at u;omega);simpa using this
 have h2:∀x∈l.drop (Qi l e),e.Id<x.Id:=λx q=>by
  obtain⟨j,u,rfl⟩:=G8 q;rw[LY]at u;rw[aHX];have z:Qi l e<l.length:=AQ
  have O:¬(l[Qi l e].Id<e.Id):=by
   show ¬(l[l.findIdx λx=> !decide (x.Id<e.Id)].Id<e.Id)
   grind
  have M:l[Qi l e].Id<=l[Qi l e+j].Id:=by
   rcases Vb j with rfl|I
   ·exact aAW _
   exact Int.le_of_lt (JQ.1 hp _ _ z AQ AQ)
  grind
 unfold Inc;rw[cu];unfold Dw;rw[Yf,QY]
 grind
end
variable {r:C9}{w:A8 Aa}{z:Int}
section
set_option maxHeartbeats 1000000
structure L8 (l:List Aa) (e:Aa):Prop where
 facts:N9 l
 len:l.length<=50
 deep:Hz l=0
 ver:∀x∈l,Kv x=some 0
 fresh:bQ l e.Id=false
 good:Kv e=some 0
 small:Ey e
 room:∀x∈l,x.Room=e.Room
def aJV (hs:Ey e)(h:Kv e=some 0):fK e:=by
 obtain⟨c,j,q,u⟩:=aAs hs.wide
 grind
section
variable {l:A8 Aa} {e:Aa} (h:L8 l e)
include h
theorem L8.ok:KR l:=h.facts.ok aGF
theorem L8.aMH:fK e:=aJV h.small h.good
theorem L8.aLO:e.Id∉l.map (·.Id):=λhm=>by have :=Hw.2 hm;rw[h.fresh]at this;cases this
theorem L8.arn:N9 (Dw l e):=by
 refine⟨λx j=>?_,λx j y J=>?_,aJs h.facts.inc h.aLO⟩
 ·rcases Nz.1 j with rfl|j
  ·exact⟨h.aMH,h.small⟩
  exact h.facts.ev x j
 rcases Nz.1 j with z|q<;>rcases Nz.1 J with I|u
 ·rw[z,I]
 ·rw[z];exact(h.room y u).symm
 ·rw[I];exact h.room x q
 exact h.facts.room x q y u
theorem L8.len':(Dw l e).length<=51:=by have :=h.len;rw[Oa];omega
theorem L8.ok':KR (Dw l e):=h.arn.ok aF0
theorem L8.aMI:∀x∈Dw l e,Kv x=some 0:=λx j=>by
 rcases Nz.1 j with rfl|j
 ·exact h.good
 exact h.ver x j
theorem L8.ref':Ko (Dw l e)=some 0:=aWM h.aMI h.arn.room h.arn.inc aF0 (by rw[Oa];omega)
theorem L8.prog':NZ (Dw l e)=some 0:=aKP h.ok'.small aF0 h.ref'
theorem L8.get {x:Int}(j:bQ l x=true):Eb (Dw l e) x=Eb l x:=by
 have h1:=(J8 j).1;rw[h1];exact(aSB h.ok'.nodup).2 ⟨Nz.2 (.inr (JZ h1)),aAc h1⟩
theorem L8.aKs {x:Int}(j:bQ l x=true):bQ (Dw l e) x=true:=by unfold bQ;rw[h.get j];exact j
theorem L8.ev' {x:Int}(j:bQ l x=true):ev (Dw l e) x=ev l x:=by unfold ev I9;rw[h.get j]
theorem L8.self:Eb (Dw l e) e.Id=some e:=(aSB h.ok'.nodup).2 ⟨Nz.2 (.inl rfl),rfl⟩
theorem L8.aEP:ev (Dw l e) e.Id=e:=YP h.ok'.nodup (Nz.2 (.inl rfl))
theorem L8.ahD:bQ (Dw l e) e.Id=true:=by unfold bQ;rw[h.self];rfl
theorem L8.aIQ {x:Int}:bQ (Dw l e) x=true↔x=e.Id\/bQ l x=true:=by
 constructor
 ·intro j;obtain⟨y,q,rfl⟩:=FT.1 (Hw.1 j);rcases Nz.1 q with rfl|q
  ·exact .inl rfl
  exact .inr (Hw.2 (FT.2 ⟨y,q,rfl⟩))
 rintro(rfl|j)
 ·exact h.ahD
 exact h.aKs j
variable (hd:Hz (Dw l e) = 0)
include hd
theorem L8.agr:Hr l (Dw l e) (l.map (·.Id)):=afc h.ok.nodup h.ok'.nodup h.deep λx j=>⟨x,Nz.2 (.inr j),rfl,.refl x⟩
theorem L8.lines {x:Int}(j:bQ l x=true):FU (DT (Dw l e)) x=FU (DT l) x:=(aIV (h.agr hd) h.ok h.deep h.ok' hd x (Hw.1 j)).1
theorem L8.aHt {x:Int}(j:bQ l x=true):Hd (DT (Dw l e)) x=Hd (DT l) x:=by unfold Hd;rw[h.lines hd j]
omit hd
end
def NT (l:A8 Aa)(e:Aa):Ad:=e.Kind==1&&Hd (DT l) e.Id
def Ia (l:A8 Aa):Nat:=(l.filter (NT l)).length
def aXZ (l:A8 Aa)(e:Aa)(p:Aa->Ad):((Dw l e).filter p).length=(l.filter p).length+(bif p e then 1 else 0):=by
 have j:(l.filter p).length=((l.take (Qi l e)).filter p).length+((l.drop (Qi l e)).filter p).length:=by
  rw[←Ee,←Qz,Ve]
 unfold Dw
 grind
def L8.made (h:L8 l e)(hd:Hz (Dw l e)=0):Ia (Dw l e)=Ia l+(bif NT (Dw l e) e then 1 else 0):=by
 unfold Ia;rw[aXZ];congr 2;refine ZE λx j=>?_;unfold NT;rw[h.aHt hd (Hw.2 (FT.2 ⟨x,j,rfl⟩))]
structure Hu (r:C9):Prop where
 id:Rx r.Id=0
 set:Ko r.Events=some 0
 facts:N9 r.Events
 own:∀x∈r.Events,x.Room=r.Id
 deep:Hz r.Events=0
 WO:r.Rows.length=r.Events.length
 next:r.Next=(r.Rows.length:Int)
 one:Ia r.Events<=1
 pos:∀i (h:i<r.Rows.length),r.Rows[i].Pos=(i:Int)
 nodup:(r.Rows.map (·.Id)).Nodup
 known:∀x∈r.Rows,bQ r.Events x.Id=true
 refs:∀i (h:i<r.Rows.length),∀z,z∈(ev r.Events r.Rows[i].Id).bG\/z∈(ev r.Events r.Rows[i].Id).bI->∃j,∃hj:j<r.Rows.length,j<i/\r.Rows[j].Id=z
 stat:∀x∈r.Rows,(x.Status=2↔Hd (DT r.Events) x.Id=false)/\(x.Status=2\/x.Status=3\/x.Status=4)
 agj:Ko r.Waiting=some 0
 tK:N9 r.Waiting
 U9:∀x∈r.Waiting,x.Room=r.Id
 WQ:∀x∈r.Waiting,bQ r.Events x.Id=false
 apr:r.Waiting.length<=200
 heads:r.yK=Js r.Events (Gv r.Events (DT r.Events))
 state:r.State=O8 r.Events (DT r.Events)
def VY (r:C9):Prop:=∀x∈r.Waiting,Gm r.Events x=false
def Sl (r:C9)(e:Aa):Int:=bif Hd (DT (Dw r.Events e)) e.Id then(bif Lp e (LW r.Events r.State)==0 then 4 else 3)else 2
def OH (r:C9)(e:Aa):FZ:={ KZ with Pos:=r.Next,Id:=e.Id,Status:=Sl r e }
def Ob (r:C9)(e:Aa):C9:=
 { r with Rows:=r.Rows++[OH r e],Next:=r.Next+1,Events:=Dw r.Events e,yK:=Js (Dw r.Events e) (Gv (Dw r.Events e) (DT (Dw r.Events e))),State:=O8 (Dw r.Events e) (DT (Dw r.Events e)) }
def II (r:C9)(e:Aa):C9×Int:=
 bif Hz (Dw r.Events e) != 0 then(r,15)else bif decide (0<Ia r.Events)&&NT (Dw r.Events e) e then(r,17)else(Ob r e,0)
def Hu.ver (h:Hu r)(hl:r.Events.length<=50):∀x∈r.Events,Kv x=some 0:=rQ h.set AQ
def Hu.aCX (h:Hu r)(hl:r.Events.length<=50)(j:Kv e=some 0)(hs:Ey e)(q:e.Room=r.Id)(u:bQ r.Events e.Id=false):L8 r.Events e:=
 ⟨h.facts,hl,h.deep,h.ver hl,u,j,hs,λx z=>by rw[h.own x z,q]⟩
def aZM (h:Gm l e=true)(j:z∈e.bG\/z∈e.bI):bQ l z=true:=by
 unfold Gm at h
 grind
def Hu.rowOf (h:Hu r)(L:bQ r.Events z=true):∃j,∃J:j<r.Rows.length,r.Rows[j].Id=z:=by
 have O:=QH h.facts.inc
 have h1:∀x∈r.Rows.map (·.Id),x∈r.Events.map (·.Id):=λx q=>by
  obtain⟨y,I,rfl⟩:=FT.1 q;exact Hw.1 (h.known y I)
 have u:z∈r.Rows.map (·.Id):=by
  refine rV λM=>?_
  have :=rE (a:=z::r.Rows.map (·.Id)) (b:=r.Events.map (·.Id)) (KQ.2 ⟨M,h.nodup⟩) λx q=>by
   rcases FM.1 q with rfl|q
   ·exact Hw.1 L
   exact h1 x q
  rw[GH,Df,Df,h.WO]at this;omega
 obtain⟨y,I,e⟩:=FT.1 u;obtain⟨j,J,rfl⟩:=G8 I;exact⟨j,J,e⟩
def Hu.more (h:Hu r)(hl:r.Events.length<=50)(hv:Kv e=some 0)(hs:Ey e)(hr:e.Room=r.Id)(hf:bQ r.Events e.Id=false)(hw:∀x∈r.Waiting,x.Id≠e.Id)(hrd:Gm r.Events e=true)(hd:Hz (Dw r.Events e)=0)(hc:(decide (0<Ia r.Events)&&NT (Dw r.Events e) e)=false):Hu (Ob r e):=by
 have ha:=h.aCX hl hv hs hr hf;have Z:∀x∈r.Rows,x.Id≠e.Id:=λx u I=>by have :=h.known x u;rw[I,hf]at this;cases this
 have hlt:∀i (hi:i<(r.Rows++[OH r e]).length),(∃J:i<r.Rows.length,(r.Rows++[OH r e])[i]=r.Rows[i])\/(i=r.Rows.length/\(r.Rows++[OH r e])[i]=OH r e):=λi hi=>by
  by_cases I:i<r.Rows.length
  ·exact .inl ⟨I,a2q I⟩
  rw[Ee,Om]at hi;have :i=r.Rows.length:=AQ
  subst this;exact .inr ⟨rfl,Bf⟩
 refine⟨h.id,ha.ref',ha.arn,λx u=>?_,hd,?_,?_,?_,λi hi=>?_,?_,λx u=>?_,λi hi z M=>?_,λx u=>?_,h.agj,h.tK,h.U9,λx u=>?_,h.apr,rfl,rfl⟩
 ·rcases Nz.1 u with rfl|u
  ·exact hr
  exact h.own x u
 ·show(r.Rows++[OH r e]).length=(Dw r.Events e).length;rw[Ee,Om,Oa,h.WO]
 ·show r.Next+1=((r.Rows++[OH r e]).length:Int);rw[Ee,Om,h.next];omega
 ·show Ia (Dw r.Events e)<=1;rw[ha.made hd];have :=h.one;cases I:NT (Dw r.Events e) e with
  |false=>rw[BQ];omega
  |true=>
   rw[I,MJ,mV]at hc;rw[Bj];omega
 ·rcases hlt i hi with⟨J,O⟩|⟨e0,O⟩
  ·show(r.Rows++[OH r e])[i].Pos=_;rw[O];exact h.pos i J
  show(r.Rows++[OH r e])[i].Pos=_;rw[O,e0];exact h.next
 ·show((r.Rows++[OH r e]).map (·.Id)).Nodup;rw[Jb,nE];refine⟨h.nodup,Bf,λx u y hy=>?_⟩;obtain⟨q,I,rfl⟩:=FT.1 u;have hy:y=e.Id:=by simpa[OH]using hy
  rw[hy];exact Z q I
 ·have u:x∈r.Rows++[OH r e]:=u;rcases Ie.1 u with u|u
  ·exact ha.aKs (h.known x u)
  rw[Jd.1 u];exact ha.ahD
 ·have M:z∈(ev (Dw r.Events e) (r.Rows++[OH r e])[i].Id).bG\/z∈(ev (Dw r.Events e) (r.Rows++[OH r e])[i].Id).bI:=M
  have hgo:∀j,(U:j<r.Rows.length)->r.Rows[j].Id=z->j<i->∃j,∃U:j<(r.Rows++[OH r e]).length,j<i/\(r.Rows++[OH r e])[j].Id=z:=λj U L Y=>
   ⟨j,Lj,Y,by rw[a2q U];exact L⟩
  rcases hlt i hi with⟨J,O⟩|⟨e0,O⟩
  ·rw[O,ha.ev' (h.known _ (EZ J))]at M;obtain⟨j,U,Y,L⟩:=h.refs i J z M;exact hgo j U L Y
  rw[O]at M;have M:z∈(ev (Dw r.Events e) e.Id).bG\/z∈(ev (Dw r.Events e) e.Id).bI:=M;rw[ha.aEP]at M;obtain⟨j,U,L⟩:=h.rowOf (aZM hrd M);exact hgo j U L AQ
 ·have u:x∈r.Rows++[OH r e]:=u;show(x.Status=2↔Hd (DT (Dw r.Events e)) x.Id=false)/\_;rcases Ie.1 u with u|u
  ·rw[ha.aHt hd (h.known x u)];exact h.stat x u
  rw[Jd.1 u];show(Sl r e=2↔Hd (DT (Dw r.Events e)) e.Id=false)/\(Sl r e=2\/Sl r e=3\/Sl r e=4);unfold Sl;cases Hd (DT (Dw r.Events e)) e.Id with
  |false=>simp
  |true=>cases Lp e (LW r.Events r.State)==0<;>simp
 cases I:bQ (Dw r.Events e) x.Id with
 |false=>exact I
 |true=>
  rcases ha.aIQ.1 I with I|I
  ·exact absurd I (hw x u)
  rw[h.WQ x u]at I;cases I
def jm (b:AB Aa)(e:Aa):Ad:=match b with
 |none=>true
 |some x=>OD e x
def Jf (l:A8 Aa)(b:AB Aa)(e:Aa):AB Aa:=bif Gm l e&&jm b e then some e else b
def WZ (l w:A8 Aa):AB Aa:=w.foldl (Jf l) none
def aWj (l:A8 Aa):∀(w:A8 Aa) (b:AB Aa) (e:Aa),w.foldl (Jf l) b=some e->b=some e\/(e∈w/\Gm l e=true)
 | [],b,e,h=>.inl h
 |x::w,b,e,h=>by
  rw[Fl]at h;rcases aWj l w _ e h with h|⟨h1,h2⟩
  ·unfold Jf at h
   grind
  grind
def a8D (h:WZ l w=some e):e∈w/\Gm l e=true:=by
 rcases aWj l w none e h with h|h
 ·cases h
 exact h
def aBO (l:A8 Aa):∀(w:A8 Aa) (b:Aa),∃e,w.foldl (Jf l) (some b)=some e
 | [],b=>⟨b,rfl⟩
 |x::w,b=>by
  rw[Fl];unfold Jf;cases(Gm l x&&jm (some b) x)with
  |false=>exact aBO l w b
  |true=>exact aBO l w x
def aOC (l:A8 Aa):∀{w:A8 Aa},WZ l w=none->∀x∈w,Gm l x=false
 | [],_,_,j=>absurd j Gn
 |y::w,h,x,j=>by
  have h:w.foldl (Jf l) (Jf l none y)=none:=h;cases q:Gm l y with
  |true=>
   have u:Jf l none y=some y:=by unfold Jf;rw[q];rfl
   rw[u]at h;obtain⟨e,z⟩:=aBO l w y;rw[z]at h;cases h
  |false=>
   have u:Jf l none y=none:=by unfold Jf;rw[q];rfl
   rw[u]at h;rcases FM.1 j with rfl|j
   ·exact q
   exact aOC l (w:=w) h x j
def H6 (w:A8 Aa)(id:Int):A8 Aa:=w.filter λx=>x.Id != id
def Fz :Nat->C9->C9
 |0,r=>r
 |n+1,r=>match WZ r.Events r.Waiting with
  |none=>r
  |some e=>Fz n (II { r with Waiting:=H6 r.Waiting e.Id } e).1
def aD3 (q:∀x∈k,Kv x=some 0)(u:∀x∈k,∀y∈k,x.Room=y.Room)(hi:Inc (k.map (·.Id)))(hl:k.length<=100):Ko k=some 0:=by
 rcases Vb k.length with j|j
 ·obtain rfl:k=[]:=He j;rfl
 exact aWM q u hi hl j
def a1r (h:e∈w):(H6 w e.Id).length<w.length:=by
 unfold H6;rw[List.length_filter_lt_length_iff_exists]
 grind
def aOD (w:A8 Aa)(id:Int):(H6 w id).length<=w.length:=Lc ..
def Hu.drop (h:Hu r)(z:r.Waiting.length<=100)(id:Int):Hu { r with Waiting:=H6 r.Waiting id }:=by
 have j:∀x∈H6 r.Waiting id,x∈r.Waiting:=λx q=>(Gs.1 q).1
 have u:N9 (H6 r.Waiting id):=⟨λx q=>h.tK.ev x (j x q),λx q y I=>h.tK.room x (j x q) y (j y I),by
  unfold H6 Inc
  exact h.tK.inc.sublist (Ue.map _)⟩
 refine{ h with agj:=?_,tK:=u,U9:=λx q=>h.U9 x (j x q),WQ:=λx q=>h.WQ x (j x q),apr:=EI (aOD ..) h.apr };exact aD3 (λx q=>rQ h.agj z x (j x q)) u.room u.inc (EI (aOD ..) z)
def XL (r:C9)(e:Aa):((II r e).1=r/\(II r e).2≠0)\/(II r e=(Ob r e,0)/\Hz (Dw r.Events e)=0/\(decide (0<Ia r.Events)&&NT (Dw r.Events e) e)=false):=by
 unfold II
 grind
def wS :∀(n:Nat) {r:C9},Hu r->r.Waiting.length<=n->r.Events.length+n<=50->Hu (Fz n r)/\VY (Fz n r)
 |0,r,h,z,_=>⟨h,λx j=>by
  have j:x∈r.Waiting:=j;rw[He (show r.Waiting.length=0 by omega)]at j
  exact absurd j Gn⟩
 |n+1,r,h,z,hl=>by
  unfold Fz;cases u:WZ r.Events r.Waiting with
  |none=>exact⟨h,aOC _ u⟩
  |some e=>
   obtain⟨h1,h2⟩:=a8D u;have hd:=h.drop AQ e.Id;have I:=a1r h1;have q:=h.tK.ev e h1;rcases XL { r with Waiting:=H6 r.Waiting e.Id } e with⟨q1,_⟩|⟨q1,q2,q3⟩
   ·show Hu (Fz n (II _ e).1)/\VY (Fz n (II _ e).1);rw[q1];exact wS n hd (show(H6 r.Waiting e.Id).length<=n by omega) (show r.Events.length+n<=50 by omega)
   show Hu (Fz n (II _ e).1)/\VY (Fz n (II _ e).1);rw[q1]
   have hm:=hd.more (e:=e) (show r.Events.length<=50 by omega) (rQ h.agj AQ e h1) q.2 (h.U9 e h1) (h.WQ e h1) (λx j=>by
    have :=(Gs.1 j).2
    simpa using this) h2 q2 q3
   exact wS n hm (show(H6 r.Waiting e.Id).length<=n by omega) (show(Dw r.Events e).length+n<=50 by rw[Oa];omega)
end
variable {x:Aa}
section
set_option maxHeartbeats 1000000
structure QF (l k:List Aa):Prop where
 len:k.length=l.length
 at_:∀i (h:i<l.length) (h':i<k.length),Gl l[i] k[i]
def QF.ids (h:QF l k):k.map (·.Id)=l.map (·.Id):=by
 refine X9 (by simp[h.len]) λi h1 h2=>?_;rw[Df]at h1 h2;rw[Ph,Ph,(h.at_ i h2 h1).id]
def QF.ajo (h:QF l k)(x:Int):bQ k x=bQ l x:=by rw[Oz,Hw,Hw,h.ids]
def aUp {m:A8 Aa}{x:Int}(hm:bQ m x=false):ev m x=Fe:=by
 unfold bQ at hm
 have :Eb m x=none:=by cases j:Eb m x with
  |none=>
   rfl
  |some e=>
   grind
 unfold ev;rw[Rl this]
def QF.evS (h:QF l k)(z:(l.map (·.Id)).Nodup){x:Int}(I:bQ l x=true):Gl (ev l x) (ev k x):=by
 obtain⟨e,J,rfl⟩:=FT.1 (Hw.1 I);obtain⟨i,j,rfl⟩:=G8 J;have q:i<k.length:=by rw[h.len];exact j
 have hs:=h.at_ i j q;have u:(k.map (·.Id)).Nodup:=by rw[h.ids];exact z
 have L:ev l l[i].Id=l[i]:=YP z (EZ j);have M:ev k l[i].Id=k[i]:=by rw[←hs.id];exact YP u (EZ q)
 grind
def QF.ok (h:QF l k)(I:N9 l)(hl:l.length<=100)(J:∀x∈k,Kv x=some 0)(hs:∀x∈k,Ey x):Ko k=some 0/\N9 k:=by
 have L:∀x∈k,∀y∈k,x.Room=y.Room:=λx q y O=>by
  obtain⟨i,hi,rfl⟩:=G8 q;obtain⟨j,M,rfl⟩:=G8 O;have u:i<l.length:=aEh
  have z:j<l.length:=by rw[←h.len];exact M
  rw[(h.at_ i u hi).room,(h.at_ j z M).room];exact I.room _ (EZ u) _ (EZ z)
 have hi:Inc (k.map (·.Id)):=by rw[h.ids];exact I.inc
 exact⟨aD3 J L hi (by rw[h.len];exact hl),λx q=>⟨aJV (hs x q) (J x q),hs x q⟩,L,hi⟩
def QF.half (h:QF l k)(O:N9 l)(hl:l.length<=100)(hd:Hz l=0)(Y:∀x∈k,Kv x=some 0)(hs:∀x∈k,Ey x):aUK l k:=by
 obtain⟨U,Z⟩:=h.ok O hl Y hs;have z:=QH O.inc
 have u:∀x,H8 k x=H8 l x:=λx=>by
  show(ev k x).Depth=(ev l x).Depth;cases q:bQ l x with
  |true=>
   exact(h.evS z q).depth
  |false=>
   rw[aUp q,aUp (by rw[h.ajo];exact q)]
 refine⟨U,aKP hs (by rw[h.len];exact hl) U,Z,?_,h.ids,⟨z,λx q=>?_,λx q a ha=>?_,λx q a ha=>?_⟩⟩
 ·unfold Hz at hd ⊢;cases h1:Tz l with
  |false=>
   grind
  |true=>
   rw[h1,Bj]at hd;cases h2:l.all (QV l)with
   |false=>
    grind
   |true=>
    have I:Tz k=true:=by
     unfold Tz at h1 ⊢;rw[En]at h1 ⊢;intro e J;obtain⟨i,hi,rfl⟩:=G8 J;have j:i<l.length:=aEh
     have :=h1 _ (EZ j);have hs:=h.at_ i j hi;unfold Gm at this ⊢;rw[hs.prev,hs.auth,show bQ k=bQ l from funext h.ajo];exact this
    have L:k.all (QV k)=true:=by
     rw[En]at h2 ⊢;intro e J;obtain⟨i,hi,rfl⟩:=G8 J;have j:i<l.length:=aEh
     have :=h2 _ (EZ j);have hs:=h.at_ i j hi;unfold QV at this ⊢;rw[hs.prev,hs.auth,hs.depth,show H8 k=H8 l from funext u];exact this
    rw[I,L];rfl
 ·have M:=Hw.2 q;exact⟨M,by rw[h.ajo];exact M,h.evS z M⟩
 ·exact Hw.1 ((o8 hd (JZ (J8 (Hw.2 q)).1)).2 a ha).1
 exact Hw.1 ((o8 hd (JZ (J8 (Hw.2 q)).1)).1 a ha).1
def QF.heads (h:QF l k)(j:(l.map (·.Id)).Nodup)(ids:A8 Int):Js k ids=Js l ids:=by
 unfold Js;refine ZE λx _=>?_;congr 1;refine any_congr λy _=>?_;unfold JL;rw[h.ajo];cases q:bQ l y with
 |false=>rfl
 |true=>rw[(h.evS j q).prev]
def Hu.aMJ (h:Hu r)(hl:r.Events.length<=50)(j:QF r.Events k)(O:∀x∈k,Kv x=some 0)(hs:∀x∈k,Ey x):Hu { r with Events:=k }/\(VY r->VY { r with Events:=k }):=by
 have J:=j.half h.facts AQ h.deep O hs;have M:=QH h.facts.inc;obtain⟨U,Y,Z⟩:=acY J h.facts AQ (by rw[j.len];omega) h.deep;have L:∀x,Hd (DT k) x=Hd (DT r.Events) x:=λx=>by unfold Hd;rw[U]
 have u:∀x,Gm k x=Gm r.Events x:=λx=>by unfold Gm;rw[show bQ k=bQ r.Events from funext j.ajo]
 refine⟨⟨h.id,J.ref,J.facts,λx q=>?_,J.deep,h.WO.trans j.len.symm,h.next,?_,h.pos,h.nodup,λx q=>(j.ajo _).trans (h.known x q),λi hi z hz=>?_,λx q=>?_,h.agj,h.tK,h.U9,λx q=>(j.ajo _).trans (h.WQ x q),h.apr,?_,?_⟩,λhr x q=>(u x).trans (hr x q)⟩
 ·obtain⟨i,hi,rfl⟩:=G8 q;have I:i<r.Events.length:=by rw[←j.len];exact hi
  rw[(j.at_ i I hi).room];exact h.own _ (EZ I)
 ·have :Ia k=Ia r.Events:=by
   have hm:∀(m:A8 Aa),Ia m=((m.map λe=>(e.Kind,e.Id)).filter λp=>p.1==1&&Hd (DT m) p.2).length:=λm=>by
    unfold Ia;rw[List.filter_map,Df];rfl
   have hp:(k.map λe=>(e.Kind,e.Id))=r.Events.map λe=>(e.Kind,e.Id):=by
    refine X9 (by simp[j.len]) λi h1 h2=>?_;rw[Df]at h1 h2;rw[Ph,Ph,(j.at_ i h2 h1).id,(j.at_ i h2 h1).kind]
   grind
  show Ia k<=1;rw[this];exact h.one
 ·have hs:=j.evS M (h.known _ (EZ hi));exact h.refs i hi z (by rw[←hs.prev,←hs.auth];exact hz)
 ·show(x.Status=2↔Hd (DT k) x.Id=false)/\_;rw[L];exact h.stat x q
 ·show r.yK=Js k (Gv k (DT k));rw[Z,j.heads M];exact h.heads
 show r.State=O8 k (DT k);rw[Y];exact h.state
def jA (e:Aa):Ad:=Y0 e==e.Hash
def IZ (l:A8 Aa)(x:Aa):A8 Aa:=bif jA x&& !jA (ev l x.Id)then l.set (l.findIdx λy=>y.Id==x.Id) x else l
def aII {x:Int}(u:bQ l x=true):∃h:(l.findIdx λy=>y.Id==x)<l.length,l[l.findIdx λy=>y.Id==x]=ev l x:=by
 obtain⟨q,z⟩:=J8 u
 have j:(l.findIdx λy=>y.Id==x)<l.length:=by
  rw[gG];exact⟨_,JZ q,by rw[z];exact NR _⟩
 refine⟨j,?_⟩;have h3:l.find? (λy=>y.Id==x)=some (ev l x):=q;rw[Kw,EO j]at h3
 grind
def ag7 (l:A8 Aa):QF l l:=⟨rfl,λ_ _ _=>.refl _⟩
def a0B (u:bQ l x.Id=true)(hs:Gl (ev l x.Id) x):QF l (IZ l x):=by
 unfold IZ;cases jA x&& !jA (ev l x.Id)with
 |false=>exact ag7 l
 |true=>
  obtain⟨q,j⟩:=aII u;refine⟨YZ ..,λi h h'=>?_⟩;show Gl l[i] (l.set _ x)[i];rw[List.getElem_set];split
  ·rename_i z;subst z;rw[j];exact hs
  exact .refl _
def YT (h:y∈IZ l x):y∈l\/y=x:=by
 unfold IZ at h
 grind
def aOb (I:(l.map (·.Id)).Nodup)(z:bQ l x.Id=true)(hs:Gl (ev l x.Id) x):IZ (IZ l x) x=IZ l x:=by
 have hsl:=a0B z hs;cases u:(jA x&& !jA (ev l x.Id))with
 |false=>
  have :IZ l x=l:=by unfold IZ;rw[u];rfl
  rw[this,this]
 |true=>
  have J:IZ l x=l.set (l.findIdx λy=>y.Id==x.Id) x:=by unfold IZ;rw[u];rfl
  obtain⟨j,_⟩:=aII z
  have hm:x∈IZ l x:=by
   rw[J];exact List.mem_iff_getElem.2 ⟨_,by rw[YZ];exact j,by rw[List.getElem_set_self]⟩
  have q:ev (IZ l x) x.Id=x:=YP (by rw[hsl.ids];exact I) hm;rw[DR]at u;generalize IZ l x=k at q;unfold IZ;rw[q,u.1];rfl
def aLn (h:ev l x.Id=x):IZ l x=l:=by
 unfold IZ
 grind
def dK (r:C9)(id:Int):Int:=((r.Rows.find? λx=>x.Id==id).map (·.Status)).getD 0
def Gq (r:C9)(x:Aa):C9×Int×Int:=
 bif !decide (x.Room=r.Id)then(r,0,13)else
 bif bQ r.Events x.Id then({ r with Events:=IZ r.Events x },dK r x.Id,0)else
 bif !bQ r.Waiting x.Id&&Gm r.Events x then(bif (II r x).2 != 0 then(r,0,(II r x).2)else(Fz r.Waiting.length (II r x).1,dK (Fz r.Waiting.length (II r x).1) x.Id,0))else
 bif !bQ r.Waiting x.Id&&decide (200<=r.Waiting.length)then(r,0,29)else
 ({ r with Waiting:=bif bQ r.Waiting x.Id then IZ r.Waiting x else Dw r.Waiting x },1,0)
structure lV (r:C9) (x:Aa):Prop where
 ver:Kv x=some 0
 small:Ey x
 sim:∀y∈r.Events,y.Id=x.Id->Gl y x
 aGQ:∀y∈r.Waiting,y.Id=x.Id->Gl y x
def uM {x:Int}(h:bQ l x=true):ev l x∈l/\(ev l x).Id=x:=⟨JZ (J8 h).1,(J8 h).2⟩
def Hu.receive (h:Hu r)(L:VY r)(hl:r.Events.length+r.Waiting.length<=48)(z:lV r x):Hu (Gq r x).1/\VY (Gq r x).1:=by
 have hv:=h.ver AQ;have M:=rQ h.agj AQ;unfold Gq;cases q:decide (x.Room=r.Id)with
 |false=>
  grind
 |true=>
 have q:=PI q;rw[El,BQ];cases O:bQ r.Events x.Id with
 |true=>
  rw[Bj];obtain⟨Z,g2⟩:=uM O
  obtain⟨a,b⟩:=h.aMJ AQ (a0B O (z.sim _ Z g2)) (λy j=>by
   rcases YT j with j|rfl
   ·exact hv y j
   ·exact z.ver) λy j=>by
   rcases YT j with j|rfl
   ·exact(h.facts.ev y j).2
   exact z.small
  exact⟨a,b L⟩
 |false=>
 rw[BQ];cases U:(!bQ r.Waiting x.Id&&Gm r.Events x)with
 |true=>
  rw[DR]at U;have u:bQ r.Waiting x.Id=false:=by simpa using U.1
  rw[Bj];rcases XL r x with⟨q1,q2⟩|⟨q1,q2,q3⟩
  ·rw[show((II r x).2 != 0)=true by simpa using q2,Bj];exact⟨h,L⟩
  rw[q1]
  exact wS _ (h.more AQ z.ver z.small q O (λy j hyx=>by
   have :=Hw.2 (FT.2 ⟨y,j,hyx⟩)
   rw[u]at this;cases this) U.2 q2 q3) (EW _) (show(Dw r.Events x).length+r.Waiting.length<=50 by rw[Oa];omega)
 |false=>
 rw[BQ];cases I:(!bQ r.Waiting x.Id&&(200<=r.Waiting.length))with
 |true=>
  grind
 |false=>
 rw[BQ];cases u:bQ r.Waiting x.Id with
 |true=>
  rw[Bj];obtain⟨Z,g2⟩:=uM u;have hs:=z.aGQ _ Z g2;have hsl:=a0B u hs
  obtain⟨c1,c2⟩:=hsl.ok h.tK AQ (λy j=>by
   rcases YT j with j|rfl
   ·exact M y j
   ·exact z.ver) λy j=>by
   rcases YT j with j|rfl
   ·exact(h.tK.ev y j).2
   exact z.small
  refine⟨{ h with agj:=c1,tK:=c2,U9:=λy j=>?_,WQ:=λy j=>?_,apr:=?_ },λy j=>?_⟩
  ·rcases YT j with j|rfl
   ·exact h.U9 y j
   exact q
  ·rcases YT j with j|rfl
   ·exact h.WQ y j
   exact O
  ·show(IZ r.Waiting x).length<=200;rw[hsl.len];exact h.apr
  rcases YT j with j|rfl
  ·exact L y j
  have h1:=L _ Z;unfold Gm at h1 ⊢;rw[hs.prev,hs.auth];exact h1
 |false=>
  rw[BQ];rw[u,JV,Fv]at U I;have Y:x.Id∉r.Waiting.map (·.Id):=λhm=>by have :=Hw.2 hm;rw[u]at this;cases this
  have J:∀a∈Dw r.Waiting x,a.Room=r.Id:=λa ha=>by
   rcases Nz.1 ha with rfl|ha
   ·exact q
   exact h.U9 a ha
  have hF:N9 (Dw r.Waiting x):=⟨λy j=>by
   rcases Nz.1 j with rfl|j
   ·exact⟨aJV z.small z.ver,z.small⟩
   exact h.tK.ev y j,λa ha b hb=>(J a ha).trans (J b hb).symm,aJs h.tK.inc Y⟩
  refine⟨{ h with agj:=?_,tK:=hF,U9:=J,WQ:=λy j=>?_,apr:=?_ },λy j=>?_⟩
  ·exact aD3 (λy j=>by
    rcases Nz.1 j with rfl|j
    ·exact z.ver
    exact M y j) hF.room hF.inc (by rw[Oa];omega)
  ·rcases Nz.1 j with rfl|j
   ·exact O
   exact h.WQ y j
  ·show(Dw r.Waiting x).length<=200;rw[Oa];have :=Np I;omega
  rcases Nz.1 j with rfl|j
  ·exact U
  exact L y j
end
variable {y:Int}
section
set_option maxHeartbeats 1000000
structure Grown (r s:C9):Prop where
 id:s.Id=r.Id
 ev:∀y,bQ r.Events y=true->Eb s.Events y=Eb r.Events y
 rows:∃t,s.Rows=r.Rows++t
def Grown.refl (r:C9):Grown r r:=⟨rfl,λ_ _=>rfl,[],Bf⟩
def aW6 (h:Eb k y=Eb l y):bQ k y=bQ l y:=by unfold bQ;rw[h]
def ahg (h:Eb k y=Eb l y):ev k y=ev l y:=by unfold ev I9;rw[h]
def Grown.trans {r s t:C9}(h:Grown r s)(k:Grown s t):Grown r t:=by
 obtain⟨u,q⟩:=h.rows;obtain⟨v,z⟩:=k.rows;exact⟨k.id.trans h.id,λy j=>(k.ev y (by rw[aW6 (h.ev y j)];exact j)).trans (h.ev y j),u++v,by rw[z,q,JO]⟩
def Hu.aES (h:Hu r)(hl:r.Events.length<=50)(j:Kv e=some 0)(hs:Ey e)(q:e.Room=r.Id)(u:bQ r.Events e.Id=false):Grown r (Ob r e):=
 ⟨rfl,λ_ z=>(h.aCX hl j hs q u).get z,[OH r e],rfl⟩
def aKZ :∀(n:Nat) {r:C9},Hu r->r.Waiting.length<=n->r.Events.length+n<=50->Grown r (Fz n r)
 |0,r,_,_,_=>.refl r
 |n+1,r,h,hw,hl=>by
  unfold Fz;cases z:WZ r.Events r.Waiting with
  |none=>exact .refl r
  |some e=>
   obtain⟨h1,h2⟩:=a8D z;have hd:=h.drop AQ e.Id;have I:=a1r h1;have j:=h.tK.ev e h1;have q:Grown r { r with Waiting:=H6 r.Waiting e.Id }:=⟨rfl,λ_ _=>rfl,[],Bf⟩
   rcases XL { r with Waiting:=H6 r.Waiting e.Id } e with⟨q1,_⟩|⟨q1,q2,q3⟩
   ·show Grown r (Fz n (II _ e).1);rw[q1];exact q.trans (aKZ n hd (show(H6 r.Waiting e.Id).length<=n by omega) (show r.Events.length+n<=50 by omega))
   show Grown r (Fz n (II _ e).1);rw[q1];have u:=rQ h.agj AQ e h1
   have hm:=hd.more (e:=e) (show r.Events.length<=50 by omega) u j.2 (h.U9 e h1) (h.WQ e h1) (λx J=>by
    have :=(Gs.1 J).2
    simpa using this) h2 q2 q3
   exact q.trans ((hd.aES (show r.Events.length<=50 by omega) u j.2 (h.U9 e h1) (h.WQ e h1)).trans (aKZ n hm (show(H6 r.Waiting e.Id).length<=n by omega) (show(Dw r.Events e).length+n<=50 by rw[Oa];omega)))
def aek (h:(Gq r x).2.2≠0):(Gq r x).1=r/\(Gq r x).2.1=0:=by
 unfold Gq at h ⊢;cases j:decide (x.Room=r.Id)with
 |false=>
  exact⟨rfl,rfl⟩
 |true=>
 rw[j]at h;simp only[El,BQ]at h ⊢;cases q:bQ r.Events x.Id with
 |true=>
  grind
 |false=>
 grind
def aaq:bQ (Dw l x) x.Id=true:=Hw.2 (FT.2 ⟨x,Nz.2 (.inl rfl),rfl⟩)
def Hu.again (h:Hu r)(hr:VY r)(hl:r.Events.length+r.Waiting.length<=48)(M:lV r x)(O:(Gq r x).2.2=0):Gq (Gq r x).1 x=Gq r x:=by
 have hn:=QH h.facts.inc;have hnw:=QH h.tK.inc;cases z:decide (x.Room=r.Id)with
 |false=>
  have :Gq r x=(r,0,13):=by unfold Gq;rw[z];rfl
  rw[this]at O;cases O
 |true=>
 have u:=PI z;cases q:bQ r.Events x.Id with
 |true=>
  have I:Gq r x=({ r with Events:=IZ r.Events x },dK r x.Id,0):=by unfold Gq;rw[z,q];rfl
  obtain⟨g1,g2⟩:=uM q;have hs:=M.sim _ g1 g2;have Y:bQ (IZ r.Events x) x.Id=true:=by rw[(a0B q hs).ajo];exact q
  rw[I];show Gq { r with Events:=IZ r.Events x } x=_;unfold Gq;simp only[z,Y,El,BQ,Bj,aOb hn q hs];rfl
 |false=>
 cases U:(!bQ r.Waiting x.Id&&Gm r.Events x)with
 |true=>
  rw[DR]at U;have j:bQ r.Waiting x.Id=false:=by simpa using U.1
  have I:Gq r x=bif (II r x).2 != 0 then(r,0,(II r x).2)else(Fz r.Waiting.length (II r x).1,dK (Fz r.Waiting.length (II r x).1) x.Id,0):=by
   unfold Gq;rw[z,q,j,U.2];rfl
  rcases XL r x with⟨q1,q2⟩|⟨q1,q2,q3⟩
  ·rw[show((II r x).2 != 0)=true by simpa using q2,Bj]at I;rw[I]at O;exact absurd O q2
  rw[q1]at I;have I:Gq r x=(Fz r.Waiting.length (Ob r x),dK (Fz r.Waiting.length (Ob r x)) x.Id,0):=I
  have hm:=h.more AQ M.ver M.small u q (λy hy hyx=>by
   have :=Hw.2 (FT.2 ⟨y,hy,hyx⟩)
   rw[j]at this;cases this) U.2 q2 q3
  have hg:=aKZ r.Waiting.length hm (EW _) (show(Dw r.Events x).length+r.Waiting.length<=50 by rw[Oa];omega);have hok:=wS r.Waiting.length hm (EW _) (show(Dw r.Events x).length+r.Waiting.length<=50 by rw[Oa];omega);have ha:=h.aCX AQ M.ver M.small u q;have J:=hg.ev x.Id ha.ahD;rw[I];generalize hS:Fz r.Waiting.length (Ob r x)=s at hg J hok;have Y:bQ s.Events x.Id=true:=by rw[aW6 J];exact ha.ahD
  have L:ev s.Events x.Id=x:=by rw[ahg J];exact ha.aEP
  show Gq s x=_;have Z:decide (x.Room=s.Id)=true:=by rw[show s.Id=r.Id from hg.id];exact z
  unfold Gq;rw[Z,Y,aLn L];rfl
 |false=>
 cases c5:(!bQ r.Waiting x.Id&&(200<=r.Waiting.length))with
 |true=>
  have :Gq r x=(r,0,29):=by unfold Gq;rw[z,q,U,c5];rfl
  rw[this]at O;cases O
 |false=>
 have I:Gq r x=({ r with Waiting:=bif bQ r.Waiting x.Id then IZ r.Waiting x else Dw r.Waiting x },1,0):=by unfold Gq;rw[z,q,U,c5];rfl
 rw[I];show Gq { r with Waiting:=bif bQ r.Waiting x.Id then IZ r.Waiting x else Dw r.Waiting x } x=_;cases j:bQ r.Waiting x.Id with
 |true=>
  obtain⟨g1,g2⟩:=uM j;have hs:=M.aGQ _ g1 g2;have Y:bQ (IZ r.Waiting x) x.Id=true:=by rw[(a0B j hs).ajo];exact j
  unfold Gq;simp only[z,q,Y,El,dG,BQ,Bj,aOb hnw j hs]
 |false=>
  have hnot:x.Id∉r.Waiting.map (·.Id):=λhm=>by have :=Hw.2 hm;rw[j]at this;cases this
  have L:ev (Dw r.Waiting x) x.Id=x:=YP (QH (aJs h.tK.inc hnot)) (Nz.2 (.inl rfl));unfold Gq;simp only[z,q,aaq,El,dG,BQ,Bj,aLn L]
end
section
set_option maxHeartbeats 1000000
def Gl.trans {x y z:Aa}(h:Gl x y)(k:Gl y z):Gl x z:=
 ⟨k.id.trans h.id,k.room.trans h.room,k.sender.trans h.sender,k.kind.trans h.kind,k.key.trans h.key,k.time.trans h.time,k.depth.trans h.depth,k.prev.trans h.prev,k.auth.trans h.auth,
  λj=>(k.n (by rw[h.kind];exact j)).trans (h.n j),λj=>(k.levels (by rw[h.kind];exact j)).trans (h.levels j)⟩
end
section
set_option maxHeartbeats 1000000
def QT (l:A8 FZ)(id:Int):Ad:=l.any λx=>x.Id==id
def XG (r:C9)(x:FZ):Ad:=((!Hd (DT r.Events) x.Id)==(x.Status==2))&&((x.Status==2||x.Status==3)||x.Status==4)
def MN (r:C9)(id:Int):Option FZ:=r.Rows.find? λx=>x.Id==id
def RV (r:C9)(i:Nat)(id:Int):Ad:=match MN r id with
 |none=>false
 |some x=>x.Pos<(i:Int)
def cZ (r:C9)(i:Nat)(x:FZ):Ad:=bQ r.Events x.Id&&(!QT (r.Rows.take i) x.Id&&(x.Pos==(i:Int)&&(((ev r.Events x.Id).bG.all (QT (r.Rows.take i))&&(ev r.Events x.Id).bI.all (QT (r.Rows.take i)))&&XG r x)))
def Vg (r:C9)(i:Nat)(x:FZ):Ad:=bQ r.Events x.Id&&(x.Pos==(i:Int)&&(((MN r x.Id).map (·.Pos)).getD 0==(i:Int)&&(((ev r.Events x.Id).bG.all (RV r i)&&(ev r.Events x.Id).bI.all (RV r i))&&XG r x)))
def aap {l:A8 FZ}{id:Int}:QT l id=true↔∃j,∃h:j<l.length,l[j].Id=id:=by
 unfold QT;rw[Ip];constructor
 ·rintro⟨x,q,h⟩;obtain⟨j,u,rfl⟩:=G8 q
  grind
 grind
def Zg {l:A8 FZ}{id:Int}:QT (l.take i) id=true↔∃j,∃h:j<l.length,j<i/\l[j].Id=id:=by
 rw[aap];constructor
 ·grind
 rintro⟨j,u,q,h⟩;exact⟨j,kn,by rw[nT];exact h⟩
def aIX {id:Int}{x:FZ}(h:MN r id=some x):∃m,∃hm:m<r.Rows.length,r.Rows[m]=x/\x.Id=id:=by
 have h1:=XV h;obtain⟨m,hm,e⟩:=G8 h1;exact⟨m,hm,e,by simpa using a8n h⟩
def aE4 {id:Int}(h:MN r id=none):∀j (q:j<r.Rows.length),r.Rows[j].Id≠id:=λj q e=>by
 have :=a5y.1 h _ (EZ q)
 grind
structure iT (r:C9):Prop where
 pos:∀i (h:i<r.Rows.length),r.Rows[i].Pos=(i:Int)
 inj:∀i j (hi:i<r.Rows.length) (hj:j<r.Rows.length),r.Rows[i].Id=r.Rows[j].Id->i=j
def iT.find (h:iT r)(hi:i<r.Rows.length):MN r r.Rows[i].Id=some r.Rows[i]:=by
 cases j:MN r r.Rows[i].Id with
 |none=>exact absurd rfl (aE4 j i hi)
 |some x=>
  obtain⟨m,hm,rfl,e⟩:=aIX j;have :=h.inj m i hm hi e;subst this;rfl
def iT.beh (h:iT r)(i:Nat)(id:Int):RV r i id=QT (r.Rows.take i) id:=by
 rw[Oz,Zg];unfold RV;cases u:MN r id with
 |none=>exact⟨λz=>absurd z Bool.false_ne_true,λ⟨j,q,_,e⟩=>absurd e (aE4 u j q)⟩
 |some x=>
  obtain⟨m,hm,rfl,e⟩:=aIX u;show decide (r.Rows[m].Pos<(i:Int))=true↔_;rw[IQ,h.pos m hm];constructor
  ·intro I;exact⟨m,hm,AQ,e⟩
  rintro⟨j,q,J,L⟩;have :=h.inj m j hm q (e.trans L.symm);omega
def aSP (h:∀i (hi:i<r.Rows.length),cZ r i r.Rows[i]=true):iT r:=by
 have hp:∀i (hi:i<r.Rows.length),r.Rows[i].Pos=(i:Int)/\QT (r.Rows.take i) r.Rows[i].Id=false:=λi hi=>by
  have :=h i hi;unfold cZ at this;simp only[DR,MP,Ui]at this;exact⟨this.2.2.1,this.2.1⟩
 have q:∀i j (hi:i<r.Rows.length) (u:j<r.Rows.length),r.Rows[i].Id=r.Rows[j].Id->¬i<j:=λi j hi u e z=>by
  have :=Zg.2 ⟨i,hi,z,e⟩;rw[(hp j u).2]at this;cases this
 refine⟨λi hi=>(hp i hi).1,λi j hi u e=>?_⟩;have a:=q i j hi u e;have b:=q j i u hi e.symm;omega
def aiT (h:∀i (hi:i<r.Rows.length),Vg r i r.Rows[i]=true):iT r:=by
 have hp:∀i (hi:i<r.Rows.length),r.Rows[i].Pos=(i:Int)/\((MN r r.Rows[i].Id).map (·.Pos)).getD 0=(i:Int):=λi hi=>by
  have :=h i hi;unfold Vg at this
  grind
 have u:∀i (hi:i<r.Rows.length),MN r r.Rows[i].Id=some r.Rows[i]:=λi hi=>by
  have h1:=(hp i hi).2;cases q:MN r r.Rows[i].Id with
  |none=>
   exact absurd rfl (aE4 q i hi)
  |some x=>
   obtain⟨m,hm,rfl,_⟩:=aIX q;rw[q]at h1;have h2:r.Rows[m].Pos=(i:Int):=h1;rw[(hp m hm).1]at h2;have :m=i:=AQ
   subst this;rfl
 refine⟨λi hi=>(hp i hi).1,λi j hi z e=>?_⟩;have h1:=u i hi
 grind
def aOR (h:iT r)(hi:i<r.Rows.length):Vg r i r.Rows[i]=cZ r i r.Rows[i]:=by
 have h1:RV r i=QT (r.Rows.take i):=funext λid=>h.beh i id
 have h2:QT (r.Rows.take i) r.Rows[i].Id=false:=by
  cases q:QT (r.Rows.take i) r.Rows[i].Id with
  |false=>rfl
  |true=>
   obtain⟨j,u,z,e⟩:=Zg.1 q;have :=h.inj j i u hi e;omega
 unfold Vg cZ;rw[h1,h2,h.find hi,h.pos i hi];rw[JR,MO,h.pos i hi];simp
def a5N (r:C9):Ad:=(List.range r.Rows.length).all λi=>cZ r i (r.Rows.getD i KZ)
def gV (r:C9):Ad:=(List.range r.Rows.length).all λi=>Vg r i (r.Rows.getD i KZ)
def xu {l:A8 FZ}{p:Nat->FZ->Ad}:((List.range l.length).all λi=>p i (l.getD i KZ))=true↔∀i (hi:i<l.length),p i l[i]=true:=by
 rw[En];constructor
 ·intro h i hi;have :=h i (bZ.2 hi)
  grind
 grind
def ac1 (r:C9):gV r=a5N r:=by
 rw[Oz];unfold gV a5N;rw[xu,xu];exact⟨λh i hi=>by rw[←aOR (aiT h) hi];exact h i hi,λh i hi=>by rw[aOR (aSP h) hi];exact h i hi⟩
def aQ7 {x:FZ}:XG r x=true↔(x.Status=2↔Hd (DT r.Events) x.Id=false)/\(x.Status=2\/x.Status=3\/x.Status=4):=by
 unfold XG;rw[DR,VK,VK,MP,MP,MP,MP,or_assoc];refine and_congr ?_ Iff.rfl
 grind
def nJ (r:C9):Ad:=(((r.Rows.length==r.Events.length)&&(r.Next==(r.Rows.length:Int)))&&(Ia r.Events<=1))&&a5N r
def anH:nJ r=true↔r.Rows.length=r.Events.length/\r.Next=(r.Rows.length:Int)/\Ia r.Events<=1/\(∀i (h:i<r.Rows.length),r.Rows[i].Pos=(i:Int))/\(r.Rows.map (·.Id)).Nodup/\(∀x∈r.Rows,bQ r.Events x.Id=true)/\
 (∀i (h:i<r.Rows.length),∀z,z∈(ev r.Events r.Rows[i].Id).bG\/z∈(ev r.Events r.Rows[i].Id).bI->∃j,∃I:j<r.Rows.length,j<i/\r.Rows[j].Id=z)/\∀x∈r.Rows,(x.Status=2↔Hd (DT r.Events) x.Id=false)/\(x.Status=2\/x.Status=3\/x.Status=4):=by
 unfold nJ a5N;rw[DR,DR,DR,MP,MP,IQ,xu];constructor
 ·rintro⟨⟨⟨h1,h2⟩,h3⟩,J⟩;have O:=aSP J
  have hp:∀i (hi:i<r.Rows.length),bQ r.Events r.Rows[i].Id=true/\((∀z∈(ev r.Events r.Rows[i].Id).bG,QT (r.Rows.take i) z=true)/\∀z∈(ev r.Events r.Rows[i].Id).bI,QT (r.Rows.take i) z=true)/\XG r r.Rows[i]=true:=λi hi=>by
   have :=J i hi;unfold cZ at this
   grind
  refine⟨h1,h2,h3,O.pos,?_,λx L=>?_,λi hi z q=>?_,λx L=>?_⟩
  ·rw[jF,cu,JQ];intro i j hi I Z e;have :=O.inj i j hi I e;omega
  ·obtain⟨i,hi,rfl⟩:=G8 L;exact(hp i hi).1
  ·rcases q with q|q
   ·exact Zg.1 ((hp i hi).2.1.1 z q)
   exact Zg.1 ((hp i hi).2.1.2 z q)
  obtain⟨i,hi,rfl⟩:=G8 L;exact aQ7.1 (hp i hi).2.2
 rintro⟨h1,h2,h3,J,U,h6,Y,h8⟩;refine⟨⟨⟨h1,h2⟩,h3⟩,λi hi=>?_⟩
 have u:QT (r.Rows.take i) r.Rows[i].Id=false:=by
  cases hq:QT (r.Rows.take i) r.Rows[i].Id with
  |false=>
   rfl
  |true=>
   obtain⟨j,I,M,e⟩:=Zg.1 hq;rw[jF,cu,JQ]at U;exact absurd e (U j i I hi M)
 unfold cZ;rw[h6 _ (EZ hi),u,J i hi,aQ7.2 (h8 _ (EZ hi))];simp only[Fv,JV,NR,MJ,DR,En];exact⟨λz q=>Zg.2 (Y i hi z (.inl q)),λz q=>Zg.2 (Y i hi z (.inr q))⟩
def am1 (h1:Rx r.Id=0)(h2:Ko r.Events=some 0)(h3:N9 r.Events)(I:∀x∈r.Events,x.Room=r.Id)(J:Hz r.Events=0)(L:Ko r.Waiting=some 0)(M:N9 r.Waiting)(O:∀x∈r.Waiting,x.Room=r.Id)(U:∀x∈r.Waiting,bQ r.Events x.Id=false)(j:r.Waiting.length<=200)(q:r.yK=Js r.Events (Gv r.Events (DT r.Events)))(u:r.State=O8 r.Events (DT r.Events))(z:nJ r=true):Hu r:=by
 obtain⟨Y,Z,a3,a4,a5,a6,a7,a8⟩:=anH.1 z;exact⟨h1,h2,h3,I,J,Y,Z,a3,a4,a5,a6,a7,a8,L,M,O,U,j,q,u⟩
end
section
set_option maxRecDepth 20000
set_option maxHeartbeats 1000000
def aDF (k:Int)(v:Ad)(x:Int):∀m:A8 (Int×Ad),x∈(ER m k v).map (·.1)↔x=k\/x∈m.map (·.1)
 | []=>by unfold ER;simp
 |p::m=>by
  unfold ER;cases j:k==p.1 with
  |true=>
   rw[Bj,Gh,Gh,FM,FM,eq_of_beq j];exact⟨λh=>h.elim .inl λh=>.inr (.inr h),λh=>h.elim .inl λh=>h.elim .inl .inr⟩
  |false=>
   rw[BQ,Gh,Gh,FM,FM,aDF k v x m];exact⟨λh=>h.elim (λh=>.inr (.inl h)) λh=>h.elim .inl λh=>.inr (.inr h),λh=>h.elim (λh=>.inr (.inl h)) λh=>h.elim .inl λh=>.inr (.inr h)⟩
def aNL (k:Int)(v:Ad):∀m:A8 (Int×Ad),(m.map (·.1)).Nodup->((ER m k v).map (·.1)).Nodup
 | [],_=>by unfold ER;simp
 |p::m,h=>by
  rw[Gh,KQ]at h;unfold ER;cases j:k==p.1 with
  |true=>
   rw[Bj,Gh,KQ,eq_of_beq j];exact h
  |false=>
   rw[BQ,Gh,KQ];refine⟨λhm=>?_,aNL k v m h.2⟩;rcases(aDF k v p.1 m).1 hm with e|e
   ·rw[e,NR]at j;cases j
   exact h.1 e
def aDK (k x:Int):∀m:A8 (Int×Ad),(m.map (·.1)).Nodup->(x∈(Ln m k).map (·.1)↔x∈m.map (·.1)/\x≠k)
 | [],_=>by unfold Ln;simp
 |p::m,h=>by
  rw[Gh,KQ]at h;unfold Ln;cases u:k==p.1 with
  |true=>
   rw[Bj,Gh,FM,←eq_of_beq u];rw[←eq_of_beq u]at h;exact⟨λj=>⟨.inr j,λe=>h.1 (e▸j)⟩,λ⟨j,q⟩=>j.elim (λe=>absurd e q) id⟩
  |false=>
   rw[BQ,Gh,Gh,FM,FM,aDK k x m h.2];refine⟨λj=>j.elim (λe=>⟨.inl e,λz=>?_⟩) λ⟨a,b⟩=>⟨.inr a,b⟩,λ⟨j,q⟩=>j.elim .inl λa=>.inr ⟨a,q⟩⟩;rw[←z,e,NR]at u;cases u
def aQn (k:Int):∀m:A8 (Int×Ad),(m.map (·.1)).Nodup->((Ln m k).map (·.1)).Nodup
 | [],_=>by unfold Ln;simp
 |p::m,h=>by
  have j:=h;rw[Gh,KQ]at h;unfold Ln;cases q:k==p.1 with
  |true=>
   grind
  |false=>
   rw[BQ,Gh,KQ];exact⟨λhm=>h.1 ((aDK k p.1 m h.2).1 hm).1,aQn k m h.2⟩
def aVC :∀(g:A8 Int) (m:A8 (Int×Ad)),(m.map (·.1)).Nodup->((g.foldl (λa x=>ER a x true) m).map (·.1)).Nodup/\∀x,x∈(g.foldl (λa x=>ER a x true) m).map (·.1)↔x∈m.map (·.1)\/x∈g
 | [],m,h=>⟨h,λx=>Bf⟩
 |y::g,m,h=>by
  rw[Fl];obtain⟨j,q⟩:=aVC g (ER m y true) (aNL y true m h);refine⟨j,λx=>?_⟩;rw[q,aDF,FM]
  grind
def aX4 :∀(l:A8 Aa) (m:A8 (Int×Ad)),(m.map (·.1)).Nodup->((l.foldl (λa e=>Ln a e.Id) m).map (·.1)).Nodup/\∀x,x∈(l.foldl (λa e=>Ln a e.Id) m).map (·.1)↔x∈m.map (·.1)/\x∉l.map (·.Id)
 | [],m,h=>⟨h,λx=>Bf⟩
 |e::l,m,h=>by
  rw[Fl];obtain⟨j,q⟩:=aX4 l (Ln m e.Id) (aQn e.Id m h);refine⟨j,λx=>?_⟩;rw[q,aDK _ _ _ h,Gh,FM]
  grind
def aQw :∀(m:A8 (Int×Ad)) (r:A8 Int),r.length+m.length<=1000000->List.foldlM ji r m=some (r++m.map (·.1))
 | [],r,_=>Bf
 |p::m,r,h=>by
  rw[GH]at h
  have e:ji r p=some (r++[p.1]):=by
   unfold ji;rw[Dz G9];rfl
  rw[VJ,e];show List.foldlM ji (r++[p.1]) m=_;rw[aQw m (r++[p.1]) aE3,JO];rfl
def aj8 {m:A8 (Int×Ad)}(hm:m.length<=1000000):Yi m=some (Nq (m.map (·.1))):=by
 unfold Yi
 have h1:Jg 8 (0:Int) 0 (m.length:Int)=some []:=by
  unfold Jg
  grind
 rw[h1,Aj,aQw m [] SC,JJ,Aj];unfold yG Pm
 grind
def aYd {l:A8 Int}(h:l.Nodup):Inc (Nq l):=by
 have z:(Nq l).Nodup:=(VT l).nodup_iff.2 h;have hp:(Nq l).Pairwise (λa b=>a<=b):=sJ l;unfold Inc;rw[JQ]at hp ⊢;intro i j hi u q;have h1:=hp i j hi u q;have h2:(Nq l)[i]≠(Nq l)[j]:=JQ.1 (jF.1 z) i j hi u q;omega
def aPR (l:A8 Aa)(g:A8 Int)(hl:l.length<=1000)(I:g.length<=1000):dh l g=some (Qu l g):=by
 obtain⟨J,q⟩:=aVC g [] Yq;obtain⟨u,z⟩:=aX4 l _ J
 have hlen:((l.foldl (λa e=>Ln a e.Id) (g.foldl (λa x=>ER a x true) [])).map (·.1)).length<=g.length:=rE u λx L=>by
  rcases(q x).1 ((z x).1 L).1 with h|h
  ·exact absurd h Gn
  exact h
 rw[Df]at hlen;have hs:=aj8 (m:=l.foldl (λa e=>Ln a e.Id) (g.foldl (λa x=>ER a x true) [])) (EI hlen (EI I AQ))
 have M:Nq ((l.foldl (λa e=>Ln a e.Id) (g.foldl (λa x=>ER a x true) [])).map (·.1))=Qu l g:=DK (aYd u) (aix _ _) λx=>by
  rw[(VT _).mem_iff,z,q,oK]
  have O:bQ l x=false↔x∉l.map (·.Id):=by
   rw[←Hw];cases bQ l x<;>simp
  rw[O];simp
 rw[M]at hs
 have U:∀m:A8 (Int×Ad),a2M l 0 m=(Yi (l.foldl (λa e=>Ln a e.Id) m)).bind λj=>some j:=λm=>by
  unfold a2M
  exact qW (body:=a2C l) l AQ (λa e=>Ln a e.Id) (λ_ _=>True) (λa=>(Yi a).bind λj=>some j) trivial (λk a i h _=>⟨trivial,by
   unfold a2C
   rw[DF h]⟩) λk a _=>by
   unfold a2C;rw[DZ,BQ]
 unfold dh aS1
 rw[qW (body:=a4m g l) g AQ (λa x=>ER a x true) (λ_ _=>True) (λa=>a2M l 0 a) trivial (λk a i h _=>⟨trivial,by
    unfold a4m
    rw[DF h]⟩) λk a _=>by
    unfold a4m
    rw[DZ,BQ],U,hs]
 rfl
def a88 {g:A8 Int}:(((Qu l g).length:Int)==0)=g.all (bQ l):=by
 rw[Oz,MP,En];constructor
 ·intro h x j;cases q:bQ l x with
  |true=>rfl
  |false=>
   have hm:=oK.2 ⟨j,q⟩;have :=List.length_pos_of_mem hm;omega
 intro h;cases u:Qu l g with
 |nil=>rfl
 |cons y t=>
  have z:y∈Qu l g:=by rw[u];exact Gz ..
  obtain⟨a,b⟩:=oK.1 z;rw[h y a]at b;cases b
def ready_eq (l:A8 Aa)(e:Aa)(hl:l.length<=1000)(j:Ey e):dD l e=some (Gm l e):=by
 have h1:=j.prev;have h2:=j.auth;unfold dD Gm;rw[aPR l _ hl AQ,aPR l _ hl AQ,Aj,a88,Aj,a88]
 grind
def ah9 (I:KR l):Uk l (DT l)=l.map λe=>bif Hd (DT l) e.Id then 4 else 2:=by
 have :∀m:A8 Aa,(∀e∈m,e∈l)->Uk m (DT l)=m.map λe=>bif Hd (DT l) e.Id then(4:Int)else 2:=by
  intro m
  induction m with
  |nil=>
   exact λ_=>rfl
  |cons e m j=>
   intro h;have j:=j λx u=>h x (IE _ u);unfold Uk at j ⊢;obtain⟨y,q⟩:=vF (Hw.2 (FT.2 ⟨e,h e (Gz ..),rfl⟩));have z:Hd (DT l) e.Id=(y.err==0):=by unfold Hd;rw[q]
   rw[Uj,q,JR,Gh,j,z];show(bif !(y.err==0)then(2:Int)else 4)::_=_;cases y.err==0<;>rfl
 grind
def aNg (L:NZ l=some 0)(z:KR l)(hd:Hz l=0):jK l=some (Ia l:Int):=by
 have hl:=z.len;have hs:=ak3 L λ_=>z;rw[Xx hd,ah9 z]at hs;unfold jK;rw[hs,Aj];unfold aOI;refine dL.eq (Jj l.length (fuel_lt AQ) (λi a=>a=(((l.take i).filter (NT l)).length:Int)) rfl (λi a k hi ha I=>?_) λa k ha=>?_)
 ·have M:((l.take i).filter (NT l)).length<=i:=EI (Lc ..) kn;have u:i<(l.map λe=>bif Hd (DT l) e.Id then(4:Int)else 2).length:=aB8
  have J:=CU u;rw[Ph]at J;have q:=wB (p:=NT l) hi;unfold aFA a6E;rw[DF hi,dec_lt u,J];have j:NT l l[i]=(l[i].Kind==1&&Hd (DT l) l[i].Id):=rfl;cases h1:l[i].Kind==1 with
  |false=>
   rw[h1,dG]at j;rw[j]at q;simp only[BQ,Aj];rw[wrap_succ i AQ];exact I _ (by rw[ha,q];simp)
  |true=>
   rw[h1,Fv]at j;simp only[Bj,Aj];cases h2:Hd (DT l) l[i].Id with
   |false=>
    rw[h2]at j;rw[j]at q;rw[show((bif false then(4:Int)else 2)==4)=false from rfl,BQ,wrap_succ i AQ];exact I _ (by rw[ha,q];simp)
   |true=>
    rw[h2]at j;rw[j]at q;rw[show((bif true then(4:Int)else 2)==4)=true from rfl,Bj,wrap_succ i AQ,ha,wrap_succ _ AQ];exact I _ (by rw[q];simp)
 unfold aFA;rw[DZ,BQ,ha,H9];exact .ret rfl
def akc (q:NZ l=some 0)(j:KR l)(hd:Hz l=0):rO l=some (Js l (Gv l (DT l))):=by
 have hl:=j.len;have ha:=aZG q λ_=>j;rw[Xx hd]at ha;have u:=gW l (DT l);unfold rO;rw[ha,Aj,aX1 l _ hl j.small AQ];rfl
end
variable {b:AB Aa}
section
set_option maxRecDepth 20000
set_option maxHeartbeats 1000000
def ady {l:A8 FZ}(h:l.length<=1000000):wL l=some l:=by
 unfold wL;rw[Dz SC];rfl
def aPE (hl:l.length<=1000)(j:∀x∈l,x.Room=e.Room)(q:bQ l e.Id=false):Vy l e=some (Dw l e,0):=by
 have u:l.any (mG e)=false:=by
  rw[jy];intro x z;unfold mG;rw[j x z];simp
 rw[aX5 hl,u,BQ,q,BQ]
def aUS (hl:l.length<=1000)(z:∀x∈l,x.Room=e.Room)(q:bQ l e.Id=true)(hs:∀x∈l,Ey x)(I:Ey e):Vy l e=some (IZ l e,0):=by
 have J:l.any (mG e)=false:=by
  rw[jy];intro x L;unfold mG;rw[z x L];simp
 obtain⟨j,u⟩:=aII q;rw[aX5 hl,J,BQ,q,Bj,(oJ I.x).1,Aj,CU j,u,Aj,(oJ (hs _ (uM q).1).x).1];unfold IZ jA
 grind
def an9 (hs:Ea l)(s:A8 BO):Ea (LW l s):=aIw hs _
def aVJ (h:Hu r)(hl:r.Events.length<=50)(hv:Kv e=some 0)(hs:Ey e)(hr:e.Room=r.Id)(Y:bQ r.Events e.Id=false):lX r e=some (II r e):=by
 have ha:=h.aCX hl hv hs hr Y;have M:=ha.ok;have j:=ha.ok';have hl':=ha.len';have c0:NZ r.Events=some 0:=aKP M.small AQ h.set;have hrl:=h.WO;have Z:=h.next
 have hst:r.State.length<=50:=by
  have hp:=aUP (l:=r.Events) (c:=0) λ_=>M;rw[Xx h.deep]at hp;rw[h.state];exact EI hp.length hl
 unfold lX II;rw[Ic (show ¬(r.Events.length:Int)>=2000 by omega),BQ,aPE AQ ha.room Y,Aj];show(bif (0:Int) != 0 then _ else(jU (Dw r.Events e)).bind _)=_;rw[Ry,BQ,aRK _ AQ j.small j.dep,Aj];cases hd:Hz (Dw r.Events e) != 0 with
 |true=>
  rfl
 |false=>
  have q:Hz (Dw r.Events e)=0:=by simpa using hd
  rw[BQ,BQ,aNg c0 M h.deep,Aj];show((bif (Ia r.Events:Int)>0 then(jK (Dw r.Events e)).bind _ else _).bind _)=_;rw[aNg ha.prog' j q,Aj]
  have hx:(bif (Ia r.Events:Int)>0 then some (decide ((Ia (Dw r.Events e):Int)>(Ia r.Events:Int)))else some false)=some (decide (0<Ia r.Events)&&NT (Dw r.Events e) e):=by
   rw[ha.made q];by_cases hp:0<Ia r.Events
   ·rw[KC (show(Ia r.Events:Int)>0 by omega),Bj,KC hp,Fv];cases NT (Dw r.Events e) e with
    |true=>
     grind
    |false=>
     grind
   grind
  rw[hx,Aj];cases hc:(decide (0<Ia r.Events)&&NT (Dw r.Events e) e)with
  |true=>
   rfl
  |false=>
   have J:=aYf ha.prog' (λ_=>j) e.Id;rw[Xx q]at J;have z:=aj2 ha.prog' λ_=>j;rw[Xx q]at z;rw[BQ,BQ];show(qo (Dw r.Events e) e.Id).bind _=_;rw[J,Aj];obtain⟨y,hy⟩:=vF ha.ahD;have I:Hd (DT (Dw r.Events e)) e.Id=(y.err==0):=by unfold Hd;rw[hy]
   have h2:(a5n (DT (Dw r.Events e)) e.Id).2=bif y.err != 0 then 2 else 4:=by unfold a5n;rw[hy]
   have U:∀v,Wy r (Dw r.Events e,0) v=some ({ Ob r e with Rows:=r.Rows++[v] },0):=λv=>by
    unfold Wy;rw[ady AQ,Aj,Dz G9,Aj];show(rO (Dw r.Events e)).bind _=_;rw[akc ha.prog' j q,Aj];show(rM (Dw r.Events e)).bind _=_;rw[z,Aj]
    have hw:BA (({ r with Rows:=r.Rows++[v] }:C9).Next+1)=r.Next+1:=by
     show BA (r.Next+1)=r.Next+1;exact Oh AQ AQ
    rw[hw];rfl
   have hm:∀n,Sl r e=n->some ({ Ob r e with Rows:=r.Rows++[(⟨r.Next,e.Id,n,false⟩:FZ)] },(0:Int))=some (Ob r e,0):=λn Z=>by
    subst Z;rfl
   rw[h2];cases L:y.err==0 with
   |false=>
    have u:Sl r e=2:=by unfold Sl;rw[I,L];rfl
    rw[show(y.err != 0)=true by simpa[bne]using L];show Wy r (Dw r.Events e,0) _=_;rw[U];exact hm 2 u
   |true=>
    rw[show(y.err != 0)=false by simpa[bne]using L];show(rF r.Events r.State).bind _=_;rw[aRo _ _ AQ AQ,Aj,a5V e _ (EI (a1B _ _) AQ) (an9 M.small _) hs,Aj];cases O:Lp e (LW r.Events r.State)==0 with
    |true=>
     have u:Sl r e=4:=by unfold Sl;rw[I,L,O];rfl
     rw[show(Lp e (LW r.Events r.State) != 0)=false by simpa[bne]using O];show Wy r (Dw r.Events e,0) _=_;rw[U];exact hm 4 u
    |false=>
     have u:Sl r e=3:=by unfold Sl;rw[I,L,O];rfl
     rw[show(Lp e (LW r.Events r.State) != 0)=true by simpa[bne]using O];show Wy r (Dw r.Events e,0) _=_;rw[U];exact hm 3 u
def abq (j:A8 (A8 Aa))(hl:j.length<=1000)(h:∀x∈j,x.length<=1000):xC j=some j.flatten:=by
 have u:∀m:A8 (A8 Aa),(∀x∈m,x.length<=1000)->m.flatten.length<=m.length*1000:=by
  intro m
  induction m with
  |nil=>
   grind
  |cons x m z=>
   intro hm;have h1:=hm x (Gz ..);have h2:=z λy I=>hm y (IE _ I);rw[List.flatten_cons,Ee,GH];omega
 have q:∀{i:Nat} (hi:i<j.length),(j.take (i+1)).flatten=(j.take i).flatten++j[i]:=λ{i} hi=>by
  rw[OM hi,List.flatten_append];simp
 have hlen:∀i,(j.take i).flatten.length<=1000000:=λi=>by
  have h1:=u (j.take i) λx J=>h x (gJ J)
  grind
 unfold xC aQp;refine dL.eq (Jj j.length (fuel_lt AQ) (λi a=>a=((j.take i).flatten.length:Int)) rfl (λi a k hi ha L=>?_) λa k ha=>?_)
 ·have h1:=hlen (i+1);have h2:=BJ List.length (q hi);rw[Ee]at h2;unfold a7W;rw[DF hi,ha,Oh AQ AQ,Ic AQ,BQ,wrap_succ i AQ]
  grind
 have h1:=hlen j.length
 have M:aAb a=some []:=by
  unfold aAb fC
  grind
 unfold a7W;rw[DZ,BQ,M,Aj];unfold aRm;refine Jj j.length (fuel_lt AQ) (λi a=>a=(j.take i).flatten) rfl (λi a k hi ha L=>?_) λa k ha=>?_
 ·have h1:=hlen (i+1);have h2:=BJ List.length (q hi);rw[Ee]at h2;unfold a1w;rw[DF hi,ha,Dz AQ,Aj,wrap_succ i AQ]
  grind
 unfold a1w;rw[DZ,BQ,ha,H9];exact .ret rfl
def aTS :∀(l:A8 Aa) (j:Nat) (z:j<l.length),(l.map (·.Id)).Nodup->l.take j++l.drop (j+1)=H6 l l[j].Id
 | [],j,z,_=>absurd z (dY _)
 |x::l,0,_,q=>by
  rw[Gh,KQ]at q;unfold H6
  have h1:l.filter (λy=>y.Id != x.Id)=l:=jv.2 λy L=>by
   have :y.Id≠x.Id:=λe=>q.1 (FT.2 ⟨y,L,e⟩);simpa using this
  show l=(x::l).filter λy=>y.Id != x.Id;rw[List.filter_cons_of_neg Bf,h1]
 |x::l,j+1,z,q=>by
  rw[Gh,KQ]at q;have u:j<l.length:=UW
  have J:=aTS l j u q.2;have I:x.Id≠l[j].Id:=λe=>q.1 (FT.2 ⟨l[j],EZ u,e.symm⟩);unfold H6 at J ⊢;show x::(l.take j++l.drop (j+1))=(x::l).filter λy=>y.Id != l[j].Id;rw[List.filter_cons_of_pos oL,J]
def aXE (h:i<w.length):(w.take (i+1)).foldl (Jf l) none=Jf l ((w.take i).foldl (Jf l) none) w[i]:=by
 rw[OM h,VD];rfl
def anN (h1:Gm l e=true)(h2:jm b e=true):Jf l b e=some e:=by unfold Jf;rw[h1,h2];rfl
def afo (h2:jm b e=false):Jf l b e=b:=by unfold Jf;rw[h2,Bool.and_false];rfl
def acs (h1:Gm l e=false):Jf l b e=b:=by unfold Jf;rw[h1,dG];rfl
def an1 (q:r.Waiting.length<=0)(k3:C9->C9->AB C9)(v2:C9):rH r k3 v2 (-1) 0=some r:=by
 have j:r.Waiting=[]:=He AQ;unfold rH;refine dL.eq (Jj 0 (fuel_lt AQ) (λ_ a=>a= -1) rfl (λi a k hi=>absurd hi (dY _)) λa k ha=>?_);unfold a7z;rw[j,ha,Ic (show ¬((0:Nat):Int)<(([]:A8 Aa).length:Int) by simp),BQ,KC (show(-1:Int)<0 by omega),Bj];exact .ret rfl
def aaL {n:Nat}{k3:C9->C9->AB C9}{v2:C9}(ih:∀{r:C9},Hu r->r.Waiting.length<=n->r.Events.length+n<=50->k3 r v2=some (Fz n r))(h:Hu r)(hw:r.Waiting.length<=n+1)(hl:r.Events.length+(n+1)<=50):rH r k3 v2 (-1) 0=some (Fz (n+1) r):=by
 have hsm:∀e∈r.Waiting,Ey e:=λe he=>(h.tK.ev e he).2;unfold rH;refine dL.eq (Jj r.Waiting.length (fuel_lt AQ) (λi a=>((r.Waiting.take i).foldl (Jf r.Events) none=none/\a= -1)\/∃j,∃J:j<r.Waiting.length,a=(j:Int)/\(r.Waiting.take i).foldl (Jf r.Events) none=some r.Waiting[j]) (.inl ⟨rfl,rfl⟩) (λi a k hi ha hk=>?_) λa k ha=>?_)
 ·have hb:=aXE (l:=r.Events) hi;unfold a7z;rw[DF hi,ready_eq _ _ AQ (hsm _ (EZ hi)),Aj];cases L:Gm r.Events r.Waiting[i]with
  |false=>
   have hp:(r.Waiting.take (i+1)).foldl (Jf r.Events) none=(r.Waiting.take i).foldl (Jf r.Events) none:=by
    rw[hb,acs L]
   rw[JV,Bj];unfold yc;rw[wrap_succ i AQ];exact hk a (by rw[hp];exact ha)
  |true=>
   have u:jm ((r.Waiting.take i).foldl (Jf r.Events) none) r.Waiting[i]=true->dL (jZ k (i:Int) a true) λx=>x=Fz (n+1) r:=λq=>by
    show dL (k (i:Int) (BA ((i:Int)+1))) _;rw[wrap_succ i AQ];exact hk _ (.inr ⟨i,hi,rfl,by rw[hb,anN L q]⟩)
   have z:jm ((r.Waiting.take i).foldl (Jf r.Events) none) r.Waiting[i]=false->dL (jZ k (i:Int) a false) λx=>x=Fz (n+1) r:=λq=>by
    show dL (k a (BA ((i:Int)+1))) _;rw[wrap_succ i AQ];exact hk _ (by rw[hb,afo q];exact ha)
   rw[El,BQ];rcases ha with⟨h1,h2⟩|⟨j,J,h2,h1⟩
   ·rw[h2,KC (show(-1:Int)<0 by decide),Bj,←h2];exact u uj
   have q:jm ((r.Waiting.take i).foldl (Jf r.Events) none) r.Waiting[i]=OD r.Waiting[i] r.Waiting[j]:=uj
   unfold OD at q;rw[h2,Ic (show ¬(j:Int)<0 by omega),BQ,CU J,Aj];cases c1:decide (r.Waiting[i].Depth<r.Waiting[j].Depth)with
   |true=>
    rw[c1,Bool.true_or]at q;rw[Bj,←h2];exact u q
   |false=>
    rw[c1,OW]at q;rw[BQ,Aj];cases c2:r.Waiting[i].Depth==r.Waiting[j].Depth with
    |false=>
     rw[c2,dG]at q;rw[BQ,←h2];exact z q
    |true=>
     rw[c2,Fv]at q;rw[Bj,Aj,←h2];cases c3:decide (r.Waiting[i].Id<r.Waiting[j].Id)with
     |true=>
      grind
     |false=>
      grind
 rw[H9]at ha;unfold a7z;rw[DZ,BQ];rcases ha with⟨h1,h2⟩|⟨j,J,h2,h1⟩
 ·have h1:WZ r.Events r.Waiting=none:=h1;rw[h2,KC (show(-1:Int)<0 by decide),Bj];refine .ret ?_;unfold Fz;rw[h1]
 have h1:WZ r.Events r.Waiting=some r.Waiting[j]:=h1;obtain⟨I,b2⟩:=a8D h1;have hd:=h.drop AQ r.Waiting[j].Id;have hdl:=a1r I;have M:=h.tK.ev _ I;have hv:=rQ h.agj AQ _ I;have O:=aVJ hd (show r.Events.length<=50 by omega) hv M.2 (h.U9 _ I) (h.WQ _ I)
 have hg1:Hy r.Waiting 0 (j:Int)=some (r.Waiting.take j):=by
  show Hy r.Waiting ((0:Nat):Int) (j:Int)=_;rw[YW (l:=r.Waiting) (lo:=0) (hi:=j) AQ AQ];simp
 have hg2:Hy r.Waiting (((j+1:Nat)):Int) (r.Waiting.length:Int)=some (r.Waiting.drop (j+1)):=by
  rw[YW (l:=r.Waiting) (lo:=j+1) (hi:=r.Waiting.length) AQ (EW _),Qx (by rw[LY];omega)]
 have U:=abq [r.Waiting.take j,r.Waiting.drop (j+1)] Bf (by
  intro x Y;rcases FM.1 Y with rfl|Y
  ·rw[H7];omega
  rw[Jd.1 Y,LY];omega)
 have hfl:[r.Waiting.take j,r.Waiting.drop (j+1)].flatten=H6 r.Waiting r.Waiting[j].Id:=by
  rw[←aTS r.Waiting j J (QH h.tK.inc)];simp
 rw[hfl]at U;rw[h2,Ic (show ¬(j:Int)<0 by omega),BQ,CU J,Aj,hg1,Aj,wrap_succ j AQ,hg2,Aj,U,Aj,O,Aj]
 have Z:Fz (n+1) r=Fz n (II { r with Waiting:=H6 r.Waiting r.Waiting[j].Id } r.Waiting[j]).1:=by
  show(match WZ r.Events r.Waiting with
   |none=>r
   |some e=>Fz n (II { r with Waiting:=H6 r.Waiting e.Id } e).1)=_
  rw[h1]
 rw[Z];refine .of ?_;rcases XL { r with Waiting:=H6 r.Waiting r.Waiting[j].Id } r.Waiting[j]with⟨q1,_⟩|⟨q1,q2,q3⟩
 ·grind
 rw[q1]
 have hm:=hd.more (e:=r.Waiting[j]) (show r.Events.length<=50 by omega) hv M.2 (h.U9 _ I) (h.WQ _ I) (λx Y=>by
  have :=(Gs.1 Y).2
  simpa using this) b2 q2 q3
 exact ih hm (show(H6 r.Waiting r.Waiting[j].Id).length<=n by omega) (show(Dw r.Events r.Waiting[j]).length+n<=50 by rw[Oa];omega)
def aQg :∀(n:Nat) (r:C9),(Fz n r).Events.length<=r.Events.length+n
 |0,r=>EW _
 |n+1,r=>by
  unfold Fz;cases WZ r.Events r.Waiting with
  |none=>
   grind
  |some e=>
   show(Fz n (II { r with Waiting:=H6 r.Waiting e.Id } e).1).Events.length<=_;have h1:=aQg n (II { r with Waiting:=H6 r.Waiting e.Id } e).1
   have h2:(II { r with Waiting:=H6 r.Waiting e.Id } e).1.Events.length<=r.Events.length+1:=by
    rcases XL { r with Waiting:=H6 r.Waiting e.Id } e with⟨q1,_⟩|⟨q1,_⟩
    ·grind
    rw[q1];show(Dw r.Events e).length<=_;rw[Oa];omega
   omega
def agX {A B R:Type}(body:(A->B->AB R)->A->B->AB R)(n:Nat)(a:A)(b:B):aP body (n+1) a b=body (aP body n) a b:=rfl
def amG (k3:C9->C9->AB C9)(r v2:C9):wF k3 r v2=rH r k3 v2 (-1) 0:=rfl
def aiX (v2:C9):∀(m n:Nat),n<m->∀(r:C9),Hu r->r.Waiting.length<=n->r.Events.length+n<=50->aP wF m r v2=some (Fz n r):=by
 intro m
 induction m with
 |zero=>
  grind
 |succ m q=>
  intro n hm r h j hl;rw[agX,amG];cases n with
  |zero=>
   exact an1 j (aP wF m) v2
  |succ n=>
   exact aaL (k3:=aP wF m) (v2:=v2) (λ{r} h1 h2 h3=>q n AQ r h1 h2 h3) h j hl
def akw (h:Hu r)(hl:r.Events.length+r.Waiting.length<=50):zo r=some (Fz r.Waiting.length r):=by
 unfold zo aWL;exact aiX OB Az r.Waiting.length (fuel_lt AQ) r h (EW _) hl
def aUq (r:C9)(id:Int):∀(n:Nat) (a:Int) (b:FZ),aP (Va r id) n a b=bn (λk i=>Va r id (λj _=>k j) i KZ) n a
 |0,_,_=>rfl
 |n+1,a,b=>by
  have q:aP (Va r id) n=λj _=>bn (λk i=>Va r id (λj _=>k j) i KZ) n j:=funext λa=>funext λb=>aUq r id n a b;show Va r id (aP (Va r id) n) a b=Va r id (λj _=>bn (λk i=>Va r id (λj _=>k j) i KZ) n j) a KZ;rw[q];rfl
def Vh (r:C9)(id:Int):FZ×Ad:=match MN r id with
 |some x=>(x,true)
 |none=>(KZ,false)
def aWC (r:C9)(id:Int)(hl:r.Rows.length<=1000000):ZL r id=some (Vh r id):=by
 unfold ZL aNI;rw[aUq,KU r.Rows (fuel_lt AQ) (λx=>x.Id==id) (λi=>match r.Rows[i]? with |some x=>some (x,true)|none=>none) (some (KZ,false))]
 ·unfold Vh MN;rw[Kw]
  grind
 ·intro k i h;unfold Va;rw[DF h,EO h]
 intro k;unfold Va;rw[DZ,BQ]
def aTK (r:C9)(id:Int):(Vh r id).1.Status=dK r id:=by
 unfold Vh dK MN;cases r.Rows.find? λx=>x.Id==id<;>rfl
def aV9 {z:Aa}{v:Int}(h:dJ e=some (z,v))(j:v≠0):VZ r e=some (r,0,v):=by
 unfold VZ
 grind
def aOX (h:Hu r)(hl:r.Events.length+r.Waiting.length<=48)(u:lV r x)(he:dJ e=some (x,0)):VZ r e=some (Gq r x):=by
 have ho:=h.facts.ok AQ;have hrl:=h.WO;have M:∀y∈r.Events,Ey y:=ho.small;have O:∀y∈r.Waiting,Ey y:=λy z=>(h.tK.ev y z).2;unfold VZ Gq;rw[he,Aj];show(bif (0:Int) != 0 then _ else(bif (!(x.Room.toList==r.Id.toList))then _ else(MV r.Events x.Id).bind _))=_;rw[Ry,BQ,show(x.Room.toList==r.Id.toList)=decide (x.Room=r.Id)from Ja];cases j:decide (x.Room=r.Id)with
 |false=>rfl
 |true=>
 have j:=PI j;have U:∀y∈r.Events,y.Room=x.Room:=λy z=>by rw[h.own y z,j]
 have J:∀y∈r.Waiting,y.Room=x.Room:=λy z=>by rw[h.U9 y z,j]
 rw[El,BQ,BQ,Ox r.Events _ AQ,Aj,Nw];show(bif bQ r.Events x.Id then _ else _)=_;cases Y:bQ r.Events x.Id with
 |true=>
  rw[Bj,Bj];show(ZL r x.Id).bind _=_;rw[aWC r _ AQ,Aj];show(Vy r.Events x).bind _=_;rw[aUS AQ U Y M u.small,Aj];show some ({ r with Events:=IZ r.Events x },(Vh r x.Id).1.Status,(0:Int))=_;rw[aTK]
 |false=>
 rw[BQ,BQ];show(MV r.Waiting x.Id).bind _=_;rw[Ox r.Waiting _ AQ,Aj,Nw];rw[show(Eb r.Waiting x.Id).isSome=bQ r.Waiting x.Id from rfl];show((bif (!bQ r.Waiting x.Id)then(dD r.Events x).bind λI=>some I else some false).bind _)=_;rw[ready_eq _ _ AQ u.small];have hx:(bif (!bQ r.Waiting x.Id)then(some (Gm r.Events x)).bind λI=>some I else some false)=some (!bQ r.Waiting x.Id&&Gm r.Events x):=by cases bQ r.Waiting x.Id<;>rfl
 rw[hx,Aj];cases Z:(!bQ r.Waiting x.Id&&Gm r.Events x)with
 |true=>
  rw[DR]at Z;have q:bQ r.Waiting x.Id=false:=by simpa using Z.1
  rw[Bj,Bj];show(lX r x).bind _=_;rw[aVJ h AQ u.ver u.small j Y,Aj];rcases XL r x with⟨q1,q2⟩|⟨q1,q2,q3⟩
  ·rw[show((II r x).2 != 0)=true by simpa using q2];rfl
  have hm:=h.more AQ u.ver u.small j Y (λy z hyx=>by
   have :=Hw.2 (FT.2 ⟨y,z,hyx⟩)
   rw[q]at this;cases this) Z.2 q2 q3
  have L:(Dw r.Events x).length+r.Waiting.length<=50:=by rw[Oa];omega
  have hs:=akw hm L;have hg:=wS r.Waiting.length hm (EW _) L
  have hgl:(Fz r.Waiting.length (Ob r x)).Rows.length<=1000000:=by
   have h1:=hg.1.WO;have h2:=aQg r.Waiting.length (Ob r x);have h3:(Ob r x).Events.length=r.Events.length+1:=Oa _ _;omega
  rw[q1];show(bif (0:Int) != 0 then _ else(zo (Ob r x)).bind _)=_;rw[Ry,BQ,hs,Aj];show(ZL (Fz r.Waiting.length (Ob r x)) x.Id).bind _=_;rw[aWC _ _ hgl,Aj,aTK];rfl
 |false=>
 rw[BQ,BQ]
 have hx2:(bif (!bQ r.Waiting x.Id)then some (decide ((r.Waiting.length:Int)>=200))else some false)=some (!bQ r.Waiting x.Id&&(200<=r.Waiting.length)):=by
  have :decide ((r.Waiting.length:Int)>=200)=decide (200<=r.Waiting.length):=by
   by_cases h:200<=r.Waiting.length
   ·rw[KC h,KC AQ]
   rw[Ic h,Ic AQ]
  rw[this];cases bQ r.Waiting x.Id<;>rfl
 rw[hx2,Aj];cases hfull:(!bQ r.Waiting x.Id&&(200<=r.Waiting.length))with
 |true=>rfl
 |false=>
 rw[BQ,BQ];show(Vy r.Waiting x).bind _=_;cases q:bQ r.Waiting x.Id with
 |true=>
  rw[aUS AQ J q O u.small];rfl
 |false=>
  rw[aPE AQ J q];rfl
end
variable {b:Aa}
section
set_option maxRecDepth 20000
set_option maxHeartbeats 1000000
def aiN (ha:Ey a):∃r,WT a b=some r:=by
 have h1:=ha.prev;have h2:=ha.auth;unfold WT;rw[a5d _ _ AQ,a5d _ _ AQ,aFT _ ha.content];simp only[Lu,Aj,SB];exact⟨_,rfl⟩
end
variable {c:D6}
section
set_option maxRecDepth 20000
set_option maxHeartbeats 1000000
def KO.strip (h:KO c)(k:Int):KO (Oc k c):=by
 have j:(0:Nat)<=9223372036854775807:=FB _;unfold Oc
 repeat' split
 all_goals first|exact h|exact⟨by first|exact h.allow|exact j,by first|exact h.deny|exact j,by first|exact h.users|exact j,by first|exact h.kinds|exact j,by first|exact h.text|exact j,by first|exact h.via|exact j,by first|exact h.allows|simp[Eo],by first|exact h.denies|simp[Eo],by first|exact h.names|simp[Eo,KX]⟩
def L6.strip {e:Aa}(h:L6 e):L6 (SY e):=⟨h.prev,h.auth,h.room,h.sender,h.key,h.server,h.content.strip e.Kind⟩
def aYP (j:L6 e)(hm:UL e.Content<=1048576):∃y v,dJ e=some (y,v)/\aFi e=some (y,v)/\(v=0->Kv y=some 0/\Ey y/\Gl e y):=by
 have q:∀x,L6 x->Gl e x->∃y v,vC x=some (y,v)/\a4s x=some (y,v)/\(v=0->Kv y=some 0/\Ey y/\Gl e y):=λx I hs=>by
  obtain⟨c,J,u,L⟩:=aAs I;unfold vC a4s;rw[J,u,Aj];cases M:c != 0 with
  |true=>
   grind
  |false=>
   have z:c=0:=by simpa using M
   exact⟨_,_,rfl,rfl,λ_=>⟨by rw[u,z],(L z).2,hs⟩⟩
 unfold dJ aFi;rw[(a2Z hm).1,(a2Z hm).2,Aj,Aj];cases Y0 e==e.Hash with
 |true=>
  exact q e j (.refl e)
 |false=>
  have h1:gy e=some (SY e):=by unfold gy;rw[aQi _ hm];rfl
  rw[JV,Bj,Bj,h1,aKm,Aj,Aj];exact q _ j.strip (agZ e)
def afO (ha:Ey a)(u:∃w,VQ b=some w):dL (a4w a b) (λt=>t=false->Gl a b):=by
 have hp:=ha.prev;have j:=ha.auth;obtain⟨r,h1,h2⟩:=aYb (a:=a) (b:=b) (aie ha).content AQ AQ;obtain⟨q,j⟩:=aiN (b:=b) ha;obtain⟨w,z⟩:=u;unfold a4w;rw[aKm,aKm,Aj,Aj,h1,Aj];cases r with
 |false=>exact .ret λh=>Gu
 |true=>
  rw[El,BQ,(oJ ha.x).2,Aj];refine dL.bif (λ_=>?_) λ_=>.ret λ_=>(h2 rfl).2;rw[z,Aj];refine dL.bif (λ_=>?_) λ_=>.ret λ_=>(h2 rfl).2;rw[j,Aj];exact .ret λ_=>(h2 rfl).2
end
section
set_option maxRecDepth 20000
set_option maxHeartbeats 1000000
def agO (l:A8 Aa)(e:Aa)(hl:l.length<=1000)(j:Ey e):a6G l e=some (Gm l e):=by
 have h1:=j.prev;have h2:=j.auth;unfold a6G Gm;rw[vJ l _ hl AQ,vJ l _ hl AQ,Aj,a88,Aj,a88];cases e.bG.all (bQ l)<;>rfl
def aT2 (r:C9)(id:Int):∀(n:Nat) (a:Int) (b:FZ),aP (VB r id) n a b=bn (λk i=>VB r id (λj _=>k j) i KZ) n a
 |0,_,_=>rfl
 |n+1,a,b=>by
  have q:aP (VB r id) n=λj _=>bn (λk i=>VB r id (λj _=>k j) i KZ) n j:=funext λa=>funext λb=>aT2 r id n a b;show VB r id (aP (VB r id) n) a b=VB r id (λj _=>bn (λk i=>VB r id (λj _=>k j) i KZ) n j) a KZ;rw[q];rfl
def row24 (r:C9)(id:Int)(hl:r.Rows.length<=1000000):zq r id=some (Vh r id):=by
 unfold zq aNb;rw[aT2,KU r.Rows (fuel_lt AQ) (λx=>x.Id==id) (λi=>match r.Rows[i]? with |some x=>some (x,true)|none=>none) (some (KZ,false))]
 ·unfold Vh MN;rw[Kw];by_cases h:r.Rows.findIdx (λx=>x.Id==id)<r.Rows.length
  ·rw[ET h,EO h]
  rw[Ef h,OZ AQ]
 ·intro k i h;unfold VB;rw[DF h,EO h,CU h];rfl
 intro k;unfold VB;rw[DZ,BQ]
def alo (I:KR l):aAV l=some (Ia l:Int):=by
 have hl:=I.len
 have M:(DT l).length<=1000:=by
  have h1:=BJ List.length (aJI l);rw[Df,a2x]at h1;omega
 unfold aAV;rw[aRp I,Aj];unfold aT0;refine dL.eq (Jj l.length (fuel_lt AQ) (λi a=>a=(((l.take i).filter (NT l)).length:Int)) rfl (λi a k hi ha J=>?_) λa k ha=>?_)
 ·have O:((l.take i).filter (NT l)).length<=i:=EI (Lc ..) kn;have q:=wB (p:=NT l) hi;obtain⟨y,L⟩:=vF (Hw.2 (FT.2 ⟨_,EZ hi,rfl⟩));have U:SX (DT l) l[i].Id=(LX y,true):=by unfold SX;rw[L]
  have z:Hd (DT l) l[i].Id=(y.err==0):=by unfold Hd;rw[L]
  have j:NT l l[i]=(l[i].Kind==1&&(y.err==0)):=by unfold NT;rw[z]
  have u:NT l l[i]=false->dL (ZR k (i:Int) a) (λx=>x=(Ia l:Int)):=λhm=>by
   rw[hm]at q;unfold ZR;rw[wrap_succ i AQ];exact J _ (by rw[ha,q];simp)
  unfold aFB;rw[DF hi,qJ _ _ AQ,Aj,CU hi,Aj,U];cases h1:l[i].Kind==1 with
  |false=>
   rw[h1,dG]at j;exact u j
  |true=>
   rw[h1,Fv]at j;show dL (bif y.err==0 then ZR k (i:Int) (BA (a+1))else ZR k (i:Int) a) _;cases h2:y.err==0 with
   |false=>rw[h2]at j;exact u j
   |true=>
    rw[h2]at j;rw[j]at q;rw[Bj];unfold ZR;rw[wrap_succ i AQ,ha,wrap_succ _ AQ];exact J _ (by rw[q];simp)
 unfold aFB;rw[DZ,BQ,ha,H9];exact .ret rfl
def aSw (r:C9)(ids:A8 Int)(i:Nat)(q:r.Rows.length<=1000000)(hi:ids.length<=1000000):Fin r ids (i:Int)=some (ids.all (RV r i)):=by
 unfold Fin aPu;rw[Hl ids (fuel_lt AQ) (λx=> !RV r i x) false (some true) (λk j u=>?_) λk=>?_]
 ·rw[nM];cases ids.all (RV r i)<;>rfl
 ·unfold aFG;rw[DF u,row24 _ _ q,Aj];unfold RV Vh;cases MN r ids[j]with
  |none=>rfl
  |some x=>
   show((bif !true then some true else some (decide (x.Pos>=(i:Int)))).bind λz=>bif z then some false else k (BA ((j:Int)+1)))=bif !decide (x.Pos<(i:Int))then some false else k (BA ((j:Int)+1))
   rw[←a5R];rfl
 unfold aFG;rw[DZ,BQ]
def ajO (hc:Ko r.Events=some 0)(hF:N9 r.Events)(hd:Hz r.Events=0)(hl:r.Events.length<=100)(hr:r.Rows.length<=1000):a8e r=some (nJ r):=by
 have Z:=hF.ok hl;obtain⟨t1,_,t3⟩:=aIK hc λ_=>Z;rw[Xx hd]at t1 t3;unfold a8e;rw[alo Z,Aj]
 have hx:((bif ((r.Rows.length:Int) != (r.Events.length:Int))then some true else some (r.Next != (r.Rows.length:Int))).bind λx1=>(bif x1 then some true else some (decide ((Ia r.Events:Int)>1))))=some (!(((r.Rows.length==r.Events.length)&&(r.Next==(r.Rows.length:Int)))&&(Ia r.Events<=1))):=by
  have e1:((r.Rows.length:Int) != (r.Events.length:Int))= !(r.Rows.length==r.Events.length):=by
   by_cases h:r.Rows.length=r.Events.length
   ·rw[h];simp
   rw[show(r.Rows.length==r.Events.length)=false by simpa using h,JV,bne_iff_ne];omega
  have e2:decide ((Ia r.Events:Int)>1)= !decide (Ia r.Events<=1):=by
   by_cases h:Ia r.Events<=1
   ·rw[KC h,Ic AQ];rfl
   rw[Ic h,KC AQ];rfl
  rw[e1,e2];cases r.Rows.length==r.Events.length with
  |false=>rfl
  |true=>
   show(bif r.Next != (r.Rows.length:Int)then _ else _)=_;cases J:r.Next==(r.Rows.length:Int)with
   |false=>rw[show(r.Next != (r.Rows.length:Int))=true by simpa[bne]using J];rfl
   |true=>rw[show(r.Next != (r.Rows.length:Int))=false by simpa[bne]using J];rfl
 have hx':∀{F:Ad->AB Ad},(((bif ((r.Rows.length:Int) != (r.Events.length:Int))then some true else some (r.Next != (r.Rows.length:Int))).bind λx1=>(bif x1 then some true else some (decide ((Ia r.Events:Int)>1))).bind F))=F (!(((r.Rows.length==r.Events.length)&&(r.Next==(r.Rows.length:Int)))&&(Ia r.Events<=1))):=λ{F}=>by
  rw[←Option.bind_assoc,hx];rfl
 refine Eq.trans hx' ?_;unfold nJ;cases J:(((r.Rows.length==r.Events.length)&&(r.Next==(r.Rows.length:Int)))&&(Ia r.Events<=1))with
 |false=>rfl
 |true=>
  rw[El,BQ,t1,Aj,Fv,←ac1];unfold aOf;refine dL.eq (aA r.Rows.length (fuel_lt AQ) (λi=>∀j (L:j<r.Rows.length),j<i->Vg r j r.Rows[j]=true) (λj L h=>absurd h (dY _)) (λi k hi hI hk=>?_) λk hI=>?_)
  ·have u:Vg r i r.Rows[i]=false->dL (some false) (λx=>x=gV r):=λJ=>by
    refine .ret ?_;cases hz:gV r with
    |false=>rfl
    |true=>
     unfold gV at hz;rw[xu.1 hz i hi]at J;cases J
   have z:Vg r i r.Rows[i]=true->dL (k (BA ((i:Int)+1))) (λx=>x=gV r):=λJ=>by
    rw[wrap_succ i AQ];refine hk λj L hji=>?_;by_cases e:j=i
    ·subst e;exact J
    exact hI j L AQ
   have hev:(I9 r.Events r.Rows[i].Id).1=ev r.Events r.Rows[i].Id:=rfl
   have hsm:(ev r.Events r.Rows[i].Id).bG.length<=1000/\(ev r.Events r.Rows[i].Id).bI.length<=1000:=by
    have :=aAZ Z.small r.Rows[i].Id;have h1:=this.prev;have h2:=this.auth;omega
   unfold aEC;rw[DF hi,row24 _ _ AQ,Aj,NG _ _ AQ,Aj,qJ _ _ AQ,Aj,hev,aSw r _ i AQ AQ,aSw r _ i AQ AQ,Nw,aTz];simp only[Aj];rw[show(Eb r.Events r.Rows[i].Id).isSome=bQ r.Events r.Rows[i].Id from rfl]
   have M:(Vh r r.Rows[i].Id).1.Pos=((MN r r.Rows[i].Id).map (·.Pos)).getD 0:=by
    unfold Vh;cases MN r r.Rows[i].Id<;>rfl
   rw[M];have I:Vg r i r.Rows[i]=(bQ r.Events r.Rows[i].Id&&(r.Rows[i].Pos==(i:Int)&&(((MN r r.Rows[i].Id).map (·.Pos)).getD 0==(i:Int)&&(((ev r.Events r.Rows[i].Id).bG.all (RV r i)&&(ev r.Events r.Rows[i].Id).bI.all (RV r i))&&XG r r.Rows[i])))):=rfl;cases c1:bQ r.Events r.Rows[i].Id with
   |false=>exact u (by rw[I,c1];rfl)
   |true=>
   cases O:r.Rows[i].Pos==(i:Int)with
   |false=>
    rw[show(r.Rows[i].Pos != (i:Int))=true by simpa[bne]using O];exact u (by rw[I,O];simp)
   |true=>
   rw[show(r.Rows[i].Pos != (i:Int))=false by simpa[bne]using O];cases U:((MN r r.Rows[i].Id).map (·.Pos)).getD 0==(i:Int)with
   |false=>
    rw[show(((MN r r.Rows[i].Id).map (·.Pos)).getD 0 != (i:Int))=true by simpa[bne]using U];exact u (by rw[I,U];simp)
   |true=>
   rw[show(((MN r r.Rows[i].Id).map (·.Pos)).getD 0 != (i:Int))=false by simpa[bne]using U];cases c4:(ev r.Events r.Rows[i].Id).bG.all (RV r i)with
   |false=>exact u (by rw[I,c4];simp)
   |true=>
   cases c5:(ev r.Events r.Rows[i].Id).bI.all (RV r i)with
   |false=>exact u (by rw[I,c5];simp)
   |true=>
   have hst:XG r r.Rows[i]=(((errOf (DT r.Events) r.Rows[i].Id != 0)==(r.Rows[i].Status==2))&&((r.Rows[i].Status==2||r.Rows[i].Status==3)||r.Rows[i].Status==4)):=by
    unfold XG;rw[aP8 c1];rfl
   have q:Vg r i r.Rows[i]=XG r r.Rows[i]:=by rw[I,c1,O,U,c4,c5];rfl
   rw[hst]at q;show dL ((bif (!((errOf (DT r.Events) r.Rows[i].Id != 0)==(r.Rows[i].Status==2)))then some true else((bif (r.Rows[i].Status != 2)then some (r.Rows[i].Status != 3)else some false).bind λx28=>(bif x28 then some (r.Rows[i].Status != 4)else some false).bind λx30=>some x30)).bind λx26=>(bif x26 then some false else k (BA ((i:Int)+1)))) _;cases c6:(errOf (DT r.Events) r.Rows[i].Id != 0)==(r.Rows[i].Status==2)with
   |false=>rw[c6]at q;exact u q
   |true=>
   rw[c6,Fv]at q;unfold bne;cases Y:r.Rows[i].Status==2 with
   |true=>rw[Y]at q;exact z q
   |false=>
   cases c8:r.Rows[i].Status==3 with
   |true=>rw[Y,c8]at q;exact z q
   |false=>
   cases c9:r.Rows[i].Status==4 with
   |true=>rw[Y,c8,c9]at q;exact z q
   |false=>rw[Y,c8,c9]at q;exact u q
  unfold aEC;rw[DZ,BQ];refine .ret ?_;unfold gV;exact(xu.2 λj L=>hI j L L).symm
end
section
set_option maxRecDepth 20000
set_option maxHeartbeats 1000000
def aWd (z:∀e∈l,L6 e)(hl:l.length<=100):dL (s0 r l) (λc=>c=0->Ko l=some 0/\N9 l/\∀x∈l,x.Room=r.Id):=by
 obtain⟨c,_,I,J⟩:=aVB z hl;unfold s0;rw[I,Aj];refine dL.bif (λq=>?_) λq=>.ret λh=>?_
 ·obtain rfl:c=0:=eq_of_beq q;have u:=J rfl;refine dL.bif (λh1=>?_) λh1=>.ret λ_=>⟨rfl,u,?_⟩
  ·have j:0<l.length:=by have :=PI h1;omega
   rw[show Au l 0=some l[0]from CU j,Aj];unfold wK;refine dL.bif (λ_=>.ret λh=>Gu) λh2=>.ret λ_=>⟨rfl,u,λx L=>?_⟩
   have :l[0].Room=r.Id:=toList_inj LJ;rw[u.room x L _ (EZ j),this]
  grind
 have h:c=0:=h;rw[h]at q;cases q
def aff (J:∀e∈r.Waiting,L6 e)(hl:r.Events.length<=100)(j:r.Waiting.length<=100):dL (a1X r) (λc=>c=0->Ko r.Waiting=some 0/\N9 r.Waiting/\(∀x∈r.Waiting,x.Room=r.Id)/\(∀x∈r.Waiting,bQ r.Events x.Id=false)/\VY r):=by
 unfold a1X;refine(aWd (r:=r) J j).bind λc L=>dL.bif (λh=>.ret λq=>?_) λh=>?_
 ·have q:c=0:=q;rw[q]at h;cases h
 obtain rfl:c=0:=OO
 obtain⟨M,I,O⟩:=L rfl;have u:∀e∈r.Waiting,Ey e:=λe U=>(I.ev e U).2
 have h2:aBv r 0=bif r.Waiting.any (Gm r.Events)then some 26 else some 0:=by
  unfold aBv;refine Hl r.Waiting (fuel_lt AQ) (Gm r.Events) 26 (some 0) (λk i hi=>?_) λk=>?_
  ·unfold aIU;rw[DF hi,agO _ _ AQ (u _ (EZ hi)),Aj]
  unfold aIU;rw[DZ,BQ,Ic AQ,BQ]
 unfold aP1;rw[Hl r.Waiting (fuel_lt AQ) (λx=>bQ r.Events x.Id) 4 (bif r.Waiting.any (Gm r.Events)then some 26 else some 0) (λk i hi=>?_) λk=>?_]
 ·refine dL.bif (λ_=>.ret λh=>Gu) λY=>dL.bif (λ_=>.ret λh=>Gu) λZ=>.ret λ_=>⟨M,I,O,λx z=>?_,λx z=>?_⟩
  ·have :=jy.1 Y x z;simpa using this
  have :=jy.1 Z x z;simpa using this
 ·unfold aJJ;rw[DF hi,NG _ _ AQ,Aj,Nw];rfl
 unfold aJJ;rw[DZ,BQ,h2]
def aku {a b:A8 Int}(ha:a.length<=1000):dL (dw a b) (λc=>c=true->a=b):=by
 unfold dw;refine dL.bif (λ_=>.ret λh=>Gu) λh=>?_
 have j:a.length=b.length:=by
  grind
 unfold aFP
 rw[ZJ (λx y:Int=>x==y) a b ha j false (some true) (λk i h h'=>by
  unfold uG
  rw[dec_lt h,Bj,CU h,CU h',Aj,Aj];rfl) λk=>by
  unfold uG
  rw[DZ,BQ]]
 refine dL.bif (λ_=>.ret λh=>Gu) λq=>.ret λ_=>?_;refine a7Q (p:=λx y:Int=>x==y) (λx y h=>eq_of_beq h) ?_;unfold N8
 grind
def yL (x y:BO):Ad:=(x.Kind==y.Kind)&&((x.Key.toList==y.Key.toList)&&(x.Id==y.Id))
def afC {x y:BO}(h:yL x y=true):x=y:=by
 unfold yL at h;simp only[DR,MP]at h;obtain⟨h1,h2,h3⟩:=h;cases x;cases y;simp only at *;rw[h1,toList_inj h2,h3]
def am3 {a b:A8 BO}(ha:a.length<=1000):dL (jJ a b) (λc=>c=true->a=b):=by
 unfold jJ;refine dL.bif (λ_=>.ret λh=>Gu) λh=>?_
 have j:a.length=b.length:=by
  grind
 unfold aJR
 rw[ZJ yL a b ha j false (some true) (λk i h h'=>by
  unfold a04 oH yL;rw[dec_lt h,Bj,CU h,CU h',Aj,Aj];unfold bne;cases a[i].Kind==b[i].Kind with
  |false=>rfl
  |true=>
   simp only[Aj];cases a[i].Key.toList==b[i].Key.toList with
   |false=>rfl
   |true=>cases a[i].Id==b[i].Id<;>rfl) λk=>by
  unfold a04
  rw[DZ,BQ]]
 refine dL.bif (λ_=>.ret λh=>Gu) λq=>.ret λ_=>?_;refine a7Q (p:=yL) (λx y h=>afC h) ?_;unfold N8
 grind
def akY (L:r.Id.size<=9223372036854775807)(hw:∀e∈r.Events,L6 e)(M:∀e∈r.Waiting,L6 e)(hl:r.Events.length<=100)(O:r.Waiting.length<=100)(U:r.Rows.length<=1000)(Y:r.yK.length<=1000)(Z:r.State.length<=1000):
 dL (lq r) (λc=>c=0->Hu r/\VY r):=by
 unfold lq;rw[(pY L).2,Aj];refine dL.bif (λ_=>.ret λh=>Gu) λh1=>?_;have h1:Rx r.Id=0:=V7
 refine(aWd (r:=r) hw hl).bind λc hc=>dL.bif (λh=>?_) λh=>?_
 ·obtain rfl:c=0:=eq_of_beq h;obtain⟨J,g2,g3⟩:=hc rfl;have z:=g2.ok hl;rw[aWU _ hl z.small z.dep,Aj];unfold yS;refine dL.bif (λh2=>.ret λI=>?_) λh2=>?_
  ·grind
  have hd:Hz r.Events=0:=LJ
  rw[ajO J g2 hd hl U,Aj];refine dL.bif (λ_=>.ret λh=>Gu) λh3=>?_;have h3:nJ r=true:=X8
  refine(aff M hl O).bind λw hwt=>dL.bif (λh4=>.ret λI=>?_) λh4=>?_
  ·have I:w=0:=I
   grind
  obtain rfl:w=0:=by simpa using h4
  obtain⟨w1,w2,w3,w4,w5⟩:=hwt rfl;obtain⟨t1,t2,t3⟩:=aIK J λ_=>z;rw[Xx hd]at t1 t2 t3;have hal:=gW r.Events (DT r.Events)
  have j:a2R r.Events=some (Js r.Events (Gv r.Events (DT r.Events))):=by
   unfold a2R a1D;rw[t1,Aj,aST _ _ AQ AQ,Aj,aLz _ _ AQ z.small AQ];rfl
  have q:=acS J (λ_=>z) hl z.small;rw[Xx hd]at q;rw[j,Aj];refine(aku (b:=Js r.Events (Gv r.Events (DT r.Events))) Y).bind λs hs=>dL.bif (λ_=>.ret λh=>Gu) λh5=>?_;have h5:=hs (by simpa using h5);rw[q,Aj];refine(am3 (b:=O8 r.Events (DT r.Events)) Z).bind λu hu=>?_;unfold aB5;refine dL.bif (λ_=>.ret λh=>Gu) λh6=>.ret λ_=>?_;have h6:=hu (by simpa using h6);exact⟨am1 h1 J g2 g3 hd w1 w2 w3 w4 AQ h5 h6 h3,w5⟩
 unfold yS;refine dL.bif (λ_=>.ret λI=>?_) λh2=>?_
 ·have I:c=0:=I
  grind
 grind
end
section
set_option maxRecDepth 20000
set_option maxHeartbeats 1000000
def a3I :yJ=some true:=AA
def Vu {body:(Int->AB Ad)->Int->AB Ad}(l:A8 α)(hl:l.length<=1000)(rest:AB Ad)(j:∀k (i:Nat) (h:i<l.length),body k (i:Int)=k (BA ((i:Int)+1)))(q:∀k,body k (l.length:Int)=rest):bn body Az 0=rest:=by
 have key:∀n (i:Nat),i+n=l.length->∀m,n<m->bn body m (i:Int)=rest:=by
  intro n
  induction n with
  |zero=>
   intro i hi m hm;obtain⟨m,rfl⟩:∃k,m=k+1:=⟨m-1,AQ⟩
   rw[show i=l.length by omega];exact q _
  |succ n u=>
   intro i hi m hm;obtain⟨m,rfl⟩:∃k,m=k+1:=⟨m-1,AQ⟩
   have :=j (bn body m) i AQ;rw[wrap_succ i AQ]at this;exact this.trans (u (i+1) AQ m AQ)
 exact key l.length 0 AQ Az (fuel_lt AQ)
def Vj (n:Int):(n != n)=false:=Bf
def aLm {l:A8 Int}(h:l.length<=1000):fA l l=some true:=by
 unfold fA aIc;rw[Vj,BQ];exact Vu l h _ (λk i h=>by simp only[yC,dec_lt h,Bj,CU h,Aj,Ry,BQ]) (λk=>by simp only[yC,DZ,BQ])
def aUf {l:A8 BP}(h:l.length<=1000):VE l l=some true:=by
 unfold VE a7h;rw[Vj,BQ];exact Vu l h _ (λk i h=>aV5) (λk=>aBS)
def aYj {l:Ch}(h1:l.Users.length<=1000)(h2:l.Kinds.length<=1000):XK l l=some true:=by
 have h3:Zx l l 0=some true:=by
  unfold Zx;exact Vu l.Kinds h2 _ (λk i h=>by simp only[rP,dec_lt h,Bj,CU h,Aj,Ry,BQ,tq]) (λk=>by simp only[rP,DZ,BQ,NR,Bj,Aj])
 unfold XK;rw[Vj,Vj,BQ,Aj,BQ];unfold a0n;exact Vu l.Users h1 _ (λk i h=>by simp only[pI,dec_lt h,Bj,CU h,Aj,NR,El,Ry,BQ,a0h]) (λk=>by simp only[pI,DZ,BQ];exact h3)
def aas (h1:c.Allow.length<=1000)(h2:c.iy.length<=1000)(h3:c.Levels.Users.length<=1000)(j:c.Levels.Kinds.length<=1000):VG c c=some true:=by
 unfold VG;simp only[NR,Bj,Aj,aUf h1,aUf h2,aYj h3 j]
def acF (h:Ey e):WT e e=some true:=by
 have :=h.prev;have :=h.auth;have h1:=h.allow;have h2:=h.deny;have h3:=h.users;have j:=h.kinds;unfold WT;simp only[NR,Bj,Aj,aLm (l:=e.bG) AQ,aLm (l:=e.bI) AQ,aas (c:=e.Content) AQ AQ AQ AQ]
def aVg (h:l.length<=1000)(hs:∀e∈l,Ey e):uf l l=some true:=by
 unfold uf aLy;rw[Vj,BQ];exact Vu l h _ (λk i h=>by simp only[aFj,dec_lt h,Bj,CU h,Aj,acF (hs _ (EZ h)),El,BQ]) (λk=>by simp only[aFj,DZ,BQ])
def ah5 {l:A8 FZ}(h:l.length<=1000):a5l l l=some true:=by
 unfold a5l aTN;rw[Vj,BQ];exact Vu l h _ (λk i h=>by simp only[aEH,dec_lt h,Bj,CU h,Aj,aAH,NR,MJ,El,BQ]) (λk=>by simp only[aEH,DZ,BQ])
def aec {l:A8 Int}(h:l.length<=1000):dw l l=some true:=by
 unfold dw aFP;rw[Vj,BQ];exact Vu l h _ (λk i h=>by simp only[uG,dec_lt h,Bj,CU h,Aj,Ry,BQ]) (λk=>by simp only[uG,DZ,BQ])
def ab9 {l:A8 BO}(h:l.length<=1000):jJ l l=some true:=by
 unfold jJ aJR;rw[Vj,BQ];exact Vu l h _ (λk i h=>by simp only[a04,oH,dec_lt h,Bj,CU h,Aj,Ry,NR,El,BQ]) (λk=>by simp only[a04,DZ,BQ])
def aY4 (h1:r.jX.length<=1000)(h2:r.o7.length<=1000):a1i r r=some true:=by
 have h3:aDu r r 0=some true:=by
  unfold aDu;exact Vu r.o7 h2 _ (λk i h=>by simp only[aKR,dec_lt h,Bj,CU h,Aj,a4h,NR,MJ,El,BQ]) (λk=>by simp only[aKR,DZ,BQ])
 unfold a1i;rw[Vj,Vj,BQ,Aj,BQ];unfold aMm;exact Vu r.jX h1 _ (λk i h=>by simp only[aK3,dec_lt h,Bj,CU h,Aj,a6D,NR,MJ,El,BQ]) (λk=>by simp only[aK3,DZ,BQ];exact h3)
def aCZ (h:Hu r)(hl:r.Events.length<=50)(J:r.Waiting.length<=1000)(h1:r.jX.length<=1000)(h2:r.o7.length<=1000):a0A r r=some true:=by
 have q:=h.facts.ok AQ;have hp:=aUP (l:=r.Events) (c:=0) λ_=>q;rw[Xx h.deep,←h.state]at hp;have u:=hp.length;have z:=h.WO
 have I:r.yK.length<=r.Events.length:=by
  rw[h.heads];exact EI (a4y _ _) (gW _ _)
 unfold a0A;simp only[NR,Bj,Aj,aVg (l:=r.Events) AQ λe j=>(h.facts.ev e j).2,aVg (l:=r.Waiting) AQ λe j=>(h.tK.ev e j).2,ah5 (l:=r.Rows) AQ,aec (l:=r.yK) AQ,ab9 (l:=r.State) AQ,aY4 h1 h2]
def aKj {P:Aa->Prop}:∀(n:Nat) {r:C9},(∀z∈r.Events,P z)->(∀z∈r.Waiting,P z)->(∀z∈(Fz n r).Events,P z)/\(∀z∈(Fz n r).Waiting,P z)/\(Fz n r).Events.length+(Fz n r).Waiting.length<=r.Events.length+r.Waiting.length/\(Fz n r).jX=r.jX/\(Fz n r).o7=r.o7
 |0,r,h1,h2=>⟨h1,h2,EW _,rfl,rfl⟩
 |n+1,r,h1,h2=>by
  unfold Fz;cases I:WZ r.Events r.Waiting with
  |none=>
   grind
  |some e=>
   obtain⟨u,J⟩:=a8D I;have hd:=a1r u;have j:∀z∈H6 r.Waiting e.Id,P z:=λz q=>h2 z (Gs.1 q).1;show(∀z∈(Fz n (II { r with Waiting:=H6 r.Waiting e.Id } e).1).Events,P z)/\(∀z∈(Fz n (II { r with Waiting:=H6 r.Waiting e.Id } e).1).Waiting,P z)/\(Fz n (II { r with Waiting:=H6 r.Waiting e.Id } e).1).Events.length+(Fz n (II { r with Waiting:=H6 r.Waiting e.Id } e).1).Waiting.length<=_/\(Fz n (II { r with Waiting:=H6 r.Waiting e.Id } e).1).jX=_/\(Fz n (II { r with Waiting:=H6 r.Waiting e.Id } e).1).o7=_;rcases XL { r with Waiting:=H6 r.Waiting e.Id } e with⟨q1,_⟩|⟨q1,_,_⟩
   ·rw[q1];obtain⟨a,b,c,d,f⟩:=aKj n (r:={ r with Waiting:=H6 r.Waiting e.Id }) h1 j;exact⟨a,b,EI c (by show r.Events.length+(H6 r.Waiting e.Id).length<=_;omega),d,f⟩
   rw[q1]
   obtain⟨a,b,c,d,f⟩:=aKj n (r:=Ob { r with Waiting:=H6 r.Waiting e.Id } e) (λz q=>by
    rcases Nz.1 q with rfl|q
    ·exact h2 z u
    exact h1 z q) j
   exact⟨a,b,EI c (by show(Dw r.Events e).length+(H6 r.Waiting e.Id).length<=_;rw[Oa];omega),d,f⟩
def aUB (l:A8 Aa)(x:Aa):(IZ l x).length=l.length:=by
 unfold IZ
 grind
def aN3 {P:Aa->Prop}(h1:∀z∈r.Events,P z)(h2:∀z∈r.Waiting,P z)(I:P x):(∀z∈(Gq r x).1.Events,P z)/\(∀z∈(Gq r x).1.Waiting,P z)/\(Gq r x).1.Events.length+(Gq r x).1.Waiting.length<=r.Events.length+r.Waiting.length+1/\(Gq r x).1.jX=r.jX/\(Gq r x).1.o7=r.o7:=by
 have j:(∀z∈r.Events,P z)/\(∀z∈r.Waiting,P z)/\r.Events.length+r.Waiting.length<=r.Events.length+r.Waiting.length+1/\r.jX=r.jX/\r.o7=r.o7:=⟨h1,h2,Nat.le_succ _,rfl,rfl⟩
 have q:∀l:A8 Aa,(∀z∈l,P z)->∀z∈IZ l x,P z:=λl hl z j=>by
  rcases YT j with j|rfl
  ·exact hl z j
  exact I
 have u:∀l:A8 Aa,(∀z∈l,P z)->∀z∈Dw l x,P z:=λl hl z j=>by
  rcases Nz.1 j with rfl|j
  ·exact I
  exact hl z j
 unfold Gq;cases M:decide (x.Room=r.Id)with
 |false=>exact j
 |true=>
 rw[El,BQ];cases O:bQ r.Events x.Id with
 |true=>exact⟨q _ h1,h2,by show(IZ r.Events x).length+r.Waiting.length<=_;rw[aUB];omega,rfl,rfl⟩
 |false=>
 rw[BQ];cases U:(!bQ r.Waiting x.Id&&Gm r.Events x)with
 |true=>
  rw[Bj];rcases XL r x with⟨J,L⟩|⟨J,L,Y⟩
  ·rw[show((II r x).2 != 0)=true by simpa using L,Bj];exact j
  rw[J];obtain⟨a,b,c,d,f⟩:=aKj (P:=P) r.Waiting.length (r:=Ob r x) (u _ h1) h2;exact⟨a,b,EI c (by show(Dw r.Events x).length+r.Waiting.length<=_;rw[Oa];omega),d,f⟩
 |false=>
 rw[BQ];cases Z:(!bQ r.Waiting x.Id&&(200<=r.Waiting.length))with
 |true=>exact j
 |false=>
  rw[BQ];cases c6:bQ r.Waiting x.Id with
  |true=>exact⟨h1,q _ h2,by show r.Events.length+(IZ r.Waiting x).length<=_;rw[aUB];omega,rfl,rfl⟩
  |false=>exact⟨h1,u _ h2,by show r.Events.length+(Dw r.Waiting x).length<=_;rw[Oa];omega,rfl,rfl⟩
def aev (j:lV r x):lV (Gq r x).1 x:=by
 obtain⟨a,b,_⟩:=aN3 (P:=λz=>z.Id=x.Id->Gl z x) j.sim j.aGQ λ_=>.refl x;exact⟨j.ver,j.small,a,b⟩
def aeV (r:C9):dL (rX r) (λb=>b=true->r.Events.length<=12/\r.Waiting.length<=8/\r.Rows.length<=30/\r.yK.length<=30/\r.State.length<=60/\r.jX.length<=30/\r.o7.length<=30):=by
 unfold rX;simp only[Lu,Aj,SB];refine .ret λh=>?_
 grind
def aY1 (hl:l.length<=1000)(hs:∀z∈l,Ey z)(Z:∃w,VQ e=some w):dL (qc (e::l)) (λb=>b=true->∀z∈l,z.Id=e.Id->Gl z e):=by
 have hlen:(e::l).length=l.length+1:=GH
 have u:∀j (I:j<(e::l).length),∃w,VQ (e::l)[j]=some w:=λj I=>by
  match j,I with
  |0,_=>exact Z
  |j+1,I=>exact⟨_,(oJ (hs _ (EZ AQ)).x).2⟩
 unfold qc aOk;refine aA (e::l).length (fuel_lt AQ) (λn=>∀a,(ha:a<l.length)->a+1<n->l[a].Id=e.Id->Gl l[a] e) (λa _ h=>absurd h (dY _)) (λi f hi O hf=>?_) λf O=>?_
 ·unfold aIS;rw[dec_lt hi,Bj];unfold aV1;refine aA i (fuel_lt AQ) (λn=>∀a,(ha:a<l.length)->a+1=i->0<n->l[a].Id=e.Id->Gl l[a] e) (λa _ _ h=>absurd h (Nat.lt_irrefl _)) (λj g I U hg=>?_) λg U=>?_
  ·have J:j<(e::l).length:=AQ
   have Y:∃a,∃ha:a<l.length,i=a+1:=⟨i-1,AQ,AQ⟩
   obtain⟨a,ha,rfl⟩:=Y
   have L:(j=0->l[a].Id=e.Id->Gl l[a] e)->dL (uq g (j:Int) false) (λb=>b=true->∀z∈l,z.Id=e.Id->Gl z e):=λh=>by
    unfold uq;rw[BQ,wrap_succ j AQ];refine hg λb hb hba _ q=>?_;obtain rfl:b=a:=AQ
    by_cases M:j=0
    ·exact h M q
    exact U b hb rfl AQ q
   unfold aKb;rw[dec_lt I,Bj,CU hi,CU J];simp only[Aj];refine dL.bif (λ_=>?_) λc=>L λM q=>?_
   ·refine(afO (hs _ (EZ ha)) (u j J)).bind λt ht=>?_;cases t with
    |true=>exact .ret λh=>Gu
    |false=>
     refine L λM _=>?_;subst M;exact ht rfl
   subst M;have c:(l[a].Id==e.Id)=false:=c;rw[q]at c;simp at c
  unfold aKb;rw[Ic (show ¬(i:Int)<(i:Int) by omega),BQ,wrap_succ i AQ];refine hf λa ha hai q=>?_;by_cases h:a+1=i
  ·exact U a ha h AQ q
  exact O a ha AQ q
 unfold aIS;rw[DZ,BQ];refine .ret λ_ z hz q=>?_;obtain⟨a,ha,rfl⟩:=G8 hz;exact O a ha AQ q
structure aCi (r:C9) (e:Aa):Prop where
 id:r.Id.size<=9223372036854775807
 ev:∀x∈r.Events,L6 x
 evW:∀x∈r.Waiting,L6 x
 wide:L6 e
 asP:UL e.Content<=1048576
def abl (h:aCi r e)(f:Ad->AB Ad)(Y:f true=some true)(hf:Hu r->VY r->r.Events.length<=12->r.Waiting.length<=8->r.jX.length<=30->r.o7.length<=30->(∀y v,dJ e=some (y,v)->aFi e=some (y,v)->(v=0->lV r y)->f false=some true)):
 ((rX r).bind λq=>(bif (!q)then f true else(lq r).bind λu=>(bif (u != 0)then f true else(DC 376 [e] r.Events).bind λI=>(DC 376 I r.Waiting).bind λJ=>(qc J).bind λL=>f (!L))))=some true:=by
 have key:dL ((rX r).bind λq=>(bif (!q)then f true else(lq r).bind λu=>(bif (u != 0)then f true else(DC 376 [e] r.Events).bind λI=>(DC 376 I r.Waiting).bind λJ=>(qc J).bind λL=>f (!L)))) (· =true):=by
  refine(aeV r).bind λb hb=>dL.bif (λ_=>.of Y) λh1=>?_;obtain⟨b1,b2,b3,b4,b5,b6,b7⟩:=hb V7;refine(akY h.id h.ev h.evW AQ AQ AQ AQ AQ).bind λc hc=>dL.bif (λ_=>.of Y) λh2=>?_;obtain⟨M,Z⟩:=hc LJ;rw[Dz G9,Aj,Dz Ul,Aj]
  have hsm:∀z∈r.Events++r.Waiting,Ey z:=λz j=>by
   rcases Ie.1 j with j|j
   ·exact(M.facts.ev z j).2
   exact(M.tK.ev z j).2
  refine(aY1 (e:=e) (l:=r.Events++r.Waiting) Lj hsm ⟨_,(a2Z h.asP).2⟩).bind λa ha=>?_;cases a with
  |false=>exact .of Y
  |true=>
   have ha:=ha rfl;obtain⟨y,v,q1,q2,q3⟩:=aYP h.wide h.asP;refine .of (hf M Z b1 b2 b6 b7 y v q1 q2 λhv=>?_);obtain⟨g1,g2,U⟩:=q3 hv;exact⟨g1,g2,λz j O=>(ha z (Ie.2 (.inl j)) (O.trans U.id)).trans U,λz j O=>(ha z (Ie.2 (.inr j)) (O.trans U.id)).trans U⟩
 exact key.eq
def aXp (h:aCi r e):aD1 r e=some true:=by
 refine abl h (iE r e) ?_ λj q b1 b2 b6 b7 y v I q2 u=>?_
 ·unfold iE;rw[Bj,a3I];rfl
 unfold iE;rw[BQ];by_cases J:v=0
 ·subst J;have L:=u rfl;obtain⟨O,s2⟩:=j.receive q AQ L;obtain⟨_,_,s3,U,Y⟩:=aN3 (P:=λ_=>True) (r:=r) (x:=y) (λ_ _=>trivial) (λ_ _=>trivial) trivial;rw[aOX j AQ L I,Aj,aOX O AQ (aev L) I,Aj];cases z:(Gq r y).2.2 != 0 with
  |true=>
   obtain⟨Z,t2⟩:=aek (r:=r) (x:=y) UW;rw[Z,t2,aCZ j AQ AQ AQ AQ,a3I];rfl
  |false=>
   have z:(Gq r y).2.2=0:=UW
   rw[j.again q AQ L z,z,aCZ O AQ AQ (by rw[U];omega) (by rw[Y];omega),a3I,NR];rfl
 have M:(v != 0)=true:=jw
 rw[aV9 I J,Aj];show(VZ r e).bind _=_;rw[aV9 I J,Aj];show(bif v != 0 then _ else _)=_;rw[M,Bj,aCZ j AQ AQ AQ AQ,a3I];rfl
end
variable {H:Type}
def UR (d:DataW H):1<=Rows.uptoBulk d:=by
 cases d with
 |lit l=>cases l<;>simp[Rows.uptoBulk]
 |nil=>simp[Rows.uptoBulk]
 |ptr d=>simp[Rows.uptoBulk]
 |slice q spare=>simp[Rows.uptoBulk]
 |agg u=>simp[Rows.uptoBulk]
 |iface t d=>simp[Rows.uptoBulk]
 |map j=>simp[Rows.uptoBulk]
 |held h=>simp[Rows.uptoBulk]
variable {d:DataW H}
def aFh {l:A8 (DataW H)}(h:d∈l):Rows.uptoBulk d<=Rows.uptoBulkAll l:=by
 induction l with
 |nil=>cases h
 |cons x r j=>
  simp only[Rows.uptoBulkAll];cases FM.1 h with
  |inl e=>subst e;omega
  |inr e=>have :=j e;omega
def aZ3 (l:A8 (DataW H)):l.length<=Rows.uptoBulkAll l:=by
 induction l with
 |nil=>
  grind
 |cons x r j=>
  have :=UR x;simp only[Rows.uptoBulkAll,GH];omega
def aaM (j spare:A8 (DataW H)):Rows.uptoBulkAll j+1<=Rows.uptoBulk (.slice j spare):=by
 simp only[Rows.uptoBulk];omega
def a4Q {j:A8 (DataW H)}(q:Rows.uptoSmall H j=true)(h:d∈j):Rows.uptoBulk d<=1048576:=EI (aFh h) (PI q)
def JK (j:α->Nat)(l:A8 α):Nat:=(l.map j).sum+l.length
def aFx {H:Type}:∀l:A8 (DataW H),Rows.uptoBulkAll l=(l.map Rows.uptoBulk).sum
 | []=>rfl
 |d::l=>by rw[Gh,Rch,←aFx l];rfl
def ajA {j:α->Nat}(l:A8 α)(D:Nat->DataW H)(h:∀i (hi:i<l.length),j l[i]+1<=Rows.uptoBulk (D i)):JK j l<=Rows.uptoBulkAll ((List.range l.length).map D):=by
 rw[aFx,cO]
 have key:∀n,n<=l.length->((l.take n).map j).sum+n<=((List.range n).map (Rows.uptoBulk∘D)).sum:=by
  intro n
  induction n with
  |zero=>
   grind
  |succ n q=>
   intro u;have hi:n<l.length:=u;rw[OM hi,Jb,qN,a4b,Jb,qN];have h1:=q AQ;have h2:=h n hi;have h3:([n].map (Rows.uptoBulk∘D)).sum=Rows.uptoBulk (D n):=Bf
   have z:([l[n]].map j).sum=j l[n]:=Bf
   rw[h3,z];omega
 have :=key l.length (EW _);rw[H9]at this;exact this
def partAt (x:DataW H)(i:Nat):Nat:=match x with
 | .agg j=>match j[i]? with
   |some d=>Rows.uptoBulk d
   |none=>0
 |_=>0
def Ut (x:DataW H)(n:Nat):((List.range n).map (partAt x)).sum+1<=Rows.uptoBulk x:=by
 have q:∀n,((List.range n).map λ_=>0).sum=0:=λn=>by
  induction n with
  |zero=>rfl
  |succ n u=>rw[a4b,Jb,qN,u];rfl
 cases x with
 |agg j=>
  have I:Rows.uptoBulk (DataW.agg j)=Rows.uptoBulkAll j+1:=by simp only[Rows.uptoBulk]
  rw[I,aFx]
  have key:∀n,((List.range n).map (partAt (DataW.agg j))).sum=((j.take n).map Rows.uptoBulk).sum:=by
   intro n
   induction n with
   |zero=>rfl
   |succ n u=>
    rw[a4b,Jb,qN,u];by_cases z:n<j.length
    ·rw[OM z,Jb,qN];simp[partAt,EO z]
    rw[Qx AQ,Qx AQ];simp[partAt,OZ (Xp z)]
  rw[key]
  have :((j.take n).map Rows.uptoBulk).sum+((j.drop n).map Rows.uptoBulk).sum=(j.map Rows.uptoBulk).sum:=by
   rw[←qN,←Jb,Ve]
  omega
 |lit l=>exact EI (QE (by rw[show partAt (DataW.lit (H:=H) l)=λ_=>0 from rfl,q])) (UR _)
 |nil=>exact EI (QE (by rw[show partAt (DataW.nil (H:=H))=λ_=>0 from rfl,q])) (UR _)
 |ptr d=>exact EI (QE (by rw[show partAt (DataW.ptr (H:=H) d)=λ_=>0 from rfl,q])) (UR _)
 |slice a b=>exact EI (QE (by rw[show partAt (DataW.slice (H:=H) a b)=λ_=>0 from rfl,q])) (UR _)
 |iface t d=>exact EI (QE (by rw[show partAt (DataW.iface (H:=H) t d)=λ_=>0 from rfl,q])) (UR _)
 |map a=>exact EI (QE (by rw[show partAt (DataW.map (H:=H) a)=λ_=>0 from rfl,q])) (UR _)
 |held a=>exact EI (QE (by rw[show partAt (DataW.held (H:=H) a)=λ_=>0 from rfl,q])) (UR _)
variable {O:α->D}{V:α->Prop}
section
variable {N:Nat} {H:Type} {enc:Bz×BI->H} {w:Ba} {base:Nat} {spare:Nat->Ad} {held:Ad} {P:Cc} {t:Bz}
def P6 (N:Nat)(enc:Bz×BI->H)(P:Cc)(w:Ba)(base:Nat)(spare:Nat->Ad)(held:Ad)(t:Bz)(e:α->D)(V:α->Prop)(j:α->Nat):Prop:=
 ∀Az cs x,DataW.trod enc P w base spare held Az t cs=some x->Rows.uptoBulk x.1<=N->∃a:α,V a/\j a+1<=Rows.uptoBulk x.1/\EF w (e a).cells cs
def SS {wt:α->Nat}{e:Bz}{sz:Nat}(ht:P.underlying t=some (.slice e))(hc:P.cellsOf e=sz)(U:0<sz)(hsz:∀a,(O a).cells.length=sz)(hR:P6 N enc P w base spare held e O V wt):
 P6 N enc P w base spare held t (BZ O) (λl=>l.length<=N/\∀x∈l,V x) (JK wt):=by
 intro Az cs x h hb;rcases Go.Deep.open_slice ht h with⟨rfl,rfl⟩|⟨a,len,cap,m,n,D,Pl,rfl, -,hl,hm,hmm,rfl,hx⟩
 ·exact⟨[],⟨FB _,λx h=>J9⟩,UR _,.one rfl rfl (.sl0 none 0)⟩
 have hlm:len<=m:=by rw[hmm];split<;>omega
 have hb0:=aaM ((List.range len).map D) ((List.range (m-len)).map λj=>D (len+j));have hb1:=EI hb0 hb;have hb2:=aZ3 ((List.range len).map D);rw[Df,List.length_range]at hb2;rw[hc]at hx
 have hex:∀i,i<len->∃y:α,(V y/\wt y+1<=Rows.uptoBulk (D i))/\∃I:A8 BI,w.cells? base (a.add (i*sz)) sz=some I/\EF w (O y).cells I:=by
  intro i hi;obtain⟨I,h1,h2⟩:=hx i AQ;obtain⟨y,h3,h3w,h4⟩:=hR _ _ _ h2 (EI (aFh (FT.2 ⟨i,bZ.2 hi,rfl⟩)) AQ)
  grind
 obtain⟨l,hlen,Y⟩:=aP3 len hex;subst hlen;refine⟨l,⟨AQ,λx hx=>?_⟩,EI (Nat.succ_le_succ (ajA l D λi hi=>(Y i hi).1.2)) hb0,?_⟩
 ·obtain⟨i,hi,rfl⟩:=G8 hx
  grind
 rcases Vb l.length with h0|hlp
 ·have :l=[]:=He h0;subst this;exact .one rfl rfl (.sl0 _ _)
 have q:∀i,(hi:i<l.length)->∀j,j<sz->∃u,w.cell? ((a.add (i*sz)).add j)=some u/\((O l[i]).cells.getD j EM).leaf=true/\EJ (λb=>b<w.heap.size) w ((O l[i]).cells.getD j EM) u:=by
  intro i hi j Z;obtain⟨-,I,h1,h2⟩:=Y i hi;obtain⟨-,h6,h5⟩:=World.cells?_some h1;have hcl:I.length=sz:=by rw[h2.1,hsz]
  have h7:=h5 j Z;rw[EO AQ]at h7;refine⟨_,h7,?_⟩;have h8:=h2.2 j (by rw[hsz];exact Z)
  grind
 have J:a.spot=none:=by
  obtain⟨u,h4, -⟩:=q 0 hlp 0 U;have e0:(a.add (0*sz)).add 0=a:=by simp[Addr.add]
  rw[e0]at h4;unfold World.cell? at h4;cases hsp:a.spot with
  |none=>
   rfl
  |some s=>
   rw[hsp]at h4;cases hh:w.heap[a.block]? with
   |none=>
    grind
   |some o=>
    grind
 have hblk:a.block<w.heap.size:=by
  obtain⟨u,h4, -⟩:=q 0 hlp 0 U;have e0:(a.add (0*sz)).add 0=a:=by simp[Addr.add]
  rw[e0]at h4;unfold World.cell? at h4
  grind
 obtain⟨b,o,s⟩:=a;simp only at J hblk;subst J;have z:(List.map O l).length=l.length:=Df _;have L:∀i,(hi:i<l.length)->(List.map O l).getD i EM=O l[i]:=λi hi=>OE
 have M:∀i j,((⟨b,o,none⟩:Addr).add (i*sz)).add j=⟨b,o+(i*sz+j),none⟩:=λi j=>by simp only[Addr.add];split<;>split<;>simp_all<;>omega
 refine .one rfl rfl ?_
 have :=EJ.sl (ok:=λb=>b<w.heap.size) (w:=w) (List.map O l) b o cap sz (by rw[z];exact hl) (λ_ _=>hblk) (λi hi=>by rw[z]at hi;rw[L i hi];exact hsz _)
  (λi hi j Z=>by rw[z]at hi;obtain⟨u,_,h2,_⟩:=q i hi j Z;rw[L i hi];exact h2)
  (λi hi j Z=>by rw[z]at hi;obtain⟨u,h1,_,_⟩:=q i hi j Z;rw[M]at h1;rw[h1];rfl)
  (λi hi j Z=>by rw[z]at hi;obtain⟨u,h1,_,h3⟩:=q i hi j Z;rw[M]at h1;rw[L i hi];unfold cellAt;rw[h1];exact h3)
 rw[z]at this;exact this
def JC {k:IntKind}(j:P.underlying t=some (.int k)):P6 N enc P w base spare held t (λn=>D.lit (.int k n)) (λn:Int=>k.min<=n/\n<=k.max) (λ_=>0):=λAz cs x h _=>by
 obtain⟨a,h1,h2⟩:=aYH j Az cs x h;exact⟨a,h1,UR _,h2⟩
def aId (j:P.underlying t=some .bool):P6 N enc P w base spare held t E9 (λ_=>True) (λ_=>0):=λAz cs x h _=>by
 obtain⟨a,h1,h2⟩:=aZe j Az cs x h;exact⟨a,h1,UR _,h2⟩
def S9 (q:P.underlying t=some .string):P6 N enc P w base spare held t DW (λs=>s.size<=N) (λs=>s.size):=by
 intro Az cs x h j;obtain⟨n,rfl,rfl,u⟩:=DataW.trod_string q h;have h1:Rows.uptoBulk (DataW.lit (H:=H) (.string n.data.toList))=n.data.toList.length+1:=by simp[Rows.uptoBulk]
 have h2:n.data.toList.length=n.size:=by rw[Ua];rfl
 have j:Rows.uptoBulk (DataW.lit (H:=H) (.string n.data.toList))<=N:=j;exact⟨n,AQ,by show n.size+1<=Rows.uptoBulk (DataW.lit (H:=H) (.string n.data.toList));omega,.one rfl rfl (.lit _)⟩
def FI {I:Bg Field}{Az:Nat}{cs:A8 BI}{x:DataW H×A8 MemPlace}(U:P.underlying t=some (.struct I))(h:DataW.trod enc P w base spare held Az t cs=some x)(M:Rows.uptoBulk x.1<=N)(i:Nat)(u o n:Nat)(J:(I[i]?).map (λf=>(f.type,f.offset,P.cellsOf f.type))=some (u,o,n)){L:α->Nat}(Y:P6 N enc P w base spare held u O V L):∃a:α,(V a/\L a+1<=partAt x.1 i)/\EF w (O a).cells ((cs.drop o).take n):=by
 obtain⟨xs,k, -,rfl, -,hlen,q⟩:=DataW.trod_struct U h;cases j:I[i]? with
 |none=>
  grind
 |some f=>
  rw[j]at J;simp only[JR,Kq,QD]at J;obtain⟨rfl,rfl,rfl⟩:=J;have h1:=q i f j;have hi:i<I.size:=(IK.1 j).1;have z:i<xs.length:=AQ
  rw[EO z]at h1;have h2:Rows.uptoBulk (DataW.agg (xs.map (·.1)))=Rows.uptoBulkAll (xs.map (·.1))+1:=by simp only[Rows.uptoBulk]
  have h3:=aFh (H:=H) (FT.2 ⟨xs[i],EZ _,rfl⟩:xs[i].1∈xs.map (·.1));have M:Rows.uptoBulk (DataW.agg (xs.map (·.1)))<=N:=M;obtain⟨a,Z,q2,q3⟩:=Y _ _ _ h1 AQ;refine⟨a,⟨Z,?_⟩,q3⟩;have :partAt (DataW.agg (xs.map (·.1))) i=Rows.uptoBulk xs[i].1:=by unfold partAt;simp[EO z]
  show L a+1<=partAt (DataW.agg (xs.map (·.1))) i;rw[this];exact q2
end
end Go.Proofs.YtfmoknlmaldmlaaGreat
