/- Part 8 of the laws' proofs (short forms by wip/shrink2.py). -/
import Derived.Test.YtfmoknlmaldmlaaGreatRk7
set_option linter.defProp false
set_option linter.unnecessarySimpa false
set_option linter.unusedSectionVars false
set_option linter.unusedVariables false
set_option linter.unusedSimpArgs false
namespace Go.Proofs.YtfmoknlmaldmlaaGreat
open Go.RowKit Go.Proofs.Tryz
def LW (x:Ed):JA:=⟨x.id,x.before,x.after,x.err⟩
def RU (t:A8 Ed)(x:Int):JA×AX:=match En t x with
 |some y=>(LW y,true)
 |none=>(WU,false)
def aVa (t:A8 Ed)(x:Int):(RU t x).1.After=Ig t x:=by unfold RU Ig;cases En t x<;>rfl
def aV4 (t:A8 Ed)(x:Int):(RU t x).1.Err=errOf t x:=by unfold RU errOf;cases En t x<;>rfl
def qP (t:A8 Ed)(x:Int)(O:t.length<=1000000):Yg (t.map LW) x=some (RU t x):=by
 unfold Yg aSi;have hm:(t.map LW).length=t.length:=Df ..;refine dL.eq (aB (body:=aHW (t.map LW) x) (Q:=(· =RU t x)) (λn a _=>∃i:Nat,a=i/\i+n=t.length/\∀j,(q:j<i)->(hl:j<t.length)->¬(t[j].id==x)=true) ?_ Ar t.length 0 _ (fuel_lt AL) ⟨0,rfl,AL,λj q=>AL⟩);rintro n a b k ⟨i,rfl,U,I⟩ J;unfold aHW;by_cases hi:i<t.length
 ·have u:i<(t.map LW).length:=AL
  rw[DI u,CY u,Ad,Px];show dL (bif t[i].id==x then some (LW t[i],true)else k _ b) _;cases L:t[i].id==x with
  |true=>
   have z:En t x=some t[i]:=by
    unfold En;rw[List.find?_eq_some_iff_getElem]
    grind
   exact .ret (by unfold RU;rw[z])
  |false=>
   refine J (n-1) _ _ AL ⟨i+1,wrap_succ i AL,AL,λj q hl=>?_⟩;by_cases e:j=i
   ·subst e;rw[L];simp
   exact I j AL hl
 have :i=t.length:=AL
 subst this;rw[←hm,Di]
 have z:En t x=none:=by
  unfold En;rw[aBH];intro y M;obtain⟨j,q,rfl⟩:=G8 M;exact I j q q
 exact .ret (by unfold RU;rw[z])
def aUa (t:A8 JA)(x:Int):a6Y t x=Yg t x:=rfl
def aaY (l:A8 AQ)(t:A8 Ed)(e:AQ)(s:A8 BL)(hl:l.length<=100)(hs:EX l)(j:FH e)(hsl:s.length<=100)(M:t.length<=1000):yT l (t.map LW) e s=some (MV l t e s):=by
 have h1:=j.auth;have h2:=wH l s
 have I:∀v,wY e (t.map LW) l s v=some (bif v != 0 then v else bif e.bJ.any (λx=>errOf t x != 0)then 16 else Lp e (MC l s)):=λv=>by
  unfold wY aTZ
  refine dL.eq (Jf e.bJ.length (fuel_lt AL) (λi a=>a=bif v != 0 then v else bif (e.bJ.take i).any (λx=>errOf t x != 0)then 16 else 0) (by cases q:v != 0 with
   |true=>
    rfl
   |false=>exact YF) (λi a k hi ha O=>?_) λa k ha=>?_)
  ·unfold aDl a5I;rw[DI hi,aUa,qP _ _ AL,Ad,aV4,wrap_succ i AL];have J:(bif a==0 then some (errOf t e.bJ[i] != 0)else some false)=some (a==0&&errOf t e.bJ[i] != 0):=by cases a==0<;>rfl
   rw[J,Ad]
   have u:∀b:Int,b=(bif a==0&&errOf t e.bJ[i] != 0 then 16 else a)->b=bif v != 0 then v else bif (e.bJ.take (i+1)).any (λx=>errOf t x != 0)then 16 else 0:=λb L=>by
    rw[y8 hi,L,ha]
    grind
   grind
  unfold aDl;rw[Di,BR,ha,Gy,afl l s hl AL,Ad,aDJ e (MC l s) AL (aFw hs _) j];cases q:v != 0 with
  |true=>
   simp only[Bl,q];exact .ret rfl
  |false=>
   cases e.bJ.any (λx=>errOf t x != 0)with
   |true=>
    exact .ret rfl
   |false=>
    exact .ret rfl
 unfold yT MV aT;rw[ail l e hl j,Ad,aNh l e AL AL,Ad,aDJ e _ (EK (a2t l e) AL) (hs.from e) j,Ad,I,I];have z:(SH l e != 0)= !(SH l e==0):=rfl;rw[z]
 grind
def aJF (l:A8 AQ):∀(ids:A8 Int) (t:A8 Ed),(ids.foldl (λt id=>t++[J8 l t (ev l id)]) t).length=t.length+ids.length
 | [],t=>rfl
 |x::ids,t=>by rw[Fv,aJF l ids,Ei,GK];simp;omega
variable {l:A8 AQ}
def aTi (h:JL l):Sub l=some ((DT l).map LW):=by
 have hl:=h.len;have hs:=h.small;have M:=a1e l;unfold Sub;rw[akb l AL,Ad];unfold DT;generalize He l=ids at M;unfold aRU;refine dL.eq (Jf ids.length (fuel_lt AL) (λi a=>a=(I4 l (ids.take i)).map LW) rfl (λi a k hi ha hk=>?_) λa k ha=>?_)
 ·have O:NR l (I4 l (ids.take i)):=xR hl hs _ _ λy hy=>absurd hy G7
  have U:(I4 l (ids.take i)).length<=100:=by
   have :=aJF l (ids.take i) [];unfold I4;rw[this,H6,Q7];omega
  have q:=a5r l hi;have he:=a0v hs ids[i];have Y:=he.prev;generalize I4 l (ids.take i)=t at ha O U q;subst ha;unfold aGA;rw[DI hi,N7 l _ AL,Ad];have I:(IK l ids[i]).1=ev l ids[i]:=rfl;unfold aTR;refine UQ (body:=aCR (IK l ids[i]) l k (i:Int)) (Q:=_) (λn a b c=>∃j:Nat,b=j/\j+n=(ev l ids[i]).bH.length/\c=t.map LW/\a=((ev l ids[i]).bH.take j).map (Ig t)) ?_ Ar (ev l ids[i]).bH.length [] 0 (t.map LW) (fuel_lt AL) ⟨0,rfl,AL,rfl,rfl⟩;rintro n a b c k2 ⟨j,rfl,hn,rfl,ha⟩ Z;unfold aCR;rw[I];by_cases hj:j<(ev l ids[i]).bH.length
  ·have hal:a.length<=j:=uj
   rw[DI hj,aUa,qP _ _ AL,Ad,aVa,Dy GR,Ad,wrap_succ j AL];exact Z (n-1) _ _ _ AL ⟨j+1,rfl,AL,rfl,by rw[map_take hj,ha]⟩
  have :j=(ev l ids[i]).bH.length:=AL
  subst this;rw[Gy]at ha;subst ha;rw[Di,BR];have hp:=O.stB hl hs Y;have J:=hp.length
  have hJ:dL (qy l (IK l ids[i]) k (i:Int) (t.map LW) ⟨(ev l ids[i]).Id,stB l t (ev l ids[i]),[],0⟩) (λx=>x=(I4 l ids).map LW):=by
   unfold qy;rw[I];show dL ((yT l (t.map LW) (ev l ids[i]) (stB l t (ev l ids[i]))).bind _) _;rw[aaY l t (ev l ids[i]) _ hl hs he AL AL,Ad];have u:J8 l t (ev l ids[i])=Zd (ev l ids[i]) (stB l t (ev l ids[i])) (MV l t (ev l ids[i]) (stB l t (ev l ids[i]))):=rfl;rw[u]at q;generalize MV l t (ev l ids[i]) (stB l t (ev l ids[i]))=r at q;generalize stB l t (ev l ids[i])=s at q J
   have L:∀y:Ed,y=Zd (ev l ids[i]) s r->dL (xw k (i:Int) (t.map LW) (LW y)) (λx=>x=(I4 l ids).map LW):=λy hy=>by
    unfold xw;rw[Dy (by simp only[Oe,Df];omega),Ad,wrap_succ i AL]
    grind
   show dL ((bif r==0 then(Uw (ev l ids[i]).Kind).bind λz=>some z else some false).bind _) _;rw[aBZ,show(bif r==0 then(some (Ic (ev l ids[i]).Kind)).bind λz=>some z else some false)=some (r==0&&Ic (ev l ids[i]).Kind) by cases r==0<;>rfl,Ad];cases hc:(r==0&&Ic (ev l ids[i]).Kind)with
   |true=>
    rw[Bl];show dL ((gY s (ev l ids[i]).Kind (ev l ids[i]).Key (ev l ids[i]).Id).bind _) _;rw[aDt _ _ _ _ AL,Ad];exact L ⟨(ev l ids[i]).Id,s,Gh s (ev l ids[i]).Kind (ev l ids[i]).Key (ev l ids[i]).Id,r⟩ (by unfold Zd;rw[hc];rfl)
   |false=>
    rw[BR];exact L ⟨(ev l ids[i]).Id,s,s,r⟩ (by unfold Zd;rw[hc];rfl)
  by_cases hz:(ev l ids[i]).bH=[]
  ·have hst:stB l t (ev l ids[i])=[]:=by unfold stB;rw[hz];rfl
   grind
  have hpos:0<(ev l ids[i]).bH.length:=lN.2 hz;rw[KL ZL,Bl,aMr (O.okay hl hs _ AL),Ad];exact hJ
 unfold aGA;rw[Di];exact .ret Yr
def aNv (l:A8 AQ)(t:A8 Ed)(hl:l.length<=1000)(I:t.length<=1000):aAH l (t.map LW)=some (Gn l t):=by
 unfold aAH aVn;refine dL.eq (Jf l.length (fuel_lt AL) (λi a=>a=Gn (l.take i) t) rfl (λi a k hi ha q=>?_) λa k ha=>?_)
 ·have z:a.length<=i:=aUf
  unfold aFj a2y;have j:(bif (RU t l[i].Id).2 then some ((RU t l[i].Id).1.Err==0)else some false)=some (Fg t l[i].Id):=by unfold RU Fg;cases En t l[i].Id<;>rfl
  rw[DI hi,qP _ _ AL,Ad,j,Ad,wrap_succ i AL];cases u:Fg t l[i].Id with
  |true=>
   rw[Bl,CY hi,Ad,Dy GR,Ad];exact q _ (by rw[aAu hi,u,ha];rfl)
  |false=>exact q _ (by rw[aAu hi,u,ha];simp)
 unfold aFj;rw[Di];exact .ret Yr
def aYd (l:A8 AQ)(t:A8 Ed)(hl:l.length<=100)(hs:EX l)(q:NR l t)(j:t.length<=1000):a2Z l (t.map LW)=some (NZ l t):=by
 have ha:=aO l t;have u:=yP l (Gn l t);unfold a2Z zM NZ;rw[aNv l t AL j,Ad,aVR l _ AL hs AL,Ad,Ad];generalize JX l (Gn l t)=H at u;unfold aS5;refine dL.eq (Jf H.length (fuel_lt AL) (λi a=>a=(H.take i).map (Ig t)) rfl (λi a k hi ha z=>?_) λa k ha=>?_)
 ·have I:a.length<=i:=uj
  unfold aDQ;rw[DI hi,qP _ _ AL,Ad,aVa,Dy GR,Ad,wrap_succ i AL];exact z _ a7j
 rw[Gy]at ha;unfold aDQ;rw[Di,BR,ha,aMr (q.okay hl hs _ AL),Ad];cases H with
 |nil=>exact .ret rfl
 |cons x H=>exact .ret rfl
variable {c:Int}
def aIP (u:Kr l=some c)(h:c=0->JL l):nV l=some ((OW l c).map LW)/\NR l (OW l c)/\(OW l c).length<=l.length:=by
 unfold nV aJs OW;rw[u,Ad];cases z:c==0 with
 |false=>exact⟨rfl,λy q=>absurd q G7,F7 _⟩
 |true=>
  have j:=h (eq_of_beq z);have hlen:(DT l).length=l.length:=by rw[←a1e l];have :=aJF l (He l) [];simpa[DT,I4]using this
  rw[Bl,aVt l j.len j.small j.dep,Ad,Ad,Ad,GX];cases hd:HY l==0 with
  |false=>exact⟨rfl,λy q=>absurd q G7,F7 _⟩
  |true=>
   rw[FU,BR,aTi j,Ad,Bl];exact⟨rfl,a2N j,QJ hlen⟩
def amh (j:Kr l=some c)(h:c=0->JL l)(hl:l.length<=100)(hs:EX l):a6x l=some (NZ l (OW l c)):=by
 obtain⟨h1,h2,h3⟩:=aIP j h;unfold a6x;rw[h1,Ad,aYd l _ hl hs h2 AL];rfl
def a6N (t:A8 Ed)(x:Int):A8 BL×Int:=match En t x with
 |some y=>(y.before,bif y.err != 0 then 2 else 4)
 |none=>([],0)
def gq (t:A8 Ed)(x:Int):Int:=match En t x with
 |some y=>y.err
 |none=>5
def Ua (l:A8 AQ)(t:A8 Ed):A8 Int:=l.filterMap λe=>(En t e.Id).map λy=>bif y.err != 0 then 2 else 4
variable {i:Nat}
section
variable {l:A8 AQ} {c:Int}
def abH (q:Mc l=some c)(h:c=0->JL l)(id:Int):nE l id=some (a6N (OW l c) id):=by
 unfold nE;refine dL.eq ((run_eq l q h).bind λo u=>?_);rcases u with⟨h1,rfl⟩|⟨h1,_,T,rfl,j⟩
 ·rw[h1];exact .ret rfl
 rw[h1];simp only[YE];unfold vZ rM a6N;rw[j.r,j.b];cases En (DT l) id with
 |none=>exact .ret rfl
 |some y=>
  show dL ((bif y.err != 0 then some 2 else some 4).bind λz=>some (y.before,z)) (λr=>r=(y.before,bif y.err != 0 then 2 else 4));cases y.err != 0<;>exact .ret rfl
def ag3 (j:Mc l=some c)(h:c=0->JL l)(id:Int):dw l id=some (gq (OW l c) id):=by
 unfold dw;refine dL.eq ((run_eq l j h).bind λo q=>?_);rcases q with⟨h1,rfl⟩|⟨h1,_,T,rfl,u⟩
 ·rw[h1];exact .ret rfl
 rw[h1];simp only[YE];unfold vZ gq;rw[u.r];cases En (DT l) id<;>exact .ret rfl
def alh (q:Mc l=some c)(h:c=0->JL l):a6j l=some (Gn l (OW l c)):=by
 unfold a6j;refine dL.eq ((run_eq l q h).bind λo j=>?_);rcases j with⟨h1,rfl⟩|⟨h1,j,T,rfl,u⟩
 ·rw[h1,aVK];exact .ret rfl
 rw[h1];show dL ((cO T.1 T.2.1 T.2.2 l).bind _) _;rw[aME u j.len];exact .ret rfl
def aZa (t:A8 Ed)(h:i<l.length):Ua (l.take (i+1)) t=Ua (l.take i) t++((En t l[i].Id).map λy=>bif y.err != 0 then 2 else 4).toList:=by
 unfold Ua;rw[Nv h,fQ];congr 1
def abz (l:A8 AQ)(t:A8 Ed):(Ua l t).length<=l.length:=List.length_filterMap_le ..
def aXe (u:Mc l=some c)(h:c=0->JL l):vk l=some (Ua l (OW l c)):=by
 unfold vk;refine dL.eq ((run_eq l u h).bind λo j=>?_);rcases j with⟨h1,rfl⟩|⟨h1,j,T,rfl,z⟩
 ·rw[h1];exact .ret (show[]=Ua l []from(List.filterMap_eq_nil_iff.2 λ_ _=>rfl).symm)
 rw[h1];have hl:=j.len;show dL (aFk l [] 0 T.1 T.2.1 T.2.2) _;unfold aFk;refine a6v (body:=aFh l) (Q:=(· =Ua l (DT l))) (λn a b c d e=>∃i:Nat,b=i/\i+n=l.length/\a=Ua (l.take i) (DT l)/\c=T.1/\d=T.2.1/\e=T.2.2) ?_ Ar l.length [] 0 _ _ _ (fuel_lt AL) ⟨0,rfl,AL,rfl,rfl,rfl,rfl⟩;rintro n a b c d e k ⟨i,rfl,M,ha,rfl,rfl,rfl⟩ I;unfold aFh;by_cases hi:i<l.length
 ·have J:a.length<=i:=by rw[ha];exact EK (abz _ _) cZ
  obtain⟨y,q⟩:=rQ (IU.2 (Ez.2 ⟨_,EY hi,rfl⟩));unfold rM;rw[DI hi,z.err];have L:errOf (DT l) l[i].Id=y.err:=by unfold errOf;rw[q];rfl
  rw[L,show(bif y.err != 0 then some 2 else some 4)=some (bif y.err != 0 then(2:Int)else 4) by cases y.err != 0<;>rfl,Ad,Dy GR,Ad,wrap_succ i AL];exact I (n-1) _ _ _ _ _ AL ⟨i+1,rfl,AL,by rw[aZa _ hi,q,ha];rfl,rfl,rfl,rfl⟩
 have :i=l.length:=AL
 subst this;rw[EM];exact .ret Yr
end
def Vs (hd:HY l=0):OW l 0=DT l:=by unfold OW;rw[hd];rfl
def Qz (l:A8 AQ)(e:AQ):Nat:=l.findIdx λx=> !decide (x.Id<e.Id)
def E8 (l:A8 AQ)(e:AQ):A8 AQ:=l.take (Qz l e)++e::l.drop (Qz l e)
def mW (e x:AQ):AX:= !(x.Room.toList==e.Room.toList)
def aiE (l:A8 AQ)(e:AQ):Qz l e<=l.length:=a15
def Pn (l:A8 AQ)(e:AQ):(E8 l e).length=l.length+1:=by
 have :=aiE l e;unfold E8;rw[Ei,GK,H6,Ld];omega
variable {e:AQ}
def OO {x:AQ}:x∈E8 l e↔x=e\/x∈l:=by
 unfold E8;rw[I8,FP];constructor
 ·rintro(h|h|h)
  ·exact .inr (YU h)
  ·exact .inl h
  exact .inr (aCn h)
 rintro(h|h)
 ·exact .inr (.inl h)
 rw[←UU (Qz l e) l]at h;rcases I8.1 h with h|h
 ·exact .inl h
 exact .inr (.inr h)
section
variable {l:A8 AQ} {e:AQ} (hl:l.length <= 1000)
include hl
theorem aQh :WY l e=bif l.any (mW e)then some ([],13)else(bif bU l e.Id then(TB e).bind λq=>(bif q then(Aq l ((l.findIdx λx=>x.Id==e.Id:Nat):Int)).bind λI=>(TB I).bind λJ=>some (!J)else some false).bind λj=>some ((bif j then l.set (l.findIdx λx=>x.Id==e.Id) e else l),0)else some (E8 l e,0)):=by
 have u:a03 l=some l:=by
  unfold a03;rw[Dy SG];rfl
 have z:nZ l e.Id=some (if l.findIdx (λx=>x.Id==e.Id)<l.length then((l.findIdx (λx=>x.Id==e.Id):Nat):Int)else -1):=by
  unfold nZ xI;rw[a1Q l AL _ (λx=>x.Id==e.Id) λ_=>rfl];rfl
 have L:aIO l l e 0=some (E8 l e,0):=by
  have U:∀i:Nat,i<=l.length->(a6U l (i:Int) [e]).bind (λO=>some (O,(0:Int)))=some (l.take i++e::l.drop i,0):=λi hi=>by
   have h1:a5n l (i:Int) [e]=some (l.take i++e::l.drop i):=by
    show(if(0<=(i:Int)/\(i:Int)<=(l.length:Int))/\l.length<=34359738368 then some (l.take (i:Int).toNat++e::l.drop (i:Int).toNat)else none)=_;rw[Ea ⟨⟨AL,AL⟩,AL⟩,XI]
   unfold a6U;rw[h1];rfl
  unfold aIO;rw[KC l (fuel_lt AL) (λx=> !decide (x.Id<e.Id)) (λi=>some (l.take i++e::l.drop i,(0:Int))) (some (l.take l.length++e::l.drop l.length,0))]
  ·unfold E8 Qz;split
   ·rfl
   rename_i Y;have :=a15 (xs:=l) (p:=λx=> !decide (x.Id<e.Id));rw[show l.findIdx (λx=> !decide (x.Id<e.Id))=l.length by omega]
  ·intro k i h;unfold aIj uG;rw[DI h,U i AL];cases decide (l[i].Id<e.Id)<;>rfl
  intro k;unfold aIj uG;rw[Di,BR,BR,U l.length (Eb _)]
 unfold WY aTd;rw[Hq l (fuel_lt AL) (mW e) ([],13) (bif bU l e.Id then(TB e).bind λq=>(bif q then(Aq l ((l.findIdx λx=>x.Id==e.Id:Nat):Int)).bind λI=>(TB I).bind λJ=>some (!J)else some false).bind λj=>some ((bif j then l.set (l.findIdx λx=>x.Id==e.Id) e else l),0)else some (E8 l e,0))]
 ·intro k i h;unfold aGK;rw[DI h];rfl
 intro k;unfold aGK;rw[Di,BR,z,Ad,u,Ad,L]
 have M:bU l e.Id=decide (l.findIdx (λx=>x.Id==e.Id)<l.length):=by
  unfold bU Ef;rw[Ox,List.find?_isSome,Iz,dM]
 rw[M];by_cases h:l.findIdx (λx=>x.Id==e.Id)<l.length
 ·rw[Ea h,KL h,IC (show ¬(((l.findIdx (λx=>x.Id==e.Id):Nat):Int)<0) by omega),KL (show((l.findIdx (λx=>x.Id==e.Id):Nat):Int)>=0 by omega)];simp only[BR,Bl,Ad];unfold a2P;congr 1;funext q;congr 1;funext j;cases j with
  |true=>rw[Bl,CY h,XI];rfl
  |false=>rfl
 rw[Eh h,IC h,KL (show(-1:Int)<0 by omega),IC (show ¬((-1:Int)>=0) by omega),IC (show ¬((l.length:Int)>=2000) by omega)];rfl
end
variable {α:Type}
def a4v {p:α->α->AX}(hp:∀x y,p x y=true->x=y){a b:A8 α}(h:ND p a b=true):a=b:=by
 unfold ND at h;rw[Dj]at h;have hlen:a.length=b.length:=by have :=eq_of_beq h.1;omega
 have j:((a.zip b).any λx=> !p x.1 x.2)=false:=by simpa using h.2
 refine XM hlen λi h1 h2=>?_
 have :=Z9.1 j (a[i],b[i]) (by
  have q:i<(a.zip b).length:=Ej
  have :=EY q
  rwa [aFF]at this)
 exact hp _ _ a5p
def ai0 {a b:Cx}(h:lT a b=true):a=b:=by
 unfold lT a0k at h;simp only[Dj,MZ]at h;obtain⟨h1,h2,⟨⟨⟨⟨⟨⟨j,q⟩,u⟩,z⟩,I⟩,J⟩,L⟩⟩:=h
 have M:=a4v (p:=VL) (λx y h=>by
  unfold VL at h;rw[Dj]at h;cases x;cases y;simp only at h
  rw[toList_inj (eq_of_beq h.1),eq_of_beq h.2]) h1
 have O:=a4v (p:=TL) (λx y h=>by
  unfold TL at h;rw[Dj]at h;cases x;cases y;simp only at h
  rw[eq_of_beq h.1,eq_of_beq h.2]) h2
 cases a;cases b;simp only at *;subst M O j q u z I J L;rfl
variable {a:AQ}
def alX {b:AQ}(ha:QT (SE a).Content)(hp:a.bH.length<=1000)(M:a.bJ.length<=1000):∃r,fP (SE a) (SE b)=some r/\(r=true->a.Id=b.Id/\H7 a b):=by
 unfold fP;rw[a8f _ _ (show(SE a).bH.length<=_ from EK hp AL),a8f _ _ (show(SE a).bJ.length<=_ from EK M AL),aG3 _ ha];simp only[Lr,Ad,SV];refine⟨_,rfl,λh=>?_⟩;simp only[Dj,MZ]at h;obtain⟨⟨⟨⟨⟨⟨⟨⟨⟨⟨⟨⟨⟨h1,h2⟩,h3⟩,z⟩,h5⟩,O⟩,U⟩,Y⟩,J⟩,j⟩,q⟩,Z⟩,h13⟩,h14⟩:=h;have z:a.Kind=b.Kind:=z;have J:a.bH=b.bH:=by unfold je at J;exact P7 J
 have j:a.bJ=b.bJ:=by unfold je at j;exact P7 j
 unfold a0M at q;simp only[Dj,MZ]at q;have L:(Oa a.Kind a.Content).N=(Oa b.Kind b.Content).N:=q.1.1.1.1.1.1.2;have I:(Oa a.Kind a.Content).Levels=(Oa b.Kind b.Content).Levels:=ai0 q.2;refine⟨h1,h1.symm,toList_inj h2.symm,toList_inj h3.symm,z.symm,toList_inj O.symm,U.symm,Y.symm,J.symm,j.symm,λu=>?_,λu=>?_⟩
 ·rw[←z]at L;rcases u with u|u<;>rw[u]at L<;>exact L.symm
 rw[←z,u]at I;exact I.symm
variable {k:A8 AQ}
def aZt (u:(l.map (·.Id)).Nodup)(J:(k.map (·.Id)).Nodup)(hd:HY l=0)(hs:∀e∈l,∃f∈k,f.Id=e.Id/\H7 e f):Hl l k (l.map (·.Id)):=by
 have q:∀x∈l.map (·.Id),ev l x∈l:=λx j=>JM (Ib (IU.2 j)).1;refine⟨u,λx j=>?_,λx j a ha=>IU.1 ((gG hd (q x j)).2 a ha).1,λx j a ha=>IU.1 ((gG hd (q x j)).1 a ha).1⟩;obtain⟨e,z,rfl⟩:=Ez.1 j;obtain⟨f,I,h1,h2⟩:=hs e z;have L:ev l e.Id=e:=dV u z;have M:ev k e.Id=f:=by rw[←h1];exact dV J I
 rw[L,M];exact⟨IU.2 j,IU.2 (Ez.2 ⟨f,I,h1⟩),h2⟩
def aK7 (x:AQ):XJ x=some (SE x):=by unfold XJ;rw[aEA];rfl
variable {x:Int}
section
set_option maxHeartbeats 1000000
def agw {ids:A8 Int}:x∈JX l ids↔x∈ids/\∀y∈ids,JG l x y=false:=by
 unfold JX;rw[Gx,Kw,V9,Z9];exact⟨λ⟨a,b⟩=>⟨a,λy j=>by simpa using b y j⟩,λ⟨a,b⟩=>⟨a,λy j=>by simp[b y j]⟩⟩
end
variable {y:AQ}
section
set_option maxHeartbeats 1000000
def aC8 {R:Type}{body:(Int->AB R)->Int->AB R}(s n:Nat)(z:n<=1000)(hs:s<=n)(rest:AB R)(j:∀k (i:Nat),s<=i->i<n->body k (i:Int)=k ((i+1:Nat):Int))(q:∀k,body k (n:Int)=rest):bC body Ar (s:Int)=rest:=by
 have key:∀d (i:Nat),i+d=n->s<=i->∀m,d<m->bC body m (i:Int)=rest:=by
  intro d
  induction d with
  |zero=>
   intro i hi _ m hm;obtain⟨m,rfl⟩:∃k,m=k+1:=⟨m-1,AL⟩
   rw[show i=n by omega];exact q _
  |succ d u=>
   intro i hi h1 m hm;obtain⟨m,rfl⟩:∃k,m=k+1:=⟨m-1,AL⟩
   exact(j (bC body m) i h1 AL).trans (u (i+1) AL AL m AL)
 exact key (n-s) s AL (Eb _) Ar (fuel_lt AL)
def aO8 (I:∀x∈k,Ko x=some 0)(J:∀x∈k,∀y∈k,x.Room=y.Room)(hi:Inc (k.map (·.Id)))(hl:k.length<=100)(q:0<k.length):Kr k=some 0:=by
 unfold Kr;rw[IC (show ¬(k.length:Int)>2000 by omega),BR];unfold a3L;refine aC8 0 k.length AL AL _ (λf i _ h=>?_) λf=>?_
 ·unfold jq;rw[DI h,I _ (EY h),Ad,Y6,BR,wrap_succ i AL]
 unfold jq;rw[Di,BR];unfold aAi;refine aC8 1 k.length AL AL _ (λf i _ h=>?_) λf=>?_
 ·have z:Aq k 0=some k[0]:=CY q;unfold a0X;rw[DI h,z,Ad,J _ (EY h) _ (EY q),wrap_succ i AL];simp
 unfold a0X;rw[Di,BR];unfold a4Q;refine aC8 1 k.length AL AL _ (λf i h1 h=>?_) λf=>?_
 ·obtain⟨j,rfl⟩:∃j,i=j+1:=⟨i-1,AL⟩
  have L:Aw (((j+1:Nat):Int)-1)=(j:Int):=by rw[show((j+1:Nat):Int)-1=(j:Int) by omega];exact OY AL AL
  have u:j<k.length:=AL
  have M:k[j].Id<k[j+1].Id:=by
   have :=J9.1 hi j (j+1) (by rw[Df];exact u) (by rw[Df];exact h) AL
   grind
  unfold vF;rw[dec_lt h,Bl,L,CY u,CY h];simp only[Ad];rw[IC (show ¬(k[j].Id>=k[j+1].Id) by omega),BR,wrap_succ (j+1) AL]
 unfold vF
 grind
def a2R (j:∀e∈k,FH e)(hl:k.length<=100)(h:Kr k=some 0):Mc k=some 0:=by
 obtain⟨c,u,z,_⟩:=aO4 (λe q=>(j e q).wide) hl
 grind
def aQR (j:(l.map (·.Id)).Nodup):Ef l x=some y↔y∈l/\y.Id=x:=by
 refine⟨λh=>⟨JM h,a1v h⟩,λ⟨h1,h2⟩=>?_⟩;have h3:=(Ib (IU.2 (Ez.2 ⟨y,h1,rfl⟩))).1;rw[dV j h1,h2]at h3;exact h3
def aUJ (hi:Inc (l.map (·.Id)))(J:e.Id∉l.map (·.Id)):Inc ((E8 l e).map (·.Id)):=by
 have hp:l.Pairwise λa b=>a.Id<b.Id:=Zn.1 hi;have L:∀x∈l,x.Id≠e.Id:=λx q h=>J (Ez.2 ⟨x,q,h⟩)
 have h1:∀x∈l.take (Qz l e),x.Id<e.Id:=λx q=>by
  obtain⟨j,u,rfl⟩:=G8 q;rw[H6]at u;rw[gZ];have :=aLM (p:=λx:AQ=> !decide (x.Id<e.Id)) (xs:=l) (i:=j) (by unfold Qz at u;omega);simpa using this
 have h2:∀x∈l.drop (Qz l e),e.Id<x.Id:=λx q=>by
  obtain⟨j,u,rfl⟩:=G8 q;rw[Ld]at u;rw[aEr];have z:Qz l e<l.length:=AL
  have O:¬(l[Qz l e].Id<e.Id):=by
   show ¬(l[l.findIdx λx=> !decide (x.Id<e.Id)].Id<e.Id)
   grind
  have M:l[Qz l e].Id<=l[Qz l e+j].Id:=by
   rcases Ux j with rfl|I
   ·exact a1p _
   exact Int.le_of_lt (J9.1 hp _ _ z AL AL)
  grind
 unfold Inc;rw[Zn];unfold E8;rw[Yt,QB]
 grind
end
variable {r:C9}{w:A8 AQ}{z:Int}
section
set_option maxHeartbeats 1000000
structure LJ (l:List AQ) (e:AQ):Prop where
 facts:MX l
 len:l.length<=50
 deep:HY l=0
 ver:∀x∈l,Ko x=some 0
 fresh:bU l e.Id=false
 good:Ko e=some 0
 small:FH e
 room:∀x∈l,x.Room=e.Room
def aJ1 (hs:FH e)(h:Ko e=some 0):gI e:=by
 obtain⟨c,j,q,u⟩:=a3N hs.wide
 grind
section
variable {l:A8 AQ} {e:AQ} (h:LJ l e)
include h
theorem LJ.ok:JL l:=h.facts.ok aKs
theorem LJ.aMg:gI e:=aJ1 h.small h.good
theorem LJ.aLp:e.Id∉l.map (·.Id):=λhm=>by have :=IU.2 hm;rw[h.fresh]at this;cases this
theorem LJ.aqZ:MX (E8 l e):=by
 refine⟨λx j=>?_,λx j y J=>?_,aUJ h.facts.inc h.aLp⟩
 ·rcases OO.1 j with rfl|j
  ·exact⟨h.aMg,h.small⟩
  exact h.facts.ev x j
 rcases OO.1 j with z|q<;>rcases OO.1 J with I|u
 ·rw[z,I]
 ·rw[z];exact(h.room y u).symm
 ·rw[I];exact h.room x q
 exact h.facts.room x q y u
theorem LJ.len':(E8 l e).length<=51:=by have :=h.len;rw[Pn];omega
theorem LJ.ok':JL (E8 l e):=h.aqZ.ok aJf
theorem LJ.aMh:∀x∈E8 l e,Ko x=some 0:=λx j=>by
 rcases OO.1 j with rfl|j
 ·exact h.good
 exact h.ver x j
theorem LJ.ref':Kr (E8 l e)=some 0:=aO8 h.aMh h.aqZ.room h.aqZ.inc aJf (by rw[Pn];omega)
theorem LJ.prog':Mc (E8 l e)=some 0:=a2R h.ok'.small aJf h.ref'
theorem LJ.get {x:Int}(j:bU l x=true):Ef (E8 l e) x=Ef l x:=by
 have h1:=(Ib j).1;rw[h1];exact(aQR h.ok'.nodup).2 ⟨OO.2 (.inr (JM h1)),a1v h1⟩
theorem LJ.aJ6 {x:Int}(j:bU l x=true):bU (E8 l e) x=true:=by unfold bU;rw[h.get j];exact j
theorem LJ.ev' {x:Int}(j:bU l x=true):ev (E8 l e) x=ev l x:=by unfold ev IK;rw[h.get j]
theorem LJ.self:Ef (E8 l e) e.Id=some e:=(aQR h.ok'.nodup).2 ⟨OO.2 (.inl rfl),rfl⟩
theorem LJ.aJ7:ev (E8 l e) e.Id=e:=dV h.ok'.nodup (OO.2 (.inl rfl))
theorem LJ.asA:bU (E8 l e) e.Id=true:=by unfold bU;rw[h.self];rfl
theorem LJ.aIv {x:Int}:bU (E8 l e) x=true↔x=e.Id\/bU l x=true:=by
 constructor
 ·intro j;obtain⟨y,q,rfl⟩:=Ez.1 (IU.1 j);rcases OO.1 q with rfl|q
  ·exact .inl rfl
  exact .inr (IU.2 (Ez.2 ⟨y,q,rfl⟩))
 rintro(rfl|j)
 ·exact h.asA
 exact h.aJ6 j
variable (hd:HY (E8 l e) = 0)
include hd
theorem LJ.agr:Hl l (E8 l e) (l.map (·.Id)):=aZt h.ok.nodup h.ok'.nodup h.deep λx j=>⟨x,OO.2 (.inr j),rfl,.refl x⟩
theorem LJ.lines {x:Int}(j:bU l x=true):En (DT (E8 l e)) x=En (DT l) x:=(aHn (h.agr hd) h.ok h.deep h.ok' hd x (IU.1 j)).1
theorem LJ.aG5 {x:Int}(j:bU l x=true):Fg (DT (E8 l e)) x=Fg (DT l) x:=by unfold Fg;rw[h.lines hd j]
omit hd
end
def N9 (l:A8 AQ)(e:AQ):AX:=e.Kind==1&&Fg (DT l) e.Id
def IX (l:A8 AQ):Nat:=(l.filter (N9 l)).length
def aiS (l:A8 AQ)(e:AQ)(p:AQ->AX):((E8 l e).filter p).length=(l.filter p).length+(bif p e then 1 else 0):=by
 have j:(l.filter p).length=((l.take (Qz l e)).filter p).length+((l.drop (Qz l e)).filter p).length:=by
  rw[←Ei,←Qy,UU]
 unfold E8
 grind
def LJ.made (h:LJ l e)(hd:HY (E8 l e)=0):IX (E8 l e)=IX l+(bif N9 (E8 l e) e then 1 else 0):=by
 unfold IX;rw[aiS];congr 2;refine Zp λx j=>?_;unfold N9;rw[h.aG5 hd (IU.2 (Ez.2 ⟨x,j,rfl⟩))]
structure GI (r:C9):Prop where
 id:SS r.Id=0
 set:Kr r.Events=some 0
 facts:MX r.Events
 own:∀x∈r.Events,x.Room=r.Id
 deep:HY r.Events=0
 RY:r.Rows.length=r.Events.length
 next:r.Next=(r.Rows.length:Int)
 one:IX r.Events<=1
 pos:∀i (h:i<r.Rows.length),r.Rows[i].Pos=(i:Int)
 nodup:(r.Rows.map (·.Id)).Nodup
 known:∀x∈r.Rows,bU r.Events x.Id=true
 refs:∀i (h:i<r.Rows.length),∀z,z∈(ev r.Events r.Rows[i].Id).bH\/z∈(ev r.Events r.Rows[i].Id).bJ->∃j,∃hj:j<r.Rows.length,j<i/\r.Rows[j].Id=z
 stat:∀x∈r.Rows,(x.Status=2↔Fg (DT r.Events) x.Id=false)/\(x.Status=2\/x.Status=3\/x.Status=4)
 afZ:Kr r.Waiting=some 0
 wQ:MX r.Waiting
 U7:∀x∈r.Waiting,x.Room=r.Id
 WE:∀x∈r.Waiting,bU r.Events x.Id=false
 ao6:r.Waiting.length<=200
 heads:r.vY=JX r.Events (Gn r.Events (DT r.Events))
 state:r.State=NZ r.Events (DT r.Events)
def Vj (r:C9):Prop:=∀x∈r.Waiting,Gl r.Events x=false
def Sl (r:C9)(e:AQ):Int:=bif Fg (DT (E8 r.Events e)) e.Id then(bif Lp e (MC r.Events r.State)==0 then 4 else 3)else 2
def OH (r:C9)(e:AQ):FZ:={ KW with Pos:=r.Next,Id:=e.Id,Status:=Sl r e }
def Qa (r:C9)(e:AQ):C9:=
 { r with Rows:=r.Rows++[OH r e],Next:=r.Next+1,Events:=E8 r.Events e,vY:=JX (E8 r.Events e) (Gn (E8 r.Events e) (DT (E8 r.Events e))),State:=NZ (E8 r.Events e) (DT (E8 r.Events e)) }
def Io (r:C9)(e:AQ):C9×Int:=
 bif HY (E8 r.Events e) != 0 then(r,15)else bif decide (0<IX r.Events)&&N9 (E8 r.Events e) e then(r,17)else(Qa r e,0)
def GI.ver (h:GI r)(hl:r.Events.length<=50):∀x∈r.Events,Ko x=some 0:=pz h.set AL
def GI.aGr (h:GI r)(hl:r.Events.length<=50)(j:Ko e=some 0)(hs:FH e)(q:e.Room=r.Id)(u:bU r.Events e.Id=false):LJ r.Events e:=
 ⟨h.facts,hl,h.deep,h.ver hl,u,j,hs,λx z=>by rw[h.own x z,q]⟩
def aip (h:Gl l e=true)(j:z∈e.bH\/z∈e.bJ):bU l z=true:=by
 unfold Gl at h
 grind
def GI.rowOf (h:GI r)(L:bU r.Events z=true):∃j,∃J:j<r.Rows.length,r.Rows[j].Id=z:=by
 have O:=TK h.facts.inc
 have h1:∀x∈r.Rows.map (·.Id),x∈r.Events.map (·.Id):=λx q=>by
  obtain⟨y,I,rfl⟩:=Ez.1 q;exact IU.1 (h.known y I)
 have u:z∈r.Rows.map (·.Id):=by
  refine lY λM=>?_
  have :=pF (a:=z::r.Rows.map (·.Id)) (b:=r.Events.map (·.Id)) (KN.2 ⟨M,h.nodup⟩) λx q=>by
   rcases FP.1 q with rfl|q
   ·exact IU.1 L
   exact h1 x q
  rw[GK,Df,Df,h.RY]at this;omega
 obtain⟨y,I,e⟩:=Ez.1 u;obtain⟨j,J,rfl⟩:=G8 I;exact⟨j,J,e⟩
def GI.more (h:GI r)(hl:r.Events.length<=50)(hv:Ko e=some 0)(hs:FH e)(hr:e.Room=r.Id)(hf:bU r.Events e.Id=false)(hw:∀x∈r.Waiting,x.Id≠e.Id)(hrd:Gl r.Events e=true)(hd:HY (E8 r.Events e)=0)(hc:(decide (0<IX r.Events)&&N9 (E8 r.Events e) e)=false):GI (Qa r e):=by
 have ha:=h.aGr hl hv hs hr hf;have Z:∀x∈r.Rows,x.Id≠e.Id:=λx u I=>by have :=h.known x u;rw[I,hf]at this;cases this
 have hlt:∀i (hi:i<(r.Rows++[OH r e]).length),(∃J:i<r.Rows.length,(r.Rows++[OH r e])[i]=r.Rows[i])\/(i=r.Rows.length/\(r.Rows++[OH r e])[i]=OH r e):=λi hi=>by
  by_cases I:i<r.Rows.length
  ·exact .inl ⟨I,a2z I⟩
  rw[Ei,Oe]at hi;have :i=r.Rows.length:=AL
  subst this;exact .inr ⟨rfl,Bf⟩
 refine⟨h.id,ha.ref',ha.aqZ,λx u=>?_,hd,?_,?_,?_,λi hi=>?_,?_,λx u=>?_,λi hi z M=>?_,λx u=>?_,h.afZ,h.wQ,h.U7,λx u=>?_,h.ao6,rfl,rfl⟩
 ·rcases OO.1 u with rfl|u
  ·exact hr
  exact h.own x u
 ·show(r.Rows++[OH r e]).length=(E8 r.Events e).length;rw[Ei,Oe,Pn,h.RY]
 ·show r.Next+1=((r.Rows++[OH r e]).length:Int);rw[Ei,Oe,h.next];omega
 ·show IX (E8 r.Events e)<=1;rw[ha.made hd];have :=h.one;cases I:N9 (E8 r.Events e) e with
  |false=>rw[BR];omega
  |true=>
   rw[I,Ny,jw]at hc;rw[Bl];omega
 ·rcases hlt i hi with⟨J,O⟩|⟨e0,O⟩
  ·show(r.Rows++[OH r e])[i].Pos=_;rw[O];exact h.pos i J
  show(r.Rows++[OH r e])[i].Pos=_;rw[O,e0];exact h.next
 ·show((r.Rows++[OH r e]).map (·.Id)).Nodup;rw[JY,qO];refine⟨h.nodup,Bf,λx u y hy=>?_⟩;obtain⟨q,I,rfl⟩:=Ez.1 u;have hy:y=e.Id:=by simpa[OH]using hy
  rw[hy];exact Z q I
 ·have u:x∈r.Rows++[OH r e]:=u;rcases I8.1 u with u|u
  ·exact ha.aJ6 (h.known x u)
  rw[JI.1 u];exact ha.asA
 ·have M:z∈(ev (E8 r.Events e) (r.Rows++[OH r e])[i].Id).bH\/z∈(ev (E8 r.Events e) (r.Rows++[OH r e])[i].Id).bJ:=M
  have hgo:∀j,(U:j<r.Rows.length)->r.Rows[j].Id=z->j<i->∃j,∃U:j<(r.Rows++[OH r e]).length,j<i/\(r.Rows++[OH r e])[j].Id=z:=λj U L Y=>
   ⟨j,Ln,Y,by rw[a2z U];exact L⟩
  rcases hlt i hi with⟨J,O⟩|⟨e0,O⟩
  ·rw[O,ha.ev' (h.known _ (EY J))]at M;obtain⟨j,U,Y,L⟩:=h.refs i J z M;exact hgo j U L Y
  rw[O]at M;have M:z∈(ev (E8 r.Events e) e.Id).bH\/z∈(ev (E8 r.Events e) e.Id).bJ:=M;rw[ha.aJ7]at M;obtain⟨j,U,L⟩:=h.rowOf (aip hrd M);exact hgo j U L AL
 ·have u:x∈r.Rows++[OH r e]:=u;show(x.Status=2↔Fg (DT (E8 r.Events e)) x.Id=false)/\_;rcases I8.1 u with u|u
  ·rw[ha.aG5 hd (h.known x u)];exact h.stat x u
  rw[JI.1 u];show(Sl r e=2↔Fg (DT (E8 r.Events e)) e.Id=false)/\(Sl r e=2\/Sl r e=3\/Sl r e=4);unfold Sl;cases Fg (DT (E8 r.Events e)) e.Id with
  |false=>simp
  |true=>cases Lp e (MC r.Events r.State)==0<;>simp
 cases I:bU (E8 r.Events e) x.Id with
 |false=>exact I
 |true=>
  rcases ha.aIv.1 I with I|I
  ·exact absurd I (hw x u)
  rw[h.WE x u]at I;cases I
def fJ (b:AB AQ)(e:AQ):AX:=match b with
 |none=>true
 |some x=>O4 e x
def Jh (l:A8 AQ)(b:AB AQ)(e:AQ):AB AQ:=bif Gl l e&&fJ b e then some e else b
def WW (l w:A8 AQ):AB AQ:=w.foldl (Jh l) none
def aSv (l:A8 AQ):∀(w:A8 AQ) (b:AB AQ) (e:AQ),w.foldl (Jh l) b=some e->b=some e\/(e∈w/\Gl l e=true)
 | [],b,e,h=>.inl h
 |x::w,b,e,h=>by
  rw[Fv]at h;rcases aSv l w _ e h with h|⟨h1,h2⟩
  ·unfold Jh at h
   grind
  grind
def a1S (h:WW l w=some e):e∈w/\Gl l e=true:=by
 rcases aSv l w none e h with h|h
 ·cases h
 exact h
def aFN (l:A8 AQ):∀(w:A8 AQ) (b:AQ),∃e,w.foldl (Jh l) (some b)=some e
 | [],b=>⟨b,rfl⟩
 |x::w,b=>by
  rw[Fv];unfold Jh;cases(Gl l x&&fJ (some b) x)with
  |false=>exact aFN l w b
  |true=>exact aFN l w x
def aRT (l:A8 AQ):∀{w:A8 AQ},WW l w=none->∀x∈w,Gl l x=false
 | [],_,_,j=>absurd j G7
 |y::w,h,x,j=>by
  have h:w.foldl (Jh l) (Jh l none y)=none:=h;cases q:Gl l y with
  |true=>
   have u:Jh l none y=some y:=by unfold Jh;rw[q];rfl
   rw[u]at h;obtain⟨e,z⟩:=aFN l w y;rw[z]at h;cases h
  |false=>
   have u:Jh l none y=none:=by unfold Jh;rw[q];rfl
   rw[u]at h;rcases FP.1 j with rfl|j
   ·exact q
   exact aRT l (w:=w) h x j
def Hf (w:A8 AQ)(id:Int):A8 AQ:=w.filter λx=>x.Id != id
def Gm :Nat->C9->C9
 |0,r=>r
 |n+1,r=>match WW r.Events r.Waiting with
  |none=>r
  |some e=>Gm n (Io { r with Waiting:=Hf r.Waiting e.Id } e).1
def aDM (q:∀x∈k,Ko x=some 0)(u:∀x∈k,∀y∈k,x.Room=y.Room)(hi:Inc (k.map (·.Id)))(hl:k.length<=100):Kr k=some 0:=by
 rcases Ux k.length with j|j
 ·obtain rfl:k=[]:=Ho j;rfl
 exact aO8 q u hi hl j
def a7F (h:e∈w):(Hf w e.Id).length<w.length:=by
 unfold Hf;rw[List.length_filter_lt_length_iff_exists]
 grind
def aNR (w:A8 AQ)(id:Int):(Hf w id).length<=w.length:=Lu ..
def GI.drop (h:GI r)(z:r.Waiting.length<=100)(id:Int):GI { r with Waiting:=Hf r.Waiting id }:=by
 have j:∀x∈Hf r.Waiting id,x∈r.Waiting:=λx q=>(Gx.1 q).1
 have u:MX (Hf r.Waiting id):=⟨λx q=>h.wQ.ev x (j x q),λx q y I=>h.wQ.room x (j x q) y (j y I),by
  unfold Hf Inc
  exact h.wQ.inc.sublist (Uc.map _)⟩
 refine{ h with afZ:=?_,wQ:=u,U7:=λx q=>h.U7 x (j x q),WE:=λx q=>h.WE x (j x q),ao6:=EK (aNR ..) h.ao6 };exact aDM (λx q=>pz h.afZ z x (j x q)) u.room u.inc (EK (aNR ..) z)
def Xb (r:C9)(e:AQ):((Io r e).1=r/\(Io r e).2≠0)\/(Io r e=(Qa r e,0)/\HY (E8 r.Events e)=0/\(decide (0<IX r.Events)&&N9 (E8 r.Events e) e)=false):=by
 unfold Io
 grind
def a4P :∀(n:Nat) {r:C9},GI r->r.Waiting.length<=n->r.Events.length+n<=50->GI (Gm n r)/\Vj (Gm n r)
 |0,r,h,z,_=>⟨h,λx j=>by
  have j:x∈r.Waiting:=j;rw[Ho (show r.Waiting.length=0 by omega)]at j
  exact absurd j G7⟩
 |n+1,r,h,z,hl=>by
  unfold Gm;cases u:WW r.Events r.Waiting with
  |none=>exact⟨h,aRT _ u⟩
  |some e=>
   obtain⟨h1,h2⟩:=a1S u;have hd:=h.drop AL e.Id;have I:=a7F h1;have q:=h.wQ.ev e h1;rcases Xb { r with Waiting:=Hf r.Waiting e.Id } e with⟨q1,_⟩|⟨q1,q2,q3⟩
   ·show GI (Gm n (Io _ e).1)/\Vj (Gm n (Io _ e).1);rw[q1];exact a4P n hd (show(Hf r.Waiting e.Id).length<=n by omega) (show r.Events.length+n<=50 by omega)
   show GI (Gm n (Io _ e).1)/\Vj (Gm n (Io _ e).1);rw[q1]
   have hm:=hd.more (e:=e) (show r.Events.length<=50 by omega) (pz h.afZ AL e h1) q.2 (h.U7 e h1) (h.WE e h1) (λx j=>by
    have :=(Gx.1 j).2
    simpa using this) h2 q2 q3
   exact a4P n hm (show(Hf r.Waiting e.Id).length<=n by omega) (show(E8 r.Events e).length+n<=50 by rw[Pn];omega)
end
variable {x:AQ}
section
set_option maxHeartbeats 1000000
structure QA (l k:List AQ):Prop where
 len:k.length=l.length
 at_:∀i (h:i<l.length) (h':i<k.length),H7 l[i] k[i]
def QA.ids (h:QA l k):k.map (·.Id)=l.map (·.Id):=by
 refine XM (by simp[h.len]) λi h1 h2=>?_;rw[Df]at h1 h2;rw[Px,Px,(h.at_ i h2 h1).id]
def QA.ao7 (h:QA l k)(x:Int):bU k x=bU l x:=by rw[Ox,IU,IU,h.ids]
def aP8 {m:A8 AQ}{x:Int}(hm:bU m x=false):ev m x=Fj:=by
 unfold bU at hm
 have :Ef m x=none:=by cases j:Ef m x with
  |none=>
   rfl
  |some e=>
   grind
 unfold ev;rw[RN this]
def QA.evS (h:QA l k)(z:(l.map (·.Id)).Nodup){x:Int}(I:bU l x=true):H7 (ev l x) (ev k x):=by
 obtain⟨e,J,rfl⟩:=Ez.1 (IU.1 I);obtain⟨i,j,rfl⟩:=G8 J;have q:i<k.length:=by rw[h.len];exact j
 have hs:=h.at_ i j q;have u:(k.map (·.Id)).Nodup:=by rw[h.ids];exact z
 have L:ev l l[i].Id=l[i]:=dV z (EY j);have M:ev k l[i].Id=k[i]:=by rw[←hs.id];exact dV u (EY q)
 grind
def QA.ok (h:QA l k)(I:MX l)(hl:l.length<=100)(J:∀x∈k,Ko x=some 0)(hs:∀x∈k,FH x):Kr k=some 0/\MX k:=by
 have L:∀x∈k,∀y∈k,x.Room=y.Room:=λx q y O=>by
  obtain⟨i,hi,rfl⟩:=G8 q;obtain⟨j,M,rfl⟩:=G8 O;have u:i<l.length:=aHf
  have z:j<l.length:=by rw[←h.len];exact M
  rw[(h.at_ i u hi).room,(h.at_ j z M).room];exact I.room _ (EY u) _ (EY z)
 have hi:Inc (k.map (·.Id)):=by rw[h.ids];exact I.inc
 exact⟨aDM J L hi (by rw[h.len];exact hl),λx q=>⟨aJ1 (hs x q) (J x q),hs x q⟩,L,hi⟩
def QA.half (h:QA l k)(O:MX l)(hl:l.length<=100)(hd:HY l=0)(Y:∀x∈k,Ko x=some 0)(hs:∀x∈k,FH x):aSN l k:=by
 obtain⟨U,Z⟩:=h.ok O hl Y hs;have z:=TK O.inc
 have u:∀x,Hd k x=Hd l x:=λx=>by
  show(ev k x).Depth=(ev l x).Depth;cases q:bU l x with
  |true=>
   exact(h.evS z q).depth
  |false=>
   rw[aP8 q,aP8 (by rw[h.ao7];exact q)]
 refine⟨U,a2R hs (by rw[h.len];exact hl) U,Z,?_,h.ids,⟨z,λx q=>?_,λx q a ha=>?_,λx q a ha=>?_⟩⟩
 ·unfold HY at hd ⊢;cases h1:TW l with
  |false=>
   grind
  |true=>
   rw[h1,Bl]at hd;cases h2:l.all (QN l)with
   |false=>
    grind
   |true=>
    have I:TW k=true:=by
     unfold TW at h1 ⊢;rw[FQ]at h1 ⊢;intro e J;obtain⟨i,hi,rfl⟩:=G8 J;have j:i<l.length:=aHf
     have :=h1 _ (EY j);have hs:=h.at_ i j hi;unfold Gl at this ⊢;rw[hs.prev,hs.auth,show bU k=bU l from funext h.ao7];exact this
    have L:k.all (QN k)=true:=by
     rw[FQ]at h2 ⊢;intro e J;obtain⟨i,hi,rfl⟩:=G8 J;have j:i<l.length:=aHf
     have :=h2 _ (EY j);have hs:=h.at_ i j hi;unfold QN at this ⊢;rw[hs.prev,hs.auth,hs.depth,show Hd k=Hd l from funext u];exact this
    rw[I,L];rfl
 ·have M:=IU.2 q;exact⟨M,by rw[h.ao7];exact M,h.evS z M⟩
 ·exact IU.1 ((gG hd (JM (Ib (IU.2 q)).1)).2 a ha).1
 exact IU.1 ((gG hd (JM (Ib (IU.2 q)).1)).1 a ha).1
def QA.heads (h:QA l k)(j:(l.map (·.Id)).Nodup)(ids:A8 Int):JX k ids=JX l ids:=by
 unfold JX;refine Zp λx _=>?_;congr 1;refine any_congr λy _=>?_;unfold JG;rw[h.ao7];cases q:bU l y with
 |false=>rfl
 |true=>rw[(h.evS j q).prev]
def GI.aMi (h:GI r)(hl:r.Events.length<=50)(j:QA r.Events k)(O:∀x∈k,Ko x=some 0)(hs:∀x∈k,FH x):GI { r with Events:=k }/\(Vj r->Vj { r with Events:=k }):=by
 have J:=j.half h.facts AL h.deep O hs;have M:=TK h.facts.inc;obtain⟨U,Y,Z⟩:=aas J h.facts AL (by rw[j.len];omega) h.deep;have L:∀x,Fg (DT k) x=Fg (DT r.Events) x:=λx=>by unfold Fg;rw[U]
 have u:∀x,Gl k x=Gl r.Events x:=λx=>by unfold Gl;rw[show bU k=bU r.Events from funext j.ao7]
 refine⟨⟨h.id,J.ref,J.facts,λx q=>?_,J.deep,h.RY.trans j.len.symm,h.next,?_,h.pos,h.nodup,λx q=>(j.ao7 _).trans (h.known x q),λi hi z hz=>?_,λx q=>?_,h.afZ,h.wQ,h.U7,λx q=>(j.ao7 _).trans (h.WE x q),h.ao6,?_,?_⟩,λhr x q=>(u x).trans (hr x q)⟩
 ·obtain⟨i,hi,rfl⟩:=G8 q;have I:i<r.Events.length:=by rw[←j.len];exact hi
  rw[(j.at_ i I hi).room];exact h.own _ (EY I)
 ·have :IX k=IX r.Events:=by
   have hm:∀(m:A8 AQ),IX m=((m.map λe=>(e.Kind,e.Id)).filter λp=>p.1==1&&Fg (DT m) p.2).length:=λm=>by
    unfold IX;rw[List.filter_map,Df];rfl
   have hp:(k.map λe=>(e.Kind,e.Id))=r.Events.map λe=>(e.Kind,e.Id):=by
    refine XM (by simp[j.len]) λi h1 h2=>?_;rw[Df]at h1 h2;rw[Px,Px,(j.at_ i h2 h1).id,(j.at_ i h2 h1).kind]
   grind
  show IX k<=1;rw[this];exact h.one
 ·have hs:=j.evS M (h.known _ (EY hi));exact h.refs i hi z (by rw[←hs.prev,←hs.auth];exact hz)
 ·show(x.Status=2↔Fg (DT k) x.Id=false)/\_;rw[L];exact h.stat x q
 ·show r.vY=JX k (Gn k (DT k));rw[Z,j.heads M];exact h.heads
 show r.State=NZ k (DT k);rw[Y];exact h.state
def a0E (e:AQ):AX:=XL e==e.Hash
def Q8 (l:A8 AQ)(x:AQ):A8 AQ:=bif a0E x&& !a0E (ev l x.Id)then l.set (l.findIdx λy=>y.Id==x.Id) x else l
def aSB {x:Int}(u:bU l x=true):∃h:(l.findIdx λy=>y.Id==x)<l.length,l[l.findIdx λy=>y.Id==x]=ev l x:=by
 obtain⟨q,z⟩:=Ib u
 have j:(l.findIdx λy=>y.Id==x)<l.length:=by
  rw[dM];exact⟨_,JM q,by rw[z];exact VJ _⟩
 refine⟨j,?_⟩;have h3:l.find? (λy=>y.Id==x)=some (ev l x):=q;rw[Ku,ES j]at h3
 grind
def aYt (l:A8 AQ):QA l l:=⟨rfl,λ_ _ _=>.refl _⟩
def aNf (u:bU l x.Id=true)(hs:H7 (ev l x.Id) x):QA l (Q8 l x):=by
 unfold Q8;cases a0E x&& !a0E (ev l x.Id)with
 |false=>exact aYt l
 |true=>
  obtain⟨q,j⟩:=aSB u;refine⟨jX ..,λi h h'=>?_⟩;show H7 l[i] (l.set _ x)[i];rw[List.getElem_set];split
  ·rename_i z;subst z;rw[j];exact hs
  exact .refl _
def aj (h:y∈Q8 l x):y∈l\/y=x:=by
 unfold Q8 at h
 grind
def aAO (r:C9)(id:Int):Int:=((r.Rows.find? λx=>x.Id==id).map (·.Status)).getD 0
def QC (r:C9)(x:AQ):C9×Int×Int:=
 bif !decide (x.Room=r.Id)then(r,0,13)else
 bif bU r.Events x.Id then({ r with Events:=Q8 r.Events x },aAO r x.Id,0)else
 bif !bU r.Waiting x.Id&&Gl r.Events x then(bif (Io r x).2 != 0 then(r,0,(Io r x).2)else(Gm r.Waiting.length (Io r x).1,aAO (Gm r.Waiting.length (Io r x).1) x.Id,0))else
 bif !bU r.Waiting x.Id&&decide (200<=r.Waiting.length)then(r,0,29)else
 ({ r with Waiting:=bif bU r.Waiting x.Id then Q8 r.Waiting x else E8 r.Waiting x },1,0)
structure a3c (r:C9) (x:AQ):Prop where
 ver:Ko x=some 0
 small:FH x
 sim:∀y∈r.Events,y.Id=x.Id->H7 y x
 aMj:∀y∈r.Waiting,y.Id=x.Id->H7 y x
def aD1 {x:Int}(h:bU l x=true):ev l x∈l/\(ev l x).Id=x:=⟨JM (Ib h).1,(Ib h).2⟩
def GI.receive (h:GI r)(L:Vj r)(hl:r.Events.length+r.Waiting.length<=48)(z:a3c r x):GI (QC r x).1/\Vj (QC r x).1:=by
 have hv:=h.ver AL;have M:=pz h.afZ AL;unfold QC;cases q:decide (x.Room=r.Id)with
 |false=>
  grind
 |true=>
 have q:=P7 q;rw[FU,BR];cases O:bU r.Events x.Id with
 |true=>
  rw[Bl];obtain⟨Z,g2⟩:=aD1 O
  obtain⟨a,b⟩:=h.aMi AL (aNf O (z.sim _ Z g2)) (λy j=>by
   rcases aj j with j|rfl
   ·exact hv y j
   ·exact z.ver) λy j=>by
   rcases aj j with j|rfl
   ·exact(h.facts.ev y j).2
   exact z.small
  exact⟨a,b L⟩
 |false=>
 rw[BR];cases U:(!bU r.Waiting x.Id&&Gl r.Events x)with
 |true=>
  rw[Dj]at U;have u:bU r.Waiting x.Id=false:=by simpa using U.1
  rw[Bl];rcases Xb r x with⟨q1,q2⟩|⟨q1,q2,q3⟩
  ·rw[show((Io r x).2 != 0)=true by simpa using q2,Bl];exact⟨h,L⟩
  rw[q1]
  exact a4P _ (h.more AL z.ver z.small q O (λy j hyx=>by
   have :=IU.2 (Ez.2 ⟨y,j,hyx⟩)
   rw[u]at this;cases this) U.2 q2 q3) (Eb _) (show(E8 r.Events x).length+r.Waiting.length<=50 by rw[Pn];omega)
 |false=>
 rw[BR];cases I:(!bU r.Waiting x.Id&&(200<=r.Waiting.length))with
 |true=>
  grind
 |false=>
 rw[BR];cases u:bU r.Waiting x.Id with
 |true=>
  rw[Bl];obtain⟨Z,g2⟩:=aD1 u;have hs:=z.aMj _ Z g2;have hsl:=aNf u hs
  obtain⟨c1,c2⟩:=hsl.ok h.wQ AL (λy j=>by
   rcases aj j with j|rfl
   ·exact M y j
   ·exact z.ver) λy j=>by
   rcases aj j with j|rfl
   ·exact(h.wQ.ev y j).2
   exact z.small
  refine⟨{ h with afZ:=c1,wQ:=c2,U7:=λy j=>?_,WE:=λy j=>?_,ao6:=?_ },λy j=>?_⟩
  ·rcases aj j with j|rfl
   ·exact h.U7 y j
   exact q
  ·rcases aj j with j|rfl
   ·exact h.WE y j
   exact O
  ·show(Q8 r.Waiting x).length<=200;rw[hsl.len];exact h.ao6
  rcases aj j with j|rfl
  ·exact L y j
  have h1:=L _ Z;unfold Gl at h1 ⊢;rw[hs.prev,hs.auth];exact h1
 |false=>
  rw[BR];rw[u,Jl,GX]at U I;have Y:x.Id∉r.Waiting.map (·.Id):=λhm=>by have :=IU.2 hm;rw[u]at this;cases this
  have J:∀a∈E8 r.Waiting x,a.Room=r.Id:=λa ha=>by
   rcases OO.1 ha with rfl|ha
   ·exact q
   exact h.U7 a ha
  have hF:MX (E8 r.Waiting x):=⟨λy j=>by
   rcases OO.1 j with rfl|j
   ·exact⟨aJ1 z.small z.ver,z.small⟩
   exact h.wQ.ev y j,λa ha b hb=>(J a ha).trans (J b hb).symm,aUJ h.wQ.inc Y⟩
  refine⟨{ h with afZ:=?_,wQ:=hF,U7:=J,WE:=λy j=>?_,ao6:=?_ },λy j=>?_⟩
  ·exact aDM (λy j=>by
    rcases OO.1 j with rfl|j
    ·exact z.ver
    exact M y j) hF.room hF.inc (by rw[Pn];omega)
  ·rcases OO.1 j with rfl|j
   ·exact O
   exact h.WE y j
  ·show(E8 r.Waiting x).length<=200;rw[Pn];have :=Nc I;omega
  rcases OO.1 j with rfl|j
  ·exact U
  exact L y j
end
section
set_option maxHeartbeats 1000000
structure Grown (r s:C9):Prop where
 id:s.Id=r.Id
 ev:∀y,bU r.Events y=true->Ef s.Events y=Ef r.Events y
 rows:∃t,s.Rows=r.Rows++t
def Grown.refl (r:C9):Grown r r:=⟨rfl,λ_ _=>rfl,[],Bf⟩
def acC {y:Int}(h:Ef k y=Ef l y):bU k y=bU l y:=by unfold bU;rw[h]
def Grown.trans {r s t:C9}(h:Grown r s)(k:Grown s t):Grown r t:=by
 obtain⟨u,q⟩:=h.rows;obtain⟨v,z⟩:=k.rows;exact⟨k.id.trans h.id,λy j=>(k.ev y (by rw[acC (h.ev y j)];exact j)).trans (h.ev y j),u++v,by rw[z,q,JU]⟩
def GI.atI (h:GI r)(hl:r.Events.length<=50)(j:Ko e=some 0)(hs:FH e)(q:e.Room=r.Id)(u:bU r.Events e.Id=false):Grown r (Qa r e):=
 ⟨rfl,λ_ z=>(h.aGr hl j hs q u).get z,[OH r e],rfl⟩
def aKR :∀(n:Nat) {r:C9},GI r->r.Waiting.length<=n->r.Events.length+n<=50->Grown r (Gm n r)
 |0,r,_,_,_=>.refl r
 |n+1,r,h,hw,hl=>by
  unfold Gm;cases z:WW r.Events r.Waiting with
  |none=>exact .refl r
  |some e=>
   obtain⟨h1,h2⟩:=a1S z;have hd:=h.drop AL e.Id;have I:=a7F h1;have j:=h.wQ.ev e h1;have q:Grown r { r with Waiting:=Hf r.Waiting e.Id }:=⟨rfl,λ_ _=>rfl,[],Bf⟩
   rcases Xb { r with Waiting:=Hf r.Waiting e.Id } e with⟨q1,_⟩|⟨q1,q2,q3⟩
   ·show Grown r (Gm n (Io _ e).1);rw[q1];exact q.trans (aKR n hd (show(Hf r.Waiting e.Id).length<=n by omega) (show r.Events.length+n<=50 by omega))
   show Grown r (Gm n (Io _ e).1);rw[q1];have u:=pz h.afZ AL e h1
   have hm:=hd.more (e:=e) (show r.Events.length<=50 by omega) u j.2 (h.U7 e h1) (h.WE e h1) (λx J=>by
    have :=(Gx.1 J).2
    simpa using this) h2 q2 q3
   exact q.trans ((hd.atI (show r.Events.length<=50 by omega) u j.2 (h.U7 e h1) (h.WE e h1)).trans (aKR n hm (show(Hf r.Waiting e.Id).length<=n by omega) (show(E8 r.Events e).length+n<=50 by rw[Pn];omega)))
def GI.aGs (h:GI r)(hl:r.Events.length+r.Waiting.length<=48)(q:a3c r x):∃t,(QC r x).1.Rows=r.Rows++t:=by
 have u:∃t,r.Rows=r.Rows++t:=⟨[],Bf⟩
 unfold QC;cases U:decide (x.Room=r.Id)with
 |false=>
  exact u
 |true=>
 have j:=P7 U;rw[FU,BR];cases M:bU r.Events x.Id with
 |true=>
  exact u
 |false=>
 rw[BR];cases z:(!bU r.Waiting x.Id&&Gl r.Events x)with
 |true=>
  rw[Dj]at z;have I:bU r.Waiting x.Id=false:=by simpa using z.1
  rw[Bl];rcases Xb r x with⟨O,J⟩|⟨O,J,Y⟩
  ·rw[show((Io r x).2 != 0)=true by simpa using J,Bl];exact u
  rw[O]
  have hm:=h.more AL q.ver q.small j M (λy Z L=>by
   have :=IU.2 (Ez.2 ⟨y,Z,L⟩)
   rw[I]at this;cases this) z.2 J Y
  exact((h.atI AL q.ver q.small j M).trans (aKR r.Waiting.length hm (Eb _) (show(E8 r.Events x).length+r.Waiting.length<=50 by rw[Pn];omega))).rows
 |false=>
 grind
def GI.aGt (h:GI r)(hl:r.Events.length<=100):∀x∈r.State,gq (DT r.Events) x.Id=0:=λx j=>by
 rw[h.state]at j;obtain⟨y,q,u⟩:=dN.1 (OU.current (h.facts.ok hl) h.deep x j);unfold gq;rw[q];exact u
def GI.aGu (h:GI r):∀x∈r.vY,gq (DT r.Events) x=0:=λx j=>by
 rw[h.heads]at j;have :=(agw.1 j).1;rw[a1J]at this;obtain⟨y,q,u⟩:=dN.1 (Gx.1 this).2;unfold gq;rw[q];exact u
end
section
set_option maxHeartbeats 1000000
def H7.trans {x y z:AQ}(h:H7 x y)(k:H7 y z):H7 x z:=
 ⟨k.id.trans h.id,k.room.trans h.room,k.sender.trans h.sender,k.kind.trans h.kind,k.key.trans h.key,k.time.trans h.time,k.depth.trans h.depth,k.prev.trans h.prev,k.auth.trans h.auth,
  λj=>(k.n (by rw[h.kind];exact j)).trans (h.n j),λj=>(k.levels (by rw[h.kind];exact j)).trans (h.levels j)⟩
end
section
set_option maxHeartbeats 1000000
def QI (l:A8 FZ)(id:Int):AX:=l.any λx=>x.Id==id
def Wj (r:C9)(x:FZ):AX:=((!Fg (DT r.Events) x.Id)==(x.Status==2))&&((x.Status==2||x.Status==3)||x.Status==4)
def MJ (r:C9)(id:Int):Option FZ:=r.Rows.find? λx=>x.Id==id
def SA (r:C9)(i:Nat)(id:Int):AX:=match MJ r id with
 |none=>false
 |some x=>x.Pos<(i:Int)
def dH (r:C9)(i:Nat)(x:FZ):AX:=bU r.Events x.Id&&(!QI (r.Rows.take i) x.Id&&(x.Pos==(i:Int)&&(((ev r.Events x.Id).bH.all (QI (r.Rows.take i))&&(ev r.Events x.Id).bJ.all (QI (r.Rows.take i)))&&Wj r x)))
def Vy (r:C9)(i:Nat)(x:FZ):AX:=bU r.Events x.Id&&(x.Pos==(i:Int)&&(((MJ r x.Id).map (·.Pos)).getD 0==(i:Int)&&(((ev r.Events x.Id).bH.all (SA r i)&&(ev r.Events x.Id).bJ.all (SA r i))&&Wj r x)))
def aZn {l:A8 FZ}{id:Int}:QI l id=true↔∃j,∃h:j<l.length,l[j].Id=id:=by
 unfold QI;rw[JV];constructor
 ·rintro⟨x,q,h⟩;obtain⟨j,u,rfl⟩:=G8 q
  grind
 grind
def Yl {l:A8 FZ}{id:Int}:QI (l.take i) id=true↔∃j,∃h:j<l.length,j<i/\l[j].Id=id:=by
 rw[aZn];constructor
 ·grind
 rintro⟨j,u,q,h⟩;exact⟨j,cZ,by rw[gZ];exact h⟩
def aE6 {id:Int}{x:FZ}(h:MJ r id=some x):∃m,∃hm:m<r.Rows.length,r.Rows[m]=x/\x.Id=id:=by
 have h1:=Ug h;obtain⟨m,hm,e⟩:=G8 h1;exact⟨m,hm,e,by simpa using xU h⟩
def aKG {id:Int}(h:MJ r id=none):∀j (q:j<r.Rows.length),r.Rows[j].Id≠id:=λj q e=>by
 have :=aBH.1 h _ (EY q)
 grind
structure fZ (r:C9):Prop where
 pos:∀i (h:i<r.Rows.length),r.Rows[i].Pos=(i:Int)
 inj:∀i j (hi:i<r.Rows.length) (hj:j<r.Rows.length),r.Rows[i].Id=r.Rows[j].Id->i=j
def fZ.find (h:fZ r)(hi:i<r.Rows.length):MJ r r.Rows[i].Id=some r.Rows[i]:=by
 cases j:MJ r r.Rows[i].Id with
 |none=>exact absurd rfl (aKG j i hi)
 |some x=>
  obtain⟨m,hm,rfl,e⟩:=aE6 j;have :=h.inj m i hm hi e;subst this;rfl
def fZ.beh (h:fZ r)(i:Nat)(id:Int):SA r i id=QI (r.Rows.take i) id:=by
 rw[Ox,Yl];unfold SA;cases u:MJ r id with
 |none=>exact⟨λz=>absurd z Bool.false_ne_true,λ⟨j,q,_,e⟩=>absurd e (aKG u j q)⟩
 |some x=>
  obtain⟨m,hm,rfl,e⟩:=aE6 u;show decide (r.Rows[m].Pos<(i:Int))=true↔_;rw[Iz,h.pos m hm];constructor
  ·intro I;exact⟨m,hm,AL,e⟩
  rintro⟨j,q,J,L⟩;have :=h.inj m j hm q (e.trans L.symm);omega
def aRa (h:∀i (hi:i<r.Rows.length),dH r i r.Rows[i]=true):fZ r:=by
 have hp:∀i (hi:i<r.Rows.length),r.Rows[i].Pos=(i:Int)/\QI (r.Rows.take i) r.Rows[i].Id=false:=λi hi=>by
  have :=h i hi;unfold dH at this;simp only[Dj,MZ,V9]at this;exact⟨this.2.2.1,this.2.1⟩
 have q:∀i j (hi:i<r.Rows.length) (u:j<r.Rows.length),r.Rows[i].Id=r.Rows[j].Id->¬i<j:=λi j hi u e z=>by
  have :=Yl.2 ⟨i,hi,z,e⟩;rw[(hp j u).2]at this;cases this
 refine⟨λi hi=>(hp i hi).1,λi j hi u e=>?_⟩;have a:=q i j hi u e;have b:=q j i u hi e.symm;omega
def abT (h:∀i (hi:i<r.Rows.length),Vy r i r.Rows[i]=true):fZ r:=by
 have hp:∀i (hi:i<r.Rows.length),r.Rows[i].Pos=(i:Int)/\((MJ r r.Rows[i].Id).map (·.Pos)).getD 0=(i:Int):=λi hi=>by
  have :=h i hi;unfold Vy at this
  grind
 have u:∀i (hi:i<r.Rows.length),MJ r r.Rows[i].Id=some r.Rows[i]:=λi hi=>by
  have h1:=(hp i hi).2;cases q:MJ r r.Rows[i].Id with
  |none=>
   exact absurd rfl (aKG q i hi)
  |some x=>
   obtain⟨m,hm,rfl,_⟩:=aE6 q;rw[q]at h1;have h2:r.Rows[m].Pos=(i:Int):=h1;rw[(hp m hm).1]at h2;have :m=i:=AL
   subst this;rfl
 refine⟨λi hi=>(hp i hi).1,λi j hi z e=>?_⟩;have h1:=u i hi
 grind
def aQX (h:fZ r)(hi:i<r.Rows.length):Vy r i r.Rows[i]=dH r i r.Rows[i]:=by
 have h1:SA r i=QI (r.Rows.take i):=funext λid=>h.beh i id
 have h2:QI (r.Rows.take i) r.Rows[i].Id=false:=by
  cases q:QI (r.Rows.take i) r.Rows[i].Id with
  |false=>rfl
  |true=>
   obtain⟨j,u,z,e⟩:=Yl.1 q;have :=h.inj j i u hi e;omega
 unfold Vy dH;rw[h1,h2,h.find hi,h.pos i hi];rw[KD,Nz,h.pos i hi];simp
def a6u (r:C9):AX:=(List.range r.Rows.length).all λi=>dH r i (r.Rows.getD i KW)
def iC (r:C9):AX:=(List.range r.Rows.length).all λi=>Vy r i (r.Rows.getD i KW)
def xX {l:A8 FZ}{p:Nat->FZ->AX}:((List.range l.length).all λi=>p i (l.getD i KW))=true↔∀i (hi:i<l.length),p i l[i]=true:=by
 rw[FQ];constructor
 ·intro h i hi;have :=h i (lu.2 hi)
  grind
 grind
def afV (r:C9):iC r=a6u r:=by
 rw[Ox];unfold iC a6u;rw[xX,xX];exact⟨λh i hi=>by rw[←aQX (abT h) hi];exact h i hi,λh i hi=>by rw[aQX (aRa h) hi];exact h i hi⟩
def aPC {x:FZ}:Wj r x=true↔(x.Status=2↔Fg (DT r.Events) x.Id=false)/\(x.Status=2\/x.Status=3\/x.Status=4):=by
 unfold Wj;rw[Dj,ZT,ZT,MZ,MZ,MZ,MZ,or_assoc];refine and_congr ?_ Iff.rfl
 grind
def kH (r:C9):AX:=(((r.Rows.length==r.Events.length)&&(r.Next==(r.Rows.length:Int)))&&(IX r.Events<=1))&&a6u r
def ain:kH r=true↔r.Rows.length=r.Events.length/\r.Next=(r.Rows.length:Int)/\IX r.Events<=1/\(∀i (h:i<r.Rows.length),r.Rows[i].Pos=(i:Int))/\(r.Rows.map (·.Id)).Nodup/\(∀x∈r.Rows,bU r.Events x.Id=true)/\
 (∀i (h:i<r.Rows.length),∀z,z∈(ev r.Events r.Rows[i].Id).bH\/z∈(ev r.Events r.Rows[i].Id).bJ->∃j,∃I:j<r.Rows.length,j<i/\r.Rows[j].Id=z)/\∀x∈r.Rows,(x.Status=2↔Fg (DT r.Events) x.Id=false)/\(x.Status=2\/x.Status=3\/x.Status=4):=by
 unfold kH a6u;rw[Dj,Dj,Dj,MZ,MZ,Iz,xX];constructor
 ·rintro⟨⟨⟨h1,h2⟩,h3⟩,J⟩;have O:=aRa J
  have hp:∀i (hi:i<r.Rows.length),bU r.Events r.Rows[i].Id=true/\((∀z∈(ev r.Events r.Rows[i].Id).bH,QI (r.Rows.take i) z=true)/\∀z∈(ev r.Events r.Rows[i].Id).bJ,QI (r.Rows.take i) z=true)/\Wj r r.Rows[i]=true:=λi hi=>by
   have :=J i hi;unfold dH at this
   grind
  refine⟨h1,h2,h3,O.pos,?_,λx L=>?_,λi hi z q=>?_,λx L=>?_⟩
  ·rw[X5,Zn,J9];intro i j hi I Z e;have :=O.inj i j hi I e;omega
  ·obtain⟨i,hi,rfl⟩:=G8 L;exact(hp i hi).1
  ·rcases q with q|q
   ·exact Yl.1 ((hp i hi).2.1.1 z q)
   exact Yl.1 ((hp i hi).2.1.2 z q)
  obtain⟨i,hi,rfl⟩:=G8 L;exact aPC.1 (hp i hi).2.2
 rintro⟨h1,h2,h3,J,U,h6,Y,h8⟩;refine⟨⟨⟨h1,h2⟩,h3⟩,λi hi=>?_⟩
 have u:QI (r.Rows.take i) r.Rows[i].Id=false:=by
  cases hq:QI (r.Rows.take i) r.Rows[i].Id with
  |false=>
   rfl
  |true=>
   obtain⟨j,I,M,e⟩:=Yl.1 hq;rw[X5,Zn,J9]at U;exact absurd e (U j i I hi M)
 unfold dH;rw[h6 _ (EY hi),u,J i hi,aPC.2 (h8 _ (EY hi))];simp only[GX,Jl,VJ,Ny,Dj,FQ];exact⟨λz q=>Yl.2 (Y i hi z (.inl q)),λz q=>Yl.2 (Y i hi z (.inr q))⟩
def adD (h1:SS r.Id=0)(h2:Kr r.Events=some 0)(h3:MX r.Events)(I:∀x∈r.Events,x.Room=r.Id)(J:HY r.Events=0)(L:Kr r.Waiting=some 0)(M:MX r.Waiting)(O:∀x∈r.Waiting,x.Room=r.Id)(U:∀x∈r.Waiting,bU r.Events x.Id=false)(j:r.Waiting.length<=200)(q:r.vY=JX r.Events (Gn r.Events (DT r.Events)))(u:r.State=NZ r.Events (DT r.Events))(z:kH r=true):GI r:=by
 obtain⟨Y,Z,a3,a4,a5,a6,a7,a8⟩:=ain.1 z;exact⟨h1,h2,h3,I,J,Y,Z,a3,a4,a5,a6,a7,a8,L,M,O,U,j,q,u⟩
end
section
set_option maxRecDepth 20000
set_option maxHeartbeats 1000000
def aC3 (k:Int)(v:AX)(x:Int):∀m:A8 (Int×AX),x∈(ET m k v).map (·.1)↔x=k\/x∈m.map (·.1)
 | []=>by unfold ET;simp
 |p::m=>by
  unfold ET;cases j:k==p.1 with
  |true=>
   rw[Bl,Gs,Gs,FP,FP,eq_of_beq j];exact⟨λh=>h.elim .inl λh=>.inr (.inr h),λh=>h.elim .inl λh=>h.elim .inl .inr⟩
  |false=>
   rw[BR,Gs,Gs,FP,FP,aC3 k v x m];exact⟨λh=>h.elim (λh=>.inr (.inl h)) λh=>h.elim .inl λh=>.inr (.inr h),λh=>h.elim (λh=>.inr (.inl h)) λh=>h.elim .inl λh=>.inr (.inr h)⟩
def aWN (k:Int)(v:AX):∀m:A8 (Int×AX),(m.map (·.1)).Nodup->((ET m k v).map (·.1)).Nodup
 | [],_=>by unfold ET;simp
 |p::m,h=>by
  rw[Gs,KN]at h;unfold ET;cases j:k==p.1 with
  |true=>
   rw[Bl,Gs,KN,eq_of_beq j];exact h
  |false=>
   rw[BR,Gs,KN];refine⟨λhm=>?_,aWN k v m h.2⟩;rcases(aC3 k v p.1 m).1 hm with e|e
   ·rw[e,VJ]at j;cases j
   exact h.1 e
def aBt (k x:Int):∀m:A8 (Int×AX),(m.map (·.1)).Nodup->(x∈(LY m k).map (·.1)↔x∈m.map (·.1)/\x≠k)
 | [],_=>by unfold LY;simp
 |p::m,h=>by
  rw[Gs,KN]at h;unfold LY;cases u:k==p.1 with
  |true=>
   rw[Bl,Gs,FP,←eq_of_beq u];rw[←eq_of_beq u]at h;exact⟨λj=>⟨.inr j,λe=>h.1 (e▸j)⟩,λ⟨j,q⟩=>j.elim (λe=>absurd e q) id⟩
  |false=>
   rw[BR,Gs,Gs,FP,FP,aBt k x m h.2];refine⟨λj=>j.elim (λe=>⟨.inl e,λz=>?_⟩) λ⟨a,b⟩=>⟨.inr a,b⟩,λ⟨j,q⟩=>j.elim .inl λa=>.inr ⟨a,q⟩⟩;rw[←z,e,VJ]at u;cases u
def aSU (k:Int):∀m:A8 (Int×AX),(m.map (·.1)).Nodup->((LY m k).map (·.1)).Nodup
 | [],_=>by unfold LY;simp
 |p::m,h=>by
  have j:=h;rw[Gs,KN]at h;unfold LY;cases q:k==p.1 with
  |true=>
   grind
  |false=>
   rw[BR,Gs,KN];exact⟨λhm=>h.1 ((aBt k p.1 m h.2).1 hm).1,aSU k m h.2⟩
def aPI :∀(g:A8 Int) (m:A8 (Int×AX)),(m.map (·.1)).Nodup->((g.foldl (λa x=>ET a x true) m).map (·.1)).Nodup/\∀x,x∈(g.foldl (λa x=>ET a x true) m).map (·.1)↔x∈m.map (·.1)\/x∈g
 | [],m,h=>⟨h,λx=>Bf⟩
 |y::g,m,h=>by
  rw[Fv];obtain⟨j,q⟩:=aPI g (ET m y true) (aWN y true m h);refine⟨j,λx=>?_⟩;rw[q,aC3,FP]
  grind
def aUQ :∀(l:A8 AQ) (m:A8 (Int×AX)),(m.map (·.1)).Nodup->((l.foldl (λa e=>LY a e.Id) m).map (·.1)).Nodup/\∀x,x∈(l.foldl (λa e=>LY a e.Id) m).map (·.1)↔x∈m.map (·.1)/\x∉l.map (·.Id)
 | [],m,h=>⟨h,λx=>Bf⟩
 |e::l,m,h=>by
  rw[Fv];obtain⟨j,q⟩:=aUQ l (LY m e.Id) (aSU e.Id m h);refine⟨j,λx=>?_⟩;rw[q,aBt _ _ _ h,Gs,FP]
  grind
def aNL :∀(m:A8 (Int×AX)) (r:A8 Int),r.length+m.length<=1000000->List.foldlM dO r m=some (r++m.map (·.1))
 | [],r,_=>Bf
 |p::m,r,h=>by
  rw[GK]at h
  have e:dO r p=some (r++[p.1]):=by
   unfold dO;rw[Dy GR];rfl
  rw[VK,e];show List.foldlM dO (r++[p.1]) m=_;rw[aNL m (r++[p.1]) aD8,JU];rfl
def alY {m:A8 (Int×AX)}(hm:m.length<=1000000):ZV m=some (Np (m.map (·.1))):=by
 unfold ZV
 have h1:Jj 8 (0:Int) 0 (m.length:Int)=some []:=by
  unfold Jj
  grind
 rw[h1,Ad,aNL m [] SG,JQ,Ad];unfold yx PV
 grind
def anB {l:A8 Int}(h:l.Nodup):Inc (Np l):=by
 have z:(Np l).Nodup:=(VB l).nodup_iff.2 h;have hp:(Np l).Pairwise (λa b=>a<=b):=Rep l;unfold Inc;rw[J9]at hp ⊢;intro i j hi u q;have h1:=hp i j hi u q;have h2:(Np l)[i]≠(Np l)[j]:=J9.1 (X5.1 z) i j hi u q;omega
def aPa (l:A8 AQ)(g:A8 Int)(hl:l.length<=1000)(I:g.length<=1000):jR l g=some (Qr l g):=by
 obtain⟨J,q⟩:=aPI g [] aG;obtain⟨u,z⟩:=aUQ l _ J
 have hlen:((l.foldl (λa e=>LY a e.Id) (g.foldl (λa x=>ET a x true) [])).map (·.1)).length<=g.length:=pF u λx L=>by
  rcases(q x).1 ((z x).1 L).1 with h|h
  ·exact absurd h G7
  exact h
 rw[Df]at hlen;have hs:=alY (m:=l.foldl (λa e=>LY a e.Id) (g.foldl (λa x=>ET a x true) [])) (EK hlen (EK I AL))
 have M:Np ((l.foldl (λa e=>LY a e.Id) (g.foldl (λa x=>ET a x true) [])).map (·.1))=Qr l g:=Dp (anB u) (aks _ _) λx=>by
  rw[(VB _).mem_iff,z,q,lZ]
  have O:bU l x=false↔x∉l.map (·.Id):=by
   rw[←IU];cases bU l x<;>simp
  rw[O];simp
 rw[M]at hs
 have U:∀m:A8 (Int×AX),a3x l 0 m=(ZV (l.foldl (λa e=>LY a e.Id) m)).bind λj=>some j:=λm=>by
  unfold a3x
  exact qL (body:=aAo l) l AL (λa e=>LY a e.Id) (λ_ _=>True) (λa=>(ZV a).bind λj=>some j) trivial (λk a i h _=>⟨trivial,by
   unfold aAo
   rw[DI h]⟩) λk a _=>by
   unfold aAo;rw[Di,BR]
 unfold jR aNg
 rw[qL (body:=aAL g l) g AL (λa x=>ET a x true) (λ_ _=>True) (λa=>a3x l 0 a) trivial (λk a i h _=>⟨trivial,by
    unfold aAL
    rw[DI h]⟩) λk a _=>by
    unfold aAL
    rw[Di,BR],U,hs]
 rfl
def a7n {g:A8 Int}:(((Qr l g).length:Int)==0)=g.all (bU l):=by
 rw[Ox,MZ,FQ];constructor
 ·intro h x j;cases q:bU l x with
  |true=>rfl
  |false=>
   have hm:=lZ.2 ⟨j,q⟩;have :=List.length_pos_of_mem hm;omega
 intro h;cases u:Qr l g with
 |nil=>rfl
 |cons y t=>
  have z:y∈Qr l g:=by rw[u];exact Gt ..
  obtain⟨a,b⟩:=lZ.1 z;rw[h y a]at b;cases b
def ready_eq (l:A8 AQ)(e:AQ)(hl:l.length<=1000)(j:FH e):iG l e=some (Gl l e):=by
 have h1:=j.prev;have h2:=j.auth;unfold iG Gl;rw[aPa l _ hl AL,aPa l _ hl AL,Ad,a7n,Ad,a7n]
 grind
def aik (I:JL l):Ua l (DT l)=l.map λe=>bif Fg (DT l) e.Id then 4 else 2:=by
 have :∀m:A8 AQ,(∀e∈m,e∈l)->Ua m (DT l)=m.map λe=>bif Fg (DT l) e.Id then(4:Int)else 2:=by
  intro m
  induction m with
  |nil=>
   exact λ_=>rfl
  |cons e m j=>
   intro h;have j:=j λx u=>h x (IZ _ u);unfold Ua at j ⊢;obtain⟨y,q⟩:=rQ (IU.2 (Ez.2 ⟨e,h e (Gt ..),rfl⟩));have z:Fg (DT l) e.Id=(y.err==0):=by unfold Fg;rw[q]
   rw[VD,q,KD,Gs,j,z];show(bif !(y.err==0)then(2:Int)else 4)::_=_;cases y.err==0<;>rfl
 grind
def aN5 (L:Mc l=some 0)(z:JL l)(hd:HY l=0):jW l=some (IX l:Int):=by
 have hl:=z.len;have hs:=aXe L λ_=>z;rw[Vs hd,aik z]at hs;unfold jW;rw[hs,Ad];unfold aOd;refine dL.eq (Jf l.length (fuel_lt AL) (λi a=>a=(((l.take i).filter (N9 l)).length:Int)) rfl (λi a k hi ha I=>?_) λa k ha=>?_)
 ·have M:((l.take i).filter (N9 l)).length<=i:=EK (Lu ..) cZ;have u:i<(l.map λe=>bif Fg (DT l) e.Id then(4:Int)else 2).length:=a7i
  have J:=CY u;rw[Px]at J;have q:=a0p (p:=N9 l) hi;unfold aGm a5Y;rw[DI hi,dec_lt u,J];have j:N9 l l[i]=(l[i].Kind==1&&Fg (DT l) l[i].Id):=rfl;cases h1:l[i].Kind==1 with
  |false=>
   rw[h1,uD]at j;rw[j]at q;simp only[BR,Ad];rw[wrap_succ i AL];exact I _ (by rw[ha,q];simp)
  |true=>
   rw[h1,GX]at j;simp only[Bl,Ad];cases h2:Fg (DT l) l[i].Id with
   |false=>
    rw[h2]at j;rw[j]at q;rw[show((bif false then(4:Int)else 2)==4)=false from rfl,BR,wrap_succ i AL];exact I _ (by rw[ha,q];simp)
   |true=>
    rw[h2]at j;rw[j]at q;rw[show((bif true then(4:Int)else 2)==4)=true from rfl,Bl,wrap_succ i AL,ha,wrap_succ _ AL];exact I _ (by rw[q];simp)
 unfold aGm;rw[Di,BR,ha,Gy];exact .ret rfl
def ama (q:Mc l=some 0)(j:JL l)(hd:HY l=0):kn l=some (JX l (Gn l (DT l))):=by
 have hl:=j.len;have ha:=alh q λ_=>j;rw[Vs hd]at ha;have u:=aO l (DT l);unfold kn;rw[ha,Ad,aXE l _ hl j.small AL];rfl
end
variable {b:AB AQ}
section
set_option maxRecDepth 20000
set_option maxHeartbeats 1000000
def abY {l:A8 FZ}(h:l.length<=1000000):tu l=some l:=by
 unfold tu;rw[Dy SG];rfl
def aSl (hl:l.length<=1000)(j:∀x∈l,x.Room=e.Room)(q:bU l e.Id=false):WY l e=some (E8 l e,0):=by
 have u:l.any (mW e)=false:=by
  rw[Z9];intro x z;unfold mW;rw[j x z];simp
 rw[aQh hl,u,BR,q,BR]
def aLi (hl:l.length<=1000)(z:∀x∈l,x.Room=e.Room)(q:bU l e.Id=true)(hs:∀x∈l,FH x)(I:FH e):WY l e=some (Q8 l e,0):=by
 have J:l.any (mW e)=false:=by
  rw[Z9];intro x L;unfold mW;rw[z x L];simp
 obtain⟨j,u⟩:=aSB q;rw[aQh hl,J,BR,q,Bl,(lq I.x).1,Ad,CY j,u,Ad,(lq (hs _ (aD1 q).1).x).1];unfold Q8 a0E
 grind
def agj (hs:EX l)(s:A8 BL):EX (MC l s):=aFw hs _
def aRq (h:GI r)(hl:r.Events.length<=50)(hv:Ko e=some 0)(hs:FH e)(hr:e.Room=r.Id)(Y:bU r.Events e.Id=false):qh r e=some (Io r e):=by
 have ha:=h.aGr hl hv hs hr Y;have M:=ha.ok;have j:=ha.ok';have hl':=ha.len';have c0:Mc r.Events=some 0:=a2R M.small AL h.set;have hrl:=h.RY;have Z:=h.next
 have hst:r.State.length<=50:=by
  have hp:=aOD (l:=r.Events) (c:=0) λ_=>M;rw[Vs h.deep]at hp;rw[h.state];exact EK hp.length hl
 unfold qh Io;rw[IC (show ¬(r.Events.length:Int)>=2000 by omega),BR,aSl AL ha.room Y,Ad];show(bif (0:Int) != 0 then _ else(eG (E8 r.Events e)).bind _)=_;rw[Y6,BR,aNN _ AL j.small j.dep,Ad];cases hd:HY (E8 r.Events e) != 0 with
 |true=>
  rfl
 |false=>
  have q:HY (E8 r.Events e)=0:=by simpa using hd
  rw[BR,BR,aN5 c0 M h.deep,Ad];show((bif (IX r.Events:Int)>0 then(jW (E8 r.Events e)).bind _ else _).bind _)=_;rw[aN5 ha.prog' j q,Ad]
  have hx:(bif (IX r.Events:Int)>0 then some (decide ((IX (E8 r.Events e):Int)>(IX r.Events:Int)))else some false)=some (decide (0<IX r.Events)&&N9 (E8 r.Events e) e):=by
   rw[ha.made q];by_cases hp:0<IX r.Events
   ·rw[KL (show(IX r.Events:Int)>0 by omega),Bl,KL hp,GX];cases N9 (E8 r.Events e) e with
    |true=>
     grind
    |false=>
     grind
   grind
  rw[hx,Ad];cases hc:(decide (0<IX r.Events)&&N9 (E8 r.Events e) e)with
  |true=>
   rfl
  |false=>
   have J:=abH ha.prog' (λ_=>j) e.Id;rw[Vs q]at J;have z:=aYT ha.prog' λ_=>j;rw[Vs q]at z;rw[BR,BR];show(nE (E8 r.Events e) e.Id).bind _=_;rw[J,Ad];obtain⟨y,hy⟩:=rQ ha.asA;have I:Fg (DT (E8 r.Events e)) e.Id=(y.err==0):=by unfold Fg;rw[hy]
   have h2:(a6N (DT (E8 r.Events e)) e.Id).2=bif y.err != 0 then 2 else 4:=by unfold a6N;rw[hy]
   have U:∀v,Xt r (E8 r.Events e,0) v=some ({ Qa r e with Rows:=r.Rows++[v] },0):=λv=>by
    unfold Xt;rw[abY AL,Ad,Dy GR,Ad];show(kn (E8 r.Events e)).bind _=_;rw[ama ha.prog' j q,Ad];show(lS (E8 r.Events e)).bind _=_;rw[z,Ad]
    have hw:Aw (({ r with Rows:=r.Rows++[v] }:C9).Next+1)=r.Next+1:=by
     show Aw (r.Next+1)=r.Next+1;exact OY AL AL
    rw[hw];rfl
   have hm:∀n,Sl r e=n->some ({ Qa r e with Rows:=r.Rows++[(⟨r.Next,e.Id,n,false⟩:FZ)] },(0:Int))=some (Qa r e,0):=λn Z=>by
    subst Z;rfl
   rw[h2];cases L:y.err==0 with
   |false=>
    have u:Sl r e=2:=by unfold Sl;rw[I,L];rfl
    rw[show(y.err != 0)=true by simpa[bne]using L];show Xt r (E8 r.Events e,0) _=_;rw[U];exact hm 2 u
   |true=>
    rw[show(y.err != 0)=false by simpa[bne]using L];show(qj r.Events r.State).bind _=_;rw[aTz _ _ AL AL,Ad,aAG e _ (EK (wH _ _) AL) (agj M.small _) hs,Ad];cases O:Lp e (MC r.Events r.State)==0 with
    |true=>
     have u:Sl r e=4:=by unfold Sl;rw[I,L,O];rfl
     rw[show(Lp e (MC r.Events r.State) != 0)=false by simpa[bne]using O];show Xt r (E8 r.Events e,0) _=_;rw[U];exact hm 4 u
    |false=>
     have u:Sl r e=3:=by unfold Sl;rw[I,L,O];rfl
     rw[show(Lp e (MC r.Events r.State) != 0)=true by simpa[bne]using O];show Xt r (E8 r.Events e,0) _=_;rw[U];exact hm 3 u
def agy (j:A8 (A8 AQ))(hl:j.length<=1000)(h:∀x∈j,x.length<=1000):wJ j=some j.flatten:=by
 have u:∀m:A8 (A8 AQ),(∀x∈m,x.length<=1000)->m.flatten.length<=m.length*1000:=by
  intro m
  induction m with
  |nil=>
   grind
  |cons x m z=>
   intro hm;have h1:=hm x (Gt ..);have h2:=z λy I=>hm y (IZ _ I);rw[List.flatten_cons,Ei,GK];omega
 have q:∀{i:Nat} (hi:i<j.length),(j.take (i+1)).flatten=(j.take i).flatten++j[i]:=λ{i} hi=>by
  rw[Nv hi,List.flatten_append];simp
 have hlen:∀i,(j.take i).flatten.length<=1000000:=λi=>by
  have h1:=u (j.take i) λx J=>h x (YU J)
  grind
 unfold wJ aUL;refine dL.eq (Jf j.length (fuel_lt AL) (λi a=>a=((j.take i).flatten.length:Int)) rfl (λi a k hi ha L=>?_) λa k ha=>?_)
 ·have h1:=hlen (i+1);have h2:=BG List.length (q hi);rw[Ei]at h2;unfold a6t;rw[DI hi,ha,OY AL AL,IC AL,BR,wrap_succ i AL]
  grind
 have h1:=hlen j.length
 have M:a8h a=some []:=by
  unfold a8h cu
  grind
 unfold a6t;rw[Di,BR,M,Ad];unfold aVC;refine Jf j.length (fuel_lt AL) (λi a=>a=(j.take i).flatten) rfl (λi a k hi ha L=>?_) λa k ha=>?_
 ·have h1:=hlen (i+1);have h2:=BG List.length (q hi);rw[Ei]at h2;unfold a1c;rw[DI hi,ha,Dy AL,Ad,wrap_succ i AL]
  grind
 unfold a1c;rw[Di,BR,ha,Gy];exact .ret rfl
def aVv :∀(l:A8 AQ) (j:Nat) (z:j<l.length),(l.map (·.Id)).Nodup->l.take j++l.drop (j+1)=Hf l l[j].Id
 | [],j,z,_=>absurd z (gQ _)
 |x::l,0,_,q=>by
  rw[Gs,KN]at q;unfold Hf
  have h1:l.filter (λy=>y.Id != x.Id)=l:=nS.2 λy L=>by
   have :y.Id≠x.Id:=λe=>q.1 (Ez.2 ⟨y,L,e⟩);simpa using this
  show l=(x::l).filter λy=>y.Id != x.Id;rw[List.filter_cons_of_neg Bf,h1]
 |x::l,j+1,z,q=>by
  rw[Gs,KN]at q;have u:j<l.length:=aC
  have J:=aVv l j u q.2;have I:x.Id≠l[j].Id:=λe=>q.1 (Ez.2 ⟨l[j],EY u,e.symm⟩);unfold Hf at J ⊢;show x::(l.take j++l.drop (j+1))=(x::l).filter λy=>y.Id != l[j].Id;rw[List.filter_cons_of_pos jf,J]
def aae (h:i<w.length):(w.take (i+1)).foldl (Jh l) none=Jh l ((w.take i).foldl (Jh l) none) w[i]:=by
 rw[Nv h,Uk];rfl
def aZY (h1:Gl l e=true)(h2:fJ b e=true):Jh l b e=some e:=by unfold Jh;rw[h1,h2];rfl
def aZl (h2:fJ b e=false):Jh l b e=b:=by unfold Jh;rw[h2,Bool.and_false];rfl
def aep (h1:Gl l e=false):Jh l b e=b:=by unfold Jh;rw[h1,uD];rfl
def aZq (q:r.Waiting.length<=0)(k3:C9->C9->AB C9)(v2:C9):oI r k3 v2 (-1) 0=some r:=by
 have j:r.Waiting=[]:=Ho AL;unfold oI;refine dL.eq (Jf 0 (fuel_lt AL) (λ_ a=>a= -1) rfl (λi a k hi=>absurd hi (gQ _)) λa k ha=>?_);unfold a2u;rw[j,ha,IC (show ¬((0:Nat):Int)<(([]:A8 AQ).length:Int) by simp),BR,KL (show(-1:Int)<0 by omega),Bl];exact .ret rfl
def akS {n:Nat}{k3:C9->C9->AB C9}{v2:C9}(ih:∀{r:C9},GI r->r.Waiting.length<=n->r.Events.length+n<=50->k3 r v2=some (Gm n r))(h:GI r)(hw:r.Waiting.length<=n+1)(hl:r.Events.length+(n+1)<=50):oI r k3 v2 (-1) 0=some (Gm (n+1) r):=by
 have hsm:∀e∈r.Waiting,FH e:=λe he=>(h.wQ.ev e he).2;unfold oI;refine dL.eq (Jf r.Waiting.length (fuel_lt AL) (λi a=>((r.Waiting.take i).foldl (Jh r.Events) none=none/\a= -1)\/∃j,∃J:j<r.Waiting.length,a=(j:Int)/\(r.Waiting.take i).foldl (Jh r.Events) none=some r.Waiting[j]) (.inl ⟨rfl,rfl⟩) (λi a k hi ha hk=>?_) λa k ha=>?_)
 ·have hb:=aae (l:=r.Events) hi;unfold a2u;rw[DI hi,ready_eq _ _ AL (hsm _ (EY hi)),Ad];cases L:Gl r.Events r.Waiting[i]with
  |false=>
   have hp:(r.Waiting.take (i+1)).foldl (Jh r.Events) none=(r.Waiting.take i).foldl (Jh r.Events) none:=by
    rw[hb,aep L]
   rw[Jl,Bl];unfold a0B;rw[wrap_succ i AL];exact hk a (by rw[hp];exact ha)
  |true=>
   have u:fJ ((r.Waiting.take i).foldl (Jh r.Events) none) r.Waiting[i]=true->dL (eF k (i:Int) a true) λx=>x=Gm (n+1) r:=λq=>by
    show dL (k (i:Int) (Aw ((i:Int)+1))) _;rw[wrap_succ i AL];exact hk _ (.inr ⟨i,hi,rfl,by rw[hb,aZY L q]⟩)
   have z:fJ ((r.Waiting.take i).foldl (Jh r.Events) none) r.Waiting[i]=false->dL (eF k (i:Int) a false) λx=>x=Gm (n+1) r:=λq=>by
    show dL (k a (Aw ((i:Int)+1))) _;rw[wrap_succ i AL];exact hk _ (by rw[hb,aZl q];exact ha)
   rw[FU,BR];rcases ha with⟨h1,h2⟩|⟨j,J,h2,h1⟩
   ·rw[h2,KL (show(-1:Int)<0 by decide),Bl,←h2];exact u tX
   have q:fJ ((r.Waiting.take i).foldl (Jh r.Events) none) r.Waiting[i]=O4 r.Waiting[i] r.Waiting[j]:=tX
   unfold O4 at q;rw[h2,IC (show ¬(j:Int)<0 by omega),BR,CY J,Ad];cases c1:decide (r.Waiting[i].Depth<r.Waiting[j].Depth)with
   |true=>
    rw[c1,Bool.true_or]at q;rw[Bl,←h2];exact u q
   |false=>
    rw[c1,Qv]at q;rw[BR,Ad];cases c2:r.Waiting[i].Depth==r.Waiting[j].Depth with
    |false=>
     rw[c2,uD]at q;rw[BR,←h2];exact z q
    |true=>
     rw[c2,GX]at q;rw[Bl,Ad,←h2];cases c3:decide (r.Waiting[i].Id<r.Waiting[j].Id)with
     |true=>
      grind
     |false=>
      grind
 rw[Gy]at ha;unfold a2u;rw[Di,BR];rcases ha with⟨h1,h2⟩|⟨j,J,h2,h1⟩
 ·have h1:WW r.Events r.Waiting=none:=h1;rw[h2,KL (show(-1:Int)<0 by decide),Bl];refine .ret ?_;unfold Gm;rw[h1]
 have h1:WW r.Events r.Waiting=some r.Waiting[j]:=h1;obtain⟨I,b2⟩:=a1S h1;have hd:=h.drop AL r.Waiting[j].Id;have hdl:=a7F I;have M:=h.wQ.ev _ I;have hv:=pz h.afZ AL _ I;have O:=aRq hd (show r.Events.length<=50 by omega) hv M.2 (h.U7 _ I) (h.WE _ I)
 have hg1:Hw r.Waiting 0 (j:Int)=some (r.Waiting.take j):=by
  show Hw r.Waiting ((0:Nat):Int) (j:Int)=_;rw[Ya (l:=r.Waiting) (lo:=0) (hi:=j) AL AL];simp
 have hg2:Hw r.Waiting (((j+1:Nat)):Int) (r.Waiting.length:Int)=some (r.Waiting.drop (j+1)):=by
  rw[Ya (l:=r.Waiting) (lo:=j+1) (hi:=r.Waiting.length) AL (Eb _),Qj (by rw[Ld];omega)]
 have U:=agy [r.Waiting.take j,r.Waiting.drop (j+1)] Bf (by
  intro x Y;rcases FP.1 Y with rfl|Y
  ·rw[H6];omega
  rw[JI.1 Y,Ld];omega)
 have hfl:[r.Waiting.take j,r.Waiting.drop (j+1)].flatten=Hf r.Waiting r.Waiting[j].Id:=by
  rw[←aVv r.Waiting j J (TK h.wQ.inc)];simp
 rw[hfl]at U;rw[h2,IC (show ¬(j:Int)<0 by omega),BR,CY J,Ad,hg1,Ad,wrap_succ j AL,hg2,Ad,U,Ad,O,Ad]
 have Z:Gm (n+1) r=Gm n (Io { r with Waiting:=Hf r.Waiting r.Waiting[j].Id } r.Waiting[j]).1:=by
  show(match WW r.Events r.Waiting with
   |none=>r
   |some e=>Gm n (Io { r with Waiting:=Hf r.Waiting e.Id } e).1)=_
  rw[h1]
 rw[Z];refine .of ?_;rcases Xb { r with Waiting:=Hf r.Waiting r.Waiting[j].Id } r.Waiting[j]with⟨q1,_⟩|⟨q1,q2,q3⟩
 ·grind
 rw[q1]
 have hm:=hd.more (e:=r.Waiting[j]) (show r.Events.length<=50 by omega) hv M.2 (h.U7 _ I) (h.WE _ I) (λx Y=>by
  have :=(Gx.1 Y).2
  simpa using this) b2 q2 q3
 exact ih hm (show(Hf r.Waiting r.Waiting[j].Id).length<=n by omega) (show(E8 r.Events r.Waiting[j]).length+n<=50 by rw[Pn];omega)
def aQE :∀(n:Nat) (r:C9),(Gm n r).Events.length<=r.Events.length+n
 |0,r=>Eb _
 |n+1,r=>by
  unfold Gm;cases WW r.Events r.Waiting with
  |none=>
   grind
  |some e=>
   show(Gm n (Io { r with Waiting:=Hf r.Waiting e.Id } e).1).Events.length<=_;have h1:=aQE n (Io { r with Waiting:=Hf r.Waiting e.Id } e).1
   have h2:(Io { r with Waiting:=Hf r.Waiting e.Id } e).1.Events.length<=r.Events.length+1:=by
    rcases Xb { r with Waiting:=Hf r.Waiting e.Id } e with⟨q1,_⟩|⟨q1,_⟩
    ·grind
    rw[q1];show(E8 r.Events e).length<=_;rw[Pn];omega
   omega
def alb {A B R:Type}(body:(A->B->AB R)->A->B->AB R)(n:Nat)(a:A)(b:B):aQ body (n+1) a b=body (aQ body n) a b:=rfl
def anQ (k3:C9->C9->AB C9)(r v2:C9):Fn1 k3 r v2=oI r k3 v2 (-1) 0:=rfl
def afs (v2:C9):∀(m n:Nat),n<m->∀(r:C9),GI r->r.Waiting.length<=n->r.Events.length+n<=50->aQ Fn1 m r v2=some (Gm n r):=by
 intro m
 induction m with
 |zero=>
  grind
 |succ m q=>
  intro n hm r h j hl;rw[alb,anQ];cases n with
  |zero=>
   exact aZq j (aQ Fn1 m) v2
  |succ n=>
   exact akS (k3:=aQ Fn1 m) (v2:=v2) (λ{r} h1 h2 h3=>q n AL r h1 h2 h3) h j hl
def alZ (h:GI r)(hl:r.Events.length+r.Waiting.length<=50):um r=some (Gm r.Waiting.length r):=by
 unfold um aQs;exact afs O1 Ar r.Waiting.length (fuel_lt AL) r h (Eb _) hl
def aWg (r:C9)(id:Int):∀(n:Nat) (a:Int) (b:FZ),aQ (Uy r id) n a b=bC (λk i=>Uy r id (λj _=>k j) i KW) n a
 |0,_,_=>rfl
 |n+1,a,b=>by
  have q:aQ (Uy r id) n=λj _=>bC (λk i=>Uy r id (λj _=>k j) i KW) n j:=funext λa=>funext λb=>aWg r id n a b;show Uy r id (aQ (Uy r id) n) a b=Uy r id (λj _=>bC (λk i=>Uy r id (λj _=>k j) i KW) n j) a KW;rw[q];rfl
def VX (r:C9)(id:Int):FZ×AX:=match MJ r id with
 |some x=>(x,true)
 |none=>(KW,false)
def aV1 (r:C9)(id:Int)(hl:r.Rows.length<=1000000):Zu r id=some (VX r id):=by
 unfold Zu aWC;rw[aWg,KC r.Rows (fuel_lt AL) (λx=>x.Id==id) (λi=>match r.Rows[i]? with |some x=>some (x,true)|none=>none) (some (KW,false))]
 ·unfold VX MJ;rw[Ku]
  grind
 ·intro k i h;unfold Uy;rw[DI h,ES h]
 intro k;unfold Uy;rw[Di,BR]
def aS2 (r:C9)(id:Int):(VX r id).1.Status=aAO r id:=by
 unfold VX aAO MJ;cases r.Rows.find? λx=>x.Id==id<;>rfl
def amN {z:AQ}{v:Int}(h:jE e=some (z,v))(j:v≠0):Vh r e=some (r,0,v):=by
 unfold Vh
 grind
def anF (h:GI r)(hl:r.Events.length+r.Waiting.length<=48)(u:a3c r x)(he:jE e=some (x,0)):Vh r e=some (QC r x):=by
 have ho:=h.facts.ok AL;have hrl:=h.RY;have M:∀y∈r.Events,FH y:=ho.small;have O:∀y∈r.Waiting,FH y:=λy z=>(h.wQ.ev y z).2;unfold Vh QC;rw[he,Ad];show(bif (0:Int) != 0 then _ else(bif (!(x.Room.toList==r.Id.toList))then _ else(MI r.Events x.Id).bind _))=_;rw[Y6,BR,show(x.Room.toList==r.Id.toList)=decide (x.Room=r.Id)from Ja];cases j:decide (x.Room=r.Id)with
 |false=>rfl
 |true=>
 have j:=P7 j;have U:∀y∈r.Events,y.Room=x.Room:=λy z=>by rw[h.own y z,j]
 have J:∀y∈r.Waiting,y.Room=x.Room:=λy z=>by rw[h.U7 y z,j]
 rw[FU,BR,BR,Om r.Events _ AL,Ad,Nb];show(bif bU r.Events x.Id then _ else _)=_;cases Y:bU r.Events x.Id with
 |true=>
  rw[Bl,Bl];show(Zu r x.Id).bind _=_;rw[aV1 r _ AL,Ad];show(WY r.Events x).bind _=_;rw[aLi AL U Y M u.small,Ad];show some ({ r with Events:=Q8 r.Events x },(VX r x.Id).1.Status,(0:Int))=_;rw[aS2]
 |false=>
 rw[BR,BR];show(MI r.Waiting x.Id).bind _=_;rw[Om r.Waiting _ AL,Ad,Nb];rw[show(Ef r.Waiting x.Id).isSome=bU r.Waiting x.Id from rfl];show((bif (!bU r.Waiting x.Id)then(iG r.Events x).bind λI=>some I else some false).bind _)=_;rw[ready_eq _ _ AL u.small];have hx:(bif (!bU r.Waiting x.Id)then(some (Gl r.Events x)).bind λI=>some I else some false)=some (!bU r.Waiting x.Id&&Gl r.Events x):=by cases bU r.Waiting x.Id<;>rfl
 rw[hx,Ad];cases Z:(!bU r.Waiting x.Id&&Gl r.Events x)with
 |true=>
  rw[Dj]at Z;have q:bU r.Waiting x.Id=false:=by simpa using Z.1
  rw[Bl,Bl];show(qh r x).bind _=_;rw[aRq h AL u.ver u.small j Y,Ad];rcases Xb r x with⟨q1,q2⟩|⟨q1,q2,q3⟩
  ·rw[show((Io r x).2 != 0)=true by simpa using q2];rfl
  have hm:=h.more AL u.ver u.small j Y (λy z hyx=>by
   have :=IU.2 (Ez.2 ⟨y,z,hyx⟩)
   rw[q]at this;cases this) Z.2 q2 q3
  have L:(E8 r.Events x).length+r.Waiting.length<=50:=by rw[Pn];omega
  have hs:=alZ hm L;have hg:=a4P r.Waiting.length hm (Eb _) L
  have hgl:(Gm r.Waiting.length (Qa r x)).Rows.length<=1000000:=by
   have h1:=hg.1.RY;have h2:=aQE r.Waiting.length (Qa r x);have h3:(Qa r x).Events.length=r.Events.length+1:=Pn _ _;omega
  rw[q1];show(bif (0:Int) != 0 then _ else(um (Qa r x)).bind _)=_;rw[Y6,BR,hs,Ad];show(Zu (Gm r.Waiting.length (Qa r x)) x.Id).bind _=_;rw[aV1 _ _ hgl,Ad,aS2];rfl
 |false=>
 rw[BR,BR]
 have hx2:(bif (!bU r.Waiting x.Id)then some (decide ((r.Waiting.length:Int)>=200))else some false)=some (!bU r.Waiting x.Id&&(200<=r.Waiting.length)):=by
  have :decide ((r.Waiting.length:Int)>=200)=decide (200<=r.Waiting.length):=by
   by_cases h:200<=r.Waiting.length
   ·rw[KL h,KL AL]
   rw[IC h,IC AL]
  rw[this];cases bU r.Waiting x.Id<;>rfl
 rw[hx2,Ad];cases hfull:(!bU r.Waiting x.Id&&(200<=r.Waiting.length))with
 |true=>rfl
 |false=>
 rw[BR,BR];show(WY r.Waiting x).bind _=_;cases q:bU r.Waiting x.Id with
 |true=>
  rw[aLi AL J q O u.small];rfl
 |false=>
  rw[aSl AL J q];rfl
end
variable {b:AQ}
section
set_option maxRecDepth 20000
set_option maxHeartbeats 1000000
def aa7 (ha:FH a):∃r,fP a b=some r:=by
 have h1:=ha.prev;have h2:=ha.auth;unfold fP;rw[a8f _ _ AL,a8f _ _ AL,aG3 _ ha.content];simp only[Lr,Ad,SV];exact⟨_,rfl⟩
end
section
set_option maxRecDepth 20000
set_option maxHeartbeats 1000000
def KQ.strip {c:D8}(h:KQ c)(k:Int):KQ (Oa k c):=by
 have j:(0:Nat)<=9223372036854775807:=F7 _;unfold Oa
 repeat' split
 all_goals first|exact h|exact⟨by first|exact h.allow|exact j,by first|exact h.deny|exact j,by first|exact h.users|exact j,by first|exact h.kinds|exact j,by first|exact h.text|exact j,by first|exact h.via|exact j,by first|exact h.allows|simp[Eu],by first|exact h.denies|simp[Eu],by first|exact h.names|simp[Eu,KU]⟩
def LM.strip {e:AQ}(h:LM e):LM (SE e):=⟨h.prev,h.auth,h.room,h.sender,h.key,h.server,h.content.strip e.Kind⟩
def amM (j:LM e)(hm:U1 e.Content<=1048576):∃y v,jE e=some (y,v)/\aKA e=some (y,v)/\(v=0->Ko y=some 0/\FH y/\H7 e y):=by
 have q:∀x,LM x->H7 e x->∃y v,vO x=some (y,v)/\a4y x=some (y,v)/\(v=0->Ko y=some 0/\FH y/\H7 e y):=λx I hs=>by
  obtain⟨c,J,u,L⟩:=a3N I;unfold vO a4y;rw[J,u,Ad];cases M:c != 0 with
  |true=>
   grind
  |false=>
   have z:c=0:=by simpa using M
   exact⟨_,_,rfl,rfl,λ_=>⟨by rw[u,z],(L z).2,hs⟩⟩
 unfold jE aKA;rw[(a3p hm).1,(a3p hm).2,Ad,Ad];cases XL e==e.Hash with
 |true=>
  exact q e j (.refl e)
 |false=>
  have h1:fM e=some (SE e):=by unfold fM;rw[aXJ _ hm];rfl
  rw[Jl,Bl,Bl,h1,aK7,Ad,Ad];exact q _ j.strip (aaJ e)
def agY (ha:FH a)(u:∃w,UW b=some w):dL (aAN a b) (λt=>t=false->H7 a b):=by
 have hp:=ha.prev;have j:=ha.auth;obtain⟨r,h1,h2⟩:=alX (a:=a) (b:=b) (ah2 ha).content AL AL;obtain⟨q,j⟩:=aa7 (b:=b) ha;obtain⟨w,z⟩:=u;unfold aAN;rw[aK7,aK7,Ad,Ad,h1,Ad];cases r with
 |false=>exact .ret λh=>Gv
 |true=>
  rw[FU,BR,(lq ha.x).2,Ad];refine dL.bif (λ_=>?_) λ_=>.ret λ_=>(h2 rfl).2;rw[z,Ad];refine dL.bif (λ_=>?_) λ_=>.ret λ_=>(h2 rfl).2;rw[j,Ad];exact .ret λ_=>(h2 rfl).2
end
section
set_option maxRecDepth 20000
set_option maxHeartbeats 1000000
def alW (l:A8 AQ)(e:AQ)(hl:l.length<=1000)(j:FH e):aBF l e=some (Gl l e):=by
 have h1:=j.prev;have h2:=j.auth;unfold aBF Gl;rw[rX l _ hl AL,rX l _ hl AL,Ad,a7n,Ad,a7n];cases e.bH.all (bU l)<;>rfl
def aT3 (r:C9)(id:Int):∀(n:Nat) (a:Int) (b:FZ),aQ (Uu r id) n a b=bC (λk i=>Uu r id (λj _=>k j) i KW) n a
 |0,_,_=>rfl
 |n+1,a,b=>by
  have q:aQ (Uu r id) n=λj _=>bC (λk i=>Uu r id (λj _=>k j) i KW) n j:=funext λa=>funext λb=>aT3 r id n a b;show Uu r id (aQ (Uu r id) n) a b=Uu r id (λj _=>bC (λk i=>Uu r id (λj _=>k j) i KW) n j) a KW;rw[q];rfl
def row24 (r:C9)(id:Int)(hl:r.Rows.length<=1000000):rZ r id=some (VX r id):=by
 unfold rZ aNB;rw[aT3,KC r.Rows (fuel_lt AL) (λx=>x.Id==id) (λi=>match r.Rows[i]? with |some x=>some (x,true)|none=>none) (some (KW,false))]
 ·unfold VX MJ;rw[Ku];by_cases h:r.Rows.findIdx (λx=>x.Id==id)<r.Rows.length
  ·rw[Ea h,ES h]
  rw[Eh h,Oo AL]
 ·intro k i h;unfold Uu;rw[DI h,ES h,CY h];rfl
 intro k;unfold Uu;rw[Di,BR]
def ajG (I:JL l):a7y l=some (IX l:Int):=by
 have hl:=I.len
 have M:(DT l).length<=1000:=by
  have h1:=BG List.length (aEN l);rw[Df,a1e]at h1;omega
 unfold a7y;rw[aTi I,Ad];unfold aWO;refine dL.eq (Jf l.length (fuel_lt AL) (λi a=>a=(((l.take i).filter (N9 l)).length:Int)) rfl (λi a k hi ha J=>?_) λa k ha=>?_)
 ·have O:((l.take i).filter (N9 l)).length<=i:=EK (Lu ..) cZ;have q:=a0p (p:=N9 l) hi;obtain⟨y,L⟩:=rQ (IU.2 (Ez.2 ⟨_,EY hi,rfl⟩));have U:RU (DT l) l[i].Id=(LW y,true):=by unfold RU;rw[L]
  have z:Fg (DT l) l[i].Id=(y.err==0):=by unfold Fg;rw[L]
  have j:N9 l l[i]=(l[i].Kind==1&&(y.err==0)):=by unfold N9;rw[z]
  have u:N9 l l[i]=false->dL (YP k (i:Int) a) (λx=>x=(IX l:Int)):=λhm=>by
   rw[hm]at q;unfold YP;rw[wrap_succ i AL];exact J _ (by rw[ha,q];simp)
  unfold aF0;rw[DI hi,qP _ _ AL,Ad,CY hi,Ad,U];cases h1:l[i].Kind==1 with
  |false=>
   rw[h1,uD]at j;exact u j
  |true=>
   rw[h1,GX]at j;show dL (bif y.err==0 then YP k (i:Int) (Aw (a+1))else YP k (i:Int) a) _;cases h2:y.err==0 with
   |false=>rw[h2]at j;exact u j
   |true=>
    rw[h2]at j;rw[j]at q;rw[Bl];unfold YP;rw[wrap_succ i AL,ha,wrap_succ _ AL];exact J _ (by rw[q];simp)
 unfold aF0;rw[Di,BR,ha,Gy];exact .ret rfl
def aPN (r:C9)(ids:A8 Int)(i:Nat)(q:r.Rows.length<=1000000)(hi:ids.length<=1000000):yX r ids (i:Int)=some (ids.all (SA r i)):=by
 unfold yX aSz;rw[Hq ids (fuel_lt AL) (λx=> !SA r i x) false (some true) (λk j u=>?_) λk=>?_]
 ·rw[kZ];cases ids.all (SA r i)<;>rfl
 ·unfold aBv;rw[DI u,row24 _ _ q,Ad];unfold SA VX;cases MJ r ids[j]with
  |none=>rfl
  |some x=>
   show((bif !true then some true else some (decide (x.Pos>=(i:Int)))).bind λz=>bif z then some false else k (Aw ((j:Int)+1)))=bif !decide (x.Pos<(i:Int))then some false else k (Aw ((j:Int)+1))
   rw[←a4t];rfl
 unfold aBv;rw[Di,BR]
def afh (hc:Kr r.Events=some 0)(hF:MX r.Events)(hd:HY r.Events=0)(hl:r.Events.length<=100)(hr:r.Rows.length<=1000):a7Z r=some (kH r):=by
 have Z:=hF.ok hl;obtain⟨t1,_,t3⟩:=aIP hc λ_=>Z;rw[Vs hd]at t1 t3;unfold a7Z;rw[ajG Z,Ad]
 have hx:((bif ((r.Rows.length:Int) != (r.Events.length:Int))then some true else some (r.Next != (r.Rows.length:Int))).bind λx1=>(bif x1 then some true else some (decide ((IX r.Events:Int)>1))))=some (!(((r.Rows.length==r.Events.length)&&(r.Next==(r.Rows.length:Int)))&&(IX r.Events<=1))):=by
  have e1:((r.Rows.length:Int) != (r.Events.length:Int))= !(r.Rows.length==r.Events.length):=by
   by_cases h:r.Rows.length=r.Events.length
   ·rw[h];simp
   rw[show(r.Rows.length==r.Events.length)=false by simpa using h,Jl,bne_iff_ne];omega
  have e2:decide ((IX r.Events:Int)>1)= !decide (IX r.Events<=1):=by
   by_cases h:IX r.Events<=1
   ·rw[KL h,IC AL];rfl
   rw[IC h,KL AL];rfl
  rw[e1,e2];cases r.Rows.length==r.Events.length with
  |false=>rfl
  |true=>
   show(bif r.Next != (r.Rows.length:Int)then _ else _)=_;cases J:r.Next==(r.Rows.length:Int)with
   |false=>rw[show(r.Next != (r.Rows.length:Int))=true by simpa[bne]using J];rfl
   |true=>rw[show(r.Next != (r.Rows.length:Int))=false by simpa[bne]using J];rfl
 have hx':∀{F:AX->AB AX},(((bif ((r.Rows.length:Int) != (r.Events.length:Int))then some true else some (r.Next != (r.Rows.length:Int))).bind λx1=>(bif x1 then some true else some (decide ((IX r.Events:Int)>1))).bind F))=F (!(((r.Rows.length==r.Events.length)&&(r.Next==(r.Rows.length:Int)))&&(IX r.Events<=1))):=λ{F}=>by
  rw[←Option.bind_assoc,hx];rfl
 refine Eq.trans hx' ?_;unfold kH;cases J:(((r.Rows.length==r.Events.length)&&(r.Next==(r.Rows.length:Int)))&&(IX r.Events<=1))with
 |false=>rfl
 |true=>
  rw[FU,BR,t1,Ad,GX,←afV];unfold aOJ;refine dL.eq (YQ r.Rows.length (fuel_lt AL) (λi=>∀j (L:j<r.Rows.length),j<i->Vy r j r.Rows[j]=true) (λj L h=>absurd h (gQ _)) (λi k hi hI hk=>?_) λk hI=>?_)
  ·have u:Vy r i r.Rows[i]=false->dL (some false) (λx=>x=iC r):=λJ=>by
    refine .ret ?_;cases hz:iC r with
    |false=>rfl
    |true=>
     unfold iC at hz;rw[xX.1 hz i hi]at J;cases J
   have z:Vy r i r.Rows[i]=true->dL (k (Aw ((i:Int)+1))) (λx=>x=iC r):=λJ=>by
    rw[wrap_succ i AL];refine hk λj L hji=>?_;by_cases e:j=i
    ·subst e;exact J
    exact hI j L AL
   have hev:(IK r.Events r.Rows[i].Id).1=ev r.Events r.Rows[i].Id:=rfl
   have hsm:(ev r.Events r.Rows[i].Id).bH.length<=1000/\(ev r.Events r.Rows[i].Id).bJ.length<=1000:=by
    have :=a0v Z.small r.Rows[i].Id;have h1:=this.prev;have h2:=this.auth;omega
   unfold aCi;rw[DI hi,row24 _ _ AL,Ad,N7 _ _ AL,Ad,qP _ _ AL,Ad,hev,aPN r _ i AL AL,aPN r _ i AL AL,Nb,aV4];simp only[Ad];rw[show(Ef r.Events r.Rows[i].Id).isSome=bU r.Events r.Rows[i].Id from rfl]
   have M:(VX r r.Rows[i].Id).1.Pos=((MJ r r.Rows[i].Id).map (·.Pos)).getD 0:=by
    unfold VX;cases MJ r r.Rows[i].Id<;>rfl
   rw[M];have I:Vy r i r.Rows[i]=(bU r.Events r.Rows[i].Id&&(r.Rows[i].Pos==(i:Int)&&(((MJ r r.Rows[i].Id).map (·.Pos)).getD 0==(i:Int)&&(((ev r.Events r.Rows[i].Id).bH.all (SA r i)&&(ev r.Events r.Rows[i].Id).bJ.all (SA r i))&&Wj r r.Rows[i])))):=rfl;cases c1:bU r.Events r.Rows[i].Id with
   |false=>exact u (by rw[I,c1];rfl)
   |true=>
   cases O:r.Rows[i].Pos==(i:Int)with
   |false=>
    rw[show(r.Rows[i].Pos != (i:Int))=true by simpa[bne]using O];exact u (by rw[I,O];simp)
   |true=>
   rw[show(r.Rows[i].Pos != (i:Int))=false by simpa[bne]using O];cases U:((MJ r r.Rows[i].Id).map (·.Pos)).getD 0==(i:Int)with
   |false=>
    rw[show(((MJ r r.Rows[i].Id).map (·.Pos)).getD 0 != (i:Int))=true by simpa[bne]using U];exact u (by rw[I,U];simp)
   |true=>
   rw[show(((MJ r r.Rows[i].Id).map (·.Pos)).getD 0 != (i:Int))=false by simpa[bne]using U];cases c4:(ev r.Events r.Rows[i].Id).bH.all (SA r i)with
   |false=>exact u (by rw[I,c4];simp)
   |true=>
   cases c5:(ev r.Events r.Rows[i].Id).bJ.all (SA r i)with
   |false=>exact u (by rw[I,c5];simp)
   |true=>
   have hst:Wj r r.Rows[i]=(((errOf (DT r.Events) r.Rows[i].Id != 0)==(r.Rows[i].Status==2))&&((r.Rows[i].Status==2||r.Rows[i].Status==3)||r.Rows[i].Status==4)):=by
    unfold Wj;rw[aSo c1];rfl
   have q:Vy r i r.Rows[i]=Wj r r.Rows[i]:=by rw[I,c1,O,U,c4,c5];rfl
   rw[hst]at q;show dL ((bif (!((errOf (DT r.Events) r.Rows[i].Id != 0)==(r.Rows[i].Status==2)))then some true else((bif (r.Rows[i].Status != 2)then some (r.Rows[i].Status != 3)else some false).bind λx28=>(bif x28 then some (r.Rows[i].Status != 4)else some false).bind λx30=>some x30)).bind λx26=>(bif x26 then some false else k (Aw ((i:Int)+1)))) _;cases c6:(errOf (DT r.Events) r.Rows[i].Id != 0)==(r.Rows[i].Status==2)with
   |false=>rw[c6]at q;exact u q
   |true=>
   rw[c6,GX]at q;unfold bne;cases Y:r.Rows[i].Status==2 with
   |true=>rw[Y]at q;exact z q
   |false=>
   cases c8:r.Rows[i].Status==3 with
   |true=>rw[Y,c8]at q;exact z q
   |false=>
   cases c9:r.Rows[i].Status==4 with
   |true=>rw[Y,c8,c9]at q;exact z q
   |false=>rw[Y,c8,c9]at q;exact u q
  unfold aCi;rw[Di,BR];refine .ret ?_;unfold iC;exact(xX.2 λj L=>hI j L L).symm
end
section
set_option maxRecDepth 20000
set_option maxHeartbeats 1000000
def aP7 (z:∀e∈l,LM e)(hl:l.length<=100):dL (zJ r l) (λc=>c=0->Kr l=some 0/\MX l/\∀x∈l,x.Room=r.Id):=by
 obtain⟨c,_,I,J⟩:=aO4 z hl;unfold zJ;rw[I,Ad];refine dL.bif (λq=>?_) λq=>.ret λh=>?_
 ·obtain rfl:c=0:=eq_of_beq q;have u:=J rfl;refine dL.bif (λh1=>?_) λh1=>.ret λ_=>⟨rfl,u,?_⟩
  ·have j:0<l.length:=by have :=P7 h1;omega
   rw[show Aq l 0=some l[0]from CY j,Ad];unfold uJ;refine dL.bif (λ_=>.ret λh=>Gv) λh2=>.ret λ_=>⟨rfl,u,λx L=>?_⟩
   have :l[0].Room=r.Id:=toList_inj L9;rw[u.room x L _ (EY j),this]
  grind
 have h:c=0:=h;rw[h]at q;cases q
def alR (J:∀e∈r.Waiting,LM e)(hl:r.Events.length<=100)(j:r.Waiting.length<=100):dL (a5u r) (λc=>c=0->Kr r.Waiting=some 0/\MX r.Waiting/\(∀x∈r.Waiting,x.Room=r.Id)/\(∀x∈r.Waiting,bU r.Events x.Id=false)/\Vj r):=by
 unfold a5u;refine(aP7 (r:=r) J j).bind λc L=>dL.bif (λh=>.ret λq=>?_) λh=>?_
 ·have q:c=0:=q;rw[q]at h;cases h
 obtain rfl:c=0:=OG
 obtain⟨M,I,O⟩:=L rfl;have u:∀e∈r.Waiting,FH e:=λe U=>(I.ev e U).2
 have h2:aHU r 0=bif r.Waiting.any (Gl r.Events)then some 26 else some 0:=by
  unfold aHU;refine Hq r.Waiting (fuel_lt AL) (Gl r.Events) 26 (some 0) (λk i hi=>?_) λk=>?_
  ·unfold aGO;rw[DI hi,alW _ _ AL (u _ (EY hi)),Ad]
  unfold aGO;rw[Di,BR,IC AL,BR]
 unfold aQ7;rw[Hq r.Waiting (fuel_lt AL) (λx=>bU r.Events x.Id) 4 (bif r.Waiting.any (Gl r.Events)then some 26 else some 0) (λk i hi=>?_) λk=>?_]
 ·refine dL.bif (λ_=>.ret λh=>Gv) λY=>dL.bif (λ_=>.ret λh=>Gv) λZ=>.ret λ_=>⟨M,I,O,λx z=>?_,λx z=>?_⟩
  ·have :=Z9.1 Y x z;simpa using this
  have :=Z9.1 Z x z;simpa using this
 ·unfold aEJ;rw[DI hi,N7 _ _ AL,Ad,Nb];rfl
 unfold aEJ;rw[Di,BR,h2]
def ak2 {a b:A8 Int}(ha:a.length<=1000):dL (a5K a b) (λc=>c=true->a=b):=by
 unfold a5K;refine dL.bif (λ_=>.ret λh=>Gv) λh=>?_
 have j:a.length=b.length:=by
  grind
 unfold aS4
 rw[Yy (λx y:Int=>x==y) a b ha j false (some true) (λk i h h'=>by
  unfold aEU
  rw[dec_lt h,Bl,CY h,CY h',Ad,Ad];rfl) λk=>by
  unfold aEU
  rw[Di,BR]]
 refine dL.bif (λ_=>.ret λh=>Gv) λq=>.ret λ_=>?_;refine a4v (p:=λx y:Int=>x==y) (λx y h=>eq_of_beq h) ?_;unfold ND
 grind
def yQ (x y:BL):AX:=(x.Kind==y.Kind)&&((x.Key.toList==y.Key.toList)&&(x.Id==y.Id))
def am7 {x y:BL}(h:yQ x y=true):x=y:=by
 unfold yQ at h;simp only[Dj,MZ]at h;obtain⟨h1,h2,h3⟩:=h;cases x;cases y;simp only at *;rw[h1,toList_inj h2,h3]
def ag1 {a b:A8 BL}(ha:a.length<=1000):dL (aAk a b) (λc=>c=true->a=b):=by
 unfold aAk;refine dL.bif (λ_=>.ret λh=>Gv) λh=>?_
 have j:a.length=b.length:=by
  grind
 unfold aMC
 rw[Yy yQ a b ha j false (some true) (λk i h h'=>by
  unfold aKt vP yQ;rw[dec_lt h,Bl,CY h,CY h',Ad,Ad];unfold bne;cases a[i].Kind==b[i].Kind with
  |false=>rfl
  |true=>
   simp only[Ad];cases a[i].Key.toList==b[i].Key.toList with
   |false=>rfl
   |true=>cases a[i].Id==b[i].Id<;>rfl) λk=>by
  unfold aKt
  rw[Di,BR]]
 refine dL.bif (λ_=>.ret λh=>Gv) λq=>.ret λ_=>?_;refine a4v (p:=yQ) (λx y h=>am7 h) ?_;unfold ND
 grind
def aXu (L:r.Id.size<=9223372036854775807)(hw:∀e∈r.Events,LM e)(M:∀e∈r.Waiting,LM e)(hl:r.Events.length<=100)(O:r.Waiting.length<=100)(U:r.Rows.length<=1000)(Y:r.vY.length<=1000)(Z:r.State.length<=1000):
 dL (ou r) (λc=>c=0->GI r/\Vj r):=by
 unfold ou;rw[(qU L).2,Ad];refine dL.bif (λ_=>.ret λh=>Gv) λh1=>?_;have h1:SS r.Id=0:=VG
 refine(aP7 (r:=r) hw hl).bind λc hc=>dL.bif (λh=>?_) λh=>?_
 ·obtain rfl:c=0:=eq_of_beq h;obtain⟨J,g2,g3⟩:=hc rfl;have z:=g2.ok hl;rw[aVt _ hl z.small z.dep,Ad];unfold a00;refine dL.bif (λh2=>.ret λI=>?_) λh2=>?_
  ·grind
  have hd:HY r.Events=0:=L9
  rw[afh J g2 hd hl U,Ad];refine dL.bif (λ_=>.ret λh=>Gv) λh3=>?_;have h3:kH r=true:=Ve
  refine(alR M hl O).bind λw hwt=>dL.bif (λh4=>.ret λI=>?_) λh4=>?_
  ·have I:w=0:=I
   grind
  obtain rfl:w=0:=by simpa using h4
  obtain⟨w1,w2,w3,w4,w5⟩:=hwt rfl;obtain⟨t1,t2,t3⟩:=aIP J λ_=>z;rw[Vs hd]at t1 t2 t3;have hal:=aO r.Events (DT r.Events)
  have j:aAe r.Events=some (JX r.Events (Gn r.Events (DT r.Events))):=by
   unfold aAe zM;rw[t1,Ad,aNv _ _ AL AL,Ad,aVR _ _ AL z.small AL];rfl
  have q:=amh J (λ_=>z) hl z.small;rw[Vs hd]at q;rw[j,Ad];refine(ak2 (b:=JX r.Events (Gn r.Events (DT r.Events))) Y).bind λs hs=>dL.bif (λ_=>.ret λh=>Gv) λh5=>?_;have h5:=hs (by simpa using h5);rw[q,Ad];refine(ag1 (b:=NZ r.Events (DT r.Events)) Z).bind λu hu=>?_;unfold aB4;refine dL.bif (λ_=>.ret λh=>Gv) λh6=>.ret λ_=>?_;have h6:=hu (by simpa using h6);exact⟨adD h1 J g2 g3 hd w1 w2 w3 w4 AL h5 h6 h3,w5⟩
 unfold a00;refine dL.bif (λ_=>.ret λI=>?_) λh2=>?_
 ·have I:c=0:=I
  grind
 grind
end
section
set_option maxRecDepth 20000
set_option maxHeartbeats 1000000
def aMt :a6A=some true:=AA
def a3y {body:(Int->AB AX)->Int->AB AX}(l:A8 α)(hl:l.length<=1000)(rest:AB AX)(j:∀k (i:Nat) (h:i<l.length),body k (i:Int)=k (Aw ((i:Int)+1)))(q:∀k,body k (l.length:Int)=rest):bC body Ar 0=rest:=by
 have key:∀n (i:Nat),i+n=l.length->∀m,n<m->bC body m (i:Int)=rest:=by
  intro n
  induction n with
  |zero=>
   intro i hi m hm;obtain⟨m,rfl⟩:∃k,m=k+1:=⟨m-1,AL⟩
   rw[show i=l.length by omega];exact q _
  |succ n u=>
   intro i hi m hm;obtain⟨m,rfl⟩:∃k,m=k+1:=⟨m-1,AL⟩
   have :=j (bC body m) i AL;rw[wrap_succ i AL]at this;exact this.trans (u (i+1) AL m AL)
 exact key l.length 0 AL Ar (fuel_lt AL)
def aLW {P:AQ->Prop}:∀(n:Nat) {r:C9},(∀z∈r.Events,P z)->(∀z∈r.Waiting,P z)->(∀z∈(Gm n r).Events,P z)/\(∀z∈(Gm n r).Waiting,P z)/\(Gm n r).Events.length+(Gm n r).Waiting.length<=r.Events.length+r.Waiting.length/\(Gm n r).uI=r.uI/\(Gm n r).BM=r.BM
 |0,r,h1,h2=>⟨h1,h2,Eb _,rfl,rfl⟩
 |n+1,r,h1,h2=>by
  unfold Gm;cases I:WW r.Events r.Waiting with
  |none=>
   grind
  |some e=>
   obtain⟨u,J⟩:=a1S I;have hd:=a7F u;have j:∀z∈Hf r.Waiting e.Id,P z:=λz q=>h2 z (Gx.1 q).1;show(∀z∈(Gm n (Io { r with Waiting:=Hf r.Waiting e.Id } e).1).Events,P z)/\(∀z∈(Gm n (Io { r with Waiting:=Hf r.Waiting e.Id } e).1).Waiting,P z)/\(Gm n (Io { r with Waiting:=Hf r.Waiting e.Id } e).1).Events.length+(Gm n (Io { r with Waiting:=Hf r.Waiting e.Id } e).1).Waiting.length<=_/\(Gm n (Io { r with Waiting:=Hf r.Waiting e.Id } e).1).uI=_/\(Gm n (Io { r with Waiting:=Hf r.Waiting e.Id } e).1).BM=_;rcases Xb { r with Waiting:=Hf r.Waiting e.Id } e with⟨q1,_⟩|⟨q1,_,_⟩
   ·rw[q1];obtain⟨a,b,c,d,f⟩:=aLW n (r:={ r with Waiting:=Hf r.Waiting e.Id }) h1 j;exact⟨a,b,EK c (by show r.Events.length+(Hf r.Waiting e.Id).length<=_;omega),d,f⟩
   rw[q1]
   obtain⟨a,b,c,d,f⟩:=aLW n (r:=Qa { r with Waiting:=Hf r.Waiting e.Id } e) (λz q=>by
    rcases OO.1 q with rfl|q
    ·exact h2 z u
    exact h1 z q) j
   exact⟨a,b,EK c (by show(E8 r.Events e).length+(Hf r.Waiting e.Id).length<=_;rw[Pn];omega),d,f⟩
def aMT (l:A8 AQ)(x:AQ):(Q8 l x).length=l.length:=by
 unfold Q8
 grind
def aYv {P:AQ->Prop}(h1:∀z∈r.Events,P z)(h2:∀z∈r.Waiting,P z)(I:P x):(∀z∈(QC r x).1.Events,P z)/\(∀z∈(QC r x).1.Waiting,P z)/\(QC r x).1.Events.length+(QC r x).1.Waiting.length<=r.Events.length+r.Waiting.length+1/\(QC r x).1.uI=r.uI/\(QC r x).1.BM=r.BM:=by
 have j:(∀z∈r.Events,P z)/\(∀z∈r.Waiting,P z)/\r.Events.length+r.Waiting.length<=r.Events.length+r.Waiting.length+1/\r.uI=r.uI/\r.BM=r.BM:=⟨h1,h2,Nat.le_succ _,rfl,rfl⟩
 have q:∀l:A8 AQ,(∀z∈l,P z)->∀z∈Q8 l x,P z:=λl hl z j=>by
  rcases aj j with j|rfl
  ·exact hl z j
  exact I
 have u:∀l:A8 AQ,(∀z∈l,P z)->∀z∈E8 l x,P z:=λl hl z j=>by
  rcases OO.1 j with rfl|j
  ·exact I
  exact hl z j
 unfold QC;cases M:decide (x.Room=r.Id)with
 |false=>exact j
 |true=>
 rw[FU,BR];cases O:bU r.Events x.Id with
 |true=>exact⟨q _ h1,h2,by show(Q8 r.Events x).length+r.Waiting.length<=_;rw[aMT];omega,rfl,rfl⟩
 |false=>
 rw[BR];cases U:(!bU r.Waiting x.Id&&Gl r.Events x)with
 |true=>
  rw[Bl];rcases Xb r x with⟨J,L⟩|⟨J,L,Y⟩
  ·rw[show((Io r x).2 != 0)=true by simpa using L,Bl];exact j
  rw[J];obtain⟨a,b,c,d,f⟩:=aLW (P:=P) r.Waiting.length (r:=Qa r x) (u _ h1) h2;exact⟨a,b,EK c (by show(E8 r.Events x).length+r.Waiting.length<=_;rw[Pn];omega),d,f⟩
 |false=>
 rw[BR];cases Z:(!bU r.Waiting x.Id&&(200<=r.Waiting.length))with
 |true=>exact j
 |false=>
  rw[BR];cases c6:bU r.Waiting x.Id with
  |true=>exact⟨h1,q _ h2,by show r.Events.length+(Q8 r.Waiting x).length<=_;rw[aMT];omega,rfl,rfl⟩
  |false=>exact⟨h1,u _ h2,by show r.Events.length+(E8 r.Waiting x).length<=_;rw[Pn];omega,rfl,rfl⟩
def alF (r:C9):dL (pY r) (λb=>b=true->r.Events.length<=12/\r.Waiting.length<=8/\r.Rows.length<=30/\r.vY.length<=30/\r.State.length<=60/\r.uI.length<=30/\r.BM.length<=30):=by
 unfold pY;simp only[Lr,Ad,SV];refine .ret λh=>?_
 grind
def aZ2 (hl:l.length<=1000)(hs:∀z∈l,FH z)(Z:∃w,UW e=some w):dL (nO (e::l)) (λb=>b=true->∀z∈l,z.Id=e.Id->H7 z e):=by
 have hlen:(e::l).length=l.length+1:=GK
 have u:∀j (I:j<(e::l).length),∃w,UW (e::l)[j]=some w:=λj I=>by
  match j,I with
  |0,_=>exact Z
  |j+1,I=>exact⟨_,(lq (hs _ (EY AL)).x).2⟩
 unfold nO aW4;refine YQ (e::l).length (fuel_lt AL) (λn=>∀a,(ha:a<l.length)->a+1<n->l[a].Id=e.Id->H7 l[a] e) (λa _ h=>absurd h (gQ _)) (λi f hi O hf=>?_) λf O=>?_
 ·unfold aCT;rw[dec_lt hi,Bl];unfold aOf;refine YQ i (fuel_lt AL) (λn=>∀a,(ha:a<l.length)->a+1=i->0<n->l[a].Id=e.Id->H7 l[a] e) (λa _ _ h=>absurd h (Nat.lt_irrefl _)) (λj g I U hg=>?_) λg U=>?_
  ·have J:j<(e::l).length:=AL
   have Y:∃a,∃ha:a<l.length,i=a+1:=⟨i-1,AL,AL⟩
   obtain⟨a,ha,rfl⟩:=Y
   have L:(j=0->l[a].Id=e.Id->H7 l[a] e)->dL (Fit g (j:Int) false) (λb=>b=true->∀z∈l,z.Id=e.Id->H7 z e):=λh=>by
    unfold Fit;rw[BR,wrap_succ j AL];refine hg λb hb hba _ q=>?_;obtain rfl:b=a:=AL
    by_cases M:j=0
    ·exact h M q
    exact U b hb rfl AL q
   unfold aD3;rw[dec_lt I,Bl,CY hi,CY J];simp only[Ad];refine dL.bif (λ_=>?_) λc=>L λM q=>?_
   ·refine(agY (hs _ (EY ha)) (u j J)).bind λt ht=>?_;cases t with
    |true=>exact .ret λh=>Gv
    |false=>
     refine L λM _=>?_;subst M;exact ht rfl
   subst M;have c:(l[a].Id==e.Id)=false:=c;rw[q]at c;simp at c
  unfold aD3;rw[IC (show ¬(i:Int)<(i:Int) by omega),BR,wrap_succ i AL];refine hf λa ha hai q=>?_;by_cases h:a+1=i
  ·exact U a ha h AL q
  exact O a ha AL q
 unfold aCT;rw[Di,BR];refine .ret λ_ z hz q=>?_;obtain⟨a,ha,rfl⟩:=G8 hz;exact O a ha AL q
structure aGW (r:C9) (e:AQ):Prop where
 id:r.Id.size<=9223372036854775807
 ev:∀x∈r.Events,LM x
 evW:∀x∈r.Waiting,LM x
 wide:LM e
 asr:U1 e.Content<=1048576
def agc (h:aGW r e)(f:AX->AB AX)(Y:f true=some true)(hf:GI r->Vj r->r.Events.length<=12->r.Waiting.length<=8->r.uI.length<=30->r.BM.length<=30->(∀y v,jE e=some (y,v)->aKA e=some (y,v)->(v=0->a3c r y)->f false=some true)):
 ((pY r).bind λq=>(bif (!q)then f true else(ou r).bind λu=>(bif (u != 0)then f true else(DL 376 [e] r.Events).bind λI=>(DL 376 I r.Waiting).bind λJ=>(nO J).bind λL=>f (!L))))=some true:=by
 have key:dL ((pY r).bind λq=>(bif (!q)then f true else(ou r).bind λu=>(bif (u != 0)then f true else(DL 376 [e] r.Events).bind λI=>(DL 376 I r.Waiting).bind λJ=>(nO J).bind λL=>f (!L)))) (· =true):=by
  refine(alF r).bind λb hb=>dL.bif (λ_=>.of Y) λh1=>?_;obtain⟨b1,b2,b3,b4,b5,b6,b7⟩:=hb VG;refine(aXu h.id h.ev h.evW AL AL AL AL AL).bind λc hc=>dL.bif (λ_=>.of Y) λh2=>?_;obtain⟨M,Z⟩:=hc L9;rw[Dy GR,Ad,Dy VE,Ad]
  have hsm:∀z∈r.Events++r.Waiting,FH z:=λz j=>by
   rcases I8.1 j with j|j
   ·exact(M.facts.ev z j).2
   exact(M.wQ.ev z j).2
  refine(aZ2 (e:=e) (l:=r.Events++r.Waiting) Ln hsm ⟨_,(a3p h.asr).2⟩).bind λa ha=>?_;cases a with
  |false=>exact .of Y
  |true=>
   have ha:=ha rfl;obtain⟨y,v,q1,q2,q3⟩:=amM h.wide h.asr;refine .of (hf M Z b1 b2 b6 b7 y v q1 q2 λhv=>?_);obtain⟨g1,g2,U⟩:=q3 hv;exact⟨g1,g2,λz j O=>(ha z (I8.2 (.inl j)) (O.trans U.id)).trans U,λz j O=>(ha z (I8.2 (.inr j)) (O.trans U.id)).trans U⟩
 exact key.eq
end
variable {x:C9×Int×Int}
section
set_option maxRecDepth 20000
set_option maxHeartbeats 1000000
def acH (x:FZ):o9 x x=true:=by unfold o9;simp
def aOu (h:GI r)(hl:r.Events.length<=50)(id:Int):dw r.Events id=some (gq (DT r.Events) id):=by
 have j:=h.facts.ok AL;rw[ag3 (a2R j.small AL h.set) (λ_=>j) id,Vs h.deep]
def akK (h:GI x.1)(hl:x.1.Events.length<=50):aF8 x 0=some true:=by
 have j:x.1.vY.length<=x.1.Events.length:=by
  rw[h.heads];exact EK (yP _ _) (aO _ _)
 unfold aF8;refine a3y x.1.vY AL _ (λk i hi=>?_) λk=>?_
 ·unfold aEg;rw[DI hi,aOu h hl,h.aGu _ (EY hi)];rfl
 unfold aEg;rw[Di,BR,aMt];rfl
def aZz (h:GI x.1)(hl:x.1.Events.length<=50):aJj x 0=some true:=by
 have hp:=aOD (l:=x.1.Events) (c:=0) λ_=>h.facts.ok AL;rw[Vs h.deep,←h.state]at hp;have j:=hp.length;unfold aJj;refine a3y x.1.State AL _ (λk i hi=>?_) λk=>?_
 ·unfold aCB;rw[DI hi,aOu h hl,h.aGt AL _ (EY hi)];rfl
 unfold aCB;rw[Di,BR,akK h hl]
def aYZ (h:GI x.1)(hl:x.1.Events.length<=50)(O:∃t,x.1.Rows=r.Rows++t):aJQ x r 0=some true:=by
 have U:=h.RY;unfold aJQ;refine a3y x.1.Rows AL _ (λk i hi=>?_) λk=>?_
 ·have q:(x.1.Rows[i].Pos != (i:Int))=false:=by rw[h.pos i hi];simp
  have M:qW (i:Int) x k false=k (Aw ((i:Int)+1)):=by
   unfold qW aVr;rw[BR];have Y:(x.1.Rows.take i).length=i:=cZ
   refine a3y (x.1.Rows.take i) AL _ (λg j Z=>?_) λg=>?_
   ·have I:j<i:=AL
    have J:j<x.1.Rows.length:=AL
    have L:(x.1.Rows[j].Id==x.1.Rows[i].Id)=false:=by
     have :=h.nodup;rw[X5,Zn,J9]at this
     grind
    unfold aER;rw[dec_lt I,Bl,CY J,CY hi,Ad,Ad,L,BR]
   unfold aER
   grind
  unfold aCI;rw[dec_lt hi,Bl];obtain⟨t,ht⟩:=O;by_cases u:i<r.Rows.length
  ·have z:x.1.Rows[i]=r.Rows[i]:=by
    grind
   rw[dec_lt u,Bl,CY hi,CY u,Ad,Ad,←z,acH,FU,BR,Ad,q,M]
  rw[IC AL,BR,CY hi,Ad,q,M]
 unfold aCI;rw[Di,BR,aZz h hl]
def aXX (h:aGW r e):aH1 r e=some true:=by
 have key:∀x:C9×Int×Int,GI x.1->x.1.Events.length<=50->(∃t,x.1.Rows=r.Rows++t)->Vh r e=some x->ay r e false=some true:=λx z hl U I=>by
  have q:=z.RY
  have Y:r.Rows.length<=x.1.Rows.length:=by
   grind
  unfold ay;rw[BR,I,Ad,IC AL,BR,Ad,q,z.next,q,Y6,BR];exact aYZ z hl U
 refine agc h (ay r e) ?_ λj J b1 b2 b6 b7 y v M q2 u=>?_
 ·unfold ay;rw[Bl,aMt];rfl
 by_cases O:v=0
 ·subst O;have L:=u rfl;obtain⟨Z,s2⟩:=j.receive J AL L;obtain⟨_,_,s3,s4,s5⟩:=aYv (P:=λ_=>True) (r:=r) (x:=y) (λ_ _=>trivial) (λ_ _=>trivial) trivial;exact key (QC r y) Z AL (j.aGs AL L) (anF j AL L M)
 exact key (r,0,v) j (show r.Events.length<=50 by omega) ⟨[],(RZ _).symm⟩ (amN M O)
end
variable {H:Type}
def UR (d:DataW H):1<=Rows.uptoBulk d:=by
 cases d with
 |lit l=>cases l<;>simp[Rows.uptoBulk]
 |nil=>simp[Rows.uptoBulk]
 |ptr d=>simp[Rows.uptoBulk]
 |slice q spare=>simp[Rows.uptoBulk]
 |agg u=>simp[Rows.uptoBulk]
 |iface t d=>simp[Rows.uptoBulk]
 |map j=>simp[Rows.uptoBulk]
 |held h=>simp[Rows.uptoBulk]
variable {d:DataW H}
def aCA {l:A8 (DataW H)}(h:d∈l):Rows.uptoBulk d<=Rows.uptoBulkAll l:=by
 induction l with
 |nil=>cases h
 |cons x r j=>
  simp only[Rows.uptoBulkAll];cases FP.1 h with
  |inl e=>subst e;omega
  |inr e=>have :=j e;omega
def adU (l:A8 (DataW H)):l.length<=Rows.uptoBulkAll l:=by
 induction l with
 |nil=>
  grind
 |cons x r j=>
  have :=UR x;simp only[Rows.uptoBulkAll,GK];omega
def aaP (j spare:A8 (DataW H)):Rows.uptoBulkAll j+1<=Rows.uptoBulk (.slice j spare):=by
 simp only[Rows.uptoBulk];omega
def a7l {j:A8 (DataW H)}(q:Rows.uptoSmall H j=true)(h:d∈j):Rows.uptoBulk d<=1048576:=EK (aCA h) (P7 q)
def JR (j:α->Nat)(l:A8 α):Nat:=(l.map j).sum+l.length
def aLa {H:Type}:∀l:A8 (DataW H),Rows.uptoBulkAll l=(l.map Rows.uptoBulk).sum
 | []=>rfl
 |d::l=>by rw[Gs,uh,←aLa l];rfl
def akG {j:α->Nat}(l:A8 α)(D:Nat->DataW H)(h:∀i (hi:i<l.length),j l[i]+1<=Rows.uptoBulk (D i)):JR j l<=Rows.uptoBulkAll ((List.range l.length).map D):=by
 rw[aLa,jP]
 have key:∀n,n<=l.length->((l.take n).map j).sum+n<=((List.range n).map (Rows.uptoBulk∘D)).sum:=by
  intro n
  induction n with
  |zero=>
   grind
  |succ n q=>
   intro u;have hi:n<l.length:=u;rw[Nv hi,JY,qI,aAg,JY,qI];have h1:=q AL;have h2:=h n hi;have h3:([n].map (Rows.uptoBulk∘D)).sum=Rows.uptoBulk (D n):=Bf
   have z:([l[n]].map j).sum=j l[n]:=Bf
   rw[h3,z];omega
 have :=key l.length (Eb _);rw[Gy]at this;exact this
def partAt (x:DataW H)(i:Nat):Nat:=match x with
 | .agg j=>match j[i]? with
   |some d=>Rows.uptoBulk d
   |none=>0
 |_=>0
def UO (x:DataW H)(n:Nat):((List.range n).map (partAt x)).sum+1<=Rows.uptoBulk x:=by
 have q:∀n,((List.range n).map λ_=>0).sum=0:=λn=>by
  induction n with
  |zero=>rfl
  |succ n u=>rw[aAg,JY,qI,u];rfl
 cases x with
 |agg j=>
  have I:Rows.uptoBulk (DataW.agg j)=Rows.uptoBulkAll j+1:=by simp only[Rows.uptoBulk]
  rw[I,aLa]
  have key:∀n,((List.range n).map (partAt (DataW.agg j))).sum=((j.take n).map Rows.uptoBulk).sum:=by
   intro n
   induction n with
   |zero=>rfl
   |succ n u=>
    rw[aAg,JY,qI,u];by_cases z:n<j.length
    ·rw[Nv z,JY,qI];simp[partAt,ES z]
    rw[Qj AL,Qj AL];simp[partAt,Oo (X7 z)]
  rw[key]
  have :((j.take n).map Rows.uptoBulk).sum+((j.drop n).map Rows.uptoBulk).sum=(j.map Rows.uptoBulk).sum:=by
   rw[←qI,←JY,UU]
  omega
 |lit l=>exact EK (QJ (by rw[show partAt (DataW.lit (H:=H) l)=λ_=>0 from rfl,q])) (UR _)
 |nil=>exact EK (QJ (by rw[show partAt (DataW.nil (H:=H))=λ_=>0 from rfl,q])) (UR _)
 |ptr d=>exact EK (QJ (by rw[show partAt (DataW.ptr (H:=H) d)=λ_=>0 from rfl,q])) (UR _)
 |slice a b=>exact EK (QJ (by rw[show partAt (DataW.slice (H:=H) a b)=λ_=>0 from rfl,q])) (UR _)
 |iface t d=>exact EK (QJ (by rw[show partAt (DataW.iface (H:=H) t d)=λ_=>0 from rfl,q])) (UR _)
 |map a=>exact EK (QJ (by rw[show partAt (DataW.map (H:=H) a)=λ_=>0 from rfl,q])) (UR _)
 |held a=>exact EK (QJ (by rw[show partAt (DataW.held (H:=H) a)=λ_=>0 from rfl,q])) (UR _)
variable {O:α->D}{V:α->Prop}
section
variable {N:Nat} {H:Type} {enc:Bz×BI->H} {w:Ba} {base:Nat} {spare:Nat->AX} {held:AX} {P:Cm} {t:Bz}
def OZ (N:Nat)(enc:Bz×BI->H)(P:Cm)(w:Ba)(base:Nat)(spare:Nat->AX)(held:AX)(t:Bz)(e:α->D)(V:α->Prop)(j:α->Nat):Prop:=
 ∀Ar cs x,DataW.trod enc P w base spare held Ar t cs=some x->Rows.uptoBulk x.1<=N->∃a:α,V a/\j a+1<=Rows.uptoBulk x.1/\EG w (e a).cells cs
theorem Ri {wt:α->Nat}{e:Bz}{sz:Nat}(ht:P.underlying t=some (.slice e))(hc:P.cellsOf e=sz)(U:0<sz)(hsz:∀a,(O a).cells.length=sz)(hR:OZ N enc P w base spare held e O V wt):
 OZ N enc P w base spare held t (BZ O) (λl=>l.length<=N/\∀x∈l,V x) (JR wt):=by
 intro Ar cs x h hb;rcases Go.Deep.open_slice ht h with⟨rfl,rfl⟩|⟨a,len,cap,m,n,D,Pl,rfl, -,hl,hm,hmm,rfl,hx⟩
 ·exact⟨[],⟨F7 _,λx h=>JB⟩,UR _,.one rfl rfl (.sl0 none 0)⟩
 have hlm:len<=m:=by rw[hmm];split<;>omega
 have hb0:=aaP ((List.range len).map D) ((List.range (m-len)).map λj=>D (len+j));have hb1:=EK hb0 hb;have hb2:=adU ((List.range len).map D);rw[Df,List.length_range]at hb2;rw[hc]at hx
 have hex:∀i,i<len->∃y:α,(V y/\wt y+1<=Rows.uptoBulk (D i))/\∃I:A8 BI,w.cells? base (a.add (i*sz)) sz=some I/\EG w (O y).cells I:=by
  intro i hi;obtain⟨I,h1,h2⟩:=hx i AL;obtain⟨y,h3,h3w,h4⟩:=hR _ _ _ h2 (EK (aCA (Ez.2 ⟨i,lu.2 hi,rfl⟩)) AL)
  grind
 obtain⟨l,hlen,Y⟩:=aUb len hex;subst hlen;refine⟨l,⟨AL,λx hx=>?_⟩,EK (Nat.succ_le_succ (akG l D λi hi=>(Y i hi).1.2)) hb0,?_⟩
 ·obtain⟨i,hi,rfl⟩:=G8 hx
  grind
 rcases Ux l.length with h0|hlp
 ·have :l=[]:=Ho h0;subst this;exact .one rfl rfl (.sl0 _ _)
 have q:∀i,(hi:i<l.length)->∀j,j<sz->∃u,w.cell? ((a.add (i*sz)).add j)=some u/\((O l[i]).cells.getD j EP).leaf=true/\EN (λb=>b<w.heap.size) w ((O l[i]).cells.getD j EP) u:=by
  intro i hi j Z;obtain⟨-,I,h1,h2⟩:=Y i hi;obtain⟨-,h6,h5⟩:=World.cells?_some h1;have hcl:I.length=sz:=by rw[h2.1,hsz]
  have h7:=h5 j Z;rw[ES AL]at h7;refine⟨_,h7,?_⟩;have h8:=h2.2 j (by rw[hsz];exact Z)
  grind
 have J:a.spot=none:=by
  obtain⟨u,h4, -⟩:=q 0 hlp 0 U;have e0:(a.add (0*sz)).add 0=a:=by simp[Addr.add]
  rw[e0]at h4;unfold World.cell? at h4;cases hsp:a.spot with
  |none=>
   rfl
  |some s=>
   rw[hsp]at h4;cases hh:w.heap[a.block]? with
   |none=>
    grind
   |some o=>
    grind
 have hblk:a.block<w.heap.size:=by
  obtain⟨u,h4, -⟩:=q 0 hlp 0 U;have e0:(a.add (0*sz)).add 0=a:=by simp[Addr.add]
  rw[e0]at h4;unfold World.cell? at h4
  grind
 obtain⟨b,o,s⟩:=a;simp only at J hblk;subst J;have z:(List.map O l).length=l.length:=Df _;have L:∀i,(hi:i<l.length)->(List.map O l).getD i EP=O l[i]:=λi hi=>OD
 have M:∀i j,((⟨b,o,none⟩:Addr).add (i*sz)).add j=⟨b,o+(i*sz+j),none⟩:=λi j=>by simp only[Addr.add];split<;>split<;>simp_all<;>omega
 refine .one rfl rfl ?_
 have :=EN.sl (ok:=λb=>b<w.heap.size) (w:=w) (List.map O l) b o cap sz (by rw[z];exact hl) (λ_ _=>hblk) (λi hi=>by rw[z]at hi;rw[L i hi];exact hsz _)
  (λi hi j Z=>by rw[z]at hi;obtain⟨u,_,h2,_⟩:=q i hi j Z;rw[L i hi];exact h2)
  (λi hi j Z=>by rw[z]at hi;obtain⟨u,h1,_,_⟩:=q i hi j Z;rw[M]at h1;rw[h1];rfl)
  (λi hi j Z=>by rw[z]at hi;obtain⟨u,h1,_,h3⟩:=q i hi j Z;rw[M]at h1;rw[L i hi];unfold cellAt;rw[h1];exact h3)
 rw[z]at this;exact this
def JC {k:IntKind}(j:P.underlying t=some (.int k)):OZ N enc P w base spare held t (λn=>D.lit (.int k n)) (λn:Int=>k.min<=n/\n<=k.max) (λ_=>0):=λAr cs x h _=>by
 obtain⟨a,h1,h2⟩:=agV j Ar cs x h;exact⟨a,h1,UR _,h2⟩
def aKJ (j:P.underlying t=some .bool):OZ N enc P w base spare held t EC (λ_=>True) (λ_=>0):=λAr cs x h _=>by
 obtain⟨a,h1,h2⟩:=anS j Ar cs x h;exact⟨a,h1,UR _,h2⟩
def Rj (q:P.underlying t=some .string):OZ N enc P w base spare held t DX (λs=>s.size<=N) (λs=>s.size):=by
 intro Ar cs x h j;obtain⟨n,rfl,rfl,u⟩:=DataW.trod_string q h;have h1:Rows.uptoBulk (DataW.lit (H:=H) (.string n.data.toList))=n.data.toList.length+1:=by simp[Rows.uptoBulk]
 have h2:n.data.toList.length=n.size:=by rw[Uz];rfl
 have j:Rows.uptoBulk (DataW.lit (H:=H) (.string n.data.toList))<=N:=j;exact⟨n,AL,by show n.size+1<=Rows.uptoBulk (DataW.lit (H:=H) (.string n.data.toList));omega,.one rfl rfl (.lit _)⟩
def FI {I:Bh Field}{Ar:Nat}{cs:A8 BI}{x:DataW H×A8 MemPlace}(U:P.underlying t=some (.struct I))(h:DataW.trod enc P w base spare held Ar t cs=some x)(M:Rows.uptoBulk x.1<=N)(i:Nat)(u o n:Nat)(J:(I[i]?).map (λf=>(f.type,f.offset,P.cellsOf f.type))=some (u,o,n)){L:α->Nat}(Y:OZ N enc P w base spare held u O V L):∃a:α,(V a/\L a+1<=partAt x.1 i)/\EG w (O a).cells ((cs.drop o).take n):=by
 obtain⟨xs,k, -,rfl, -,hlen,q⟩:=DataW.trod_struct U h;cases j:I[i]? with
 |none=>
  grind
 |some f=>
  rw[j]at J;simp only[KD,OM,Vz]at J;obtain⟨rfl,rfl,rfl⟩:=J;have h1:=q i f j;have hi:i<I.size:=(Ir.1 j).1;have z:i<xs.length:=AL
  rw[ES z]at h1;have h2:Rows.uptoBulk (DataW.agg (xs.map (·.1)))=Rows.uptoBulkAll (xs.map (·.1))+1:=by simp only[Rows.uptoBulk]
  have h3:=aCA (H:=H) (Ez.2 ⟨xs[i],EY _,rfl⟩:xs[i].1∈xs.map (·.1));have M:Rows.uptoBulk (DataW.agg (xs.map (·.1)))<=N:=M;obtain⟨a,Z,q2,q3⟩:=Y _ _ _ h1 AL;refine⟨a,⟨Z,?_⟩,q3⟩;have :partAt (DataW.agg (xs.map (·.1))) i=Rows.uptoBulk xs[i].1:=by unfold partAt;simp[ES z]
  show L a+1<=partAt (DataW.agg (xs.map (·.1))) i;rw[this];exact q2
end
end Go.Proofs.YtfmoknlmaldmlaaGreat
